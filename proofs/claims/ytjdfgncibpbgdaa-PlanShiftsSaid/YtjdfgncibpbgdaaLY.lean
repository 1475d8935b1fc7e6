/- The law PlanApart, of what the programs compute. Conditions: lengths as stated. -/
import Derived.Test.YtjdfgncibpbgdaaLX
import Derived.Test.YtjdfgncibpbgdaaLu
open Go.Ev Go
namespace Go.Proofs.Ytjdfgncibpbgdaa.L
section
variable {t : api_Topo} {old now : Sl (Sl Int)}
end
end Go.Proofs.Ytjdfgncibpbgdaa.L
