/- The law PlanApart, of what the programs compute. Conditions: lengths as stated. -/
import Derived.Test.YthcplpfiidlinaaLX
import Derived.Test.YthcplpfiidlinaaLu
open Go.Ev Go
namespace Go.Proofs.Ythcplpfiidlinaa.L
section
variable {t : api_Topo} {old now : Sl (Sl Int)}
end
end Go.Proofs.Ythcplpfiidlinaa.L
