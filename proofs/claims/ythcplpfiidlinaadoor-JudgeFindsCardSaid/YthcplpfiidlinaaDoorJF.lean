/- JudgeTells: the law's bt steps. Conditions: as stated. -/
import Derived.Test.YthcplpfiidlinaaDoorJE
import Derived.Test.YthcplpfiidlinaaDoorJt
open Go.Ev Go
noncomputable section
namespace Go.Proofs.YthcplpfiidlinaaDoor.J
instance(t:ah)(old now:Sl (Sl Int))(p:dv):Decidable (U1 t old now p):=Classical.propDecidable _
section
variable{t:ah}{old now:Sl (Sl Int)}{p:dv}
end
end Go.Proofs.YthcplpfiidlinaaDoor.J
