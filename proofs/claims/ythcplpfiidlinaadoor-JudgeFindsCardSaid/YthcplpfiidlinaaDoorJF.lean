/- JudgeTells: the law's own steps. Conditions: as stated. -/
import Derived.Test.YthcplpfiidlinaaDoorJE
import Derived.Test.YthcplpfiidlinaaDoorJt
open Go.Ev Go
noncomputable section
namespace Go.Proofs.YthcplpfiidlinaaDoor.J
def Rz(t:ah)(old now:Sl (Sl Int))(p:bK):Prop:=(∀r∈p.eN.l,r.2.2.l.length<=20)/\ml t old/\ml t now/\p.i_.l.length<=40/\p.eN.l.length<=12
instance(t:ah)(old now:Sl (Sl Int))(p:bK):Decidable (Rz t old now p):=Classical.propDecidable _
section
variable{t:ah}{old now:Sl (Sl Int)}{p:bK}
end
end Go.Proofs.YthcplpfiidlinaaDoor.J
