/- JudgeTells: the law's bt steps. Conditions: as stated. -/
import Derived.Test.YthcplpfiidlinaaDoorJE
import Derived.Test.YthcplpfiidlinaaDoorJt
open Go.Ev Go
noncomputable section
namespace Go.Proofs.YthcplpfiidlinaaDoor.J
def Rj(t:ah)(old now:Sl (Sl Int))(p:dh):Prop:=(∀r∈p.fo.l,r.2.2.l.length<=20)/\ng t old/\ng t now/\p.jf.l.length<=40/\p.fo.l.length<=12
instance(t:ah)(old now:Sl (Sl Int))(p:dh):Decidable (Rj t old now p):=Classical.propDecidable _
section
variable{t:ah}{old now:Sl (Sl Int)}{p:dh}
end
end Go.Proofs.YthcplpfiidlinaaDoor.J
