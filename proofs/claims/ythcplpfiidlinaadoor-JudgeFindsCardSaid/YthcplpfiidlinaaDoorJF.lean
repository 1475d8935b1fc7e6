/- JudgeTells: the law's bv steps. Conditions: as stated. -/
import Derived.Test.YthcplpfiidlinaaDoorJE
import Derived.Test.YthcplpfiidlinaaDoorJt
open Go.Ev Go
noncomputable section
namespace Go.Proofs.YthcplpfiidlinaaDoor.J
def Rn(t:ah)(old now:Sl (Sl Int))(p:bI):Prop:=(∀r∈p.eI.l,r.2.2.l.length<=20)/\mg t old/\mg t now/\p.iZ.l.length<=40/\p.eI.l.length<=12
instance(t:ah)(old now:Sl (Sl Int))(p:bI):Decidable (Rn t old now p):=Classical.propDecidable _
section
variable{t:ah}{old now:Sl (Sl Int)}{p:bI}
end
end Go.Proofs.YthcplpfiidlinaaDoor.J
