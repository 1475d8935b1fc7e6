/- JudgeTells: the law's bq steps. Conditions: as stated. -/
import Derived.Test.YthcplpfiidlinaaDoorJE
import Derived.Test.YthcplpfiidlinaaDoorJt
open Go.Ev Go
noncomputable section
namespace Go.Proofs.YthcplpfiidlinaaDoor.J
def Rd(t:ah)(old now:Sl (Sl Int))(p:dq):Prop:=(∀r∈p.gO.l,r.2.2.l.length<=20)/\m7 t old/\m7 t now/\p.qR.l.length<=40/\p.gO.l.length<=12
instance(t:ah)(old now:Sl (Sl Int))(p:dq):Decidable (Rd t old now p):=Classical.propDecidable _
section
variable{t:ah}{old now:Sl (Sl Int)}{p:dq}
end
end Go.Proofs.YthcplpfiidlinaaDoor.J
