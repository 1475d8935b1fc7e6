/- The moves between good routes, in order. Conditions: as stated. -/
import Derived.Test.YthcplpfiidlinaaLE
import Derived.Test.YthcplpfiidlinaaLN
open Go.Ev Go
namespace Go.Proofs.Ythcplpfiidlinaa.L
section
variable {t:api_Topo}{old now:Sl (Sl Int)}
noncomputable def msOf(t:api_Topo)(old now:Sl (Sl Int)):List level_Move:=(srtMv (mvs t old now).toArray).toList
theorem qr8{m:level_Move}:m∈msOf t old now↔m∈mvs t old now:=(qhs _).mem_iff
theorem qtw(hN:GoodP t now):(msOf t old now).length<=64:=by
 have hsm:=hN.1.small
 have hho:=hN.1.hosts
 rw [msOf,(qhs _).length_eq]
 have:=q5b (m:=8) (f:=mvH t old now) (λh=>by have:=qhd (t:=t) (old:=old) (now:=now) h; omega) (List.range t.Hosts.l.length)
 rw [List.length_range]at this
 have e:(mvs t old now).length<=8 * t.Hosts.l.length:=this
 omega
end
end Go.Proofs.Ythcplpfiidlinaa.L
