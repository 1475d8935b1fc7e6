/- The moves between good routes, in order. Conditions: as stated. -/
import Derived.Test.YthcplpfiidlinaaLE
import Derived.Test.YthcplpfiidlinaaLM
open Go.Ev Go
namespace Go.Proofs.Ythcplpfiidlinaa.L
section
variable {t:api_Topo}{old now:Sl (Sl Int)}
noncomputable def msOf(t:api_Topo)(old now:Sl (Sl Int)):List level_Move:=(srtMv (mvs t old now).toArray).toList
theorem ms_pw:(msOf t old now).Pairwise Bef:=qf6
theorem qev{m:level_Move}:m∈msOf t old now↔m∈mvs t old now:=(qds _).mem_iff
theorem qqu(hN:GoodP t now):(msOf t old now).length<=64:=by
 have hsm:=hN.1.small
 have hho:=hN.1.hosts
 rw [msOf,(qds _).length_eq]
 have:=q41 (m:=8) (f:=mvH t old now) (λh=>by have:=qgv (t:=t) (old:=old) (now:=now) h; omega) (List.range t.Hosts.l.length)
 rw [List.length_range]at this
 have e:(mvs t old now).length<=8 * t.Hosts.l.length:=this
 omega
end
end Go.Proofs.Ythcplpfiidlinaa.L
