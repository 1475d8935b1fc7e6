/- The moves between good routes, in order. Conditions: as stated. -/
import Derived.Test.YthcplpfiidlinaaLE
import Derived.Test.YthcplpfiidlinaaLN
open Go.Ev Go
namespace Go.Proofs.Ythcplpfiidlinaa.L
section
variable {t:api_Topo}{old now:Sl (Sl Int)}
noncomputable def msOf(t:api_Topo)(old now:Sl (Sl Int)):List level_Move:=(srtMv (mvs t old now).toArray).toList
theorem ms_pw:(msOf t old now).Pairwise Bef:=q9w
theorem qfk{m:level_Move}:m∈msOf t old now↔m∈mvs t old now:=(qdg _).mem_iff
theorem qfb(hN:GoodP t now):(msOf t old now).length<=64:=by
 have hsm:=hN.1.small
 have hho:=hN.1.hosts
 rw [msOf,(qdg _).length_eq]
 have:=q33 (m:=8) (f:=mvH t old now) (λh=>by have:=qgs (t:=t) (old:=old) (now:=now) h; omega) (List.range t.Hosts.l.length)
 rw [List.length_range]at this
 have e:(mvs t old now).length<=8 * t.Hosts.l.length:=this
 omega
theorem qi4(hN:GoodP t now){m:level_Move}(hm:m∈msOf t old now):0<=m.2.2.2/\m.2.2.2 < t.Switches/\m.2.2.2 < 8:=by
 obtain ⟨h,s,hh,hs,_,rfl⟩:=q89.1 (qfk.1 hm)
 have:=hN.lt hs hh
 have:=hN.1.small
 have:=hN.1.len
 simp only
 omega
end
end Go.Proofs.Ythcplpfiidlinaa.L
