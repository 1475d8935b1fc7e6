/- Good routes and the moves between them: how far who moves is, and in what order moves stand. Conditions: as stated. -/
import Derived.Test.YthcplpfiidlinaaLM
open Go.Ev Go
namespace Go.Proofs.Ythcplpfiidlinaa.L
section
variable {t:api_Topo}{old now r:Sl (Sl Int)}{h:Nat}
theorem qn6(hG:GoodP t r)(hh:h < t.Hosts.l.length){s:Nat}(hs:s < r.l.length)(h0:dist t r h s=0):Here t r h s:=by
 have:=hG.dist hs hh
 rw [h0]at this
 cases this with
 | here hH=>exact hH
theorem ql9(hG:GoodP t r)(hh:h < t.Hosts.l.length){s:Nat}(hs:s < r.l.length)(h0:dist t r h s≠0):¬Here t r h s/\∃s',q6z t r h s=some s'/\s' < r.l.length/\dist t r h s=dist t r h s'+1:=by
 have ha:=hG.dist hs hh
 generalize dist t r h s=k at ha h0
 cases ha with
 | here hH=>exact absurd rfl h0
 | @step _ s' k h1 h2 h3=>exact ⟨h1,s',h2,qga hG.1 h2,by rw [qgw h3]⟩
theorem qhs(d:List level_Move):(srtMv d.toArray).toList.Perm d:=by
 have e:=(q61 d.toArray).1
 have h1:=e.2.2
 have h2:(srtMv d.toArray).size=d.length:=by simpa using e.1
 simp only [List.size_toArray,Array.toList_extract,List.extract_eq_take_drop,Nat.sub_zero,List.drop_zero,List.take_length]at h1
 rwa [<- h2,<- Array.length_toList,List.take_length]at h1
end
end Go.Proofs.Ythcplpfiidlinaa.L
