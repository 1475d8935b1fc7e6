/- The law LevelSafe, of what the programs compute. Conditions: lengths as stated. -/
import Derived.Test.YthcplpfiidlinaaLA
import Derived.Test.YthcplpfiidlinaaLt
open Go.Ev Go
namespace Go.Proofs.Ythcplpfiidlinaa.L
section
variable {t:api_Topo}{old now:Sl (Sl Int)}
theorem qj3{r:Sl (Sl Int)}(hG:GoodP t r):Small t r:=by
 have h1:=hG.1.small
 have h2:=hG.1.hosts
 have h3:=hG.1.topo.links
 exact ⟨λrow hm=>by have:=(hG.1.rows row hm).1; omega,by omega,by omega,by omega⟩
theorem qq9(t:api_Topo)(old now:Sl (Sl Int))(round:Int)(so:Sl Int)(ho:old.l.length < 9223372036854775808)(hn:now.l.length < 9223372036854775808):q4i t old now round so=some true:=by
 unfold q4i
 rw [qce ho]
 by_cases hS1:Small t old
 rotate_left
 ·rw [decide_eq_false hS1]; simp only [Option.bind_some,Bool.not_false,cond_true,q1f]
 rw [decide_eq_true hS1,qce hn]
 by_cases hS2:Small t now
 rotate_left
 ·rw [decide_eq_false hS2]; simp only [Option.bind_some,Bool.not_true,cond_false,Bool.not_false,Bool.true_or,cond_true,q1f]
 rw [decide_eq_true hS2]
 by_cases hs:(so.l.length:Int) > 20
 ·rw [decide_eq_true hs]; simp only [Option.bind_some,Bool.not_true,cond_false,Bool.or_true,cond_true,q1f]
 rw [decide_eq_false hs,qb4 hS1,qb4 hS2]
 by_cases hO:GoodP t old
 rotate_left
 ·rw [tt_f hO]; simp only [Option.bind_some,Bool.not_true,Bool.or_self,cond_false,Bool.not_false,cond_true,q1f]
 by_cases hN:GoodP t now
 rotate_left
 ·rw [tt_t hO,tt_f hN]; simp only [Option.bind_some,Bool.not_true,Bool.or_self,cond_false,Bool.not_false,cond_true,q1f]
 rw [tt_t hO,tt_t hN]
 obtain ⟨l,h1,h2⟩:=qnc hO hN
 have h8:=hO.1.small
 have hn8:=hN.1.small
 have hh:=hO.1.hosts
 have d1:=qaz (round:=round) hO hN (l:=l) h2 (so:=so) (by omega)
 have d2:=qaz (round:=t.Switches) hO hN (l:=l) h2 (so:= .nil) (by show (0:Nat) < _; omega)
 have d3:=qaz (round:=0) hO hN (l:=l) h2 (so:= .nil) (by show (0:Nat) < _; omega)
 have g1:=qpz (qj3 (qhw (round:=round) (so:=so.l) hO hN))
 rw [tt_t (qhw hO hN)]at g1
 obtain ⟨a1,a2⟩:=qsp (so:= []) hO hN
 obtain ⟨n1,n2⟩:=qpn hO hN
 have s1:=qqv a1 a2 (by omega) λs hs=>by rw [hN.1.row hs]; omega
 have s2:=qqv n1 n2 (by omega) λs hs=>by rw [hO.1.row hs]; omega
 have d2:q2e old l (api_Topo.Switches t) Sl.nil=some (mixF t old now t.Switches []):=d2
 have d3:q2e old l 0 Sl.nil=some (mixF t old now 0 []):=d3
 simp only [Option.bind_some,Bool.not_true,Bool.or_self,cond_false,h1,beq_self_eq_true,cond_true,d1,g1,d2,s1,d3,s2,q1f]
end
end Go.Proofs.Ythcplpfiidlinaa.L
