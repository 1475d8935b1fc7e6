/- The changes of a round at a switch: what Mods computes, of moves in order. Conditions: lengths as stated. -/
import Derived.Test.YthcplpfiidlinaaLA
import Derived.Test.YthcplpfiidlinaaLC
open Go.Ev Go
namespace Go.Proofs.Ythcplpfiidlinaa.L
def modF(ho po:Int):api_Mod:=(3,(10,(-1,Arr.set (zeE (.ar 4 (.i .i64))) 1 ho,Arr.set (zeE (.ar 4 (.i .i64))) 1 255),Sl.mk [(2,0,po)]),false)
theorem qnt{ho po:Int}(h0:0<=ho)(h1:ho<=255):q7r 1 ho 10 po=some (modF ho po).2.1:=by
 have e1:q7o 1=some 255:=by kernel_rfl
 have e2:((decide ((1:Int) >= 0) && decide ((1:Int) < 4)) && decide (ho >= 0))=true:=by simp; omega
 have e3:ixI 1 4=some 1:=rfl
 simp only [q7r,qb3,qe2,qbg,Option.bind_some,e2,cond_true,e1,decide_eq_true h1,e3,modF]
def modsL(round sw:Int)(l:List level_Move):List level_Move:=l.filter λm=>(m.2.2.2 == round) && (m.1 == sw)
theorem qq6{l:Sl level_Move}{round sw:Int}(hl:l.l.length<=1000)(hh:∀m∈l.l,0<=m.2.1/\m.2.1<=255):∃s,q1w l round sw=some s/\s.l=(modsL round sw l.l).map λm=>modF m.2.1 m.2.2.1:=by
 have key:∀l:List level_Move,(l.flatMap λm=>bif (m.2.2.2 == round) && (m.1 == sw)then [modF m.2.1 m.2.2.1]else [])=(modsL round sw l).map λm=>modF m.2.1 m.2.2.1:=by
  intro l
  induction l with
  | nil=>rfl
  | cons m l ih=>
   rw [List.flatMap_cons,ih]
   unfold modsL
   rw [List.filter_cons]
   cases h:(m.2.2.2 == round) && (m.1 == sw) <;> simp
 obtain ⟨s,h1,h2⟩:=layE1 (f:=q24 l round sw) l.l (λm=>bif (m.2.2.2 == round) && (m.1 == sw)then [modF m.2.1 m.2.2.1]else []) .nil (by omega) (λi s hi hs=>by
  have hsl:s.l.length<=i:=by
   rw [hs]
   have:=q33 (m:=1) (f:=λm:level_Move=>bif (m.2.2.2 == round) && (m.1 == sw)then [modF m.2.1 m.2.2.1]else []) (λm=>by cases (m.2.2.2 == round) && (m.1 == sw) <;> simp) (l.l.take i)
   simp only [Sl.l,List.nil_append]
   refine Nat.le_trans this ?_
   rw [Nat.one_mul,List.length_take]; exact Nat.min_le_left _ _
  have hm:=hh (gt l.l i) (by rw [gt_eq hi]; exact List.getElem_mem _)
  cases hc:((gt l.l i).2.2.2 == round) && ((gt l.l i).1 == sw)with
  | false=>
   refine ⟨s, ?_,by rw [cond_false,List.append_nil]⟩
   have hc:(((level_Move.Round (gt l.l i)) == round) && ((level_Move.Sw (gt l.l i)) == sw))=false:=hc
   simp only [q24,lt_t hi,cond_true,q08 hi,Option.bind_some,hc,cond_false]
  | true=>
   refine ⟨.mk (s.l++ [modF (gt l.l i).2.1 (gt l.l i).2.2.1]), ?_,rfl⟩
   have hc:(((level_Move.Round (gt l.l i)) == round) && ((level_Move.Sw (gt l.l i)) == sw))=true:=hc
   have hp:=qnt (po:=(gt l.l i).2.2.1) hm.1 hm.2
   have hcap:capI (s.l++ [modF (gt l.l i).2.1 (gt l.l i).2.2.1])=some (s.l++ [modF (gt l.l i).2.1 (gt l.l i).2.2.1]):=q3e (by rw [List.length_append,List.length_singleton]; omega)
   have hcap:capI (s.l++ [((3,(modF (gt l.l i).2.1 (gt l.l i).2.2.1).2.1,false):api_Mod)])=some (s.l++ [modF (gt l.l i).2.1 (gt l.l i).2.2.1]):=hcap
   simp only [q24,lt_t hi,cond_true,q08 hi,Option.bind_some,hc,hp,hcap]) (λs=>by simp only [q24,lt_f,cond_false])
 have h1:loopO (q24 l round sw) (0,Sl.nil)=some s:=h1
 exact ⟨s,by simp only [q1w,h1,Option.bind_some],by rw [h2,key]; rfl⟩
section
variable {t:api_Topo}{old now:Sl (Sl Int)}
theorem qmu(hN:GoodP t now):∀m∈msOf t old now,0<=m.2.1/\m.2.1<=255:=λm hm=>by
 obtain ⟨h,s,hh,_,_,rfl⟩:=q89.1 (qfk.1 hm)
 have:=hN.1.hosts
 exact ⟨by show (0:Int)<=(h:Int); omega,by show (h:Int)<=255; omega⟩
end
end Go.Proofs.Ythcplpfiidlinaa.L
