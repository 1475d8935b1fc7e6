/- Plans: what the program's Make answers. Conditions: as stated. -/
import Derived.Test.YthcplpfiidlinaaLK
import Derived.Test.YthcplpfiidlinaaLQ
open Go.Ev Go
namespace Go.Proofs.Ythcplpfiidlinaa.L
section
variable {t:api_Topo}{old now:Sl (Sl Int)}
theorem qli:qjd (msOf t old now):=q9w
structure Rds (ms:List level_Move) (first gap:Int) (R:List plan_Round):Prop where
 asc:(R.map λx=>x.1).Pairwise (· < ·)
 mem:∀x,x∈(R.map λx=>x.1)↔∃m∈ms,m.2.2.2=x
 time:∀i,i < R.length->(gt R i).2.1=first+(i:Int) * gap
 sws:∀i,i < R.length->SwsOf ms (gt R i).1 (gt R i).2.2.l
theorem qi1{l:List Int}(h:l.Pairwise (· < ·))(hb:∀x∈l,0<=x/\x < 8):l.length<=8:=by
 have hnd:l.Nodup:=h.imp λh e=>by omega
 have hsub:l ⊆ (List.range 8).map λ(i:Nat)=>(i:Int):=λx hx=>by
  have:=hb x hx
  exact List.mem_map.2 ⟨x.toNat,List.mem_range.2 (by omega),by omega⟩
 simpa using hnd.length_le_of_subset hsub
theorem Rds.len{first gap:Int}{R:List plan_Round}(hN:GoodP t now)(h:Rds (msOf t old now) first gap R):R.length<=8:=by
 have:=qi1 h.asc λx hx=>by
  obtain ⟨m,hm,rfl⟩:=(h.mem x).1 hx
  have:=qi4 hN hm
  omega
 simpa using this
def q38(t:api_Topo)(at' miss lead:Int):Int:=at'+lead+miss+lifeF t+1
def gapF(t:api_Topo)(miss:Int):Int:=2 * miss+lifeF t+1
def In(at' miss lead:Int):Prop:=(0<=at'/\at'<=1099511627776)/\(0<=miss/\miss<=1048576)/\(0<=lead/\lead<=1048576)
instance {a b c:Int}:Decidable (In a b c):=by unfold In; infer_instance
def q93:plan_Plan:=⟨Sl.nil,Sl.nil,0,0,0,0⟩
def lastF(t:api_Topo)(at' miss lead:Int)(n:Nat):Int:=q38 t at' miss lead+((n - 1:Nat):Int) * gapF t miss+miss
theorem qsr(hV:Valid t){at' miss lead:Int}(hI:In at' miss lead):0 < gapF t miss/\gapF t miss<=1073741824:=by
 have:=q97 hV
 unfold gapF; unfold In at hI; omega
theorem qrt(hV:Valid t){at' miss lead:Int}(hI:In at' miss lead):0<=q38 t at' miss lead/\q38 t at' miss lead<=1100000000000:=by
 have:=q97 hV
 unfold q38; unfold In at hI; omega
theorem qlw(hV:Valid t){at' miss lead:Int}(hI:In at' miss lead){i:Nat}(hi:i<=8):0<=q38 t at' miss lead+(i:Int) * gapF t miss/\q38 t at' miss lead+(i:Int) * gapF t miss<=1200000000000:=by
 obtain ⟨h1,h2⟩:=qsr hV hI
 have h3:=qrt hV hI
 have h4:=qob h1 h2 hi (show 8<=64 by omega)
 omega
structure Made (t:api_Topo) (old now:Sl (Sl Int)) (at' miss lead:Int) (p:plan_Plan) (e:Int):Prop where
 none:msOf t old now= []->p=q93/\e=7
 over:msOf t old now≠ []->∃(s:Sl level_Move) (R:Sl plan_Round),s.l=msOf t old now/\Rds (msOf t old now) (q38 t at' miss lead) (gapF t miss) R.l/\0 < R.l.length/\
  ((lastF t at' miss lead R.l.length > 1099511627776/\p=q93/\e=11)\/
   (lastF t at' miss lead R.l.length<=1099511627776/\p=(s,R,miss,lifeF t,at'+lead+1,lastF t at' miss lead R.l.length)/\e=0))
theorem qhb(hN:GoodP t now){at' miss lead:Int}(hI:In at' miss lead){s:Sl level_Move}(hs:s.l=msOf t old now){L:Sl Int}(hL1:L.l.Pairwise (· < ·))(hL2:∀x,x∈L.l↔∃m∈s.l,m.2.2.2=x)(hL3:L.l.length<=8):
  ∃R,loopO (q2m at' miss lead s (lifeF t) L (.mk (q4x L.l.length (gapF t miss)))) (0,s,miss,lifeF t,0,0,Sl.nil)=some (s,miss,lifeF t,0,0,R)/\Rds (msOf t old now) (q38 t at' miss lead) (gapF t miss) R.l/\R.l.length=L.l.length:=by
 have hV:=hN.1.topo
 have hlf:=q97 hV
 have hI2:=hI
 unfold In at hI2
 have hms:s.l.length<=1000:=by rw [hs]; have:=qfb (old:=old) hN; omega
 have hsort:qjd s.l:=hs▸qli
 have htl:(Sl.mk (q4x L.l.length (gapF t miss))).l.length=L.l.length:=by simp [q4x]
 have w1:wr .i64 (wr .i64 (wr .i64 (wr .i64 (at'+lead)+miss)+lifeF t)+1)=q38 t at' miss lead:=by
  unfold q38
  rw [wr_id (n:=at'+lead) (by omega) (by omega),wr_id (n:=at'+lead+miss) (by omega) (by omega),wr_id (n:=at'+lead+miss+lifeF t) (by omega) (by omega),wr_id (by omega) (by omega)]
 have h:=forI (f:=q2m at' miss lead s (lifeF t) L (.mk (q4x L.l.length (gapF t miss)))) (λi (R:Sl plan_Round)=>((i:Int),s,miss,lifeF t,(0:Int),(0:Int),R)) L.l.length
  (λi R=>R.l.length=i/\(R.l.map λx=>x.1)=L.l.take i/\(∀ j,j < i->(gt R.l j).2.1=q38 t at' miss lead+(j:Int) * gapF t miss)/\∀j,j < i->SwsOf s.l (gt R.l j).1 (gt R.l j).2.2.l)
  (λb=>∃R,b=(s,miss,lifeF t,(0:Int),(0:Int),R)/\Rds (msOf t old now) (q38 t at' miss lead) (gapF t miss) R.l/\R.l.length=L.l.length) (λi R hi ⟨i1,i2,i3,i4⟩=>by
   left
   obtain ⟨S,q1,q2⟩:=qu9 hsort hms (gt L.l i)
   have l1:i < (Sl.mk (q4x L.l.length (gapF t miss))).l.length:=by rw [htl]; exact hi
   have g1:gt (Sl.mk (q4x L.l.length (gapF t miss))).l i=(i:Int) * gapF t miss:=by rw [Sl.l_mk,qqn hi]
   have ht:=qlw hV hI (show i<=8 by omega)
   have w2:wr .i64 (q38 t at' miss lead+(i:Int) * gapF t miss)=q38 t at' miss lead+(i:Int) * gapF t miss:=wr_id (by omega) (by omega)
   refine ⟨.mk (R.l++ [(gt L.l i,q38 t at' miss lead+(i:Int) * gapF t miss,S)]), ?_,by simp [i1], ?_,λj hj=> ?_,λj hj=> ?_⟩
   ·have hiL:=hi
    rw [<- htl]at hi
    simp only [q2m,lt_t hi,cond_true,q08 l1,q08 hiL,Option.bind_some,q1,w1,g1,w2,wr_s (show i < 9223372036854775807 by omega)]
    rw [q3e (by rw [List.length_append,List.length_singleton]; omega)]; rfl
   ·rw [Sl.l_mk,List.map_append,i2,gt_eq hi]; simp
   ·rw [Sl.l_mk]
    by_cases he:j=i
    ·subst he
     rw [gt_eq (by simp [i1]),List.getElem_append_right (by omega)]; simp [i1]
    ·rw [gt_eq (by simp; omega),List.getElem_append_left (by omega),<- gt_eq (by omega)]; exact i3 j (by omega)
   ·rw [Sl.l_mk]
    by_cases he:j=i
    ·subst he
     rw [gt_eq (by simp [i1]),List.getElem_append_right (by omega)]; simpa [i1]using q2
    ·rw [gt_eq (by simp; omega),List.getElem_append_left (by omega),<- gt_eq (by omega)]; exact i4 j (by omega))
  (λR ⟨i1,i2,i3,i4⟩=>by
   rw [List.take_length]at i2
   refine ⟨_,by simp only [q2m,htl,lt_f,cond_false],R,rfl,⟨by rw [i2]; exact hL1,λx=>by rw [i2,hL2,hs],λj hj=>i3 j (by omega),λj hj=>hs▸i4 j (by omega)⟩,i1⟩) 0 .nil (Nat.zero_le _) ⟨rfl,by simp,λj hj=>by omega,λj hj=>by omega⟩
 obtain ⟨b,h1,R,rfl,h2,h3⟩:=h
 exact ⟨R,h1,h2,h3⟩
theorem qlq{at' miss lead:Int}:((q4o at' 1099511627776).bind λr1=>bif !r1 then some true else ((q4o miss 1048576).bind λr2=>bif !r2 then some true else ((q4o lead 1048576).bind λr3=>some (!r3))):Option Bool)=some (decide (¬ In at' miss lead)):=by
 have e:decide (¬ In at' miss lead)= !((decide (at' >= 0) && decide (at'<=1099511627776)) && ((decide (miss >= 0) && decide (miss<=1048576)) && (decide (lead >= 0) && decide (lead<=1048576)))):=by
  rw [Bool.eq_iff_iff,decide_eq_true_eq (p:=¬In at' miss lead)]
  simp only [Bool.not_eq_true',Bool.and_eq_false_iff,decide_eq_false_iff_not]
  unfold In
  omega
 rw [e]
 simp only [q4o,Option.bind_some]
 cases (decide (at' >= 0) && decide (at'<=1099511627776)) <;> cases (decide (miss >= 0) && decide (miss<=1048576)) <;> cases (decide (lead >= 0) && decide (lead<=1048576)) <;> rfl
theorem qnh(hO:GoodP t old)(hN:GoodP t now){at' miss lead:Int}(hI:In at' miss lead):∃p e,q2q t old now at' miss lead=some (p,e)/\Made t old now at' miss lead p e:=by
 have hV:=hN.1.topo
 obtain ⟨s,h1,h2⟩:=qlx hO hN
 have h2:s.l=msOf t old now:=h2
 have hml:=qfb (old:=old) hN
 have hnI:decide (¬ In at' miss lead)=false:=decide_eq_false λh=>h hI
 by_cases hz:msOf t old now= []
 ·refine ⟨q93,7, ?_,λ_=>⟨rfl,rfl⟩,λh=>absurd hz h⟩
  have hl:((s.l.length:Int) == 0)=true:=by rw [h2,hz]; rfl
  unfold q2q
  rw [qlq,hnI]
  simp only [Option.bind_some,cond_false,h1,bne_self_eq_false,hl,cond_true]
  rfl
 ·have hl:((s.l.length:Int) == 0)=false:=by
   have:0 < (msOf t old now).length:=List.length_pos_iff.2 hz
   rw [h2,beq_eq_false_iff_ne]; omega
  obtain ⟨L,h3,h4,h5⟩:=qkl (l:=s) (by rw [h2]; omega)
  have hL3:L.l.length<=8:=qi1 h4 λx hx=>by
   obtain ⟨m,hm,rfl⟩:=(h5 x).1 hx
   have:=qi4 hN (h2▸hm)
   omega
  have hLpos:0 < L.l.length:=by
   have hm:(msOf t old now).head hz∈s.l:=by rw [h2]; exact List.head_mem hz
   exact List.length_pos_iff.2 (List.ne_nil_of_mem ((h5 _).2 ⟨_,hm,rfl⟩))
  obtain ⟨g1,g2⟩:=qsr hV hI
  obtain ⟨R,h6,h7,h8⟩:=qhb hN hI h2 h4 h5 hL3
  have ht:q3q (L.l.length:Int) (gapF t miss)=some (.mk (q4x L.l.length (gapF t miss))):=by
   obtain ⟨n,hn⟩:∃n,L.l.length=n+1:=⟨L.l.length - 1,by omega⟩
   rw [hn]; exact qlh (by omega) g1 g2
  have hI2:=hI
  unfold In at hI2
  have hgap:=qtt hV hI2.2.1.1 hI2.2.1.2
  have hw1:wr .i64 ((R.l.length:Int) - 1)=((R.l.length - 1:Nat):Int):=by rw [wr_id (by omega) (by omega)]; omega
  have hlast:=h7.time (R.l.length - 1) (by omega)
  have htl:=qlw hV hI (show R.l.length - 1<=8 by omega)
  have hlf:=q97 hV
  have hw2:wr .i64 ((gt R.l (R.l.length - 1)).2.1+miss)=lastF t at' miss lead R.l.length:=by
   rw [hlast,wr_id (by omega) (by omega)]; rfl
  have w1:wr .i64 (wr .i64 (wr .i64 (wr .i64 (at'+lead)+miss)+lifeF t)+1)=q38 t at' miss lead:=by
   unfold q38
   rw [wr_id (n:=at'+lead) (by omega) (by omega),wr_id (n:=at'+lead+miss) (by omega) (by omega),wr_id (n:=at'+lead+miss+lifeF t) (by omega) (by omega),wr_id (by omega) (by omega)]
  have w2:wr .i64 (wr .i64 (q38 t at' miss lead - miss) - lifeF t)=at'+lead+1:=by
   have hf:q38 t at' miss lead=at'+lead+miss+lifeF t+1:=rfl
   rw [wr_id (n:=q38 t at' miss lead - miss) (by omega) (by omega),wr_id (by omega) (by omega)]; omega
  have hrun:q2q t old now at' miss lead=some (bif decide (lastF t at' miss lead R.l.length > 1099511627776)then (q93,11)else ((s,R,miss,lifeF t,at'+lead+1,lastF t at' miss lead R.l.length),0)):=by
   unfold q2q
   rw [qlq,hnI]
   simp only [Option.bind_some,cond_false,h1,bne_self_eq_false,hl,qjf hV,h3,hgap]
   rw [show 2 * miss+lifeF t+1=gapF t miss from rfl,ht]
   simp only [Option.bind_some,h6,hw1,q08 (show R.l.length - 1 < R.l.length by omega),hw2,w1,w2]
   cases decide (lastF t at' miss lead R.l.length > 1099511627776) <;> rfl
  by_cases ho:lastF t at' miss lead R.l.length > 1099511627776
  ·rw [decide_eq_true ho]at hrun
   exact ⟨_,_,hrun,λh=>absurd h hz,λ_=>⟨s,R,h2,h7,by omega, .inl ⟨ho,rfl,rfl⟩⟩⟩
  ·rw [decide_eq_false ho]at hrun
   exact ⟨_,_,hrun,λh=>absurd h hz,λ_=>⟨s,R,h2,h7,by omega, .inr ⟨by omega,rfl,rfl⟩⟩⟩
theorem qr9(hS1:Small t old)(hS2:Small t now){at' miss lead:Int}(h:¬(In at' miss lead/\GoodP t old/\GoodP t now)):q2q t old now at' miss lead=some (q93,2):=by
 unfold q2q
 rw [qlq]
 by_cases hI:In at' miss lead
 ·rw [decide_eq_false (λh=>h hI)]
  have hm:=qmj hS1 hS2 λhG=>h ⟨hI,hG⟩
  simp only [Option.bind_some,cond_false,hm]
  rfl
 ·rw [decide_eq_true hI]; rfl
end
end Go.Proofs.Ythcplpfiidlinaa.L
