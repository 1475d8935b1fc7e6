/- The law PlanParts, of what the programs compute. Conditions: lengths as stated. -/
import Derived.Test.YthcplpfiidlinaaLD
import Derived.Test.YthcplpfiidlinaaLX
import Derived.Test.YthcplpfiidlinaaLu
open Go.Ev Go
namespace Go.Proofs.Ythcplpfiidlinaa.L
theorem qmd{a:Sl api_Act}(hb:a.l.length < 9223372036854775808):q7i a a=some true:=by
 have h1:=scanE (f:=q4c a a) (β:=Bool) (γ:=Unit) a.l (λ_ _=>none) () hb (λi hi=>by
  simp only [q4c,lt_t hi,cond_true,q08 hi,Option.bind_some,decide_true,Bool.not_true,cond_false]) (by simp only [q4c,lt_f,cond_false])
 have h2:scan (β:=Bool) (λ(_:Nat) (_:api_Act)=>none) a.l 0=none:=q2z.2 λ_ _ _=>rfl
 have hc:((a.l.length:Int) != (a.l.length:Int))=false:=by simp
 rw [h2]at h1
 simp only [q7i,hc,cond_false,h1,Option.bind_some]
theorem qrz(ho po:Int):q7s (modF ho po) (modF ho po)=some true:=by
 have h1:=qmd (a:=api_Rule.Acts (api_Mod.R (modF ho po))) (by show (1:Nat) < _; omega)
 simp only [q7s,q9g,beq_self_eq_true,Bool.and_self,cond_true,decide_true,h1,Option.bind_some]
theorem qnd{a b:Sl api_Mod}{l:List level_Move}(ha:a.l=l.map λm=>modF m.2.1 m.2.2.1)(hb:b.l=a.l)(hl:l.length<=1000):q5n a b=some true:=by
 have hal:a.l.length=l.length:=by rw [ha,List.length_map]
 have h1:=scanE (f:=q4b a b) (β:=Bool) (γ:=Unit) a.l (λ_ _=>none) () (by omega) (λi hi=>by
  have hib:i < b.l.length:=by rw [hb]; exact hi
  have e1:gt b.l i=gt a.l i:=by rw [hb]
  have e2:gt a.l i=modF (gt l i).2.1 (gt l i).2.2.1:=by
   have hil:i < l.length:=by omega
   rw [ha,gt_eq (by rw [List.length_map]; exact hil),List.getElem_map,gt_eq hil]
  simp only [q4b,lt_t hi,cond_true,q08 hi,q08 hib,Option.bind_some,e1,e2,qrz,Bool.not_true,cond_false]) (by simp only [q4b,lt_f,cond_false])
 have h2:scan (β:=Bool) (λ(_:Nat) (_:api_Mod)=>none) a.l 0=none:=q2z.2 λ_ _ _=>rfl
 have hc:((a.l.length:Int) != (b.l.length:Int))=false:=by rw [hb]; simp
 rw [h2]at h1
 simp only [q5n,hc,cond_false,h1,Option.bind_some]
noncomputable def modsS(l:Sl level_Move)(round sw:Int):Sl api_Mod:=(q1w l round sw).getD .nil
theorem qez{l:Sl level_Move}(hl:l.l.length<=1000)(hh:∀m∈l.l,0<=m.2.1/\m.2.1<=255)(round sw:Int):q1w l round sw=some (modsS l round sw)/\(modsS l round sw).l=(modsL round sw l.l).map λm=>modF m.2.1 m.2.2.1:=by
 obtain ⟨s,h1,h2⟩:=qq6 (round:=round) (sw:=sw) hl hh
 have e:modsS l round sw=s:=by unfold modsS; rw [h1]; rfl
 rw [e]; exact ⟨h1,h2⟩
theorem qd1{p:plan_Plan}{k:Int}(h:¬(0<=k/\k < (p.2.1.l.length:Int))):q1e p k=some .nil:=by
 have e:((decide (k < 0)) || (decide (k >= (((plan_Plan.Rounds p).l).length:Int))))=true:=by
  simp only [Bool.or_eq_true,decide_eq_true_eq]
  have:¬(0<=k/\k < (((plan_Plan.Rounds p).l).length:Int)):=h
  omega
 simp only [q1e,e,cond_true]
theorem qsi{α β:Type}(f:α->β):∀l:List α,(l.flatMap λx=> [f x])=l.map f:=by
 intro l
 induction l with
 | nil=>rfl
 | cons x l ih=>rw [List.flatMap_cons,ih]; rfl
theorem qo6{p:plan_Plan}{k:Nat}(hk:k < p.2.1.l.length)(hl:p.1.l.length<=1000)(hh:∀m∈p.1.l,0<=m.2.1/\m.2.1<=255)(hs:(gt p.2.1.l k).2.2.l.length<=1000):
  ∃s,q1e p (k:Int)=some s/\s.l=(gt p.2.1.l k).2.2.l.map λsw=>(sw,modsS p.1 (gt p.2.1.l k).1 sw):=by
 have ik:ixI (k:Int) ((plan_Plan.Rounds p).l).length=some k:=q08 hk
 obtain ⟨s,h1,h2⟩:=layE1 (f:=q23 p (k:Int) k) (gt p.2.1.l k).2.2.l (λsw=> [((sw,modsS p.1 (gt p.2.1.l k).1 sw):plan_Part)]) .nil (by omega) (λi s hi he=>by
  have hsl:s.l.length=i:=by
   rw [he,qsi]
   show ([]++List.map _ _).length=i
   rw [List.nil_append,List.length_map,List.length_take]; omega
  have hm:=(qez hl hh (gt p.2.1.l k).1 (gt (gt p.2.1.l k).2.2.l i)).1
  have hm:q1w (plan_Plan.Moves p) (plan_Round.No (gt ((plan_Plan.Rounds p).l) k)) (gt ((plan_Round.Sws (gt ((plan_Plan.Rounds p).l) k)).l) i)=_:=hm
  have hi':ixI (i:Int) ((plan_Round.Sws (gt ((plan_Plan.Rounds p).l) k)).l).length=some i:=q08 hi
  have hlt:decide ((i:Int) < (((plan_Round.Sws (gt ((plan_Plan.Rounds p).l) k)).l).length:Int))=true:=lt_t hi
  have hcap:capI (s.l++ [((gt ((plan_Round.Sws (gt ((plan_Plan.Rounds p).l) k)).l) i,modsS p.1 (gt p.2.1.l k).1 (gt (gt p.2.1.l k).2.2.l i)):plan_Part)])=some _:=q3e (by rw [List.length_append,List.length_singleton]; omega)
  refine ⟨.mk (s.l++ [((gt (gt p.2.1.l k).2.2.l i,modsS p.1 (gt p.2.1.l k).1 (gt (gt p.2.1.l k).2.2.l i)):plan_Part)]), ?_,rfl⟩
  simp only [q23,hlt,cond_true,hi',ik,Option.bind_some,hm,hcap]) (λs=>by
   have hlt:decide ((((gt p.2.1.l k).2.2.l.length:Nat):Int) < (((plan_Round.Sws (gt ((plan_Plan.Rounds p).l) k)).l).length:Int))=false:=lt_f
   simp only [q23,hlt,cond_false])
 have h1:loopO (q23 p (k:Int) k) (0,Sl.nil)=some s:=h1
 have e:((decide ((k:Int) < 0)) || (decide ((k:Int) >= (((plan_Plan.Rounds p).l).length:Int))))=false:=by
  rw [Bool.eq_false_iff]; simp only [ne_eq,Bool.or_eq_true,decide_eq_true_eq]
  have:k < ((plan_Plan.Rounds p).l).length:=hk
  omega
 refine ⟨s,by simp only [q1e,e,cond_false,ik,Option.bind_some,h1], ?_⟩
 rw [h2,qsi]; rfl
section
variable {t:api_Topo}{old now:Sl (Sl Int)}
def q7x(ms:List level_Move)(R:plan_Round):List level_Move:=R.2.2.l.flatMap λsw=>modsL R.1 sw ms
theorem q5k{ms:List level_Move}{round sw:Int}{m:level_Move}:m∈modsL round sw ms↔m∈ms/\m.2.2.2=round/\m.1=sw:=by
 unfold modsL
 simp only [List.mem_filter,Bool.and_eq_true,beq_iff_eq]
theorem ql7{first gap:Int}{R:List plan_Round}(hR:Rds (msOf t old now) first gap R):R.flatMap (q7x (msOf t old now))=msOf t old now:=by
 refine qwg (R:=Bef) (λx y h1 h2=> ?_) ?_ ms_pw λm=> ?_
 ·unfold Bef at h1 h2; omega
 ·rw [List.pairwise_flatMap]
  constructor
  ·intro r hr
   obtain ⟨i,hi,rfl⟩:=List.mem_iff_getElem.1 hr
   unfold q7x
   rw [List.pairwise_flatMap]
   refine ⟨λsw _=>List.Pairwise.filter _ ms_pw, ?_⟩
   have ha:=(hR.sws i hi).asc
   rw [gt_eq hi]at ha
   refine ha.imp ?_
   intro a b hab x hx y hy
   obtain ⟨_,x1,x2⟩:=q5k.1 hx
   obtain ⟨_,y1,y2⟩:=q5k.1 hy
   exact .inr ⟨by omega, .inl (by omega)⟩
  ·have ha:=hR.asc
   rw [List.pairwise_map]at ha
   refine ha.imp ?_
   intro a b hab x hx y hy
   unfold q7x at hx hy
   obtain ⟨_,_,hx⟩:=List.mem_flatMap.1 hx
   obtain ⟨_,_,hy⟩:=List.mem_flatMap.1 hy
   obtain ⟨_,x1,_⟩:=q5k.1 hx
   obtain ⟨_,y1,_⟩:=q5k.1 hy
   exact .inl (by omega)
 ·simp only [List.mem_flatMap,q7x,q5k]
  constructor
  ·rintro ⟨r,_,sw,_,h,_⟩; exact h
  ·intro hm
   obtain ⟨r,hr,e⟩:=List.mem_map.1 ((hR.mem m.2.2.2).2 ⟨m,hm,rfl⟩)
   obtain ⟨i,hi,rfl⟩:=List.mem_iff_getElem.1 hr
   refine ⟨R[i],hr,m.1, ?_,hm,e.symm,rfl⟩
   have:=(hR.sws i hi).mem m.1
   rw [gt_eq hi]at this
   exact this.2 ⟨m,hm,e.symm,rfl⟩
theorem qg9(hN:GoodP t now){first gap:Int}{R:List plan_Round}(hR:Rds (msOf t old now) first gap R){i:Nat}(hi:i < R.length):(gt R i).2.2.l.length<=8:=by
 refine qi1 (hR.sws i hi).asc λx hx=> ?_
 obtain ⟨m,hm,_,rfl⟩:=((hR.sws i hi).mem x).1 hx
 obtain ⟨h,s,_,hs,_,rfl⟩:=q89.1 (qfk.1 hm)
 have:=hN.1.small
 exact ⟨by show (0:Int)<=(s:Int); omega,by show (s:Int) < 8; omega⟩
theorem qgv(hN:GoodP t now){p:plan_Plan}{first gap:Int}(hs:p.1.l=msOf t old now)(hR:Rds (msOf t old now) first gap p.2.1.l){i:Nat}(hi:i < p.2.1.l.length){P:Sl plan_Part}
  (hP:P.l=(gt p.2.1.l i).2.2.l.map λsw=>(sw,modsS p.1 (gt p.2.1.l i).1 sw)) {n:Nat} (hn:n<=1000):
  ∀(d j:Nat),j+d=(gt p.2.1.l i).2.2.l.length->loopO (q1m p (i:Int) P) (((n+(((gt p.2.1.l i).2.2.l.take j).flatMap λsw=>modsL (gt p.2.1.l i).1 sw p.1.l).length:Nat):Int),(j:Int))=
   some (.inr ((n+(q7x p.1.l (gt p.2.1.l i)).length:Nat):Int)):=by
 have h64:=qfb (old:=old) hN
 have hml:p.1.l.length<=1000:=by rw [hs]; omega
 have hmh:∀m∈p.1.l,0<=m.2.1/\m.2.1<=255:=by rw [hs]; exact qmu hN
 have h8:=qg9 hN hR hi
 have hPl:P.l.length=(gt p.2.1.l i).2.2.l.length:=by rw [hP,List.length_map]
 have fl:∀sw,(modsL (gt p.2.1.l i).1 sw p.1.l).length<=64:=λsw=>by
  unfold modsL
  refine Nat.le_trans (List.length_filter_le _ _) ?_
  rw [hs]; exact h64
 have fl2:∀j,(((gt p.2.1.l i).2.2.l.take j).flatMap λsw=>modsL (gt p.2.1.l i).1 sw p.1.l).length<=512:=λj=>by
  refine Nat.le_trans (q33 fl _) ?_
  have:((gt p.2.1.l i).2.2.l.take j).length<=8:=by rw [List.length_take]; omega
  omega
 intro d
 induction d with
 | zero=>
  intro j hj
  obtain rfl:j=(gt p.2.1.l i).2.2.l.length:=by omega
  rw [List.take_length]
  refine q0u ?_
  have hlt:decide ((((gt p.2.1.l i).2.2.l.length:Nat):Int) < (P.l.length:Int))=false:=by rw [hPl]; exact lt_f
  simp only [q1m,hlt,cond_false]
  rfl
 | succ d ih=>
  intro j hj
  have hjl:j < (gt p.2.1.l i).2.2.l.length:=by omega
  have hjP:j < P.l.length:=by omega
  have hg:gt P.l j=(gt (gt p.2.1.l i).2.2.l j,modsS p.1 (gt p.2.1.l i).1 (gt (gt p.2.1.l i).2.2.l j)):=by
   rw [hP,gt_eq (by rw [List.length_map]; exact hjl),List.getElem_map,gt_eq hjl]
  obtain ⟨m1,m2⟩:=qez hml hmh (gt p.2.1.l i).1 (gt (gt p.2.1.l i).2.2.l j)
  have m3:=qnd m2 rfl (by have:=fl (gt (gt p.2.1.l i).2.2.l j); omega)
  have mlen:(modsS p.1 (gt p.2.1.l i).1 (gt (gt p.2.1.l i).2.2.l j)).l.length=(modsL (gt p.2.1.l i).1 (gt (gt p.2.1.l i).2.2.l j) p.1.l).length:=by rw [m2,List.length_map]
  have mpos:0 < (modsL (gt p.2.1.l i).1 (gt (gt p.2.1.l i).2.2.l j) p.1.l).length:=by
   obtain ⟨m,hm,h1,h2⟩:=((hR.sws i hi).mem (gt (gt p.2.1.l i).2.2.l j)).1 (by rw [gt_eq hjl]; exact List.getElem_mem _)
   exact List.length_pos_iff.2 (List.ne_nil_of_mem (q5k.2 ⟨by rw [hs]; exact hm,h1,h2⟩))
  have i1:ixI (j:Int) P.l.length=some j:=q08 hjP
  have i2:ixI (i:Int) ((plan_Plan.Rounds p).l).length=some i:=q08 hi
  have i3:ixI (j:Int) ((plan_Round.Sws (gt ((plan_Plan.Rounds p).l) i)).l).length=some j:=q08 hjl
  have c1:((plan_Part.Sw (gt P.l j)) != (gt ((plan_Round.Sws (gt ((plan_Plan.Rounds p).l) i)).l) j))=false:=by rw [bne_eq_false_iff_eq,hg]
  have c2:((((plan_Part.Mods (gt P.l j)).l).length:Int) == 0)=false:=by
   rw [beq_eq_false_iff_ne,hg]
   show (((modsS p.1 (gt p.2.1.l i).1 (gt (gt p.2.1.l i).2.2.l j)).l.length:Nat):Int)≠0
   omega
  have c3:q1w (plan_Plan.Moves p) (plan_Round.No (gt ((plan_Plan.Rounds p).l) i)) (plan_Part.Sw (gt P.l j))=some (modsS p.1 (gt p.2.1.l i).1 (gt (gt p.2.1.l i).2.2.l j)):=by rw [hg]; exact m1
  have c4:q5n (plan_Part.Mods (gt P.l j)) (modsS p.1 (gt p.2.1.l i).1 (gt (gt p.2.1.l i).2.2.l j))=some true:=by rw [hg]; exact m3
  have et:(gt p.2.1.l i).2.2.l.take (j+1)=(gt p.2.1.l i).2.2.l.take j++ [gt (gt p.2.1.l i).2.2.l j]:=by rw [gt_eq hjl,List.take_append_getElem hjl]
  have hnext:=ih (j+1) (by omega)
  rw [et,List.flatMap_append,List.length_append,List.flatMap_singleton]at hnext
  refine (q1f ?_).trans hnext
  have hb:=fl2 j
  have hb2:=fl (gt (gt p.2.1.l i).2.2.l j)
  have c5:wr .i64 (((n+(((gt p.2.1.l i).2.2.l.take j).flatMap λsw=>modsL (gt p.2.1.l i).1 sw p.1.l).length:Nat):Int)+(((plan_Part.Mods (gt P.l j)).l).length:Int))=((n+((((gt p.2.1.l i).2.2.l.take j).flatMap λsw=>modsL (gt p.2.1.l i).1 sw p.1.l).length+(modsL (gt p.2.1.l i).1 (gt (gt p.2.1.l i).2.2.l j) p.1.l).length):Nat):Int):=by
   have e:(((plan_Part.Mods (gt P.l j)).l).length:Nat)=(modsL (gt p.2.1.l i).1 (gt (gt p.2.1.l i).2.2.l j) p.1.l).length:=by rw [hg]; exact mlen
   rw [e,wr_id (by omega) (by omega)]; omega
  simp only [q1m,lt_t hjP,cond_true,i1,i2,i3,Option.bind_some,c1,c2,cond_false,c3,c4,Bool.not_true,c5,wr_s (show j < 9223372036854775807 by omega)]
theorem qhs(hN:GoodP t now){p:plan_Plan}{first gap:Int}(hs:p.1.l=msOf t old now)(hR:Rds (msOf t old now) first gap p.2.1.l):
  ∀(d i:Nat),i+d=p.2.1.l.length->loopO (q1o p) (((((p.2.1.l.take i).flatMap (q7x p.1.l)).length:Nat):Int),(i:Int))=some (.inr ((p.1.l.length:Nat):Int)):=by
 have h64:=qfb (old:=old) hN
 have hml:p.1.l.length<=1000:=by rw [hs]; omega
 have hmh:∀m∈p.1.l,0<=m.2.1/\m.2.1<=255:=by rw [hs]; exact qmu hN
 have h8:=hR.len hN
 have hall:(p.2.1.l.flatMap (q7x p.1.l))=p.1.l:=by rw [hs]; exact ql7 hR
 have fl:∀i,((p.2.1.l.take i).flatMap (q7x p.1.l)).length<=64:=λi=>by
  have e:=congrArg List.length hall
  rw [<- List.take_append_drop i p.2.1.l,List.flatMap_append,List.length_append,hs]at e
  rw [hs]; omega
 intro d
 induction d with
 | zero=>
  intro i hi
  obtain rfl:i=p.2.1.l.length:=by omega
  rw [List.take_length,hall]
  refine q0u ?_
  have hlt:decide (((p.2.1.l.length:Nat):Int) < (((plan_Plan.Rounds p).l).length:Int))=false:=lt_f
  simp only [q1o,hlt,cond_false]
 | succ d ih=>
  intro i hi
  have hil:i < p.2.1.l.length:=by omega
  have hsm:=qg9 hN hR hil
  obtain ⟨P,p1,p2⟩:=qo6 hil hml hmh (by omega)
  have hlt:decide ((i:Int) < (((plan_Plan.Rounds p).l).length:Int))=true:=lt_t hil
  have i2:ixI (i:Int) ((plan_Plan.Rounds p).l).length=some i:=q08 hil
  have c1:((P.l.length:Int) != (((plan_Round.Sws (gt ((plan_Plan.Rounds p).l) i)).l).length:Int))=false:=by
   rw [bne_eq_false_iff_eq,p2,List.length_map]
  have h1:=qgv hN hs hR hil p2 (n:=((p.2.1.l.take i).flatMap (q7x p.1.l)).length) (by have:=fl i; omega) (gt p.2.1.l i).2.2.l.length 0 (by omega)
  simp only [List.take_zero,List.flatMap_nil,List.length_nil,Nat.add_zero]at h1
  have h1:loopO (q1m p (i:Int) P) ((((p.2.1.l.take i).flatMap (q7x p.1.l)).length:Int),0)=_:=h1
  have et:p.2.1.l.take (i+1)=p.2.1.l.take i++ [gt p.2.1.l i]:=by rw [gt_eq hil,List.take_append_getElem hil]
  have hnext:=ih (i+1) (by omega)
  rw [et,List.flatMap_append,List.length_append,List.flatMap_singleton]at hnext
  refine (q1f ?_).trans hnext
  simp only [q1o,hlt,cond_true,p1,Option.bind_some,i2,c1,cond_false,h1,wr_s (show i < 9223372036854775807 by omega)]
theorem qp9(t:api_Topo)(old now:Sl (Sl Int))(at' miss lead k:Int)(ho:old.l.length < 9223372036854775808)(hn:now.l.length < 9223372036854775808):q4k t old now at' miss lead k=some true:=by
 unfold q4k
 rw [qcu ho]
 by_cases hS1:Small t old
 rotate_left
 ·rw [decide_eq_false hS1]; simp only [Option.bind_some,Bool.not_false,cond_true,q17]
 rw [decide_eq_true hS1,qcu hn]
 by_cases hS2:Small t now
 rotate_left
 ·rw [decide_eq_false hS2]; simp only [Option.bind_some,Bool.not_true,cond_false,Bool.not_false,cond_true,q17]
 rw [decide_eq_true hS2]
 simp only [Option.bind_some,Bool.not_true,cond_false]
 have nilP:q1e q93 k=some .nil:=qd1 λh=>by
  have h2:k < ((0:Nat):Int):=h.2
  omega
 have c7:((7:Int) != 0)=true:=rfl
 have c11:((11:Int) != 0)=true:=rfl
 have c2:((2:Int) != 0)=true:=rfl
 have cn:((Sl.nil:Sl plan_Part).l.length:Int) == 0:=rfl
 by_cases hG:In at' miss lead/\GoodP t old/\GoodP t now
 rotate_left
 ·rw [qr9 hS1 hS2 hG]
  simp only [Option.bind_some,c2,cond_true,nilP,cn,q17]
 obtain ⟨hI,hO,hN⟩:=hG
 obtain ⟨p,e,h1,h2⟩:=qnh hO hN hI
 rw [h1]
 by_cases hz:msOf t old now= []
 ·obtain ⟨rfl,rfl⟩:=h2.none hz
  simp only [Option.bind_some,c7,cond_true,nilP,cn,q17]
 obtain ⟨s,R,hs,hR,hp,hc⟩:=h2.over hz
 rcases hc with ⟨ho1,rfl,rfl⟩ | ⟨ho1,rfl,rfl⟩
 ·simp only [Option.bind_some,c11,cond_true,nilP,cn,q17]
 have lp:=qhs hN (p:=(s,R,miss,lifeF t,at'+lead+1,lastF t at' miss lead R.l.length)) hs hR R.l.length 0 (by show 0+R.l.length=R.l.length; omega)
 have lp:loopO (q1o (s,R,miss,lifeF t,at'+lead+1,lastF t at' miss lead R.l.length)) (0,0)=some (.inr (s.l.length:Int)):=lp
 have hn8:=hN.1.small
 have hh:=hN.1.hosts
 have d1:q4d old s (api_Topo.Switches t) Sl.nil=some (mixF t old now t.Switches []):=qm1 hO hN (l:=s) hs (so:= .nil) (by show (0:Nat) < _; omega)
 obtain ⟨a1,a2⟩:=qt1 (so:= []) hO hN
 have s1:=qwp a1 a2 (by omega) λs hs=>by rw [hN.1.row hs]; omega
 have c0:((0:Int) != 0)=false:=rfl
 have cs:((s.l.length:Int) == (s.l.length:Int))=true:=by simp
 by_cases hk:0<=k/\k < (R.l.length:Int)
 ·have ck:((decide (k >= 0)) && (decide (k < (R.l.length:Int))))=true:=by simp only [Bool.and_eq_true,decide_eq_true_eq]; exact hk
  simp only [Option.bind_some,c0,cond_false,lp,cs,cond_true,d1,s1,ck,q17]
 ·have ck:((decide (k >= 0)) && (decide (k < (R.l.length:Int))))=false:=by rw [Bool.eq_false_iff]; simp only [ne_eq,Bool.and_eq_true,decide_eq_true_eq]; exact hk
  have pn:q1e (s,R,miss,lifeF t,at'+lead+1,lastF t at' miss lead R.l.length) k=some .nil:=qd1 hk
  simp only [Option.bind_some,c0,cond_false,lp,cs,cond_true,d1,s1,ck,pn,cn,q17]
end
end Go.Proofs.Ythcplpfiidlinaa.L
