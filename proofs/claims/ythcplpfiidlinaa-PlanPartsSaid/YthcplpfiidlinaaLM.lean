/- The moves from old routes to new ones: what the program's Moves answers. Conditions: as stated. -/
import Derived.Test.YthcplpfiidlinaaLW
open Go.Ev Go
namespace Go.Proofs.Ythcplpfiidlinaa.L
theorem q33{α β:Type}{f:α->List β}{m:Nat}(hf:∀x,(f x).length<=m):∀l:List α,(l.flatMap f).length<=m * l.length:=by
 intro l
 induction l with
 | nil=>simp
 | cons x l ih=>have:=hf x; simp only [List.flatMap_cons,List.length_append,List.length_cons,Nat.mul_add]; omega
section
variable {t:api_Topo}{old now:Sl (Sl Int)}
noncomputable def mvAt(t:api_Topo)(old now:Sl (Sl Int))(h s:Nat):List level_Move:=
 if q10 now h s≠q10 old h s then [((s:Int),(h:Int),q10 now h s,(dist t now h s:Int))]else []
noncomputable def mvH(t:api_Topo)(old now:Sl (Sl Int))(h:Nat):List level_Move:=(List.range now.l.length).flatMap (mvAt t old now h)
noncomputable def mvs(t:api_Topo)(old now:Sl (Sl Int)):List level_Move:=(List.range t.Hosts.l.length).flatMap (mvH t old now)
theorem qif(h s:Nat):(mvAt t old now h s).length<=1:=by unfold mvAt; split <;> simp
theorem qgs(h:Nat):(mvH t old now h).length<=now.l.length:=by
 have:=q33 (m:=1) (qif (t:=t) (old:=old) (now:=now) h) (List.range now.l.length)
 unfold mvH; simpa using this
theorem q89{m:level_Move}:m∈mvs t old now↔∃h s,h < t.Hosts.l.length/\s < now.l.length/\q10 now h s≠q10 old h s/\m=((s:Int),(h:Int),q10 now h s,(dist t now h s:Int)):=by
 simp only [mvs,mvH,mvAt,List.mem_flatMap,List.mem_range]
 constructor
 ·rintro ⟨h,hh,s,hs,hm⟩
  split at hm
  ·rename_i hne
   exact ⟨h,s,hh,hs,hne,by simpa using hm⟩
  ·simp at hm
 ·rintro ⟨h,s,hh,hs,hne,rfl⟩
  exact ⟨h,hh,s,hs,by rw [if_pos hne]; simp⟩
theorem qea{n i:Nat}(hi:i < n):gt (List.range n) i=i:=by rw [gt_eq (by simpa using hi)]; simp
theorem qlx(hO:GoodP t old)(hN:GoodP t now):∃s,q2j t old now=some (s,0)/\s.l=(srtMv (mvs t old now).toArray).toList:=by
 have hsm:=hN.1.small
 have hho:=hN.1.hosts
 have hle:old.l.length=now.l.length:=by have:=hO.1.len; have:=hN.1.len; omega
 have hin:∀(h:Nat),h < t.Hosts.l.length->∀s0:Sl level_Move,s0.l.length<=1000->∃s,loopO (q1q old now (h:Int) (.mk (dists t now h))) (0,s0)=some s/\s.l=s0.l++mvH t old now h:=by
  intro h hh s0 h0
  refine layE1 (f:=q1q old now (h:Int) (.mk (dists t now h))) (List.range now.l.length) (mvAt t old now h) s0 (by simp; omega) (λi s hi hs=> ?_) (λs=>by simp only [q1q,List.length_range,lt_f,cond_false])
  have hi:i < now.l.length:=by simpa using hi
  have hio:i < old.l.length:=by omega
  have hhn:h < (gt now.l i).l.length:=by rw [hN.1.row hi]; exact hh
  have hhO:h < (gt old.l i).l.length:=by rw [hO.1.row hio]; exact hh
  have hid:i < (Sl.mk (dists t now h)).l.length:=by rw [Sl.l_mk,qb4]; exact hi
  have hlen:s.l.length<=2000:=by
   have:=q33 (m:=1) (qif (t:=t) (old:=old) (now:=now) h) ((List.range now.l.length).take i)
   rw [hs,List.length_append]
   rw [List.length_take,List.length_range]at this
   omega
  rw [qea hi]
  by_cases hne:q10 now h i=q10 old h i
  ·refine ⟨s, ?_,by rw [mvAt,if_neg (not_not_intro hne),List.append_nil]⟩
   have e:((gt (gt now.l i).l h) != (gt (gt old.l i).l h))=false:=by
    have hne:gt (gt now.l i).l h=gt (gt old.l i).l h:=hne
    rw [hne]; simp
   simp only [q1q,lt_t hi,cond_true,q08 hi,q08 hio,q08 hhn,q08 hhO,Option.bind_some,e,cond_false]
  ·have e:((gt (gt now.l i).l h) != (gt (gt old.l i).l h))=true:=by
    have hne:¬gt (gt now.l i).l h=gt (gt old.l i).l h:=hne
    simpa using hne
   have hd:gt (Sl.mk (dists t now h)).l i=(dist t now h i:Int):=by rw [Sl.l_mk,qrp hi]
   refine ⟨.mk (s.l++ [((i:Int),(h:Int),gt (gt now.l i).l h,(dist t now h i:Int))]), ?_,by rw [mvAt,if_pos hne]; rfl⟩
   simp only [q1q,lt_t hi,cond_true,q08 hi,q08 hio,q08 hhn,q08 hhO,q08 hid,Option.bind_some,e,hd]
   rw [q3e (by rw [List.length_append,List.length_singleton]; omega)]
   rfl
 obtain ⟨s,h1,h2⟩:=layE1 (f:=q28 t old now) (List.range t.Hosts.l.length) (mvH t old now) .nil (by simp; omega) (λi s hi hs=>by
  have hi:i < t.Hosts.l.length:=by simpa using hi
  have hlen:s.l.length<=1000:=by
   have:=q33 (m:=8) (f:=mvH t old now) (λh=>by have:=qgs (t:=t) (old:=old) (now:=now) h; omega) ((List.range t.Hosts.l.length).take i)
   rw [hs]
   rw [List.length_take,List.length_range]at this
   simp only [Sl.l_nil,List.nil_append]
   omega
  obtain ⟨s',h1,h2⟩:=hin i hi s hlen
  refine ⟨s', ?_,by rw [h2,qea hi]⟩
  simp only [q28,lt_t hi,cond_true,qlm hN hi hN.pos,Option.bind_some,h1]) (λs=>by simp only [q28,List.length_range,lt_f,cond_false])
 have h2:s.l=mvs t old now:=h2
 have hlen:s.l.length < 4611686018427387904:=by
  have:=q33 (m:=8) (f:=mvH t old now) (λh=>by have:=qgs (t:=t) (old:=old) (now:=now) h; omega) (List.range t.Hosts.l.length)
  rw [List.length_range]at this
  have e:(mvs t old now).length<=8 * t.Hosts.l.length:=this
  rw [h2]; omega
 have hsort:sortF srtMv s=some (s.to (srtMv s.l.toArray).toList):=by
  unfold sortF
  rw [show Nat.blt s.l.length 4611686018427387904=true by rw [Nat.blt_eq]; exact hlen]; rfl
 have hsz:(srtMv s.l.toArray).toList.length=s.l.length:=by
  have:=(q3m s.l.toArray).1.1
  simpa using this
 have hlenS:lenS (s.to (srtMv s.l.toArray).toList) s=some ():=by
  cases s with
  | nil=>rfl
  | mk l=>
   have hsz:(srtMv l.toArray).toList.length=l.length:=hsz
   show lenI (srtMv l.toArray).toList l=some ()
   unfold lenI
   rw [if_pos hsz]
 refine ⟨s.to (srtMv s.l.toArray).toList, ?_, ?_⟩
 ·simp only [q2j,qdq hO,qdq hN,Option.bind_some,Bool.not_true,cond_false,h1,hsort,hlenS]
 ·rw [<- h2]
  cases s with
  | nil=>
   have hsz:(srtMv [].toArray).toList.length=0:=hsz
   exact (List.length_eq_zero_iff.1 hsz).symm
  | mk l=>rfl
end
end Go.Proofs.Ythcplpfiidlinaa.L
