/- The law LevelBack, of what the programs compute. Conditions: lengths as stated. -/
import Derived.Test.YthcplpfiidlinaaLD
import Derived.Test.YthcplpfiidlinaaLA
import Derived.Test.YthcplpfiidlinaaLt
open Go.Ev Go
namespace Go.Proofs.Ythcplpfiidlinaa.L
section
variable {t:api_Topo}{old now:Sl (Sl Int)}
theorem qqc(hO:GoodP t old)(hN:GoodP t now){round:Int}{s h:Nat}(hs:s < old.l.length)(hh:h < t.Hosts.l.length)(hso:(s:Int)∈([0,1,2,3,4,5,6,7]:List Int)):
  (q0c (mixF t old now round []) h s≠q0c (mixF t old now round [0,1,2,3,4,5,6,7]) h s↔HitH t old now round s h)/\(HitH t old now round s h->q0c (mixF t old now round [0,1,2,3,4,5,6,7]) h s=q0c now h s):=by
 obtain ⟨a1,a2⟩:=q6n (round:=round) (so:= []) hO hN hs hh
 obtain ⟨b1,b2⟩:=q6n (round:=round) (so:= [0,1,2,3,4,5,6,7]) hO hN hs hh
 have hA:Some' t now round [] h s↔(dist t now h s:Int) < round:=by unfold Some'; simp
 have hB:Some' t now round [0,1,2,3,4,5,6,7] h s↔(dist t now h s:Int)<=round:=by
  unfold Some'
  constructor
  ·rintro (h | ⟨h,_⟩) <;> omega
  ·intro hq
   by_cases h1:(dist t now h s:Int) < round
   ·exact .inl h1
   ·exact .inr ⟨by omega,hso⟩
 rw [hA]at a1 a2
 rw [hB]at b1 b2
 unfold HitH
 by_cases h1:(dist t now h s:Int) < round
 ·rw [a1 h1,b1 (by omega)]
  exact ⟨⟨λh=>absurd rfl h,λh=>by omega⟩,λ_=>rfl⟩
 ·by_cases h2:(dist t now h s:Int)=round
  ·rw [a2 h1,b1 (by omega)]
   exact ⟨⟨λh=>⟨h2,λe=>h e.symm⟩,λh e=>h.2 e.symm⟩,λ_=>rfl⟩
  ·rw [a2 h1,b2 (by omega)]
   exact ⟨⟨λh=>absurd rfl h,λh=>absurd h.1 h2⟩,λh=>absurd h.1 h2⟩
theorem qlk(hO:GoodP t old)(hN:GoodP t now){round:Int}{s:Nat}(hs:s < old.l.length){ms:Sl api_Mod}(hms:ms.l=(hitL t old now round s t.Hosts.l.length).map λ(h:Nat)=>modF (h:Int) (q0c now h s)):
  ∀(d h:Nat),h+d=t.Hosts.l.length->loopO (q11 t (s:Int) (mixF t old now round []) (mixF t old now round [0,1,2,3,4,5,6,7]) ms) (((hitL t old now round s h).length:Int),(h:Int))=some (.inr ((hitL t old now round s t.Hosts.l.length).length:Int)):=by
 have h8:=hO.1.small
 have hh8:=hO.1.hosts
 have va:=q8d (round:=round) (so:= []) hO hN
 have vb:=q8d (round:=round) (so:= [0,1,2,3,4,5,6,7]) hO hN
 have la:(mixF t old now round []).l.length=old.l.length:=by rw [mixF,Sl.l_mk,q50]
 have lb:(mixF t old now round [0,1,2,3,4,5,6,7]).l.length=old.l.length:=by rw [mixF,Sl.l_mk,q50]
 have hso:(s:Int)∈([0,1,2,3,4,5,6,7]:List Int):=by
  have:s < 8:=by omega
  simp only [List.mem_cons,List.not_mem_nil,or_false]; omega
 intro d
 induction d with
 | zero=>
  intro h hd
  obtain rfl:h=t.Hosts.l.length:=by omega
  exact q0s (by simp only [q11,lt_f,cond_false])
 | succ d ih=>
  intro h hd
  have hh:h < t.Hosts.l.length:=by omega
  have i1:ixI (s:Int) (mixF t old now round []).l.length=some s:=q08 (by omega)
  have i2:ixI (h:Int) (gt (mixF t old now round []).l s).l.length=some h:=q08 (by rw [va.row (by omega)]; exact hh)
  have i3:ixI (s:Int) (mixF t old now round [0,1,2,3,4,5,6,7]).l.length=some s:=q08 (by omega)
  have i4:ixI (h:Int) (gt (mixF t old now round [0,1,2,3,4,5,6,7]).l s).l.length=some h:=q08 (by rw [vb.row (by omega)]; exact hh)
  obtain ⟨n1,n2⟩:=qqc (round:=round) hO hN hs hh hso
  have hL:(hitL t old now round s h).length<=h:=qqt
  by_cases hH:HitH t old now round s h
  ·have e1:((gt (gt (mixF t old now round []).l s).l h) != (gt (gt (mixF t old now round [0,1,2,3,4,5,6,7]).l s).l h))=true:=by
    rw [bne_iff_ne]; exact n1.2 hH
   have es:hitL t old now round s (h+1)=hitL t old now round s h++ [h]:=by rw [qag,tt_t hH,cond_true]
   obtain ⟨r,hr⟩:=qqe (t:=t) (old:=old) (now:=now) (round:=round) (s:=s) (d:=d) (n:=h+1)
   rw [show h+1+d=t.Hosts.l.length by omega,es]at hr
   have hml:ms.l.length=(hitL t old now round s h).length+1+r.length:=by rw [hms,List.length_map,hr]; simp; omega
   have hg:gt ms.l (hitL t old now round s h).length=modF (h:Int) (q0c now h s):=by
    rw [hms,hr,gt_eq (by simp)]
    simp
   have i5:ixI ((hitL t old now round s h).length:Int) ms.l.length=some (hitL t old now round s h).length:=q08 (by omega)
   have e2:decide (((hitL t old now round s h).length:Int) >= (ms.l.length:Int))=false:=decide_eq_false (by omega)
   have e3:ixI 1 4=some 1:=rfl
   have hp:=n2 hH
   have e4:((api_Act.V (gt ((api_Rule.Acts (api_Mod.R (modF (h:Int) (q0c now h s)))).l) 0)) != (gt (gt (mixF t old now round [0,1,2,3,4,5,6,7]).l s).l h))=false:=by
    rw [bne_eq_false_iff_eq]; exact hp.symm
   have e5:((gt ((api_Match.Val (api_Rule.M (api_Mod.R (modF (h:Int) (q0c now h s))))).1) 1) != (h:Int))=false:=by
    rw [bne_eq_false_iff_eq]; rfl
   have e6:((((api_Rule.Acts (api_Mod.R (modF (h:Int) (q0c now h s)))).l).length:Int) != 1)=false:=rfl
   have e7:ixI 0 (((api_Rule.Acts (api_Mod.R (modF (h:Int) (q0c now h s)))).l).length)=some 0:=rfl
   have:=ih (h+1) (by omega)
   rw [es,List.length_append,List.length_singleton]at this
   refine (q19 ?_).trans this
   simp only [q11,lt_t hh,cond_true,i1,i2,i3,i4,Option.bind_some,e1,e2,cond_false,i5,hg,e6,e3,e5,e7,e4,wr_s (show h < 9223372036854775807 by omega),wr_s (show (hitL t old now round s h).length < 9223372036854775807 by omega)]
  ·have e1:((gt (gt (mixF t old now round []).l s).l h) != (gt (gt (mixF t old now round [0,1,2,3,4,5,6,7]).l s).l h))=false:=by
    rw [bne_eq_false_iff_eq]
    exact Classical.not_not.1 λhn=>hH (n1.1 hn)
   have es:hitL t old now round s (h+1)=hitL t old now round s h:=by rw [qag,tt_f hH,cond_false,List.append_nil]
   have:=ih (h+1) (by omega)
   rw [es]at this
   refine (q19 ?_).trans this
   simp only [q11,lt_t hh,cond_true,i1,i2,i3,i4,Option.bind_some,e1,cond_false,wr_s (show h < 9223372036854775807 by omega)]
theorem qov(t:api_Topo)(old now:Sl (Sl Int))(round sw:Int)(ho:old.l.length < 9223372036854775808)(hn:now.l.length < 9223372036854775808):q4j t old now round sw=some true:=by
 unfold q4j
 rw [qbv ho]
 by_cases hS1:Small t old
 rotate_left
 ·rw [decide_eq_false hS1]; simp only [Option.bind_some,Bool.not_false,cond_true,q1d]
 rw [decide_eq_true hS1,qbv hn]
 by_cases hS2:Small t now
 rotate_left
 ·rw [decide_eq_false hS2]; simp only [Option.bind_some,Bool.not_true,cond_false,Bool.not_false,cond_true,q1d]
 rw [decide_eq_true hS2,qb4 hS1,qb4 hS2]
 by_cases hO:GoodP t old
 rotate_left
 ·rw [tt_f hO]; simp only [Option.bind_some,Bool.not_true,cond_false,Bool.not_false,cond_true,q1d]
 by_cases hN:GoodP t now
 rotate_left
 ·rw [tt_t hO,tt_f hN]; simp only [Option.bind_some,Bool.not_true,cond_false,Bool.not_false,Bool.true_or,cond_true,q1d]
 rw [tt_t hO,tt_t hN]
 by_cases hA:0<=sw/\sw < api_Topo.Switches t/\ -100<=round/\round<=100
 rotate_left
 ·have e:(((((!true) || (decide (sw < 0))) || (decide (sw >= (api_Topo.Switches t)))) || (decide (round < (-100)))) || (decide (round > 100)))=true:=by
   simp only [Bool.not_true,Bool.false_or,Bool.or_eq_true,decide_eq_true_eq]; omega
  simp only [Option.bind_some,Bool.not_true,cond_false]at e ⊢
  rw [e]; simp only [cond_true,q1d,Option.bind_some]
 have e:(((((!true) || (decide (sw < 0))) || (decide (sw >= (api_Topo.Switches t)))) || (decide (round < (-100)))) || (decide (round > 100)))=false:=by
  rw [Bool.eq_false_iff]; simp only [Bool.not_true,Bool.false_or,ne_eq,Bool.or_eq_true,decide_eq_true_eq]; omega
 obtain ⟨s,rfl⟩:∃s:Nat,sw=(s:Int):=⟨sw.toNat,by omega⟩
 obtain ⟨l,h1,h2⟩:=ql5 hO hN
 have h2:l.l=msOf t old now:=h2
 have hlen:=qd9 hO hN
 have ho1:=hO.1.len
 have h8:=hO.1.small
 have hh:=hO.1.hosts
 have hs:s < old.l.length:=by omega
 have h64:=qqu (old:=old) hN
 have d1:q1w old l round Sl.nil=some (mixF t old now round []):=qb9 hO hN (l:=l) h2 (so:= .nil) (by show (0:Nat) < _; omega)
 have d2:q1w old l round (Sl.mk [0,1,2,3,4,5,6,7])=some (mixF t old now round [0,1,2,3,4,5,6,7]):=qb9 hO hN (l:=l) h2 (so:= .mk [0,1,2,3,4,5,6,7]) (by show (8:Nat) < _; omega)
 have d3:q1w old l (round+1) Sl.nil=some (mixF t old now (round+1) []):=qb9 hO hN (l:=l) h2 (so:= .nil) (by show (0:Nat) < _; omega)
 have hw:wr .i64 (round+1)=round+1:=wr_id (by omega) (by omega)
 have v3:=q8d (round:=round+1) (so:= []) hO hN
 obtain ⟨r1,r2⟩:=qp1 (round:=round) (so:= [0,1,2,3,4,5,6,7]) hO hN v3 λs hs h hh=>by
  obtain ⟨a1,a2⟩:=q6n (round:=round) (so:= [0,1,2,3,4,5,6,7]) hO hN hs hh
  obtain ⟨b1,b2⟩:=q6n (round:=round+1) (so:= []) hO hN hs hh
  have hso:(s:Int)∈([0,1,2,3,4,5,6,7]:List Int):=by
   simp only [List.mem_cons,List.not_mem_nil,or_false]; omega
  by_cases hc:(dist t now h s:Int)<=round
  ·rw [a1 (by
    by_cases hx:(dist t now h s:Int) < round
    ·exact .inl hx
    ·exact .inr ⟨by omega,hso⟩),b1 (.inl (by omega))]
  ·rw [a2 (by rintro (hx | ⟨hx,_⟩) <;> omega),b2 (by
    rintro (hx | ⟨_,hx⟩)
    ·omega
    ·simp at hx)]
 have l3:(mixF t old now (round+1) []).l.length=old.l.length:=by rw [mixF,Sl.l_mk,q50]
 have l1:(mixF t old now round []).l.length=old.l.length:=by rw [mixF,Sl.l_mk,q50]
 have l2:(mixF t old now round [0,1,2,3,4,5,6,7]).l.length=old.l.length:=by rw [mixF,Sl.l_mk,q50]
 have s1:=qvg r1 r2 (by omega) λs hs=>by rw [v3.row hs]; omega
 have e1:(((mixF t old now round []).l.length:Int) != (api_Topo.Switches t))=false:=by rw [bne_eq_false_iff_eq,l1]; exact ho1
 have e2:(((mixF t old now round [0,1,2,3,4,5,6,7]).l.length:Int) != (api_Topo.Switches t))=false:=by rw [bne_eq_false_iff_eq,l2]; exact ho1
 obtain ⟨ms,m1,m2⟩:=qpm (l:=l) (round:=round) (sw:=(s:Int)) (by rw [h2]; omega) (by rw [h2]; exact qs9 hN)
 have m3:ms.l=(hitL t old now round s t.Hosts.l.length).map λ(h:Nat)=>modF (h:Int) (q0c now h s):=by
  rw [m2,h2,qqf hN (by omega),List.map_map]; rfl
 have m4:ms.l.length=(hitL t old now round s t.Hosts.l.length).length:=by rw [m3,List.length_map]
 have lp:=qlk hO hN hs m3 t.Hosts.l.length 0 (by omega)
 have lp:loopO (q11 t (s:Int) (mixF t old now round []) (mixF t old now round [0,1,2,3,4,5,6,7]) ms) (0,0)=_:=lp
 have e3:(((hitL t old now round s t.Hosts.l.length).length:Int) == (ms.l.length:Int))=true:=by rw [m4]; simp
 simp only [Bool.not_true]at e
 simp only [Option.bind_some,Bool.not_true,cond_false,e,h1,d1,d2,hw,d3,s1,e1,e2,Bool.or_self,m1,lp,e3,cond_true,q1d]
end
end Go.Proofs.Ythcplpfiidlinaa.L
