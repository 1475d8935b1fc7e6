/- The law RouteTrees: routes of trees at least costs are good. Conditions: words of 64 bits. -/
import Derived.Test.YtingpmogbibghaaSI
import Derived.Test.YtingpmogbibghaaSW
import Derived.Test.YtingpmogbibghaaSv
open Bool renaming not_true->ir
open List renaming length_range->cV,mem_map->bv,mem_range->eF
open Option renaming bind_some->ae
open Go.Ev Go Go.Fl Go.Ways
namespace Go.Proofs.Ytingpmogbibghaa.S
theorem Yg(t:aj):Xh t Sl.nil=some (decide (t.aP.l.length<=30/\t.bg.l.length<=12)):=by unfold Xh;have l1:aY (Xq (Sl.nil:Sl (Sl Int))) 0=some (.inr ()):=bH rfl;rw[l1,ae];simp only[];have h1:decide ((((aj.aP t).l).length:Int)<=30)=decide (t.aP.l.length<=30):=decide_eq_decide.2 (by omega);have h2:decide ((((aj.bg t).l).length:Int)<=12)=decide (t.bg.l.length<=12):=decide_eq_decide.2 (by omega);have h3:decide ((((Sl.nil:Sl (Sl Int)).l.length:Nat):Int)<=12)=true:=rfl;rw[h1,h2,h3];by_cases a1:t.aP.l.length<=30<;>by_cases a2:t.bg.l.length<=12<;>simp[a1,a2]
section
variable{t:aj}{L:List Nat}(hV:lF t)
theorem XA{c:Nat->Nat}{g i:Nat}(h:vU t L c g i≠-1):∃x∈fU t (i:Int),vU t L c g i=x.f_/\rT t L c g x.To.toNat+1=rT t L c g i/\jU (iF t L) c i (ed L x)=true:=by unfold vU at h|-;cases hf:(fU t (i:Int)).find? (fun x=>jU (iF t L) c i (ed L x)&&(rT t L c g x.To.toNat+1==rT t L c g i))with|none=>rw[hf]at h;exact absurd rfl h|some x=>have h2:=List.find?_some hf;rw[Bool.and_eq_true]at h2;exact⟨x,List.mem_of_find?_eq_some hf,rfl,beq_iff_eq.1 h2.2,h2.1⟩
include hV in
theorem Yh{i:Nat}{x:aE}(h:x∈fU t (i:Int)):0<=x.f_/\x.f_<8:=by obtain⟨j,l,b,h1,h2,h3⟩:=(wD hV).1 h;have hp:=hV.iK ⟨(i:Int),x.f_⟩ (by rw[mC];exact List.mem_append_left _ (List.mem_flatMap.2 ⟨l,List.mem_of_getElem? h1,h2.Bj⟩));exact hp.2
abbrev Yt(t:aj)(L:List Nat):Sl (Sl Int):=Sl.mk (bw t.ah.toNat fun i=>dW (lc t L t.bg.l.length i))
theorem XJ{s h:Nat}(hs:s<t.ah.toNat)(hh:h<t.bg.l.length):W6 (Yt t L) h s=qQ t L h s:=by unfold W6;rw[h_,g_ hs,rF];unfold lc;rw[C7 (by rw[cV];exact hh)];congr 1;rw[oM (by rw[cV];exact hh)];simp
include hV in
theorem Yc(hno:¬PK t L):Xz t (Yt t L):=by
 obtain⟨s1,s2,s3⟩:=l_ hV;have hlen:(Yt t L).l.length=t.ah.toNat:=by rw[h_,cu]
 refine⟨⟨hV,by rw[hlen];omega,fun r hr=>?_⟩,fun s hs h hh=>?_⟩
 .rw [h_]at hr;obtain⟨i,hi,rfl⟩:=bv.1 hr;have hi:=eF.1 hi;rw[rF];refine⟨by unfold lc;simp,fun p hp=>?_⟩;obtain⟨h,hh,rfl⟩:=bv.1 hp;have hh:=eF.1 hh;have hne:qQ t L h i≠-1:=fun e=>hno ⟨h,hh,i,hi,e⟩;obtain⟨p1,p2,p3,p4⟩:=IJ hV hh;unfold qQ PP at hne|-;by_cases e:i=hg t h
  .rw [if_pos e];exact⟨p3,p4⟩
  .rw [if_neg e]at hne|-;obtain⟨x,x1,x2,_⟩:=XA hne;rw[x2];exact Yh hV x1
 .rw [hlen]at hs;obtain⟨p1,p2,p3,p4⟩:=IJ hV hh;have hgn:hg t h<t.ah.toNat:=by unfold hg;omega
  have hat:(gt t.bg.l h).At=((hg t h:Nat):Int):=by unfold hg;omega
  have key:∀(m s:Nat),s<t.ah.toNat->rT t L (cB t L (hg t h)) (hg t h) s+1=(m:Int)->∃k,uZ t (Yt t L) h s k:=by
   intro m;induction m with
   |zero=>
    intro s hs hm;by_cases e:s=hg t h
    .exact ⟨0,.XZ ⟨by rw[hat,e],by rw[XJ hs hh];unfold qQ PP;rw[if_pos e]⟩⟩
    .exfalso;have hne:qQ t L h s≠-1:=fun q=>hno ⟨h,hh,s,hs,q⟩;unfold qQ PP at hne;rw[if_neg e]at hne;obtain⟨x,x1,x2,x3,_⟩:=XA hne;have:=(th (E:=iF t L) (c:=cB t L (hg t h)) (g:=hg t h) (t.ah.toNat-1) x.To.toNat).1;unfold rT at x3 hm;omega
   |succ m ih=>
    intro s hs hm;by_cases e:s=hg t h
    .exact ⟨0,.XZ ⟨by rw[hat,e],by rw[XJ hs hh];unfold qQ PP;rw[if_pos e]⟩⟩
    .have hne:qQ t L h s≠-1:=fun q=>hno ⟨h,hh,s,hs,q⟩;have htr:qQ t L h s=vU t L (cB t L (hg t h)) (hg t h) s:=by unfold qQ PP;rw[if_neg e]
     rw[htr]at hne;obtain⟨x,x1,x2,x3,_⟩:=XA hne;obtain⟨k1,k2,k3,k4,k5⟩:=nk hV x1;obtain⟨k,hk⟩:=ih x.To.toNat (by omega) (by omega);refine⟨k+1,.nW (fun q=>e ?_) ?_ hk⟩
     .have:=q.1;rw[hat]at this;omega
     .obtain ⟨j,l,b,h1,h2,h3⟩:=(wD hV).1 x1;unfold XD;rw[XJ hs hh,htr,x2,(Er hV).2 ⟨j,l,h1,h2,h3⟩];rfl
  have hr:=(th (E:=iF t L) (c:=cB t L (hg t h)) (g:=hg t h) (t.ah.toNat-1) s).1;exact key (rT t L (cB t L (hg t h)) (hg t h) s+1).toNat s hs (by unfold rT;omega)
end
theorem X5(t:aj)(b:Sl Int)(hb:∀x∈b.l,0<=x/\x<=18446744073709551615):W9 t b=some true:=by
 obtain⟨L,hl,hw⟩:=OV hb;have e0:b.l.length=L.length:=by rw[hl,List.length_map]
 unfold W9;rw[Yg,ae,XE];by_cases hs:t.aP.l.length<=30/\t.bg.l.length<=12
 .obtain ⟨h1,h2⟩:=hs;rw[decide_eq_true ⟨h1,h2⟩];by_cases h3:b.l.length<=30
  .have hLb:L.length<=30:=by omega
   rw[decide_eq_false (show¬(b.l.length:Int)>30 by omega),ir,Bool.or_false,cond_false,qv hl hLb h1 h2,ae,ae];cases hok:EO t L with
   |false=>rfl
   |true=>
    obtain⟨hV,hL,hn,hcl⟩:=zZ hok;rw[ir,cond_false,QW hl hw hLb,ae,hcl];rcases Gy hV hL hn h2 with⟨_,q2⟩|⟨q1,q2⟩
    .rw [q2];rfl
    .rw [q2,ae];simp only[];have e1:(((0:Int)) !=0)=false:=rfl;rw[e1,cond_false,Ye (Yc hV q1)];rfl
  .rw [decide_eq_true (show(b.l.length:Int)>30 by omega)];rfl
 .rw [decide_eq_false hs];rfl
end Go.Proofs.Ytingpmogbibghaa.S
