/- Costs: what both lay. Conditions: a topology and weights that may be. -/
import Derived.Test.YtoekkpmeeclpeaaGreatSC
open Bool renaming true_and->fV
open Classical renaming byContradiction->ru
open List renaming all_eq_true->cw,any_eq_false->vw,append_nil->bO,ext_getElem->gi,length_append->au,length_filterMap_le->eS,length_filter_le->jF,length_map->br,length_range->bB,length_replicate->bz,map_congr_left->gH,map_map->je,mem_map->aR,mem_range->ct,range->aG,replicate->az
open Nat renaming le_refl->aw,le_trans->bg
open Option renaming bind_some->aa
open Option.some renaming inj->af
open Go.Ev Go Go.Fl Go.Ways
namespace Go.Proofs.YtoekkpmeeclpeaaGreat.S
theorem af_(s:Sl Int)(a b:Int)(c:Sl Nat):cT s a b c=acv (fun x y=>iX x y c) s a b:=rfl
theorem UO{lt:Int->Int->Bool}{P:Int->Prop}{c:Sl Nat}(hs:WC lt)(hC:Cmp (fun x y=>iX x y c) lt P){l:List Int}(hn:l.length<=8)(hP:∀x∈l,P x):
  ∃M,dc (Sl.mk l) c=some (Sl.mk M)/\M.length=l.length/\Ms lt M/\vk lt M l:=by
 obtain⟨M,m1,m2,m3,m4⟩:=Me hs hC (a:=0) (b:=l.length) (X:=[]) (L:=l) (Y:=[]) rfl (by omega) (by omega) hP;refine⟨M,?_,m2,m3,m4⟩;simp only[List.nil_append,bO]at m1;unfold dc d7;have h1:aJ (dP (((Sl.mk l).l.length:Nat):Int) c) (0,20,Sl.mk l)=some (0,Sl.mk l):=bW (by unfold dP;simp only[];rw[jX,decide_eq_false (by omega),cond_false]);have h3:aJ (dO (((Sl.mk l).l.length:Nat):Int)) 20=some ():=bW (by unfold dO;rw[jX,decide_eq_false (by omega),cond_false]);have m1':acv (fun x y=>iX x y c) (Sl.mk l) 0 (((Sl.mk l).l.length:Nat):Int)=some (Sl.mk M):=m1;rw[h1,aa];simp only[af_];rw[m1',aa,acp (by simpa using m2),aa,h3,aa,aa,acp (by simpa using m2),aa]
theorem UY{α:Type}[DecidableEq α]{lt:α->α->Bool}(hs:WC lt){a b:List α}(h:vk lt a b):a.Perm b:=by rw[List.perm_iff_count];intro x;have e:∀l:List α,List.count x (l.filter (K0 lt x))=List.count x l:=fun l=>List.count_filter (KB hs x);rw[<-e a,<-e b,h x]
def ltC(out:Nat->Nat)(a b:Int):Bool:=decide (out a.toNat<out b.toNat)
theorem TF(out:Nat->Nat):WC (ltC out):=⟨fun x=>decide_eq_false (by omega),fun x y z h1 h2=>by
 have h1:=of_decide_eq_true h1;have h2:=of_decide_eq_true h2;exact decide_eq_true (by omega),fun x y z h1 h2=>by
 have h1:=of_decide_eq_false h1;have h2:=of_decide_eq_false h2;exact decide_eq_false (by omega)⟩
theorem O4{a:Nat}(h:a<=vJ):jq a=9223372036854775808+a:=by have h:a<=D.infRung:=h;have h2:=h;rw[AQ]at h2;exact C7 (rC (Ag h)) (by omega)
theorem abW{n:Nat}{out:Nat->Nat}(hb:∀i,i<n->out i<=vJ):Cmp (fun x y=>iX x y (Sl.mk (dK n out))) (ltC out) (fun x=>0<=x/\x<n):=fun x y hx hy=>by
 obtain⟨a,rfl⟩:∃a:Nat,x=a:=⟨x.toNat,by omega⟩
 obtain⟨b,rfl⟩:∃b:Nat,y=b:=⟨y.toNat,by omega⟩
 have ha:a<n:=by omega
 have hbn:b<n:=by omega
 have w1:=EU (Ag (hb a ha));have w2:=EU (Ag (hb b hbn));refine⟨K4 (jq (out a)) (jq (out b)),?_,?_⟩
 .show iX (a:Int) (b:Int) (Sl.mk (dK n out))=_;unfold iX;rw[jX,Bw (by rw[eo];exact ha),aa,Bw (by rw[eo];exact hbn),aa,jt ha,jt hbn,ac6 w1 w2];rfl
 .unfold ltC;rw[O4 (hb a ha),O4 (hb b hbn)];have e1:((a:Nat):Int).toNat=a:=by omega
  have e2:((b:Nat):Int).toNat=b:=by omega
  rw[e1,e2];rcases Nat.lt_trichotomy (out a) (out b)with h|h|h
  .rw [BO (by omega),decide_eq_true h];rfl
  .rw [IR (by omega),decide_eq_false (show¬out a<out b by omega)];rfl
  .rw [BP (by omega),decide_eq_false (show¬out a<out b by omega)];rfl
theorem RB{t:am}{L:List Nat}(h:Vs t L=true):gB t/\L.length=t.aS.l.length/\(∀x∈L,nn x)/\L.map kQ=L:=by unfold Vs at h;simp only[Bool.and_eq_true,decide_eq_true_eq,beq_iff_eq]at h;have h3:∀x∈L,nn x:=fun x hx=>Cc.1 (cw.1 h.2.2 x hx);refine⟨h.1,h.2.1,h3,?_⟩;have:L.map kQ=L.map id:=gH fun x hx=>zu (rC (h3 x hx));rw[this,List.map_id]
section
variable{t:am}{L:List Nat}(hV:gB t)(hL:L.length=t.aS.l.length)(hn:∀x∈L,nn x)
theorem rA(hV:gB t):t.ao=((t.ao.toNat:Nat):Int)/\1<=t.ao.toNat/\t.ao.toNat<=8:=by have:=hV.sw;omega
abbrev ed(L:List Nat)(x:aM):Nat×Nat:=(x.To.toNat,wt L x.ku)
include hV hL hn in
theorem Xk{bK:Nat}(ha:bK<t.ao.toNat){out:Nat->Nat}(hb:∀i,i<t.ao.toNat->out i<=vJ){M:List Nat}(hM:gt M 0=bK)(hMl:0<M.length){r:Sl aM}(hr:r.l=gd t (bK:Int)):
  aJ (nN (f9 L) 0 (Sl.mk (gM M)) r) (0,Sl.mk (dK t.ao.toNat out))=some (Sl.mk (dK t.ao.toNat (zI (jI t L) out bK ((gd t (bK:Int)).map (ed L)).reverse))):=by
 have hWl:(f9 L).l=L:=yC L;have hlen8:r.l.length<=8:=by rw[hr];exact bg (eS _ _) (by simp)
 have key:∀(R A:List aM),r.l=A++R->aJ (nN (f9 L) 0 (Sl.mk (gM M)) r) ((A.length:Int),Sl.mk (dK t.ao.toNat (zI (jI t L) out bK (A.map (ed L)).reverse)))=some (Sl.mk (dK t.ao.toNat (zI (jI t L) out bK (r.l.map (ed L)).reverse))):=by
  intro R;induction R with
  |nil=>
   intro A e;have e:r.l=A:=by rw[e,bO]
   refine(bW ?_).trans (by rw[e]);simp only[nN];rw[e,decide_eq_false (by omega),cond_false]
  |cons x R ih=>
   intro A e;have hi:A.length<r.l.length:=by rw[e];simp
   have hx:gt r.l A.length=x:=by rw[e];exact Gd
   have hxm:x∈gd t (bK:Int):=by rw[<-hr,e];simp
   obtain⟨k1,k2,k3,k4,k5⟩:=qY hV hxm;have hto:x.To.toNat<t.ao.toNat:=by omega
   have hlk:x.ku.toNat<L.length:=by omega
   have hall:∀q∈A,q∈gd t (bK:Int):=fun q hq=>by rw[<-hr,e];exact List.mem_append_left _ hq
   generalize hf:zI (jI t L) out bK (A.map (ed L)).reverse=f;have fb:∀i,i<t.ao.toNat->f i<=vJ:=fun i hi2=>by rw[<-hf];exact bg (BM _ i).1 (hb i hi2)
   have fat:f bK=out bK:=by
    rw[<-hf];rcases zU (E:=jI t L) (out:=out) (bK:=bK) (A.map (ed L)).reverse bK with h|⟨q,hq,h2,_⟩
    .exact h
    .obtain ⟨y,hy,rfl⟩:=aR.1 (List.mem_reverse.1 hq);have:=qY hV (hall y hy);have h2:y.To.toNat=bK:=h2;omega
   refine(dD (a':=(((A++[x]).length:Int),Sl.mk (dK t.ao.toNat (zI (jI t L) out bK ((A++[x]).map (ed L)).reverse)))) ?_).trans (ih (A++[x]) (by rw[e];simp));have i1:bS x.To (dK t.ao.toNat f).length=some x.To.toNat:=jy.2 ⟨by omega,by rw[eo];exact hto⟩;have i2:bS x.ku L.length=some x.ku.toNat:=jy.2 ⟨by omega,hlk⟩;have i3:bS (bK:Int) (dK t.ao.toNat f).length=some bK:=Bw (by rw[eo];exact ha);have g0:gt (gM M) 0=(bK:Int):=by rw[wO hMl,hM]
   simp only[nN];rw[decide_eq_true (by omega),cond_true,Bw hi,aa,hx,jX,i1,aa,hWl,i2,aa,jX,g0,i3,aa,jt ha,OZ (hn _ (xC hlk)) (fb bK ha),aa,aa,jt hto,acj (fb _ hto) agP,sM hto,Fp (by omega),au];congr 4;refine iP fun j hj=>?_;rw[List.map_append,List.reverse_append];show(if j=x.To.toNat then _ else _)=if j=x.To.toNat then min (zI (jI t L) out bK (A.map (ed L)).reverse j) (P (wt L x.ku) (out bK))else zI (jI t L) out bK (A.map (ed L)).reverse j;rw[hf];by_cases hc:j=x.To.toNat
   .rw [if_pos hc,if_pos hc,hc,fat];rfl
   .rw [if_neg hc,if_neg hc]
 rw[hr]at key;exact key _ [] rfl
theorem Qe{n g:Nat}{E:Nat->List (Nat×Nat)}{cl op op':List Nat}{out:Nat->Nat}(h:WI n g E cl op out)(hp:op'.Perm op):WI n g E cl op' out:=⟨(hp.append_left cl).trans h.Rn,h.zF,h.g0,h.WL,h.sub,fun c hc o ho=>h.ord c hc o (hp.mem_iff.1 ho),h.Ob⟩
include hV hL hn in
theorem T8{g:Nat}:∀(k:Nat)(op cl:List Nat)(out:Nat->Nat),op.length=k->WI t.ao.toNat g (jI t L) cl op out->
  ∃cl' out',aJ (nM t (f9 L)) (Sl.mk (gM op),Sl.mk (dK t.ao.toNat out))=some (Sl.mk (dK t.ao.toNat out'))/\WI t.ao.toNat g (jI t L) cl' [] out'
 |0,op,cl,out,hk,h=>by obtain rfl:op=[]:=List.length_eq_zero_iff.1 hk;refine⟨cl,out,bW ?_,h⟩;simp only[nM];rfl
 |k+1,op,cl,out,hk,h=>by
  have hmem:∀x∈op,x<t.ao.toNat:=fun x hx=>ct.1 (h.Rn.mem_iff.1 (List.mem_append_right _ hx));have hol:(gM op).length=k+1:=by rw[br,hk]
  have hk8:k+1<=8:=by have:=h.Rn.length_eq;rw[au,bB]at this;have:=rA hV;omega
  obtain⟨M,m1,m2,m3,m4⟩:=UO (TF out) (abW h.zF) (l:=gM op) (by omega) (fun x hx=>by obtain⟨y,hy,rfl⟩:=aR.1 hx;have:=hmem y hy;omega);have hperm:=UY (TF out) m4
  obtain⟨M',hM',hp'⟩:∃M':List Nat,M=gM M'/\M'.Perm op:=by
   refine⟨M.map Int.toNat,?_,?_⟩
   .rw [gM,je];refine(List.map_id M).symm.trans (gH fun x hx=>?_);obtain⟨y,hy,rfl⟩:=aR.1 (hperm.mem_iff.1 hx);show((y:Nat):Int)=((((y:Nat):Int).toNat:Nat):Int)
    omega
   .refine (hperm.map Int.toNat).trans ?_;rw[je];refine List.Perm.of_eq ((gH fun x _=>?_).trans (List.map_id op));show((x:Nat):Int).toNat=x;omega
  subst hM'
  match M',hp' with
  |[],hp'=>rw[<-hp'.length_eq]at hk;cases hk
  |bK::bH,hp'=>
   have h2:=Qe h hp'
   have hmin:∀o∈bH,out bK<=out o:=fun o ho=>by
    have h3:=(List.pairwise_cons.1 m3).1 (o:Int) (aR.2 ⟨o,ho,rfl⟩);have h4:¬out ((o:Nat):Int).toNat<out ((bK:Nat):Int).toNat:=of_decide_eq_false h3;have e1:((o:Nat):Int).toNat=o:=by omega
    have e2:((bK:Nat):Int).toNat=bK:=by omega
    rw[e1,e2]at h4;omega
   have hat:bK<t.ao.toNat:=hmem bK (hp'.mem_iff.1 List.mem_cons_self);obtain⟨r,r1,r2⟩:=JS hV (bK:Int);have h5:=h2.iT (Ge hV L) hmin (l:=((gd t (bK:Int)).map (ed L)).reverse) (fun e=>List.mem_reverse);have hrl:bH.length=k:=by have:=hp'.length_eq;rw[List.length_cons,hk]at this;omega
   obtain⟨cl',out',j1,j2⟩:=T8 k bH _ _ hrl h5;refine⟨cl',out',(dD (a':=(Sl.mk (gM bH),Sl.mk (dK t.ao.toNat (zI (jI t L) out bK ((gd t (bK:Int)).map (ed L)).reverse)))) ?_).trans j1,j2⟩;have htr:=Xk hV hL hn hat h.zF (M:=bK::bH) rfl (by simp) r2;simp only[nM];have z0:bS 0 (gM (bK::bH)).length=some 0:=Bw (n:=0) (by simp)
   have c1:rG (gM (bK::bH)) 1 ((gM (bK::bH)).length:Int)=some (gM bH):=by
    unfold rG;rw[if_pos ⟨by omega,by simp;omega,Int.le_refl _⟩];have e1:(1:Int).toNat=1:=rfl;have e2:(((gM (bK::bH)).length:Nat):Int).toNat=bH.length+1:=by simp
    rw[e1,e2];show some ((gM bH).take (bH.length+1-1))=_;rw[List.take_of_length_le (by simp)]
   have g0:gt (gM (bK::bH)) 0=(bK:Int):=rfl;rw[jX,decide_eq_true (by omega),cond_true,m1,aa,acp (by rw[m2]),aa];simp only[jX];rw[z0,aa,c1,aa,g0,r1,aa,htr,aa];rfl
include hV hL hn in
theorem Sn{g:Nat}(hg:g<t.ao.toNat):∃cl out,mE t (f9 L) (g:Int)=some (Sl.mk (dK t.ao.toNat out))/\WI t.ao.toNat g (jI t L) cl [] out:=by
 obtain⟨s1,s2,s3⟩:=rA hV;have hok:Vs t L=true:=by unfold Vs;rw[decide_eq_true hV,fV,hL,beq_self_eq_true,fV];exact cw.2 fun x hx=>Cc.2 (hn x hx)
 have hr:=GT (t:=t) (L:=L) (fun x hx=>EU (hn x hx)) (by have:=hV.xQ;omega);rw[(RB hok).2.2.2,hok]at hr;unfold mE;have hinf:Bv 1=some vJ:=rfl;have hrep:=X6 (x:=vJ) s2 s3;rw[<-s1]at hrep;have hm:Fm (0:Int) t.ao t.ao=some (az t.ao.toNat 0):=by unfold Fm;rw[if_pos (by omega)]
 have hguard:(((!true)||(decide ((g:Int)<0)))||(decide ((g:Int)>=(am.ao t))))=false:=by rw[decide_eq_false (show¬(g:Int)<0 by omega),decide_eq_false (show¬(g:Int)>=t.ao by omega)];rfl
 have e1:az t.ao.toNat vJ=dK t.ao.toNat (fun _=>vJ):=by refine gi (by simp[dK]) fun j h1 h2=>by simp[dK]
 have hL1:aJ (nO (az t.ao.toNat 0)) (0,Sl.mk (az t.ao.toNat 0))=some (Sl.mk (gM (aG t.ao.toNat))):=by
  have:=Q7 (f:=nO (az t.ao.toNat 0)) (fun i:Nat=>((i:Int),Sl.mk (dK t.ao.toNat fun j=>if j<i then(j:Int)else 0))) t.ao.toNat (b:=Sl.mk (gM (aG t.ao.toNat))) (fun i hi=>by
   simp only[nO];rw[bz,decide_eq_true (by omega),cond_true,jX,Bw (by rw[eo];exact hi),aa,sM hi,Fp (by omega)];congr 4;refine iP fun j hj=>?_;by_cases h1:j=i
   .rw [if_pos h1,if_pos (by omega),h1]
   .by_cases h2:j<i
    .rw [if_neg h1,if_pos h2,if_pos (by omega)]
    .rw [if_neg h1,if_neg h2,if_neg (by omega)]) (by
   simp only[nO];rw[bz,decide_eq_false (by omega),cond_false];congr 2;exact congrArg Sl.mk (iP (g:=fun j:Nat=>(j:Int)) fun j hj=>if_pos hj))
  have e0:(dK t.ao.toNat fun j=>if j<0 then((j:Nat):Int)else 0)=az t.ao.toNat 0:=by refine gi (by simp[dK]) fun j h1 h2=>by simp[dK]
  rw[e0]at this;exact this
 obtain⟨cl,out,d1,d2⟩:=T8 hV hL hn (g:=g) t.ao.toNat (aG t.ao.toNat) [] _ (bB) (WI.HP hg);refine⟨cl,out,?_,d2⟩;rw[hr,aa,hguard,cond_false,hinf,aa,hrep,aa,jX,Bw (by rw[bz];exact hg),aa,hm,aa,hL1,aa,e1,sM hg,d1];rfl
include hV hL hn in
theorem U7{b:Sl Int}(hb:b.l=gM L){c:Nat->Nat}(hc:∀i,i<t.ao.toNat->c i<=vJ){i:Nat}{r:Sl cZ}(hr:r.l=gd t (i:Int)):
  aJ (qB b (Sl.mk (gM (dK t.ao.toNat c))) r) (((c i:Nat):Int),0)=some ((FL (jI t L) c i:Nat):Int):=by
 have hlen8:r.l.length<=8:=by rw[hr];exact bg (eS _ _) (by simp)
 have key:∀(R A:List aM)(z:Nat),r.l=A++R->aJ (qB b (Sl.mk (gM (dK t.ao.toNat c))) r) ((z:Int),(A.length:Int))=some (((R.map (ed L)).foldl (fun b e=>min b (P e.2 (c e.1))) z:Nat):Int):=by
  intro R;induction R with
  |nil=>intro A z e;refine bW ?_;simp only[qB];rw[decide_eq_false (by rw[e];simp),cond_false];rfl
  |cons x R ih=>
   intro A z e;have hi:A.length<r.l.length:=by rw[e];simp
   have hx:gt r.l A.length=x:=by rw[e];exact Gd
   have hxm:x∈gd t (i:Int):=by rw[<-hr,e];simp
   obtain⟨k1,k2,k3,k4,k5⟩:=qY hV hxm;have hto:x.To.toNat<t.ao.toNat:=by omega
   have hlk:x.ku.toNat<L.length:=by omega
   have i2:bS (cZ.ku x) b.l.length=some x.ku.toNat:=jy.2 ⟨by show x.ku=_;omega,by rw[hb,br];exact hlk⟩;have i1:bS (cZ.To x) (gM (dK t.ao.toNat c)).length=some x.To.toNat:=jy.2 ⟨by show x.To=_;omega,by rw[br,eo];exact hto⟩;refine(dD (a':=(((min z (P (wt L x.ku) (c x.To.toNat)):Nat):Int),((A++[x]).length:Int))) ?_).trans (ih (A++[x]) _ (by rw[e];simp));simp only[qB];rw[decide_eq_true (by omega),cond_true,Bw hi,aa];simp only[aa];rw[hx,i2,aa,jX,i1,aa,hb,wO hlk,wO (by rw[eo];exact hto),jt hto,L0 (hn _ (xC hlk)) (hc _ hto),aa]
   have e2:(bif decide (((P (ab (gt L x.ku.toNat)) (c x.To.toNat):Nat):Int)<(z:Int))then some ((P (ab (gt L x.ku.toNat)) (c x.To.toNat):Nat):Int)else some (z:Int):Option Int)=some (((min z (P (wt L x.ku) (c x.To.toNat)):Nat):Int)):=by
    show(bif decide (((P (wt L x.ku) (c x.To.toNat):Nat):Int)<(z:Int))then some ((P (wt L x.ku) (c x.To.toNat):Nat):Int)else some (z:Int):Option Int)=_;generalize P (wt L x.ku) (c x.To.toNat)=p;by_cases h:p<z
    .rw [decide_eq_true (by omega),Nat.min_eq_right (by omega)];rfl
    .rw [decide_eq_false (by omega),Nat.min_eq_left (by omega)];rfl
   rw[e2,aa,Fp (by omega),au];rfl
 have:=key r.l [] (c i) rfl;rw[hr]at this;exact this
include hV hL hn in
theorem Qi{b:Sl Int}(hb:b.l=gM L)(h2:t.aU.l.length<=12){g:Nat}(hg:g<t.ao.toNat):qD t b (g:Int)=some (Sl.mk (gM (dK t.ao.toNat (B (jI t L) g t.ao.toNat)))):=by
 obtain⟨s1,s2,s3⟩:=rA hV;have hok:Vs t L=true:=by unfold Vs;rw[decide_eq_true hV,fV,hL,beq_self_eq_true,fV];exact cw.2 fun x hx=>Cc.2 (hn x hx)
 have hlk:=hV.xQ;have hr:=EK (t:=t) hb (by omega) (by omega) h2;rw[hok]at hr;have hguard:(((!true)||(decide ((g:Int)<0)))||(decide ((g:Int)>=(am.ao t))))=false:=by rw[decide_eq_false (show¬(g:Int)<0 by omega),decide_eq_false (show¬(g:Int)>=t.ao by omega)];rfl
 have hne:∀{f:Nat->Nat},gM (dK t.ao.toNat f)≠[]:=fun h=>by have:=congrArg List.length h;rw[br,eo]at this;simp at this;omega
 have hL1:aJ (qC t) (0,Sl.nil)=some (Sl.mk (gM (dK t.ao.toNat fun _=>vJ))):=by
  have:=Li (f:=qC t) (aG t.ao.toNat) (fun _=>((vJ:Nat):Int)) (fun i s hi hs=>by
   rw[bB]at hi;simp only[qC];rw[decide_eq_true (show(i:Int)<t.ao by omega),cond_true,mz.2 ⟨rfl,by rw[au];simp;omega⟩,aa,Fp (by omega)];rfl) (fun s=>by
   simp only[qC,bB];rw[decide_eq_false (show¬((t.ao.toNat:Nat):Int)<t.ao by omega),cond_false])
  rw[this];have e:(aG t.ao.toNat).map (fun _=>((vJ:Nat):Int))=gM (dK t.ao.toNat fun _=>vJ):=by rw[gM,dK,je];rfl
  rw[e,xW hne]
 have hround:∀c:Nat->Nat,(∀i,i<t.ao.toNat->c i<=vJ)->aJ (qA t b (Sl.mk (gM (dK t.ao.toNat c)))) (0,Sl.nil)=some (Sl.mk (gM (dK t.ao.toNat (FL (jI t L) c)))):=by
  intro c hc
  have:=Li (f:=qA t b (Sl.mk (gM (dK t.ao.toNat c)))) (aG t.ao.toNat) (fun i=>((FL (jI t L) c i:Nat):Int)) (fun i s hi hs=>by
   rw[bB]at hi;obtain⟨r,r1,r2⟩:=G2 hV (i:Int);have hgr:gt (aG t.ao.toNat) i=i:=by rw[dx (by rw[bB];exact hi)];simp
   simp only[qA];rw[decide_eq_true (show(i:Int)<t.ao by omega),cond_true,jX,Bw (by rw[br,eo];exact hi),aa,r1,aa,wO (by rw[eo];exact hi),jt hi,U7 hV hL hn hb hc r2,aa,mz.2 ⟨rfl,by rw[au];simp;omega⟩,aa,Fp (by omega),hgr]) (fun s=>by
   simp only[qA,bB];rw[decide_eq_false (show¬((t.ao.toNat:Nat):Int)<t.ao by omega),cond_false])
  rw[this];have e:(aG t.ao.toNat).map (fun i=>((FL (jI t L) c i:Nat):Int))=gM (dK t.ao.toNat (FL (jI t L) c)):=by rw[gM,dK,je];rfl
  rw[e,xW hne]
 have hL4:=Q7 (f:=qz t b) (fun k:Nat=>((k:Int),Sl.mk (gM (dK t.ao.toNat (B (jI t L) g k))))) t.ao.toNat (b:=Sl.mk (gM (dK t.ao.toNat (B (jI t L) g t.ao.toNat)))) (fun k hk=>by
  simp only[qz];rw[decide_eq_true (show(k:Int)<t.ao by omega),cond_true,hround _ (fun i _=>an0 k i),aa,Fp (by omega)];rfl) (by
  simp only[qz];rw[decide_eq_false (show¬((t.ao.toNat:Nat):Int)<t.ao by omega),cond_false])
 unfold qD;have hset:(gM (dK t.ao.toNat fun _=>vJ)).set g 0=gM (dK t.ao.toNat (B (jI t L) g 0)):=by have:(0:Int)=((0:Nat):Int):=rfl;rw[gM,this,<-List.map_set,sM hg];rfl
 rw[hr,aa,hguard,cond_false,hL1,aa,jX,Bw (by rw[br,eo];exact hg),aa,hset];have e4:aJ (qz t b) (0,Sl.mk (gM (dK t.ao.toNat (B (jI t L) g 0))))=some (Sl.mk (gM (dK t.ao.toNat (B (jI t L) g t.ao.toNat)))):=hL4;rw[e4];rfl
end
end Go.Proofs.YtoekkpmeeclpeaaGreat.S
open Go.Ev Go Go.Fl Go.Ways
namespace Go.Proofs.YtoekkpmeeclpeaaGreat.S
theorem TP{α:Type}{p:α->Bool}(l:List α):decide ((match lE (fun(i:Nat)x=>if p x then some (i:Int)else none) l 0 with|some b=>b|none=>(-1:Int))>=0)=l.any p:=by
 have h3:=BQ (p:=p) (g:=fun i=>(i:Int)) l 0;rw[<-h3];cases hsc:lE (fun(i:Nat)x=>if p x then some (i:Int)else none) l 0 with
 |none=>rfl
 |some b=>
  obtain⟨j,x,_,h5,_⟩:=kw hsc;split at h5
  .obtain rfl:=af h5;exact decide_eq_true (show(((0+j:Nat):Int))>=0 by omega)
  .cases h5
theorem anr{α:Type}[Inhabited α]{f:Int×Sl α->Option ((Int×Sl α)⊕Sl α)}(l:List α)(p:α->Bool)
  (h1:∀(i:Nat)(s:Sl α),i<l.length->s.l.length<=i->f ((i:Int),s)=some (.inl (((i+1:Nat):Int),bif p (gt l i)then Sl.mk (s.l++[gt l i])else s)))
  (h2:∀s:Sl α,f ((l.length:Int),s)=some (.inr s)):∃s,aJ f (0,Sl.nil)=some s/\s.l=l.filter p:=by
 have key:∀(R O:List α)(s:Sl α),l=O++R->s.l=O.filter p->∃s',aJ f ((O.length:Int),s)=some s'/\s'.l=l.filter p:=by
  intro R;induction R with
  |nil=>
   intro O s e hs;have e:l=O:=by rw[e,bO]
   subst e;exact⟨s,bW (h2 _),hs⟩
  |cons x R ih=>
   intro O s e hs;have hx:gt l O.length=x:=by rw[e];exact Gd
   have h:=h1 O.length s (by rw[e];simp) (by rw[hs];exact jF _ _);rw[hx]at h;obtain⟨s',i1,i2⟩:=ih (O++[x]) (bif p x then Sl.mk (s.l++[x])else s) (by rw[e];simp) (by rw[List.filter_append,<-hs];cases hp:p x<;>simp[hp,jX]);rw[au]at i1;exact⟨s',(dD h).trans i1,i2⟩
 exact key l [] Sl.nil rfl rfl
theorem yj{s:Sl Int}(hb:s.l.length<9223372036854775807)(v:Int):cJ s v=some (s.l.any fun x=>v==x):=by
 unfold cJ g9
 have:=xO (f:=dB s v) s.l (fun i x=>if(v==x)=true then some (i:Int)else none) () (by omega) (fun i hi=>by
  simp only[dB];rw[decide_eq_true (by omega),cond_true,Bw hi,aa];cases v==gt s.l i<;>rfl) (by
  simp only[dB];rw[decide_eq_false (by omega),cond_false])
 rw[this,aa,<-TP];cases lE (fun(i:Nat)x=>if(v==x)=true then some (i:Int)else none) s.l 0<;>rfl
section
variable{t:am}{L:List Nat}(hV:gB t)(hL:L.length=t.aS.l.length)(hn:∀x∈L,nn x){c:Nat->Nat}(hc:∀i,i<t.ao.toNat->c i<=vJ)
include hn in
theorem ae8{k:Int}(h0:0<=k)(h1:k<L.length):CN (f9 L) k=some (decide (wt L k<vJ)):=by
 unfold CN;have hWl:(f9 L).l=L:=yC L;have hk:k.toNat<L.length:=by omega
 have hinf:Bv 1=some vJ:=rfl;have hw:=hn _ (xC (l:=L) hk);rw[hWl,decide_eq_true (show k>=0 by omega),decide_eq_true (show k<(L.length:Int)by omega),Bool.and_self,cond_true,jy.2 ⟨show k=((k.toNat:Nat):Int)by omega,hk⟩,aa,hinf,aa,aa];congr 1;have hi:nn vJ:=Ag (aw _);rw[Sb (tY (EU hw) (rC hw)) (tY (EU hi) (rC hi)),H6 hw,H6 hi,Av (aw _)];exact decide_eq_decide.2 (by show((wt L k:Nat):Int)<((vJ:Nat):Int)<->_;omega)
include hn in
theorem aa7{b:Sl Int}(hb:b.l=gM L){k:Int}(h0:0<=k)(h1:k<L.length):FP b k=some (decide (wt L k<vJ)):=by
 unfold FP;have hk:k.toNat<L.length:=by omega
 have hw:=hn _ (xC (l:=L) hk);have e0:b.l.length=L.length:=by rw[hb,br]
 rw[e0,decide_eq_false (show¬k<0 by omega),decide_eq_false (show¬k>=(L.length:Int)by omega),Bool.or_false,cond_false,jy.2 ⟨show k=((k.toNat:Nat):Int)by omega,hk⟩,aa,hb,wO hk,Sq,aa];congr 1;unfold wt;generalize gt L k.toNat=x at hw;unfold Wo;rw[rC hw,cond_false];rcases hw with hw|hw
 .have hx:=hw;rw[AQ]at hx;rw[Av hw,beq_eq_false_iff_ne.2 (show x≠18442240474082181120 by omega),cond_false,decide_eq_false (show¬x>9223372036854775808 by omega),cond_false,beq_eq_false_iff_ne.2 (show x≠9223372036854775808 by omega),cond_false];have hinf:vJ=9218868437227405312:=AQ;by_cases h:x=0
  .subst h;decide
  .rw [beq_eq_false_iff_ne.2 h,cond_false];by_cases h2:x<9218868437227405312
   .rw [decide_eq_true h2,decide_eq_true (show x<vJ by rw[hinf];exact h2)];rfl
   .rw [decide_eq_false h2,decide_eq_false (show¬x<vJ by rw[hinf];exact h2)];rfl
 .subst hw;decide
def ER(t:am)(L:List Nat)(c:Nat->Nat)(i:Nat):List aM:=(gd t (i:Int)).filter fun x=>b9 (jI t L) c i (ed L x)
include hV hL hn hc in
theorem LH{i:Nat}(hi:i<t.ao.toNat):∃s,ql t (f9 L) (Sl.mk (dK t.ao.toNat c)) (i:Int)=some s/\s.l=ER t L c i:=by
 unfold ql;have hci:=hc i hi;have hcn:nn (c i):=Ag hci;rw[jX,Bw (by rw[eo];exact hi),aa,jt hi,TO (EU hcn) (rC hcn),aa];have hinf:vJ=9218868437227405312:=AQ;by_cases h1:c i=vJ
 .have:(c i==9218868437227405312)=true:=by rw[h1,hinf];rfl
  rw[this,cond_true];refine⟨Sl.nil,rfl,?_⟩;symm;refine List.filter_eq_nil_iff.2 fun x _=>?_;unfold b9;rw[decide_eq_false (by omega)];simp
 .have:(c i==9218868437227405312)=false:=by rw[beq_eq_false_iff_ne,<-hinf];exact h1
  rw[this,cond_false];obtain⟨r,r1,r2⟩:=JS hV (i:Int);rw[r1,aa];have hWl:(f9 L).l=L:=yC L;have hlen8:r.l.length<=8:=by rw[r2];exact bg (eS _ _) (by simp)
  obtain⟨s,s1,s2⟩:=anr (f:=qk (f9 L) (Sl.mk (dK t.ao.toNat c)) (i:Int) r) r.l (fun x=>b9 (jI t L) c i (ed L x)) (fun j s hj hsl=>by
   have hxm:gt r.l j∈gd t (i:Int):=by rw[<-r2];exact xC hj
   obtain⟨k1,k2,k3,k4,k5⟩:=qY hV hxm;simp only[qk];rw[decide_eq_true (by omega),cond_true,Bw hj,aa];generalize gt r.l j=x at*;have hto:x.To.toNat<t.ao.toNat:=by omega
   have hlk:x.ku.toNat<L.length:=by omega
   have hup:=ae8 hn (k:=x.ku) k4 (by omega);have hcond:((CN (f9 L) (aM.ku x)).bind fun r10=>
 bif r10 then((bS (aM.ku x) (f9 L).l.length).bind fun n11=>
 (bS (aM.To x) (Sl.mk (dK t.ao.toNat c)).l.length).bind fun n12=>
 (wi (gt (f9 L).l n11) (gt (Sl.mk (dK t.ao.toNat c)).l n12)).bind fun r13=>
 (bS (i:Int) (Sl.mk (dK t.ao.toNat c)).l.length).bind fun n14=>
 some (P6 .f64 r13 (gt (Sl.mk (dK t.ao.toNat c)).l n14)))else
 (some false):Option Bool)=some (b9 (jI t L) c i (ed L x)):=by
       rw[hup,aa];unfold b9;rw[decide_eq_true (show c i<vJ by omega),fV];show(bif decide (wt L x.ku<vJ)then _ else _)=some (decide (wt L x.ku<vJ)&&(P (wt L x.ku) (c x.To.toNat)==c i));cases decide (wt L x.ku<vJ)with
       |false=>rfl
       |true=>
        rw[cond_true,hWl,jy.2 ⟨show x.ku=((x.ku.toNat:Nat):Int)by omega,hlk⟩,aa,jX,jy.2 ⟨show x.To=((x.To.toNat:Nat):Int)by omega,by rw[eo];exact hto⟩,aa,jt hto,OZ (hn _ (xC hlk)) (hc _ hto),aa,Bw (by rw[eo];exact hi),aa,jt hi];have hp:nn (P (ab (gt L x.ku.toNat)) (c x.To.toNat)):=Ag agP;rw[Kk (tY (EU hp) (rC hp)) (tY (EU hcn) (rC hcn)),H6 hp,H6 hcn,Av agP,Av hci];rw[fV];show some (decide (((P (wt L x.ku) (c x.To.toNat):Nat):Int)=((c i:Nat):Int)))=_;congr 1;rw[<-Lt];by_cases h:((P (wt L x.ku) (c x.To.toNat):Nat):Int)=((c i:Nat):Int)
        .rw [decide_eq_true h,h];simp
        .rw [decide_eq_false h,beq_eq_false_iff_ne.2 h]
   rw[hcond,aa];cases hb:b9 (jI t L) c i (ed L x)with|true=>rw[cond_true,mz.2 ⟨rfl,by rw[au];simp;omega⟩,aa,aa,Fp (by omega)];rfl|false=>rw[cond_false,aa,Fp (by omega)];rfl) (fun s=>by
   simp only[qk];rw[decide_eq_false (by omega),cond_false])
  rw[s1];exact⟨s,rfl,by rw[s2,r2];rfl⟩
include hV hL hn hc in
theorem Og{b:Sl Int}(hb:b.l=gM L){i:Nat}(hi:i<t.ao.toNat){x:aM}(hxm:x∈gd t (i:Int)):yP b (Sl.mk (gM (dK t.ao.toNat c))) (i:Int) x=some (b9 (jI t L) c i (ed L x)):=by
 obtain⟨k1,k2,k3,k4,k5⟩:=qY hV hxm;have hto:x.To.toNat<t.ao.toNat:=by omega
 have hlk:x.ku.toNat<L.length:=by omega
 have hinf:vJ=9218868437227405312:=AQ;have hci:=hc i hi;unfold yP;have hgi:gt (gM (dK t.ao.toNat c)) i=((c i:Nat):Int):=by rw[wO (by rw[eo];exact hi),jt hi]
 rw[jX,Bw (by rw[br,eo];exact hi),aa,hgi];unfold b9;by_cases h1:c i=vJ
 .have:(((c i:Nat):Int) !=9218868437227405312)=false:=by rw[bne_eq_false_iff_eq,h1,hinf];rfl
  rw[this,cond_false,decide_eq_false (show¬c i<vJ by omega)];rfl
 .have:(((c i:Nat):Int) !=9218868437227405312)=true:=by rw[bne_iff_ne];omega
  rw[this,cond_true,decide_eq_true (show c i<vJ by omega),fV];have hup:=aa7 hn hb (k:=cZ.ku x) k4 (by show x.ku<_;omega);rw[hup,aa];show(bif decide (wt L x.ku<vJ)then _ else _:Option Bool).bind _=some (decide (wt L x.ku<vJ)&&(P (wt L x.ku) (c x.To.toNat)==c i));cases decide (wt L x.ku<vJ)with|false=>rfl|true=>have i2:bS (cZ.ku x) b.l.length=some x.ku.toNat:=jy.2 ⟨by show x.ku=_;omega,by rw[hb,br];exact hlk⟩;have i1:bS (cZ.To x) (gM (dK t.ao.toNat c)).length=some x.To.toNat:=jy.2 ⟨by show x.To=_;omega,by rw[br,eo];exact hto⟩;rw[cond_true,i2,aa,i1,aa,hb,wO hlk,wO (by rw[eo];exact hto),jt hto,L0 (hn _ (xC hlk)) (hc _ hto),aa,aa,aa,hgi,Lt];rfl
variable{g:Nat}
def lV(t:am)(L:List Nat)(c:Nat->Nat)(g k i j:Nat):Int:=if j<i then mu (jI t L) c g (k+1) j else mu (jI t L) c g k j
theorem Zy{k i j:Nat}:(lV t L c g k i j==(k:Int))=(mu (jI t L) c g k j==(k:Int)):=by
 unfold lV;split
 .have h1:=yc (E:=jI t L) (c:=c) (g:=g) k j;by_cases h2:mu (jI t L) c g k j=-1
  .rw [h2];have h3:((-1:Int)==(k:Int))=false:=by rw[beq_eq_false_iff_ne];omega
   rw[h3,beq_eq_false_iff_ne];simp only[mu];split
   .omega
   .rw [h2];omega
  .rw [F6 h2]
 .rfl
theorem Mh{k i:Nat}(hi:i<t.ao.toNat):(dK t.ao.toNat (lV t L c g k i)).set i (mu (jI t L) c g (k+1) i)=dK t.ao.toNat (lV t L c g k (i+1)):=by
 rw[sM hi];refine iP fun j hj=>?_;unfold lV;by_cases h1:j=i
 .rw [if_pos h1,if_pos (by omega),h1]
 .rw [if_neg h1];by_cases h2:j<i
  .rw [if_pos h2,if_pos (by omega)]
  .rw [if_neg h2,if_neg (by omega)]
theorem Mi{k i:Nat}(h:mu (jI t L) c g (k+1) i=mu (jI t L) c g k i):dK t.ao.toNat (lV t L c g k i)=dK t.ao.toNat (lV t L c g k (i+1)):=by
 refine iP fun j hj=>?_;unfold lV;by_cases h2:j<i
 .rw [if_pos h2,if_pos (by omega)]
 .rw [if_neg h2];by_cases h1:j=i
  .subst h1;rw[if_pos (by omega),h]
  .rw [if_neg (by omega)]
def V2(t:am)(L:List Nat)(c:Nat->Nat)(g k i:Nat):Bool:=(jI t L i).any fun e=>b9 (jI t L) c i e&&(mu (jI t L) c g k e.1==(k:Int))
theorem Nm{k i:Nat}:mu (jI t L) c g (k+1) i=if mu (jI t L) c g k i=-1/\V2 t L c g k i=true then(k:Int)+1 else mu (jI t L) c g k i:=rfl
theorem TU{k i:Nat}:lV t L c g k i i=mu (jI t L) c g k i:=by unfold lV;rw[if_neg (by omega)]
include hV in
theorem acB{k i:Nat}{s:Sl aM}(hs:s.l=ER t L c i){m:Nat}:cg s (Sl.mk (dK t.ao.toNat (lV t L c g k m))) (k:Int)=some (V2 t L c g k i):=by
 unfold cg cY;have hlen:s.l.length<=8:=by rw[hs];exact bg (jF _ _) (bg (eS _ _) (by simp))
 have:=xO (f:=cP s (Sl.mk (dK t.ao.toNat (lV t L c g k m))) (k:Int)) s.l (fun i x=>if(mu (jI t L) c g k x.To.toNat==(k:Int))=true then some (i:Int)else none) () (by omega) (fun j hj=>by
  have hxm:gt s.l j∈gd t (i:Int):=by have h:=xC hj;generalize gt s.l j=x at h|-;rw[hs]at h;exact(List.mem_filter.1 h).1
  obtain⟨k1,k2,_⟩:=qY hV hxm;simp only[cP];rw[decide_eq_true (by omega),cond_true,Bw hj,aa];generalize gt s.l j=x at*;have hto:x.To.toNat<t.ao.toNat:=by omega
  unfold AG;rw[jX,jy.2 ⟨show aM.To x=((x.To.toNat:Nat):Int)by show x.To=_;omega,by rw[eo];exact hto⟩,aa,jt hto,aa,Zy];cases(mu (jI t L) c g k x.To.toNat==(k:Int))<;>rfl) (by
  simp only[cP];rw[decide_eq_false (by omega),cond_false])
 rw[this,aa];have h2:=TP (p:=fun x:aM=>mu (jI t L) c g k x.To.toNat==(k:Int)) s.l;have h3:s.l.any (fun x:aM=>mu (jI t L) c g k x.To.toNat==(k:Int))=V2 t L c g k i:=by rw[hs,ER,List.any_filter,V2,jI,List.any_map];rfl
 rw[h3]at h2;rw[<-h2];cases lE (fun(i:Nat)(x:aM)=>if(mu (jI t L) c g k x.To.toNat==(k:Int))=true then some (i:Int)else none) s.l 0<;>rfl
include hV hL hn hc in
theorem U4{k:Nat}(hk:k<1000){z:Sl Int}(hz:z.l.length=t.ao.toNat):aJ (lL t (f9 L) (Sl.mk (dK t.ao.toNat c)) (k:Int) z) (0,Sl.mk (dK t.ao.toNat (mu (jI t L) c g k)))=some (Sl.mk (dK t.ao.toNat (mu (jI t L) c g (k+1)))):=by
 have h8:=rA hV
 have:=Q7 (f:=lL t (f9 L) (Sl.mk (dK t.ao.toNat c)) (k:Int) z) (fun i:Nat=>((i:Int),Sl.mk (dK t.ao.toNat (lV t L c g k i)))) t.ao.toNat (b:=Sl.mk (dK t.ao.toNat (mu (jI t L) c g (k+1)))) (fun i hi=>by
  obtain⟨s,s1,s2⟩:=LH hV hL hn hc hi;have hr:=yc (E:=jI t L) (c:=c) (g:=g) k i;simp only[lL];rw[hz,decide_eq_true (by omega),cond_true,jX,Bw (by rw[eo];exact hi),aa,jt hi,TU];by_cases h1:mu (jI t L) c g k i=-1
  .rw [decide_eq_true (show mu (jI t L) c g k i<0 by omega),cond_true,s1,aa,acB hV s2,aa,aa];cases hh:V2 t L c g k i with
   |true=>
    have h2:mu (jI t L) c g (k+1) i=((k+1:Nat):Int):=by rw[Nm,if_pos ⟨h1,hh⟩];rfl
    rw[cond_true,aa,aa,Fp (by omega),Fp (by omega),<-h2,Mh hi]
   |false=>rw[cond_false,aa,Fp (by omega),Mi (by rw[Nm,if_neg (by rw[hh];simp)])]
  .rw [decide_eq_false (show¬mu (jI t L) c g k i<0 by omega),cond_false,aa,cond_false,aa,Fp (by omega),Mi (F6 h1)]) (by
  simp only[lL];rw[hz,decide_eq_false (by omega),cond_false];congr 2;exact congrArg Sl.mk (iP fun j hj=>if_pos hj))
 have e0:dK t.ao.toNat (lV t L c g k 0)=dK t.ao.toNat (mu (jI t L) c g k):=iP fun j _=>if_neg (by omega);rw[e0]at this;exact this
include hV hL hn hc in
theorem Q9:∃K:Nat,aJ (j_ t (f9 L) (Sl.mk (dK t.ao.toNat c))) (0,Sl.mk (dK t.ao.toNat (mu (jI t L) c g 0)))=some (Sl.mk (dK t.ao.toNat (mu (jI t L) c g K)))/\∀i,i<t.ao.toNat->mu (jI t L) c g K i≠(K:Int):=by
 have h8:=rA hV;have hE:=Ge hV L
 have key:∀(d k:Nat),k+d=t.ao.toNat->∃K:Nat,aJ (j_ t (f9 L) (Sl.mk (dK t.ao.toNat c))) ((k:Int),Sl.mk (dK t.ao.toNat (mu (jI t L) c g k)))=some (Sl.mk (dK t.ao.toNat (mu (jI t L) c g K)))/\∀i,i<t.ao.toNat->mu (jI t L) c g K i≠(K:Int):=by
  intro d;induction d with
  |zero=>
   intro k hk;have hno:∀i,i<t.ao.toNat->mu (jI t L) c g k i≠(k:Int):=fun i hi=>by have:=Ze (c:=c) (g:=g) hE k hi;omega
   refine⟨k,bW ?_,hno⟩;simp only[j_];rw[yj (by rw[jX,eo];omega),aa,jX];have:(dK t.ao.toNat (mu (jI t L) c g k)).any (fun x=>(k:Int)==x)=false:=by rw[vw];intro x hx;obtain⟨i,hi,rfl⟩:=aR.1 hx;have:=hno i (ct.1 hi);simp;omega
   rw[this,cond_false]
  |succ d ih=>
   intro k hk;by_cases hno:∀i,i<t.ao.toNat->mu (jI t L) c g k i≠(k:Int)
   .refine ⟨k,bW ?_,hno⟩;simp only[j_];rw[yj (by rw[jX,eo];omega),aa,jX];have:(dK t.ao.toNat (mu (jI t L) c g k)).any (fun x=>(k:Int)==x)=false:=by rw[vw];intro x hx;obtain⟨i,hi,rfl⟩:=aR.1 hx;have:=hno i (ct.1 hi);simp;omega
    rw[this,cond_false]
   .obtain ⟨K,i1,i2⟩:=ih (k+1) (by omega);refine⟨K,(dD (a':=(((k+1:Nat):Int),Sl.mk (dK t.ao.toNat (mu (jI t L) c g (k+1))))) ?_).trans i1,i2⟩;simp only[j_];rw[yj (by rw[jX,eo];omega),aa,jX];have:(dK t.ao.toNat (mu (jI t L) c g k)).any (fun x=>(k:Int)==x)=true:=by rw[List.any_eq_true];have⟨i,hi⟩:=Classical.not_forall.1 hno;have hi1:i<t.ao.toNat:=ru fun h=>hi fun q=>absurd q h;have hi2:mu (jI t L) c g k i=(k:Int):=ru fun h=>hi fun _=>h;exact⟨_,aR.2 ⟨i,ct.2 hi1,rfl⟩,by rw[hi2];simp⟩
    rw[this,cond_true,U4 hV hL hn hc (by omega) (by rw[jX,eo]),aa,Fp (by omega)]
 exact key t.ao.toNat 0 (by omega)
end
end Go.Proofs.YtoekkpmeeclpeaaGreat.S
