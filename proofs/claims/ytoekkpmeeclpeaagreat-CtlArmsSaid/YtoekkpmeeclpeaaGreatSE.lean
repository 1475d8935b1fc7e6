/- Costs: what both lay. Conditions: a topology and weights that may be. -/
import Derived.Test.YtoekkpmeeclpeaaGreatSC
open Bool renaming true_and->lX
open Classical renaming byContradiction->nz
open List renaming all_eq_true->cm,any_eq_false->pR,append_nil->bo,ext_getElem->gq,length_append->aA,length_filterMap_le->g9,length_filter_le->me,length_range->dD,length_replicate->bp,map_congr_left->eX,map_map->jV,mem_map->aL,mem_range->cI,range->aK,replicate->ay
open Nat renaming le_refl->aq,le_trans->bg
open Option renaming bind_some->ad
open Option.some renaming inj->ac
open Go.Ev Go Go.Fl Go.Ways
namespace Go.Proofs.YtoekkpmeeclpeaaGreat.S
theorem Xj(s:Sl Int)(a b:Int)(c:Sl Nat):bQ s a b c=TZ (fun x y=>gw x y c) s a b:=rfl
theorem MS{lt:Int->Int->Bool}{P:Int->Prop}{c:Sl Nat}(hs:Oq lt)(hC:Ye (fun x y=>gw x y c) lt P){l:List Int}(hn:l.length<=8)(hP:∀x∈l,P x):
  ∃M,bZ (Sl.mk l) c=some (Sl.mk M)/\M.length=l.length/\Fw lt M/\pM lt M l:=by
 obtain⟨M,m1,m2,m3,m4⟩:=Fh hs hC (a:=0) (b:=l.length) (X:=[]) (L:=l) (Y:=[]) rfl (by omega) (by omega) hP;refine⟨M,?_,m2,m3,m4⟩;simp only[List.nil_append,bo]at m1;unfold bZ c_;have h1:aU (cQ (((Sl.mk l).l.length:Nat):Int) c) (0,20,Sl.mk l)=some (0,Sl.mk l):=cM (by unfold cQ;simp only[];rw[lH,decide_eq_false (by omega),cond_false]);have h3:aU (cP (((Sl.mk l).l.length:Nat):Int)) 20=some ():=cM (by unfold cP;rw[lH,decide_eq_false (by omega),cond_false]);have m1':TZ (fun x y=>gw x y c) (Sl.mk l) 0 (((Sl.mk l).l.length:Nat):Int)=some (Sl.mk M):=m1;rw[h1,ad];simp only[Xj];rw[m1',ad,TS (by simpa using m2),ad,h3,ad,ad,TS (by simpa using m2),ad]
theorem M1{α:Type}[DecidableEq α]{lt:α->α->Bool}(hs:Oq lt){a b:List α}(h:pM lt a b):a.Perm b:=by rw[List.perm_iff_count];intro x;have e:∀l:List α,List.count x (l.filter (D7 lt x))=List.count x l:=fun l=>List.count_filter (DO hs x);rw[<-e a,<-e b,h x]
def ltC(out:Nat->Nat)(a b:Int):Bool:=decide (out a.toNat<out b.toNat)
theorem LK(out:Nat->Nat):Oq (ltC out):=⟨fun x=>decide_eq_false (by omega),fun x y z h1 h2=>by
 have h1:=of_decide_eq_true h1;have h2:=of_decide_eq_true h2;exact decide_eq_true (by omega),fun x y z h1 h2=>by
 have h1:=of_decide_eq_false h1;have h2:=of_decide_eq_false h2;exact decide_eq_false (by omega)⟩
theorem Hy{a:Nat}(h:a<=wx):gU a=9223372036854775808+a:=by have h:a<=D.infRung:=h;have h2:=h;rw[wn]at h2;exact wQ (qt (uU h)) (by omega)
theorem Te{n:Nat}{out:Nat->Nat}(hb:∀i,i<n->out i<=wx):Ye (fun x y=>gw x y (Sl.mk (eO n out))) (ltC out) (fun x=>0<=x/\x<n):=fun x y hx hy=>by
 obtain⟨a,rfl⟩:∃a:Nat,x=a:=⟨x.toNat,by omega⟩
 obtain⟨b,rfl⟩:∃b:Nat,y=b:=⟨y.toNat,by omega⟩
 have ha:a<n:=by omega
 have hbn:b<n:=by omega
 have w1:=yB (uU (hb a ha));have w2:=yB (uU (hb b hbn));refine⟨Eb (gU (out a)) (gU (out b)),?_,?_⟩
 .show gw (a:Int) (b:Int) (Sl.mk (eO n out))=_;unfold gw;rw[lH,AX (by rw[f_];exact ha),ad,AX (by rw[f_];exact hbn),ad,mK ha,mK hbn,UI w1 w2];rfl
 .unfold ltC;rw[Hy (hb a ha),Hy (hb b hbn)];have e1:((a:Nat):Int).toNat=a:=by omega
  have e2:((b:Nat):Int).toNat=b:=by omega
  rw[e1,e2];rcases Nat.lt_trichotomy (out a) (out b)with h|h|h
  .rw [vp (by omega),decide_eq_true h];rfl
  .rw [Ch (by omega),decide_eq_false (show¬out a<out b by omega)];rfl
  .rw [vq (by omega),decide_eq_false (show¬out a<out b by omega)];rfl
theorem J4{t:ao}{L:List Nat}(h:Ti t L=true):fB t/\L.length=t.aZ.l.length/\(∀x∈L,nn x)/\L.map jf=L:=by unfold Ti at h;simp only[Bool.and_eq_true,decide_eq_true_eq,beq_iff_eq]at h;have h3:∀x∈L,nn x:=fun x hx=>xB.1 (cm.1 h.2.2 x hx);refine⟨h.1,h.2.1,h3,?_⟩;have:L.map jf=L.map id:=eX fun x hx=>xi (qt (h3 x hx));rw[this,List.map_id]
section
variable{t:ao}{L:List Nat}(hV:fB t)(hL:L.length=t.aZ.l.length)(hn:∀x∈L,nn x)
theorem ug(hV:fB t):t.au=((t.au.toNat:Nat):Int)/\1<=t.au.toNat/\t.au.toNat<=8:=by have:=hV.sw;omega
abbrev ed(L:List Nat)(x:aD):Nat×Nat:=(x.To.toNat,wt L x.qH)
include hV hL hn in
theorem O3{cw:Nat}(ha:cw<t.au.toNat){out:Nat->Nat}(hb:∀i,i<t.au.toNat->out i<=wx){M:List Nat}(hM:gt M 0=cw)(hMl:0<M.length){r:Sl aD}(hr:r.l=f9 t (cw:Int)):
  aU (kE (gk L) 0 (Sl.mk (nX M)) r) (0,Sl.mk (eO t.au.toNat out))=some (Sl.mk (eO t.au.toNat (tz (mQ t L) out cw ((f9 t (cw:Int)).map (ed L)).reverse))):=by
 have hWl:(gk L).l=L:=vm L;have hlen8:r.l.length<=8:=by rw[hr];exact bg (g9 _ _) (by simp)
 have key:∀(R A:List aD),r.l=A++R->aU (kE (gk L) 0 (Sl.mk (nX M)) r) ((A.length:Int),Sl.mk (eO t.au.toNat (tz (mQ t L) out cw (A.map (ed L)).reverse)))=some (Sl.mk (eO t.au.toNat (tz (mQ t L) out cw (r.l.map (ed L)).reverse))):=by
  intro R;induction R with
  |nil=>
   intro A e;have e:r.l=A:=by rw[e,bo]
   refine(cM ?_).trans (by rw[e]);simp only[kE];rw[e,decide_eq_false (by omega),cond_false]
  |cons x R ih=>
   intro A e;have hi:A.length<r.l.length:=by rw[e];simp
   have hx:gt r.l A.length=x:=by rw[e];exact Fk
   have hxm:x∈f9 t (cw:Int):=by rw[<-hr,e];simp
   obtain⟨k1,k2,k3,k4,k5⟩:=rQ hV hxm;have hto:x.To.toNat<t.au.toNat:=by omega
   have hlk:x.qH.toNat<L.length:=by omega
   have hall:∀q∈A,q∈f9 t (cw:Int):=fun q hq=>by rw[<-hr,e];exact List.mem_append_left _ hq
   generalize hf:tz (mQ t L) out cw (A.map (ed L)).reverse=f;have fb:∀i,i<t.au.toNat->f i<=wx:=fun i hi2=>by rw[<-hf];exact bg (vk _ i).1 (hb i hi2)
   have fat:f cw=out cw:=by
    rw[<-hf];rcases tL (E:=mQ t L) (out:=out) (cw:=cw) (A.map (ed L)).reverse cw with h|⟨q,hq,h2,_⟩
    .exact h
    .obtain ⟨y,hy,rfl⟩:=aL.1 (List.mem_reverse.1 hq);have:=rQ hV (hall y hy);have h2:y.To.toNat=cw:=h2;omega
   refine(fu (a':=(((A++[x]).length:Int),Sl.mk (eO t.au.toNat (tz (mQ t L) out cw ((A++[x]).map (ed L)).reverse)))) ?_).trans (ih (A++[x]) (by rw[e];simp));have i1:cD x.To (eO t.au.toNat f).length=some x.To.toNat:=mJ.2 ⟨by omega,by rw[f_];exact hto⟩;have i2:cD x.qH L.length=some x.qH.toNat:=mJ.2 ⟨by omega,hlk⟩;have i3:cD (cw:Int) (eO t.au.toNat f).length=some cw:=AX (by rw[f_];exact ha);have g0:gt (nX M) 0=(cw:Int):=by rw[LY hMl,hM]
   simp only[kE];rw[decide_eq_true (by omega),cond_true,AX hi,ad,hx,lH,i1,ad,hWl,i2,ad,lH,g0,i3,ad,mK ha,Ht (hn _ (w9 hlk)) (fb cw ha),ad,ad,mK hto,TN (fb _ hto) XY,tO hto,K6 (by omega),aA];congr 4;refine ii fun j hj=>?_;rw[List.map_append,List.reverse_append];show(if j=x.To.toNat then _ else _)=if j=x.To.toNat then min (tz (mQ t L) out cw (A.map (ed L)).reverse j) (P (wt L x.qH) (out cw))else tz (mQ t L) out cw (A.map (ed L)).reverse j;rw[hf];by_cases hc:j=x.To.toNat
   .rw [if_pos hc,if_pos hc,hc,fat];rfl
   .rw [if_neg hc,if_neg hc]
 rw[hr]at key;exact key _ [] rfl
theorem IQ{n g:Nat}{E:Nat->List (Nat×Nat)}{cl op op':List Nat}{out:Nat->Nat}(h:Oy n g E cl op out)(hp:op'.Perm op):Oy n g E cl op' out:=⟨(hp.append_left cl).trans h.JR,h.tn,h.g0,h.OC,h.sub,fun c hc o ho=>h.Vu c hc o (hp.mem_iff.1 ho),h.GU⟩
include hV hL hn in
theorem L_{g:Nat}:∀(k:Nat)(op cl:List Nat)(out:Nat->Nat),op.length=k->Oy t.au.toNat g (mQ t L) cl op out->
  ∃cl' out',aU (kD t (gk L)) (Sl.mk (nX op),Sl.mk (eO t.au.toNat out))=some (Sl.mk (eO t.au.toNat out'))/\Oy t.au.toNat g (mQ t L) cl' [] out'
 |0,op,cl,out,hk,h=>by obtain rfl:op=[]:=List.length_eq_zero_iff.1 hk;refine⟨cl,out,cM ?_,h⟩;simp only[kD];rfl
 |k+1,op,cl,out,hk,h=>by
  have hmem:∀x∈op,x<t.au.toNat:=fun x hx=>cI.1 (h.JR.mem_iff.1 (List.mem_append_right _ hx));have hol:(nX op).length=k+1:=by rw[List.length_map,hk]
  have hk8:k+1<=8:=by have:=h.JR.length_eq;rw[aA,dD]at this;have:=ug hV;omega
  obtain⟨M,m1,m2,m3,m4⟩:=MS (LK out) (Te h.tn) (l:=nX op) (by omega) (fun x hx=>by obtain⟨y,hy,rfl⟩:=aL.1 hx;have:=hmem y hy;omega);have hperm:=M1 (LK out) m4
  obtain⟨M',hM',hp'⟩:∃M':List Nat,M=nX M'/\M'.Perm op:=by
   refine⟨M.map Int.toNat,?_,?_⟩
   .rw [nX,jV];refine(List.map_id M).symm.trans (eX fun x hx=>?_);obtain⟨y,hy,rfl⟩:=aL.1 (hperm.mem_iff.1 hx);show((y:Nat):Int)=((((y:Nat):Int).toNat:Nat):Int)
    omega
   .refine (hperm.map Int.toNat).trans ?_;rw[jV];refine List.Perm.of_eq ((eX fun x _=>?_).trans (List.map_id op));show((x:Nat):Int).toNat=x;omega
  subst hM'
  match M',hp' with
  |[],hp'=>rw[<-hp'.length_eq]at hk;cases hk
  |cw::bh,hp'=>
   have h2:=IQ h hp'
   have hmin:∀o∈bh,out cw<=out o:=fun o ho=>by
    have h3:=(List.pairwise_cons.1 m3).1 (o:Int) (aL.2 ⟨o,ho,rfl⟩);have h4:¬out ((o:Nat):Int).toNat<out ((cw:Nat):Int).toNat:=of_decide_eq_false h3;have e1:((o:Nat):Int).toNat=o:=by omega
    have e2:((cw:Nat):Int).toNat=cw:=by omega
    rw[e1,e2]at h4;omega
   have hat:cw<t.au.toNat:=hmem cw (hp'.mem_iff.1 List.mem_cons_self);obtain⟨r,r1,r2⟩:=Dc hV (cw:Int);have h5:=h2.gM (zU hV L) hmin (l:=((f9 t (cw:Int)).map (ed L)).reverse) (fun e=>List.mem_reverse);have hrl:bh.length=k:=by have:=hp'.length_eq;rw[List.length_cons,hk]at this;omega
   obtain⟨cl',out',j1,j2⟩:=L_ k bh _ _ hrl h5;refine⟨cl',out',(fu (a':=(Sl.mk (nX bh),Sl.mk (eO t.au.toNat (tz (mQ t L) out cw ((f9 t (cw:Int)).map (ed L)).reverse)))) ?_).trans j1,j2⟩;have htr:=O3 hV hL hn hat h.tn (M:=cw::bh) rfl (by simp) r2;simp only[kD];have z0:cD 0 (nX (cw::bh)).length=some 0:=AX (n:=0) (by simp)
   have c1:nD (nX (cw::bh)) 1 ((nX (cw::bh)).length:Int)=some (nX bh):=by
    unfold nD;rw[if_pos ⟨by omega,by simp;omega,Int.le_refl _⟩];have e1:(1:Int).toNat=1:=rfl;have e2:(((nX (cw::bh)).length:Nat):Int).toNat=bh.length+1:=by simp
    rw[e1,e2];show some ((nX bh).take (bh.length+1-1))=_;rw[List.take_of_length_le (by simp)]
   have g0:gt (nX (cw::bh)) 0=(cw:Int):=rfl;rw[lH,decide_eq_true (by omega),cond_true,m1,ad,TS (by rw[m2]),ad];simp only[lH];rw[z0,ad,c1,ad,g0,r1,ad,htr,ad];rfl
include hV hL hn in
theorem KI{g:Nat}(hg:g<t.au.toNat):∃cl out,jI t (gk L) (g:Int)=some (Sl.mk (eO t.au.toNat out))/\Oy t.au.toNat g (mQ t L) cl [] out:=by
 obtain⟨s1,s2,s3⟩:=ug hV;have hok:Ti t L=true:=by unfold Ti;rw[decide_eq_true hV,lX,hL,beq_self_eq_true,lX];exact cm.2 fun x hx=>xB.2 (hn x hx)
 have hr:=AL (t:=t) (L:=L) (fun x hx=>yB (hn x hx)) (by have:=hV.Fa;omega);rw[(J4 hok).2.2.2,hok]at hr;unfold jI;have hinf:uX 1=some wx:=rfl;have hrep:=PI (x:=wx) s2 s3;rw[<-s1]at hrep;have hm:yT (0:Int) t.au t.au=some (ay t.au.toNat 0):=by unfold yT;rw[if_pos (by omega)]
 have hguard:(((!true)||(decide ((g:Int)<0)))||(decide ((g:Int)>=(ao.au t))))=false:=by rw[decide_eq_false (show¬(g:Int)<0 by omega),decide_eq_false (show¬(g:Int)>=t.au by omega)];rfl
 have e1:ay t.au.toNat wx=eO t.au.toNat (fun _=>wx):=by refine gq (by simp[eO]) fun j h1 h2=>by simp[eO]
 have hL1:aU (kF (ay t.au.toNat 0)) (0,Sl.mk (ay t.au.toNat 0))=some (Sl.mk (nX (aK t.au.toNat))):=by
  have:=SS (f:=kF (ay t.au.toNat 0)) (fun i:Nat=>((i:Int),Sl.mk (eO t.au.toNat fun j=>if j<i then(j:Int)else 0))) t.au.toNat (b:=Sl.mk (nX (aK t.au.toNat))) (fun i hi=>by
   simp only[kF];rw[bp,decide_eq_true (by omega),cond_true,lH,AX (by rw[f_];exact hi),ad,tO hi,K6 (by omega)];congr 4;refine ii fun j hj=>?_;by_cases h1:j=i
   .rw [if_pos h1,if_pos (by omega),h1]
   .by_cases h2:j<i
    .rw [if_neg h1,if_pos h2,if_pos (by omega)]
    .rw [if_neg h1,if_neg h2,if_neg (by omega)]) (by
   simp only[kF];rw[bp,decide_eq_false (by omega),cond_false];congr 2;exact congrArg Sl.mk (ii (g:=fun j:Nat=>(j:Int)) fun j hj=>if_pos hj))
  have e0:(eO t.au.toNat fun j=>if j<0 then((j:Nat):Int)else 0)=ay t.au.toNat 0:=by refine gq (by simp[eO]) fun j h1 h2=>by simp[eO]
  rw[e0]at this;exact this
 obtain⟨cl,out,d1,d2⟩:=L_ hV hL hn (g:=g) t.au.toNat (aK t.au.toNat) [] _ (dD) (Oy.ER hg);refine⟨cl,out,?_,d2⟩;rw[hr,ad,hguard,cond_false,hinf,ad,hrep,ad,lH,AX (by rw[bp];exact hg),ad,hm,ad,hL1,ad,e1,tO hg,d1];rfl
end
end Go.Proofs.YtoekkpmeeclpeaaGreat.S
open Go.Ev Go Go.Fl Go.Ways
namespace Go.Proofs.YtoekkpmeeclpeaaGreat.S
theorem LS{α:Type}{p:α->Bool}(l:List α):decide ((match lF (fun(i:Nat)x=>if p x then some (i:Int)else none) l 0 with|some b=>b|none=>(-1:Int))>=0)=l.any p:=by
 have h3:=yq (p:=p) (g:=fun i=>(i:Int)) l 0;rw[<-h3];cases hsc:lF (fun(i:Nat)x=>if p x then some (i:Int)else none) l 0 with
 |none=>rfl
 |some b=>
  obtain⟨j,x,_,h5,_⟩:=m7 hsc;split at h5
  .obtain rfl:=ac h5;exact decide_eq_true (show(((0+j:Nat):Int))>=0 by omega)
  .cases h5
theorem abt{α:Type}[Inhabited α]{f:Int×Sl α->Option ((Int×Sl α)⊕Sl α)}(l:List α)(p:α->Bool)
  (h1:∀(i:Nat)(s:Sl α),i<l.length->s.l.length<=i->f ((i:Int),s)=some (.inl (((i+1:Nat):Int),bif p (gt l i)then Sl.mk (s.l++[gt l i])else s)))
  (h2:∀s:Sl α,f ((l.length:Int),s)=some (.inr s)):∃s,aU f (0,Sl.nil)=some s/\s.l=l.filter p:=by
 have key:∀(R O:List α)(s:Sl α),l=O++R->s.l=O.filter p->∃s',aU f ((O.length:Int),s)=some s'/\s'.l=l.filter p:=by
  intro R;induction R with
  |nil=>
   intro O s e hs;have e:l=O:=by rw[e,bo]
   subst e;exact⟨s,cM (h2 _),hs⟩
  |cons x R ih=>
   intro O s e hs;have hx:gt l O.length=x:=by rw[e];exact Fk
   have h:=h1 O.length s (by rw[e];simp) (by rw[hs];exact me _ _);rw[hx]at h;obtain⟨s',i1,i2⟩:=ih (O++[x]) (bif p x then Sl.mk (s.l++[x])else s) (by rw[e];simp) (by rw[List.filter_append,<-hs];cases hp:p x<;>simp[hp,lH]);rw[aA]at i1;exact⟨s',(fu h).trans i1,i2⟩
 exact key l [] Sl.nil rfl rfl
theorem sc{s:Sl Int}(hb:s.l.length<9223372036854775807)(v:Int):bJ s v=some (s.l.any fun x=>v==x):=by
 unfold bJ fx
 have:=x5 (f:=cG s v) s.l (fun i x=>if(v==x)=true then some (i:Int)else none) () (by omega) (fun i hi=>by
  simp only[cG];rw[decide_eq_true (by omega),cond_true,AX hi,ad];cases v==gt s.l i<;>rfl) (by
  simp only[cG];rw[decide_eq_false (by omega),cond_false])
 rw[this,ad,<-LS];cases lF (fun(i:Nat)x=>if(v==x)=true then some (i:Int)else none) s.l 0<;>rfl
section
variable{t:ao}{L:List Nat}(hV:fB t)(hL:L.length=t.aZ.l.length)(hn:∀x∈L,nn x){c:Nat->Nat}(hc:∀i,i<t.au.toNat->c i<=wx)
include hn in
theorem Wk{k:Int}(h0:0<=k)(h1:k<L.length):wE (gk L) k=some (decide (wt L k<wx)):=by
 unfold wE;have hWl:(gk L).l=L:=vm L;have hk:k.toNat<L.length:=by omega
 have hinf:uX 1=some wx:=rfl;have hw:=hn _ (w9 (l:=L) hk);rw[hWl,decide_eq_true (show k>=0 by omega),decide_eq_true (show k<(L.length:Int)by omega),Bool.and_self,cond_true,mJ.2 ⟨show k=((k.toNat:Nat):Int)by omega,hk⟩,ad,hinf,ad,ad];congr 1;have hi:nn wx:=uU (aq _);rw[Kz (oX (yB hw) (qt hw)) (oX (yB hi) (qt hi)),Bw hw,Bw hi,wl (aq _)];exact decide_eq_decide.2 (by show((wt L k:Nat):Int)<((wx:Nat):Int)<->_;omega)
def yz(t:ao)(L:List Nat)(c:Nat->Nat)(i:Nat):List aD:=(f9 t (i:Int)).filter fun x=>pp (mQ t L) c i (ed L x)
include hV hL hn hc in
theorem EQ{i:Nat}(hi:i<t.au.toNat):∃s,mD t (gk L) (Sl.mk (eO t.au.toNat c)) (i:Int)=some s/\s.l=yz t L c i:=by
 unfold mD;have hci:=hc i hi;have hcn:nn (c i):=uU hci;rw[lH,AX (by rw[f_];exact hi),ad,mK hi,LR (yB hcn) (qt hcn),ad];have hinf:wx=9218868437227405312:=wn;by_cases h1:c i=wx
 .have:(c i==9218868437227405312)=true:=by rw[h1,hinf];rfl
  rw[this,cond_true];refine⟨Sl.nil,rfl,?_⟩;symm;refine List.filter_eq_nil_iff.2 fun x _=>?_;unfold pp;rw[decide_eq_false (by omega)];simp
 .have:(c i==9218868437227405312)=false:=by rw[beq_eq_false_iff_ne,<-hinf];exact h1
  rw[this,cond_false];obtain⟨r,r1,r2⟩:=Dc hV (i:Int);rw[r1,ad];have hWl:(gk L).l=L:=vm L;have hlen8:r.l.length<=8:=by rw[r2];exact bg (g9 _ _) (by simp)
  obtain⟨s,s1,s2⟩:=abt (f:=mC (gk L) (Sl.mk (eO t.au.toNat c)) (i:Int) r) r.l (fun x=>pp (mQ t L) c i (ed L x)) (fun j s hj hsl=>by
   have hxm:gt r.l j∈f9 t (i:Int):=by rw[<-r2];exact w9 hj
   obtain⟨k1,k2,k3,k4,k5⟩:=rQ hV hxm;simp only[mC];rw[decide_eq_true (by omega),cond_true,AX hj,ad];generalize gt r.l j=x at*;have hto:x.To.toNat<t.au.toNat:=by omega
   have hlk:x.qH.toNat<L.length:=by omega
   have hup:=Wk hn (k:=x.qH) k4 (by omega);have hcond:((wE (gk L) (aD.qH x)).bind fun r10=>
 bif r10 then((cD (aD.qH x) (gk L).l.length).bind fun n11=>
 (cD (aD.To x) (Sl.mk (eO t.au.toNat c)).l.length).bind fun n12=>
 (qB (gt (gk L).l n11) (gt (Sl.mk (eO t.au.toNat c)).l n12)).bind fun r13=>
 (cD (i:Int) (Sl.mk (eO t.au.toNat c)).l.length).bind fun n14=>
 some (IH .f64 r13 (gt (Sl.mk (eO t.au.toNat c)).l n14)))else
 (some false):Option Bool)=some (pp (mQ t L) c i (ed L x)):=by
       rw[hup,ad];unfold pp;rw[decide_eq_true (show c i<wx by omega),lX];show(bif decide (wt L x.qH<wx)then _ else _)=some (decide (wt L x.qH<wx)&&(P (wt L x.qH) (c x.To.toNat)==c i));cases decide (wt L x.qH<wx)with
       |false=>rfl
       |true=>
        rw[cond_true,hWl,mJ.2 ⟨show x.qH=((x.qH.toNat:Nat):Int)by omega,hlk⟩,ad,lH,mJ.2 ⟨show x.To=((x.To.toNat:Nat):Int)by omega,by rw[f_];exact hto⟩,ad,mK hto,Ht (hn _ (w9 hlk)) (hc _ hto),ad,AX (by rw[f_];exact hi),ad,mK hi];have hp:nn (P (ab (gt L x.qH.toNat)) (c x.To.toNat)):=uU XY;rw[Dz (oX (yB hp) (qt hp)) (oX (yB hcn) (qt hcn)),Bw hp,Bw hcn,wl XY,wl hci];rw[lX];show some (decide (((P (wt L x.qH) (c x.To.toNat):Nat):Int)=((c i:Nat):Int)))=_;congr 1;rw[<-abL];by_cases h:((P (wt L x.qH) (c x.To.toNat):Nat):Int)=((c i:Nat):Int)
        .rw [decide_eq_true h,h];simp
        .rw [decide_eq_false h,beq_eq_false_iff_ne.2 h]
   rw[hcond,ad];cases hb:pp (mQ t L) c i (ed L x)with|true=>rw[cond_true,u_.2 ⟨rfl,by rw[aA];simp;omega⟩,ad,ad,K6 (by omega)];rfl|false=>rw[cond_false,ad,K6 (by omega)];rfl) (fun s=>by
   simp only[mC];rw[decide_eq_false (by omega),cond_false])
  rw[s1];exact⟨s,rfl,by rw[s2,r2];rfl⟩
variable{g:Nat}
def tV(t:ao)(L:List Nat)(c:Nat->Nat)(g k i j:Nat):Int:=if j<i then mi (mQ t L) c g (k+1) j else mi (mQ t L) c g k j
theorem Xl{k i j:Nat}:(tV t L c g k i j==(k:Int))=(mi (mQ t L) c g k j==(k:Int)):=by
 unfold tV;split
 .have h1:=vJ (E:=mQ t L) (c:=c) (g:=g) k j;by_cases h2:mi (mQ t L) c g k j=-1
  .rw [h2];have h3:((-1:Int)==(k:Int))=false:=by rw[beq_eq_false_iff_ne];omega
   rw[h3,beq_eq_false_iff_ne];simp only[mi];split
   .omega
   .rw [h2];omega
  .rw [zN h2]
 .rfl
theorem NY{k i:Nat}(hi:i<t.au.toNat):(eO t.au.toNat (tV t L c g k i)).set i (mi (mQ t L) c g (k+1) i)=eO t.au.toNat (tV t L c g k (i+1)):=by
 rw[tO hi];refine ii fun j hj=>?_;unfold tV;by_cases h1:j=i
 .rw [if_pos h1,if_pos (by omega),h1]
 .rw [if_neg h1];by_cases h2:j<i
  .rw [if_pos h2,if_pos (by omega)]
  .rw [if_neg h2,if_neg (by omega)]
theorem Fj{k i:Nat}(h:mi (mQ t L) c g (k+1) i=mi (mQ t L) c g k i):eO t.au.toNat (tV t L c g k i)=eO t.au.toNat (tV t L c g k (i+1)):=by
 refine ii fun j hj=>?_;unfold tV;by_cases h2:j<i
 .rw [if_pos h2,if_pos (by omega)]
 .rw [if_neg h2];by_cases h1:j=i
  .subst h1;rw[if_pos (by omega),h]
  .rw [if_neg (by omega)]
def QU(t:ao)(L:List Nat)(c:Nat->Nat)(g k i:Nat):Bool:=(mQ t L i).any fun e=>pp (mQ t L) c i e&&(mi (mQ t L) c g k e.1==(k:Int))
theorem LM{k i:Nat}:mi (mQ t L) c g (k+1) i=if mi (mQ t L) c g k i=-1/\QU t L c g k i=true then(k:Int)+1 else mi (mQ t L) c g k i:=rfl
theorem T9{k i:Nat}:tV t L c g k i i=mi (mQ t L) c g k i:=by unfold tV;rw[if_neg (by omega)]
include hV in
theorem T8{k i:Nat}{s:Sl aD}(hs:s.l=yz t L c i){m:Nat}:br s (Sl.mk (eO t.au.toNat (tV t L c g k m))) (k:Int)=some (QU t L c g k i):=by
 unfold br bW;have hlen:s.l.length<=8:=by rw[hs];exact bg (me _ _) (bg (g9 _ _) (by simp))
 have:=x5 (f:=bO s (Sl.mk (eO t.au.toNat (tV t L c g k m))) (k:Int)) s.l (fun i x=>if(mi (mQ t L) c g k x.To.toNat==(k:Int))=true then some (i:Int)else none) () (by omega) (fun j hj=>by
  have hxm:gt s.l j∈f9 t (i:Int):=by have h:=w9 hj;generalize gt s.l j=x at h|-;rw[hs]at h;exact(List.mem_filter.1 h).1
  obtain⟨k1,k2,_⟩:=rQ hV hxm;simp only[bO];rw[decide_eq_true (by omega),cond_true,AX hj,ad];generalize gt s.l j=x at*;have hto:x.To.toNat<t.au.toNat:=by omega
  unfold uk;rw[lH,mJ.2 ⟨show aD.To x=((x.To.toNat:Nat):Int)by show x.To=_;omega,by rw[f_];exact hto⟩,ad,mK hto,ad,Xl];cases(mi (mQ t L) c g k x.To.toNat==(k:Int))<;>rfl) (by
  simp only[bO];rw[decide_eq_false (by omega),cond_false])
 rw[this,ad];have h2:=LS (p:=fun x:aD=>mi (mQ t L) c g k x.To.toNat==(k:Int)) s.l;have h3:s.l.any (fun x:aD=>mi (mQ t L) c g k x.To.toNat==(k:Int))=QU t L c g k i:=by rw[hs,yz,List.any_filter,QU,mQ,List.any_map];rfl
 rw[h3]at h2;rw[<-h2];cases lF (fun(i:Nat)(x:aD)=>if(mi (mQ t L) c g k x.To.toNat==(k:Int))=true then some (i:Int)else none) s.l 0<;>rfl
include hV hL hn hc in
theorem M6{k:Nat}(hk:k<1000){z:Sl Int}(hz:z.l.length=t.au.toNat):aU (jc t (gk L) (Sl.mk (eO t.au.toNat c)) (k:Int) z) (0,Sl.mk (eO t.au.toNat (mi (mQ t L) c g k)))=some (Sl.mk (eO t.au.toNat (mi (mQ t L) c g (k+1)))):=by
 have h8:=ug hV
 have:=SS (f:=jc t (gk L) (Sl.mk (eO t.au.toNat c)) (k:Int) z) (fun i:Nat=>((i:Int),Sl.mk (eO t.au.toNat (tV t L c g k i)))) t.au.toNat (b:=Sl.mk (eO t.au.toNat (mi (mQ t L) c g (k+1)))) (fun i hi=>by
  obtain⟨s,s1,s2⟩:=EQ hV hL hn hc hi;have hr:=vJ (E:=mQ t L) (c:=c) (g:=g) k i;simp only[jc];rw[hz,decide_eq_true (by omega),cond_true,lH,AX (by rw[f_];exact hi),ad,mK hi,T9];by_cases h1:mi (mQ t L) c g k i=-1
  .rw [decide_eq_true (show mi (mQ t L) c g k i<0 by omega),cond_true,s1,ad,T8 hV s2,ad,ad];cases hh:QU t L c g k i with
   |true=>
    have h2:mi (mQ t L) c g (k+1) i=((k+1:Nat):Int):=by rw[LM,if_pos ⟨h1,hh⟩];rfl
    rw[cond_true,ad,ad,K6 (by omega),K6 (by omega),<-h2,NY hi]
   |false=>rw[cond_false,ad,K6 (by omega),Fj (by rw[LM,if_neg (by rw[hh];simp)])]
  .rw [decide_eq_false (show¬mi (mQ t L) c g k i<0 by omega),cond_false,ad,cond_false,ad,K6 (by omega),Fj (zN h1)]) (by
  simp only[jc];rw[hz,decide_eq_false (by omega),cond_false];congr 2;exact congrArg Sl.mk (ii fun j hj=>if_pos hj))
 have e0:eO t.au.toNat (tV t L c g k 0)=eO t.au.toNat (mi (mQ t L) c g k):=ii fun j _=>if_neg (by omega);rw[e0]at this;exact this
include hV hL hn hc in
theorem JJ:∃K:Nat,aU (h_ t (gk L) (Sl.mk (eO t.au.toNat c))) (0,Sl.mk (eO t.au.toNat (mi (mQ t L) c g 0)))=some (Sl.mk (eO t.au.toNat (mi (mQ t L) c g K)))/\∀i,i<t.au.toNat->mi (mQ t L) c g K i≠(K:Int):=by
 have h8:=ug hV;have hE:=zU hV L
 have key:∀(d k:Nat),k+d=t.au.toNat->∃K:Nat,aU (h_ t (gk L) (Sl.mk (eO t.au.toNat c))) ((k:Int),Sl.mk (eO t.au.toNat (mi (mQ t L) c g k)))=some (Sl.mk (eO t.au.toNat (mi (mQ t L) c g K)))/\∀i,i<t.au.toNat->mi (mQ t L) c g K i≠(K:Int):=by
  intro d;induction d with
  |zero=>
   intro k hk;have hno:∀i,i<t.au.toNat->mi (mQ t L) c g k i≠(k:Int):=fun i hi=>by have:=QB (c:=c) (g:=g) hE k hi;omega
   refine⟨k,cM ?_,hno⟩;simp only[h_];rw[sc (by rw[lH,f_];omega),ad,lH];have:(eO t.au.toNat (mi (mQ t L) c g k)).any (fun x=>(k:Int)==x)=false:=by rw[pR];intro x hx;obtain⟨i,hi,rfl⟩:=aL.1 hx;have:=hno i (cI.1 hi);simp;omega
   rw[this,cond_false]
  |succ d ih=>
   intro k hk;by_cases hno:∀i,i<t.au.toNat->mi (mQ t L) c g k i≠(k:Int)
   .refine ⟨k,cM ?_,hno⟩;simp only[h_];rw[sc (by rw[lH,f_];omega),ad,lH];have:(eO t.au.toNat (mi (mQ t L) c g k)).any (fun x=>(k:Int)==x)=false:=by rw[pR];intro x hx;obtain⟨i,hi,rfl⟩:=aL.1 hx;have:=hno i (cI.1 hi);simp;omega
    rw[this,cond_false]
   .obtain ⟨K,i1,i2⟩:=ih (k+1) (by omega);refine⟨K,(fu (a':=(((k+1:Nat):Int),Sl.mk (eO t.au.toNat (mi (mQ t L) c g (k+1))))) ?_).trans i1,i2⟩;simp only[h_];rw[sc (by rw[lH,f_];omega),ad,lH];have:(eO t.au.toNat (mi (mQ t L) c g k)).any (fun x=>(k:Int)==x)=true:=by rw[List.any_eq_true];have⟨i,hi⟩:=Classical.not_forall.1 hno;have hi1:i<t.au.toNat:=nz fun h=>hi fun q=>absurd q h;have hi2:mi (mQ t L) c g k i=(k:Int):=nz fun h=>hi fun _=>h;exact⟨_,aL.2 ⟨i,cI.2 hi1,rfl⟩,by rw[hi2];simp⟩
    rw[this,cond_true,M6 hV hL hn hc (by omega) (by rw[lH,f_]),ad,K6 (by omega)]
 exact key t.au.toNat 0 (by omega)
end
end Go.Proofs.YtoekkpmeeclpeaaGreat.S
