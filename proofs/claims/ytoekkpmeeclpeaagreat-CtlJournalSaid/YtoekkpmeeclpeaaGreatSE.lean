/- Costs: what both lay. Conditions: a topology and weights that may be. -/
import Derived.Test.YtoekkpmeeclpeaaGreatSC
open Bool renaming true_and->mG
open Classical renaming byContradiction->oh
open List renaming all_eq_true->cm,any_eq_false->qG,append_nil->br,ext_getElem->gA,length_append->aA,length_filterMap_le->ip,length_range->dH,length_replicate->bo,map_congr_left->e_,map_map->j_,mem_map->aP,mem_range->cM,range->aK,replicate->ay
open Nat renaming le_refl->aq,le_trans->bh
open Option renaming bind_some->af
open Option.some renaming inj->ac
open Go.Ev Go Go.Fl Go.Ways
namespace Go.Proofs.YtoekkpmeeclpeaaGreat.S
theorem XR(s:Sl Int)(a b:Int)(c:Sl Nat):bQ s a b c=UC (fun x y=>gD x y c) s a b:=rfl
theorem Ny{lt:Int->Int->Bool}{P:Int->Prop}{c:Sl Nat}(hs:O5 lt)(hC:YL (fun x y=>gD x y c) lt P){l:List Int}(hn:l.length<=8)(hP:∀x∈l,P x):
  ∃M,bZ (Sl.mk l) c=some (Sl.mk M)/\M.length=l.length/\F7 lt M/\qB lt M l:=by
 obtain⟨M,m1,m2,m3,m4⟩:=FU hs hC (a:=0) (b:=l.length) (X:=[]) (L:=l) (Y:=[]) rfl (by omega) (by omega) hP;refine⟨M,?_,m2,m3,m4⟩;simp only[List.nil_append,br]at m1;unfold bZ de;have h1:aU (cU (((Sl.mk l).l.length:Nat):Int) c) (0,20,Sl.mk l)=some (0,Sl.mk l):=cQ (by unfold cU;simp only[];rw[ma,decide_eq_false (by omega),cond_false]);have h3:aU (cT (((Sl.mk l).l.length:Nat):Int)) 20=some ():=cQ (by unfold cT;rw[ma,decide_eq_false (by omega),cond_false]);have m1':UC (fun x y=>gD x y c) (Sl.mk l) 0 (((Sl.mk l).l.length:Nat):Int)=some (Sl.mk M):=m1;rw[h1,af];simp only[XR];rw[m1',af,Uw (by simpa using m2),af,h3,af,af,Uw (by simpa using m2),af]
theorem NH{α:Type}[DecidableEq α]{lt:α->α->Bool}(hs:O5 lt){a b:List α}(h:qB lt a b):a.Perm b:=by rw[List.perm_iff_count];intro x;have e:∀l:List α,List.count x (l.filter (EM lt x))=List.count x l:=fun l=>List.count_filter (Er hs x);rw[<-e a,<-e b,h x]
def ltC(out:Nat->Nat)(a b:Int):Bool:=decide (out a.toNat<out b.toNat)
theorem Mo(out:Nat->Nat):O5 (ltC out):=⟨fun x=>decide_eq_false (by omega),fun x y z h1 h2=>by
 have h1:=of_decide_eq_true h1;have h2:=of_decide_eq_true h2;exact decide_eq_true (by omega),fun x y z h1 h2=>by
 have h1:=of_decide_eq_false h1;have h2:=of_decide_eq_false h2;exact decide_eq_false (by omega)⟩
theorem It{a:Nat}(h:a<=w7):ic a=9223372036854775808+a:=by have h:a<=D.infRung:=h;have h2:=h;rw[w4]at h2;exact xu (rm (vG h)) (by omega)
theorem TZ{n:Nat}{out:Nat->Nat}(hb:∀i,i<n->out i<=w7):YL (fun x y=>gD x y (Sl.mk (eP n out))) (ltC out) (fun x=>0<=x/\x<n):=fun x y hx hy=>by
 obtain⟨a,rfl⟩:∃a:Nat,x=a:=⟨x.toNat,by omega⟩
 obtain⟨b,rfl⟩:∃b:Nat,y=b:=⟨y.toNat,by omega⟩
 have ha:a<n:=by omega
 have hbn:b<n:=by omega
 have w1:=zt (vG (hb a ha));have w2:=zt (vG (hb b hbn));refine⟨ER (ic (out a)) (ic (out b)),?_,?_⟩
 .show gD (a:Int) (b:Int) (Sl.mk (eP n out))=_;unfold gD;rw[ma,BC (by rw[gl];exact ha),af,BC (by rw[gl];exact hbn),af,nr ha,nr hbn,Vj w1 w2];rfl
 .unfold ltC;rw[It (hb a ha),It (hb b hbn)];have e1:((a:Nat):Int).toNat=a:=by omega
  have e2:((b:Nat):Int).toNat=b:=by omega
  rw[e1,e2];rcases Nat.lt_trichotomy (out a) (out b)with h|h|h
  .rw [wa (by omega),decide_eq_true h];rfl
  .rw [CQ (by omega),decide_eq_false (show¬out a<out b by omega)];rfl
  .rw [wb (by omega),decide_eq_false (show¬out a<out b by omega)];rfl
theorem KH{t:ao}{L:List Nat}(h:T5 t L=true):fF t/\L.length=t.a7.l.length/\(∀x∈L,nn x)/\L.map jy=L:=by unfold T5 at h;simp only[Bool.and_eq_true,decide_eq_true_eq,beq_iff_eq]at h;have h3:∀x∈L,nn x:=fun x hx=>yi.1 (cm.1 h.2.2 x hx);refine⟨h.1,h.2.1,h3,?_⟩;have:L.map jy=L.map id:=e_ fun x hx=>xT (rm (h3 x hx));rw[this,List.map_id]
section
variable{t:ao}{L:List Nat}(hV:fF t)(hL:L.length=t.a7.l.length)(hn:∀x∈L,nn x)
theorem uT(hV:fF t):t.au=((t.au.toNat:Nat):Int)/\1<=t.au.toNat/\t.au.toNat<=8:=by have:=hV.sw;omega
abbrev ed(L:List Nat)(x:aD):Nat×Nat:=(x.To.toNat,wt L x.rF)
include hV hL hn in
theorem PH{cF:Nat}(ha:cF<t.au.toNat){out:Nat->Nat}(hb:∀i,i<t.au.toNat->out i<=w7){M:List Nat}(hM:gt M 0=cF)(hMl:0<M.length){r:Sl aD}(hr:r.l=gj t (cF:Int)):
  aU (kQ (gw L) 0 (Sl.mk (oQ M)) r) (0,Sl.mk (eP t.au.toNat out))=some (Sl.mk (eP t.au.toNat (tE (nz t L) out cF ((gj t (cF:Int)).map (ed L)).reverse))):=by
 have hWl:(gw L).l=L:=v6 L;have hlen8:r.l.length<=8:=by rw[hr];exact bh (ip _ _) (by simp)
 have key:∀(R A:List aD),r.l=A++R->aU (kQ (gw L) 0 (Sl.mk (oQ M)) r) ((A.length:Int),Sl.mk (eP t.au.toNat (tE (nz t L) out cF (A.map (ed L)).reverse)))=some (Sl.mk (eP t.au.toNat (tE (nz t L) out cF (r.l.map (ed L)).reverse))):=by
  intro R;induction R with
  |nil=>
   intro A e;have e:r.l=A:=by rw[e,br]
   refine(cQ ?_).trans (by rw[e]);simp only[kQ];rw[e,decide_eq_false (by omega),cond_false]
  |cons x R ih=>
   intro A e;have hi:A.length<r.l.length:=by rw[e];simp
   have hx:gt r.l A.length=x:=by rw[e];exact FX
   have hxm:x∈gj t (cF:Int):=by rw[<-hr,e];simp
   obtain⟨k1,k2,k3,k4,k5⟩:=sQ hV hxm;have hto:x.To.toNat<t.au.toNat:=by omega
   have hlk:x.rF.toNat<L.length:=by omega
   have hall:∀q∈A,q∈gj t (cF:Int):=fun q hq=>by rw[<-hr,e];exact List.mem_append_left _ hq
   generalize hf:tE (nz t L) out cF (A.map (ed L)).reverse=f;have fb:∀i,i<t.au.toNat->f i<=w7:=fun i hi2=>by rw[<-hf];exact bh (vZ _ i).1 (hb i hi2)
   have fat:f cF=out cF:=by
    rw[<-hf];rcases uz (E:=nz t L) (out:=out) (cF:=cF) (A.map (ed L)).reverse cF with h|⟨q,hq,h2,_⟩
    .exact h
    .obtain ⟨y,hy,rfl⟩:=aP.1 (List.mem_reverse.1 hq);have:=sQ hV (hall y hy);have h2:y.To.toNat=cF:=h2;omega
   refine(fA (a':=(((A++[x]).length:Int),Sl.mk (eP t.au.toNat (tE (nz t L) out cF ((A++[x]).map (ed L)).reverse)))) ?_).trans (ih (A++[x]) (by rw[e];simp));have i1:cH x.To (eP t.au.toNat f).length=some x.To.toNat:=nq.2 ⟨by omega,by rw[gl];exact hto⟩;have i2:cH x.rF L.length=some x.rF.toNat:=nq.2 ⟨by omega,hlk⟩;have i3:cH (cF:Int) (eP t.au.toNat f).length=some cF:=BC (by rw[gl];exact ha);have g0:gt (oQ M) 0=(cF:Int):=by rw[MC hMl,hM]
   simp only[kQ];rw[decide_eq_true (by omega),cond_true,BC hi,af,hx,ma,i1,af,hWl,i2,af,ma,g0,i3,af,nr ha,Im (hn _ (xJ hlk)) (fb cF ha),af,af,nr hto,Ur (fb _ hto) Yu,uC hto,LK (by omega),aA];congr 4;refine iA fun j hj=>?_;rw[List.map_append,List.reverse_append];show(if j=x.To.toNat then _ else _)=if j=x.To.toNat then min (tE (nz t L) out cF (A.map (ed L)).reverse j) (P (wt L x.rF) (out cF))else tE (nz t L) out cF (A.map (ed L)).reverse j;rw[hf];by_cases hc:j=x.To.toNat
   .rw [if_pos hc,if_pos hc,hc,fat];rfl
   .rw [if_neg hc,if_neg hc]
 rw[hr]at key;exact key _ [] rfl
theorem Js{n g:Nat}{E:Nat->List (Nat×Nat)}{cl op op':List Nat}{out:Nat->Nat}(h:Pa n g E cl op out)(hp:op'.Perm op):Pa n g E cl op' out:=⟨(hp.append_left cl).trans h.Kv,h.uh,h.g0,h.Pd,h.sub,fun c hc o ho=>h.V4 c hc o (hp.mem_iff.1 ho),h.HG⟩
include hV hL hn in
theorem MO{g:Nat}:∀(k:Nat)(op cl:List Nat)(out:Nat->Nat),op.length=k->Pa t.au.toNat g (nz t L) cl op out->
  ∃cl' out',aU (kP t (gw L)) (Sl.mk (oQ op),Sl.mk (eP t.au.toNat out))=some (Sl.mk (eP t.au.toNat out'))/\Pa t.au.toNat g (nz t L) cl' [] out'
 |0,op,cl,out,hk,h=>by obtain rfl:op=[]:=List.length_eq_zero_iff.1 hk;refine⟨cl,out,cQ ?_,h⟩;simp only[kP];rfl
 |k+1,op,cl,out,hk,h=>by
  have hmem:∀x∈op,x<t.au.toNat:=fun x hx=>cM.1 (h.Kv.mem_iff.1 (List.mem_append_right _ hx));have hol:(oQ op).length=k+1:=by rw[List.length_map,hk]
  have hk8:k+1<=8:=by have:=h.Kv.length_eq;rw[aA,dH]at this;have:=uT hV;omega
  obtain⟨M,m1,m2,m3,m4⟩:=Ny (Mo out) (TZ h.uh) (l:=oQ op) (by omega) (fun x hx=>by obtain⟨y,hy,rfl⟩:=aP.1 hx;have:=hmem y hy;omega);have hperm:=NH (Mo out) m4
  obtain⟨M',hM',hp'⟩:∃M':List Nat,M=oQ M'/\M'.Perm op:=by
   refine⟨M.map Int.toNat,?_,?_⟩
   .rw [oQ,j_];refine(List.map_id M).symm.trans (e_ fun x hx=>?_);obtain⟨y,hy,rfl⟩:=aP.1 (hperm.mem_iff.1 hx);show((y:Nat):Int)=((((y:Nat):Int).toNat:Nat):Int)
    omega
   .refine (hperm.map Int.toNat).trans ?_;rw[j_];refine List.Perm.of_eq ((e_ fun x _=>?_).trans (List.map_id op));show((x:Nat):Int).toNat=x;omega
  subst hM'
  match M',hp' with
  |[],hp'=>rw[<-hp'.length_eq]at hk;cases hk
  |cF::bi,hp'=>
   have h2:=Js h hp'
   have hmin:∀o∈bi,out cF<=out o:=fun o ho=>by
    have h3:=(List.pairwise_cons.1 m3).1 (o:Int) (aP.2 ⟨o,ho,rfl⟩);have h4:¬out ((o:Nat):Int).toNat<out ((cF:Nat):Int).toNat:=of_decide_eq_false h3;have e1:((o:Nat):Int).toNat=o:=by omega
    have e2:((cF:Nat):Int).toNat=cF:=by omega
    rw[e1,e2]at h4;omega
   have hat:cF<t.au.toNat:=hmem cF (hp'.mem_iff.1 List.mem_cons_self);obtain⟨r,r1,r2⟩:=DK hV (cF:Int);have h5:=h2.gP (AN hV L) hmin (l:=((gj t (cF:Int)).map (ed L)).reverse) (fun e=>List.mem_reverse);have hrl:bi.length=k:=by have:=hp'.length_eq;rw[List.length_cons,hk]at this;omega
   obtain⟨cl',out',j1,j2⟩:=MO k bi _ _ hrl h5;refine⟨cl',out',(fA (a':=(Sl.mk (oQ bi),Sl.mk (eP t.au.toNat (tE (nz t L) out cF ((gj t (cF:Int)).map (ed L)).reverse)))) ?_).trans j1,j2⟩;have htr:=PH hV hL hn hat h.uh (M:=cF::bi) rfl (by simp) r2;simp only[kP];have z0:cH 0 (oQ (cF::bi)).length=some 0:=BC (n:=0) (by simp)
   have c1:ou (oQ (cF::bi)) 1 ((oQ (cF::bi)).length:Int)=some (oQ bi):=by
    unfold ou;rw[if_pos ⟨by omega,by simp;omega,Int.le_refl _⟩];have e1:(1:Int).toNat=1:=rfl;have e2:(((oQ (cF::bi)).length:Nat):Int).toNat=bi.length+1:=by simp
    rw[e1,e2];show some ((oQ bi).take (bi.length+1-1))=_;rw[List.take_of_length_le (by simp)]
   have g0:gt (oQ (cF::bi)) 0=(cF:Int):=rfl;rw[ma,decide_eq_true (by omega),cond_true,m1,af,Uw (by rw[m2]),af];simp only[ma];rw[z0,af,c1,af,g0,r1,af,htr,af];rfl
include hV hL hn in
theorem Lk{g:Nat}(hg:g<t.au.toNat):∃cl out,jS t (gw L) (g:Int)=some (Sl.mk (eP t.au.toNat out))/\Pa t.au.toNat g (nz t L) cl [] out:=by
 obtain⟨s1,s2,s3⟩:=uT hV;have hok:T5 t L=true:=by unfold T5;rw[decide_eq_true hV,mG,hL,beq_self_eq_true,mG];exact cm.2 fun x hx=>yi.2 (hn x hx)
 have hr:=Bq (t:=t) (L:=L) (fun x hx=>zt (hn x hx)) (by have:=hV.FN;omega);rw[(KH hok).2.2.2,hok]at hr;unfold jS;have hinf:vJ 1=some w7:=rfl;have hrep:=Qm (x:=w7) s2 s3;rw[<-s1]at hrep;have hm:zQ (0:Int) t.au t.au=some (ay t.au.toNat 0):=by unfold zQ;rw[if_pos (by omega)]
 have hguard:(((!true)||(decide ((g:Int)<0)))||(decide ((g:Int)>=(ao.au t))))=false:=by rw[decide_eq_false (show¬(g:Int)<0 by omega),decide_eq_false (show¬(g:Int)>=t.au by omega)];rfl
 have e1:ay t.au.toNat w7=eP t.au.toNat (fun _=>w7):=by refine gA (by simp[eP]) fun j h1 h2=>by simp[eP]
 have hL1:aU (kR (ay t.au.toNat 0)) (0,Sl.mk (ay t.au.toNat 0))=some (Sl.mk (oQ (aK t.au.toNat))):=by
  have:=TI (f:=kR (ay t.au.toNat 0)) (fun i:Nat=>((i:Int),Sl.mk (eP t.au.toNat fun j=>if j<i then(j:Int)else 0))) t.au.toNat (b:=Sl.mk (oQ (aK t.au.toNat))) (fun i hi=>by
   simp only[kR];rw[bo,decide_eq_true (by omega),cond_true,ma,BC (by rw[gl];exact hi),af,uC hi,LK (by omega)];congr 4;refine iA fun j hj=>?_;by_cases h1:j=i
   .rw [if_pos h1,if_pos (by omega),h1]
   .by_cases h2:j<i
    .rw [if_neg h1,if_pos h2,if_pos (by omega)]
    .rw [if_neg h1,if_neg h2,if_neg (by omega)]) (by
   simp only[kR];rw[bo,decide_eq_false (by omega),cond_false];congr 2;exact congrArg Sl.mk (iA (g:=fun j:Nat=>(j:Int)) fun j hj=>if_pos hj))
  have e0:(eP t.au.toNat fun j=>if j<0 then((j:Nat):Int)else 0)=ay t.au.toNat 0:=by refine gA (by simp[eP]) fun j h1 h2=>by simp[eP]
  rw[e0]at this;exact this
 obtain⟨cl,out,d1,d2⟩:=MO hV hL hn (g:=g) t.au.toNat (aK t.au.toNat) [] _ (dH) (Pa.Fv hg);refine⟨cl,out,?_,d2⟩;rw[hr,af,hguard,cond_false,hinf,af,hrep,af,ma,BC (by rw[bo];exact hg),af,hm,af,hL1,af,e1,uC hg,d1];rfl
end
end Go.Proofs.YtoekkpmeeclpeaaGreat.S
open Go.Ev Go Go.Fl Go.Ways
namespace Go.Proofs.YtoekkpmeeclpeaaGreat.S
theorem Mx{α:Type}{p:α->Bool}(l:List α):decide ((match lZ (fun(i:Nat)x=>if p x then some (i:Int)else none) l 0 with|some b=>b|none=>(-1:Int))>=0)=l.any p:=by
 have h3:=zh (p:=p) (g:=fun i=>(i:Int)) l 0;rw[<-h3];cases hsc:lZ (fun(i:Nat)x=>if p x then some (i:Int)else none) l 0 with
 |none=>rfl
 |some b=>
  obtain⟨j,x,_,h5,_⟩:=nI hsc;split at h5
  .obtain rfl:=ac h5;exact decide_eq_true (show(((0+j:Nat):Int))>=0 by omega)
  .cases h5
theorem ab1{α:Type}[Inhabited α]{f:Int×Sl α->Option ((Int×Sl α)⊕Sl α)}(l:List α)(p:α->Bool)
  (h1:∀(i:Nat)(s:Sl α),i<l.length->s.l.length<=i->f ((i:Int),s)=some (.inl (((i+1:Nat):Int),bif p (gt l i)then Sl.mk (s.l++[gt l i])else s)))
  (h2:∀s:Sl α,f ((l.length:Int),s)=some (.inr s)):∃s,aU f (0,Sl.nil)=some s/\s.l=l.filter p:=by
 have key:∀(R O:List α)(s:Sl α),l=O++R->s.l=O.filter p->∃s',aU f ((O.length:Int),s)=some s'/\s'.l=l.filter p:=by
  intro R;induction R with
  |nil=>
   intro O s e hs;have e:l=O:=by rw[e,br]
   subst e;exact⟨s,cQ (h2 _),hs⟩
  |cons x R ih=>
   intro O s e hs;have hx:gt l O.length=x:=by rw[e];exact FX
   have h:=h1 O.length s (by rw[e];simp) (by rw[hs];exact List.length_filter_le _ _);rw[hx]at h;obtain⟨s',i1,i2⟩:=ih (O++[x]) (bif p x then Sl.mk (s.l++[x])else s) (by rw[e];simp) (by rw[List.filter_append,<-hs];cases hp:p x<;>simp[hp,ma]);rw[aA]at i1;exact⟨s',(fA h).trans i1,i2⟩
 exact key l [] Sl.nil rfl rfl
theorem td{s:Sl Int}(hb:s.l.length<9223372036854775807)(v:Int):bJ s v=some (s.l.any fun x=>v==x):=by
 unfold bJ fC
 have:=yL (f:=cJ s v) s.l (fun i x=>if(v==x)=true then some (i:Int)else none) () (by omega) (fun i hi=>by
  simp only[cJ];rw[decide_eq_true (by omega),cond_true,BC hi,af];cases v==gt s.l i<;>rfl) (by
  simp only[cJ];rw[decide_eq_false (by omega),cond_false])
 rw[this,af,<-Mx];cases lZ (fun(i:Nat)x=>if(v==x)=true then some (i:Int)else none) s.l 0<;>rfl
section
variable{t:ao}{L:List Nat}(hV:fF t)(hL:L.length=t.a7.l.length)(hn:∀x∈L,nn x){c:Nat->Nat}(hc:∀i,i<t.au.toNat->c i<=w7)
include hn in
theorem WV{k:Int}(h0:0<=k)(h1:k<L.length):xe (gw L) k=some (decide (wt L k<w7)):=by
 unfold xe;have hWl:(gw L).l=L:=v6 L;have hk:k.toNat<L.length:=by omega
 have hinf:vJ 1=some w7:=rfl;have hw:=hn _ (xJ (l:=L) hk);rw[hWl,decide_eq_true (show k>=0 by omega),decide_eq_true (show k<(L.length:Int)by omega),Bool.and_self,cond_true,nq.2 ⟨show k=((k.toNat:Nat):Int)by omega,hk⟩,af,hinf,af,af];congr 1;have hi:nn w7:=vG (aq _);rw[Lb (pM (zt hw) (rm hw)) (pM (zt hi) (rm hi)),B5 hw,B5 hi,wY (aq _)];exact decide_eq_decide.2 (by show((wt L k:Nat):Int)<((w7:Nat):Int)<->_;omega)
def zq(t:ao)(L:List Nat)(c:Nat->Nat)(i:Nat):List aD:=(gj t (i:Int)).filter fun x=>qe (nz t L) c i (ed L x)
include hV hL hn hc in
theorem Fu{i:Nat}(hi:i<t.au.toNat):∃s,ng t (gw L) (Sl.mk (eP t.au.toNat c)) (i:Int)=some s/\s.l=zq t L c i:=by
 unfold ng;have hci:=hc i hi;have hcn:nn (c i):=vG hci;rw[ma,BC (by rw[gl];exact hi),af,nr hi,Mw (zt hcn) (rm hcn),af];have hinf:w7=9218868437227405312:=w4;by_cases h1:c i=w7
 .have:(c i==9218868437227405312)=true:=by rw[h1,hinf];rfl
  rw[this,cond_true];refine⟨Sl.nil,rfl,?_⟩;symm;refine List.filter_eq_nil_iff.2 fun x _=>?_;unfold qe;rw[decide_eq_false (by omega)];simp
 .have:(c i==9218868437227405312)=false:=by rw[beq_eq_false_iff_ne,<-hinf];exact h1
  rw[this,cond_false];obtain⟨r,r1,r2⟩:=DK hV (i:Int);rw[r1,af];have hWl:(gw L).l=L:=v6 L;have hlen8:r.l.length<=8:=by rw[r2];exact bh (ip _ _) (by simp)
  obtain⟨s,s1,s2⟩:=ab1 (f:=nf (gw L) (Sl.mk (eP t.au.toNat c)) (i:Int) r) r.l (fun x=>qe (nz t L) c i (ed L x)) (fun j s hj hsl=>by
   have hxm:gt r.l j∈gj t (i:Int):=by rw[<-r2];exact xJ hj
   obtain⟨k1,k2,k3,k4,k5⟩:=sQ hV hxm;simp only[nf];rw[decide_eq_true (by omega),cond_true,BC hj,af];generalize gt r.l j=x at*;have hto:x.To.toNat<t.au.toNat:=by omega
   have hlk:x.rF.toNat<L.length:=by omega
   have hup:=WV hn (k:=x.rF) k4 (by omega);have hcond:((xe (gw L) (aD.rF x)).bind fun r10=>
 bif r10 then((cH (aD.rF x) (gw L).l.length).bind fun n11=>
 (cH (aD.To x) (Sl.mk (eP t.au.toNat c)).l.length).bind fun n12=>
 (rA (gt (gw L).l n11) (gt (Sl.mk (eP t.au.toNat c)).l n12)).bind fun r13=>
 (cH (i:Int) (Sl.mk (eP t.au.toNat c)).l.length).bind fun n14=>
 some (Jk .f64 r13 (gt (Sl.mk (eP t.au.toNat c)).l n14)))else
 (some false):Option Bool)=some (qe (nz t L) c i (ed L x)):=by
       rw[hup,af];unfold qe;rw[decide_eq_true (show c i<w7 by omega),mG];show(bif decide (wt L x.rF<w7)then _ else _)=some (decide (wt L x.rF<w7)&&(P (wt L x.rF) (c x.To.toNat)==c i));cases decide (wt L x.rF<w7)with
       |false=>rfl
       |true=>
        rw[cond_true,hWl,nq.2 ⟨show x.rF=((x.rF.toNat:Nat):Int)by omega,hlk⟩,af,ma,nq.2 ⟨show x.To=((x.To.toNat:Nat):Int)by omega,by rw[gl];exact hto⟩,af,nr hto,Im (hn _ (xJ hlk)) (hc _ hto),af,BC (by rw[gl];exact hi),af,nr hi];have hp:nn (P (ab (gt L x.rF.toNat)) (c x.To.toNat)):=vG Yu;rw[D_ (pM (zt hp) (rm hp)) (pM (zt hcn) (rm hcn)),B5 hp,B5 hcn,wY Yu,wY hci];rw[mG];show some (decide (((P (wt L x.rF) (c x.To.toNat):Nat):Int)=((c i:Nat):Int)))=_;congr 1;rw[<-acj];by_cases h:((P (wt L x.rF) (c x.To.toNat):Nat):Int)=((c i:Nat):Int)
        .rw [decide_eq_true h,h];simp
        .rw [decide_eq_false h,beq_eq_false_iff_ne.2 h]
   rw[hcond,af];cases hb:qe (nz t L) c i (ed L x)with|true=>rw[cond_true,vQ.2 ⟨rfl,by rw[aA];simp;omega⟩,af,af,LK (by omega)];rfl|false=>rw[cond_false,af,LK (by omega)];rfl) (fun s=>by
   simp only[nf];rw[decide_eq_false (by omega),cond_false])
  rw[s1];exact⟨s,rfl,by rw[s2,r2];rfl⟩
variable{g:Nat}
def uI(t:ao)(L:List Nat)(c:Nat->Nat)(g k i j:Nat):Int:=if j<i then mS (nz t L) c g (k+1) j else mS (nz t L) c g k j
theorem XT{k i j:Nat}:(uI t L c g k i j==(k:Int))=(mS (nz t L) c g k j==(k:Int)):=by
 unfold uI;split
 .have h1:=wA (E:=nz t L) (c:=c) (g:=g) k j;by_cases h2:mS (nz t L) c g k j=-1
  .rw [h2];have h3:((-1:Int)==(k:Int))=false:=by rw[beq_eq_false_iff_ne];omega
   rw[h3,beq_eq_false_iff_ne];simp only[mS];split
   .omega
   .rw [h2];omega
  .rw [AF h2]
 .rfl
theorem OG{k i:Nat}(hi:i<t.au.toNat):(eP t.au.toNat (uI t L c g k i)).set i (mS (nz t L) c g (k+1) i)=eP t.au.toNat (uI t L c g k (i+1)):=by
 rw[uC hi];refine iA fun j hj=>?_;unfold uI;by_cases h1:j=i
 .rw [if_pos h1,if_pos (by omega),h1]
 .rw [if_neg h1];by_cases h2:j<i
  .rw [if_pos h2,if_pos (by omega)]
  .rw [if_neg h2,if_neg (by omega)]
theorem FW{k i:Nat}(h:mS (nz t L) c g (k+1) i=mS (nz t L) c g k i):eP t.au.toNat (uI t L c g k i)=eP t.au.toNat (uI t L c g k (i+1)):=by
 refine iA fun j hj=>?_;unfold uI;by_cases h2:j<i
 .rw [if_pos h2,if_pos (by omega)]
 .rw [if_neg h2];by_cases h1:j=i
  .subst h1;rw[if_pos (by omega),h]
  .rw [if_neg (by omega)]
def RB(t:ao)(L:List Nat)(c:Nat->Nat)(g k i:Nat):Bool:=(nz t L i).any fun e=>qe (nz t L) c i e&&(mS (nz t L) c g k e.1==(k:Int))
theorem Mq{k i:Nat}:mS (nz t L) c g (k+1) i=if mS (nz t L) c g k i=-1/\RB t L c g k i=true then(k:Int)+1 else mS (nz t L) c g k i:=rfl
theorem UK{k i:Nat}:uI t L c g k i i=mS (nz t L) c g k i:=by unfold uI;rw[if_neg (by omega)]
include hV in
theorem UJ{k i:Nat}{s:Sl aD}(hs:s.l=zq t L c i){m:Nat}:bq s (Sl.mk (eP t.au.toNat (uI t L c g k m))) (k:Int)=some (RB t L c g k i):=by
 unfold bq bW;have hlen:s.l.length<=8:=by rw[hs];exact bh (List.length_filter_le _ _) (bh (ip _ _) (by simp))
 have:=yL (f:=bO s (Sl.mk (eP t.au.toNat (uI t L c g k m))) (k:Int)) s.l (fun i x=>if(mS (nz t L) c g k x.To.toNat==(k:Int))=true then some (i:Int)else none) () (by omega) (fun j hj=>by
  have hxm:gt s.l j∈gj t (i:Int):=by have h:=xJ hj;generalize gt s.l j=x at h|-;rw[hs]at h;exact(List.mem_filter.1 h).1
  obtain⟨k1,k2,_⟩:=sQ hV hxm;simp only[bO];rw[decide_eq_true (by omega),cond_true,BC hj,af];generalize gt s.l j=x at*;have hto:x.To.toNat<t.au.toNat:=by omega
  unfold uW;rw[ma,nq.2 ⟨show aD.To x=((x.To.toNat:Nat):Int)by show x.To=_;omega,by rw[gl];exact hto⟩,af,nr hto,af,XT];cases(mS (nz t L) c g k x.To.toNat==(k:Int))<;>rfl) (by
  simp only[bO];rw[decide_eq_false (by omega),cond_false])
 rw[this,af];have h2:=Mx (p:=fun x:aD=>mS (nz t L) c g k x.To.toNat==(k:Int)) s.l;have h3:s.l.any (fun x:aD=>mS (nz t L) c g k x.To.toNat==(k:Int))=RB t L c g k i:=by rw[hs,zq,List.any_filter,RB,nz,List.any_map];rfl
 rw[h3]at h2;rw[<-h2];cases lZ (fun(i:Nat)(x:aD)=>if(mS (nz t L) c g k x.To.toNat==(k:Int))=true then some (i:Int)else none) s.l 0<;>rfl
include hV hL hn hc in
theorem NM{k:Nat}(hk:k<1000){z:Sl Int}(hz:z.l.length=t.au.toNat):aU (jl t (gw L) (Sl.mk (eP t.au.toNat c)) (k:Int) z) (0,Sl.mk (eP t.au.toNat (mS (nz t L) c g k)))=some (Sl.mk (eP t.au.toNat (mS (nz t L) c g (k+1)))):=by
 have h8:=uT hV
 have:=TI (f:=jl t (gw L) (Sl.mk (eP t.au.toNat c)) (k:Int) z) (fun i:Nat=>((i:Int),Sl.mk (eP t.au.toNat (uI t L c g k i)))) t.au.toNat (b:=Sl.mk (eP t.au.toNat (mS (nz t L) c g (k+1)))) (fun i hi=>by
  obtain⟨s,s1,s2⟩:=Fu hV hL hn hc hi;have hr:=wA (E:=nz t L) (c:=c) (g:=g) k i;simp only[jl];rw[hz,decide_eq_true (by omega),cond_true,ma,BC (by rw[gl];exact hi),af,nr hi,UK];by_cases h1:mS (nz t L) c g k i=-1
  .rw [decide_eq_true (show mS (nz t L) c g k i<0 by omega),cond_true,s1,af,UJ hV s2,af,af];cases hh:RB t L c g k i with
   |true=>
    have h2:mS (nz t L) c g (k+1) i=((k+1:Nat):Int):=by rw[Mq,if_pos ⟨h1,hh⟩];rfl
    rw[cond_true,af,af,LK (by omega),LK (by omega),<-h2,OG hi]
   |false=>rw[cond_false,af,LK (by omega),FW (by rw[Mq,if_neg (by rw[hh];simp)])]
  .rw [decide_eq_false (show¬mS (nz t L) c g k i<0 by omega),cond_false,af,cond_false,af,LK (by omega),FW (AF h1)]) (by
  simp only[jl];rw[hz,decide_eq_false (by omega),cond_false];congr 2;exact congrArg Sl.mk (iA fun j hj=>if_pos hj))
 have e0:eP t.au.toNat (uI t L c g k 0)=eP t.au.toNat (mS (nz t L) c g k):=iA fun j _=>if_neg (by omega);rw[e0]at this;exact this
include hV hL hn hc in
theorem Kn:∃K:Nat,aU (iu t (gw L) (Sl.mk (eP t.au.toNat c))) (0,Sl.mk (eP t.au.toNat (mS (nz t L) c g 0)))=some (Sl.mk (eP t.au.toNat (mS (nz t L) c g K)))/\∀i,i<t.au.toNat->mS (nz t L) c g K i≠(K:Int):=by
 have h8:=uT hV;have hE:=AN hV L
 have key:∀(d k:Nat),k+d=t.au.toNat->∃K:Nat,aU (iu t (gw L) (Sl.mk (eP t.au.toNat c))) ((k:Int),Sl.mk (eP t.au.toNat (mS (nz t L) c g k)))=some (Sl.mk (eP t.au.toNat (mS (nz t L) c g K)))/\∀i,i<t.au.toNat->mS (nz t L) c g K i≠(K:Int):=by
  intro d;induction d with
  |zero=>
   intro k hk;have hno:∀i,i<t.au.toNat->mS (nz t L) c g k i≠(k:Int):=fun i hi=>by have:=Rh (c:=c) (g:=g) hE k hi;omega
   refine⟨k,cQ ?_,hno⟩;simp only[iu];rw[td (by rw[ma,gl];omega),af,ma];have:(eP t.au.toNat (mS (nz t L) c g k)).any (fun x=>(k:Int)==x)=false:=by rw[qG];intro x hx;obtain⟨i,hi,rfl⟩:=aP.1 hx;have:=hno i (cM.1 hi);simp;omega
   rw[this,cond_false]
  |succ d ih=>
   intro k hk;by_cases hno:∀i,i<t.au.toNat->mS (nz t L) c g k i≠(k:Int)
   .refine ⟨k,cQ ?_,hno⟩;simp only[iu];rw[td (by rw[ma,gl];omega),af,ma];have:(eP t.au.toNat (mS (nz t L) c g k)).any (fun x=>(k:Int)==x)=false:=by rw[qG];intro x hx;obtain⟨i,hi,rfl⟩:=aP.1 hx;have:=hno i (cM.1 hi);simp;omega
    rw[this,cond_false]
   .obtain ⟨K,i1,i2⟩:=ih (k+1) (by omega);refine⟨K,(fA (a':=(((k+1:Nat):Int),Sl.mk (eP t.au.toNat (mS (nz t L) c g (k+1))))) ?_).trans i1,i2⟩;simp only[iu];rw[td (by rw[ma,gl];omega),af,ma];have:(eP t.au.toNat (mS (nz t L) c g k)).any (fun x=>(k:Int)==x)=true:=by rw[List.any_eq_true];have⟨i,hi⟩:=Classical.not_forall.1 hno;have hi1:i<t.au.toNat:=oh fun h=>hi fun q=>absurd q h;have hi2:mS (nz t L) c g k i=(k:Int):=oh fun h=>hi fun _=>h;exact⟨_,aP.2 ⟨i,cM.2 hi1,rfl⟩,by rw[hi2];simp⟩
    rw[this,cond_true,NM hV hL hn hc (by omega) (by rw[ma,gl]),af,LK (by omega)]
 exact key t.au.toNat 0 (by omega)
end
end Go.Proofs.YtoekkpmeeclpeaaGreat.S
