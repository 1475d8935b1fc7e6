/- Costs: what both lay. Conditions: a topology and weights that may be. -/
import Derived.Test.YtingpmogbibghaaSC
open Bool renaming true_and->dE
open List renaming all_eq_true->aT,ext_getElem->jw,length_append->au,length_range->cV,length_replicate->a_,map_congr_left->fr,map_map->gR,mem_map->bv,range->bN,replicate->ak
open Nat renaming le_trans->bt
open Option renaming bind_some->ae
open Go.Ev Go Go.Fl Go.Ways
namespace Go.Proofs.Ytingpmogbibghaa.S
theorem HZ(c:Sl Nat):∀n,(fun s a m b=>bl n s a m b c)=qq (fun x y=>df x y c) n
 |0=>rfl
 |n+1=>by show(fun s a m b=>eV (bl n) s a m b c)=CA (fun x y=>df x y c) (qq (fun x y=>df x y c) n);rw[<-HZ c n];rfl
theorem PQ(c:Sl Nat)(s:Sl Int)(a m b:Int):bl 8 s a m b c=qq (fun x y=>df x y c) 8 s a m b:=congrFun (congrFun (congrFun (congrFun (HZ c 8) s) a) m) b
theorem N8(n i:Int)(c:Sl Nat):cG n c i=ux (fun x y=>df x y c) 8 n i:=by funext s;unfold cG ux;simp only[PQ]
theorem N7(n:Int)(c:Sl Nat):cF n c=uw (fun x y=>df x y c) 8 n:=by funext s;unfold cF uw;simp only[PQ,N8]
theorem Qv(s:Sl Int)(c:Sl Nat):bS s c=Qw (fun x y=>df x y c) 8 s:=by unfold bS cP;rw[N7];rfl
theorem Jm{α:Type}[DecidableEq α]{lt:α->α->Bool}(hs:yL lt){a b:List α}(h:iE lt a b):a.Perm b:=by rw[List.perm_iff_count];intro x;have e:∀l:List α,List.count x (l.filter (yE lt x))=List.count x l:=fun l=>List.count_filter (AF hs x);rw[<-e a,<-e b,h x]
def Vz(ez:Nat->Nat)(a b:Int):Bool:=decide (ez a.toNat<ez b.toNat)
theorem Iy(ez:Nat->Nat):yL (Vz ez):=⟨fun x=>decide_eq_false (by omega),fun x y z h1 h2=>by
 have h1:=of_decide_eq_true h1;have h2:=of_decide_eq_true h2;exact decide_eq_true (by omega),fun x y z h1 h2=>by
 have h1:=of_decide_eq_false h1;have h2:=of_decide_eq_false h2;exact decide_eq_false (by omega)⟩
theorem Ep{a:Nat}(h:a<=oK):iK a=9223372036854775808+a:=by have h:a<=D.infRung:=h;have h2:=h;rw[rL]at h2;exact t9 (mq (qC h)) (by omega)
theorem OE{n:Nat}{ez:Nat->Nat}(hb:∀i,i<n->ez i<=oK):NQ (fun x y=>df x y (Sl.mk (bw n ez))) (Vz ez) (fun x=>0<=x/\x<n):=fun x y hx hy=>by
 obtain⟨a,rfl⟩:∃a:Nat,x=a:=⟨x.toNat,by omega⟩
 obtain⟨b,rfl⟩:∃b:Nat,y=b:=⟨y.toNat,by omega⟩
 have ha:a<n:=by omega
 have hbn:b<n:=by omega
 have w1:=uU (qC (hb a ha));have w2:=uU (qC (hb b hbn));refine⟨A_ (iK (ez a)) (iK (ez b)),?_,?_⟩
 .show df (a:Int) (b:Int) (Sl.mk (bw n ez))=_;unfold df;rw[h_,nV (by rw[cu];exact ha),ae,nV (by rw[cu];exact hbn),ae,g_ ha,g_ hbn,Po w1 w2];rfl
 .unfold Vz;rw[Ep (hb a ha),Ep (hb b hbn)];have e1:((a:Nat):Int).toNat=a:=by omega
  have e2:((b:Nat):Int).toNat=b:=by omega
  rw[e1,e2];rcases Nat.lt_trichotomy (ez a) (ez b)with h|h|h
  .rw [sQ (by omega),decide_eq_true h];rfl
  .rw [yW (by omega),decide_eq_false (show¬ez a<ez b by omega)];rfl
  .rw [sR (by omega),decide_eq_false (show¬ez a<ez b by omega)];rfl
theorem zZ{t:aj}{L:List Nat}(h:EO t L=true):lF t/\L.length=t.aP.l.length/\(∀x∈L,nn x)/\L.map gM=L:=by unfold EO at h;simp only[Bool.and_eq_true,decide_eq_true_eq,beq_iff_eq]at h;have h3:∀x∈L,nn x:=fun x hx=>tf.1 (aT.1 h.2.2 x hx);refine⟨h.1,h.2.1,h3,?_⟩;have:L.map gM=L.map id:=fr fun x hx=>pD (mq (h3 x hx));rw[this,List.map_id]
section
variable{t:aj}{L:List Nat}(hV:lF t)(hL:L.length=t.aP.l.length)(hn:∀x∈L,nn x)
theorem l_(hV:lF t):t.ah=((t.ah.toNat:Nat):Int)/\1<=t.ah.toNat/\t.ah.toNat<=8:=by have:=hV.sw;omega
abbrev ed(L:List Nat)(x:aE):Nat×Nat:=(x.To.toNat,wt L x.iI)
include hV hL hn in
theorem K6{iD:Nat}(ha:iD<t.ah.toNat){ez:Nat->Nat}(hb:∀i,i<t.ah.toNat->ez i<=oK){M:List Nat}(hM:gt M 0=iD)(hMl:0<M.length){r:Sl aE}(hr:r.l=fU t (iD:Int)):
  aY (kN (dW L) 0 (Sl.mk (eh M)) r) (0,Sl.mk (bw t.ah.toNat ez))=some (Sl.mk (bw t.ah.toNat (qp (iF t L) ez iD ((fU t (iD:Int)).map (ed L)).reverse))):=by
 have hWl:(dW L).l=L:=rF L;have hlen8:r.l.length<=8:=by rw[hr];exact bt (List.length_filterMap_le _ _) (by simp)
 have key:∀(R A:List aE),r.l=A++R->aY (kN (dW L) 0 (Sl.mk (eh M)) r) ((A.length:Int),Sl.mk (bw t.ah.toNat (qp (iF t L) ez iD (A.map (ed L)).reverse)))=some (Sl.mk (bw t.ah.toNat (qp (iF t L) ez iD (r.l.map (ed L)).reverse))):=by
  intro R;induction R with
  |nil=>
   intro A e;have e:r.l=A:=by rw[e,List.append_nil]
   refine(bH ?_).trans (by rw[e]);simp only[kN];rw[e,decide_eq_false (by omega),cond_false]
  |cons x R ih=>
   intro A e;have hi:A.length<r.l.length:=by rw[e];simp
   have hx:gt r.l A.length=x:=by rw[e];exact tH
   have hxm:x∈fU t (iD:Int):=by rw[<-hr,e];simp
   obtain⟨k1,k2,k3,k4,k5⟩:=nk hV hxm;have hto:x.To.toNat<t.ah.toNat:=by omega
   have hlk:x.iI.toNat<L.length:=by omega
   have hall:∀q∈A,q∈fU t (iD:Int):=fun q hq=>by rw[<-hr,e];exact List.mem_append_left _ hq
   generalize hf:qp (iF t L) ez iD (A.map (ed L)).reverse=f;have fb:∀i,i<t.ah.toNat->f i<=oK:=fun i hi2=>by rw[<-hf];exact bt (sO _ i).1 (hb i hi2)
   have fat:f iD=ez iD:=by
    rw[<-hf];rcases q9 (E:=iF t L) (ez:=ez) (iD:=iD) (A.map (ed L)).reverse iD with h|⟨q,hq,h2,_⟩
    .exact h
    .obtain ⟨y,hy,rfl⟩:=bv.1 (List.mem_reverse.1 hq);have:=nk hV (hall y hy);have h2:y.To.toNat=iD:=h2;omega
   refine(cz (a':=(((A++[x]).length:Int),Sl.mk (bw t.ah.toNat (qp (iF t L) ez iD ((A++[x]).map (ed L)).reverse)))) ?_).trans (ih (A++[x]) (by rw[e];simp));have i1:cZ x.To (bw t.ah.toNat f).length=some x.To.toNat:=eC.2 ⟨by omega,by rw[cu];exact hto⟩;have i2:cZ x.iI L.length=some x.iI.toNat:=eC.2 ⟨by omega,hlk⟩;have i3:cZ (iD:Int) (bw t.ah.toNat f).length=some iD:=nV (by rw[cu];exact ha);have g0:gt (eh M) 0=(iD:Int):=by rw[ph hMl,hM]
   simp only[kN];rw[decide_eq_true (by omega),cond_true,nV hi,ae,hx,h_,i1,ae,hWl,i2,ae,h_,g0,i3,ae,g_ ha,En (hn _ (mP hlk)) (fb iD ha),ae,ae,g_ hto,OO (fb _ hto) R8,ng hto,u4 (by omega),au];congr 4;refine gE fun j hj=>?_;rw[List.map_append,List.reverse_append];show(if j=x.To.toNat then _ else _)=if j=x.To.toNat then min (qp (iF t L) ez iD (A.map (ed L)).reverse j) (P (wt L x.iI) (ez iD))else qp (iF t L) ez iD (A.map (ed L)).reverse j;rw[hf];by_cases hc:j=x.To.toNat
   .rw [if_pos hc,if_pos hc,hc,fat];rfl
   .rw [if_neg hc,if_neg hc]
 rw[hr]at key;exact key _ [] rfl
theorem FD{n g:Nat}{E:Nat->List (Nat×Nat)}{cl op op':List Nat}{ez:Nat->Nat}(h:KO n g E cl op ez)(hp:op'.Perm op):KO n g E cl op' ez:=⟨(hp.append_left cl).trans h.GM,h.qh,h.g0,h.SZ,h.sub,fun c hc o ho=>h.PT c hc o (hp.mem_iff.1 ho),h.DT⟩
include hV hL hn in
theorem IW{g:Nat}:∀(k:Nat)(op cl:List Nat)(ez:Nat->Nat),op.length=k->KO t.ah.toNat g (iF t L) cl op ez->
  ∃cl' out',aY (kM t (dW L)) (Sl.mk (eh op),Sl.mk (bw t.ah.toNat ez))=some (Sl.mk (bw t.ah.toNat out'))/\KO t.ah.toNat g (iF t L) cl' [] out'
 |0,op,cl,ez,hk,h=>by obtain rfl:op=[]:=List.length_eq_zero_iff.1 hk;refine⟨cl,ez,bH ?_,h⟩;simp only[kM];rfl
 |k+1,op,cl,ez,hk,h=>by
  have hmem:∀x∈op,x<t.ah.toNat:=fun x hx=>List.mem_range.1 (h.GM.mem_iff.1 (List.mem_append_right _ hx));have hol:(eh op).length=k+1:=by rw[List.length_map,hk]
  have hk8:k+1<=8:=by have:=h.GM.length_eq;rw[au,cV]at this;have:=l_ hV;omega
  obtain⟨M,m1,m2,m3,m4⟩:=Lc (Iy ez) (OE h.qh) (f:=8) (l:=eh op) (by omega) (by omega) (fun x hx=>by obtain⟨y,hy,rfl⟩:=bv.1 hx;have:=hmem y hy;omega);have hperm:=Jm (Iy ez) m4
  -- as numbers
  obtain⟨M',hM',hp'⟩:∃M':List Nat,M=eh M'/\M'.Perm op:=by
   refine⟨M.map Int.toNat,?_,?_⟩
   .rw [eh,gR];refine(List.map_id M).symm.trans (fr fun x hx=>?_);obtain⟨y,hy,rfl⟩:=bv.1 (hperm.mem_iff.1 hx);show((y:Nat):Int)=((((y:Nat):Int).toNat:Nat):Int)
    omega
   .refine (hperm.map Int.toNat).trans ?_;rw[gR];refine List.Perm.of_eq ((fr fun x _=>?_).trans (List.map_id op));show((x:Nat):Int).toNat=x;omega
  subst hM'
  match M',hp' with
  |[],hp'=>rw[<-hp'.length_eq]at hk;cases hk
  |iD::rest,hp'=>
   have h2:=FD h hp'
   have hmin:∀o∈rest,ez iD<=ez o:=fun o ho=>by
    have h3:=(List.pairwise_cons.1 m3).1 (o:Int) (bv.2 ⟨o,ho,rfl⟩);have h4:¬ez ((o:Nat):Int).toNat<ez ((iD:Nat):Int).toNat:=of_decide_eq_false h3;have e1:((o:Nat):Int).toNat=o:=by omega
    have e2:((iD:Nat):Int).toNat=iD:=by omega
    rw[e1,e2]at h4;omega
   have hat:iD<t.ah.toNat:=hmem iD (hp'.mem_iff.1 List.mem_cons_self);obtain⟨r,r1,r2⟩:=EV hV (iD:Int);have h5:=h2.nW (wJ hV L) hmin (l:=((fU t (iD:Int)).map (ed L)).reverse) (fun e=>List.mem_reverse);have hrl:rest.length=k:=by have:=hp'.length_eq;rw[List.length_cons,hk]at this;omega
   obtain⟨cl',out',j1,j2⟩:=IW k rest _ _ hrl h5;refine⟨cl',out',(cz (a':=(Sl.mk (eh rest),Sl.mk (bw t.ah.toNat (qp (iF t L) ez iD ((fU t (iD:Int)).map (ed L)).reverse)))) ?_).trans j1,j2⟩;have htr:=K6 hV hL hn hat h.qh (M:=iD::rest) rfl (by simp) r2;simp only[kM];have z0:cZ 0 (eh (iD::rest)).length=some 0:=nV (n:=0) (by simp)
   have c1:o5 (eh (iD::rest)) 1 ((eh (iD::rest)).length:Int)=some (eh rest):=by
    unfold o5;rw[if_pos ⟨by omega,by simp;omega,Int.le_refl _⟩];have e1:(1:Int).toNat=1:=rfl;have e2:(((eh (iD::rest)).length:Nat):Int).toNat=rest.length+1:=by simp
    rw[e1,e2];show some ((eh rest).take (rest.length+1-1))=_;rw[List.take_of_length_le (by simp)]
   have g0:gt (eh (iD::rest)) 0=(iD:Int):=rfl;rw[h_,decide_eq_true (by omega),cond_true,Qv,m1,ae,xH (by rw[m2]),ae];simp only[h_];rw[z0,ae,c1,ae,g0,r1,ae,htr,ae];rfl
include hV hL hn in
theorem Hu{g:Nat}(hg:g<t.ah.toNat):∃cl ez,gD t (dW L) (g:Int)=some (Sl.mk (bw t.ah.toNat ez))/\KO t.ah.toNat g (iF t L) cl [] ez:=by
 obtain⟨s1,s2,s3⟩:=l_ hV;have hok:EO t L=true:=by unfold EO;rw[decide_eq_true hV,dE,hL,beq_self_eq_true,dE];exact aT.2 fun x hx=>tf.2 (hn x hx)
 have hr:=rY (t:=t) (L:=L) (fun x hx=>uU (hn x hx)) (by have:=hV.yi;omega);rw[(zZ hok).2.2.2,hok]at hr;unfold gD;have hinf:sf 1=some oK:=rfl;have hrep:=Lt (x:=oK) s2 s3;rw[<-s1]at hrep;have hm:A0 (0:Int) t.ah t.ah=some (ak t.ah.toNat 0):=by unfold A0;rw[if_pos (by omega)]
 have hguard:(((!true)||(decide ((g:Int)<0)))||(decide ((g:Int)>=(aj.ah t))))=false:=by rw[decide_eq_false (show¬(g:Int)<0 by omega),decide_eq_false (show¬(g:Int)>=t.ah by omega)];rfl
 have e1:ak t.ah.toNat oK=bw t.ah.toNat (fun _=>oK):=by refine jw (by simp[bw]) fun j h1 h2=>by simp[bw]
 have hL1:aY (kO (ak t.ah.toNat 0)) (0,Sl.mk (ak t.ah.toNat 0))=some (Sl.mk (eh (bN t.ah.toNat))):=by
  have:=Bc (f:=kO (ak t.ah.toNat 0)) (fun i:Nat=>((i:Int),Sl.mk (bw t.ah.toNat fun j=>if j<i then(j:Int)else 0))) t.ah.toNat (b:=Sl.mk (eh (bN t.ah.toNat))) (fun i hi=>by
   simp only[kO];rw[a_,decide_eq_true (by omega),cond_true,h_,nV (by rw[cu];exact hi),ae,ng hi,u4 (by omega)];congr 4;refine gE fun j hj=>?_;by_cases h1:j=i
   .rw [if_pos h1,if_pos (by omega),h1]
   .by_cases h2:j<i
    .rw [if_neg h1,if_pos h2,if_pos (by omega)]
    .rw [if_neg h1,if_neg h2,if_neg (by omega)]) (by
   simp only[kO];rw[a_,decide_eq_false (by omega),cond_false];congr 2;exact congrArg Sl.mk (gE (g:=fun j:Nat=>(j:Int)) fun j hj=>if_pos hj))
  have e0:(bw t.ah.toNat fun j=>if j<0 then((j:Nat):Int)else 0)=ak t.ah.toNat 0:=by refine jw (by simp[bw]) fun j h1 h2=>by simp[bw]
  rw[e0]at this;exact this
 obtain⟨cl,ez,d1,d2⟩:=IW hV hL hn (g:=g) t.ah.toNat (bN t.ah.toNat) [] _ (cV) (KO.Sq hg);refine⟨cl,ez,?_,d2⟩;rw[hr,ae,hguard,cond_false,hinf,ae,hrep,ae,h_,nV (by rw[a_];exact hg),ae,hm,ae,hL1,ae,e1,ng hg,d1];rfl
end
end Go.Proofs.Ytingpmogbibghaa.S
