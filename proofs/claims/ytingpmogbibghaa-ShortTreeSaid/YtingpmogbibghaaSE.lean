/- Steps: what both tell. Conditions: a topology and weights that may be. -/
import Derived.Test.YtingpmogbibghaaSD
open Bool renaming true_and->dE
open List renaming length_append->au,length_filterMap_le->dY,mem_map->bv,mem_range->eF
open Nat renaming le_refl->am,le_trans->bt
open Option renaming bind_some->ae
open Option.some renaming inj->aa
open Go.Ev Go Go.Fl Go.Ways
namespace Go.Proofs.Ytingpmogbibghaa.S
theorem II{α:Type}{p:α->Bool}(l:List α):decide ((match mB (fun(i:Nat)x=>if p x then some (i:Int)else none) l 0 with|some b=>b|none=>(-1:Int))>=0)=l.any p:=by
 have h3:=sS (p:=p) (g:=fun i=>(i:Int)) l 0;rw[<-h3];cases hsc:mB (fun(i:Nat)x=>if p x then some (i:Int)else none) l 0 with
 |none=>rfl
 |some b=>
  obtain⟨j,x,_,h5,_⟩:=qj hsc;split at h5
  .obtain rfl:=aa h5;exact decide_eq_true (show(((0+j:Nat):Int))>=0 by omega)
  .cases h5
theorem Td{α:Type}[Inhabited α]{f:Int×Sl α->Option ((Int×Sl α)⊕Sl α)}(l:List α)(p:α->Bool)
  (h1:∀(i:Nat)(s:Sl α),i<l.length->s.l.length<=i->f ((i:Int),s)=some (.inl (((i+1:Nat):Int),bif p (gt l i)then Sl.mk (s.l++[gt l i])else s)))
  (h2:∀s:Sl α,f ((l.length:Int),s)=some (.inr s)):∃s,aY f (0,Sl.nil)=some s/\s.l=l.filter p:=by
 have key:∀(R O:List α)(s:Sl α),l=O++R->s.l=O.filter p->∃s',aY f ((O.length:Int),s)=some s'/\s'.l=l.filter p:=by
  intro R;induction R with
  |nil=>
   intro O s e hs;have e:l=O:=by rw[e,List.append_nil]
   subst e;exact⟨s,bH (h2 _),hs⟩
  |cons x R ih=>
   intro O s e hs;have hx:gt l O.length=x:=by rw[e];exact tH
   have h:=h1 O.length s (by rw[e];simp) (by rw[hs];exact List.length_filter_le _ _);rw[hx]at h;obtain⟨s',i1,i2⟩:=ih (O++[x]) (bif p x then Sl.mk (s.l++[x])else s) (by rw[e];simp) (by rw[List.filter_append,<-hs];cases hp:p x<;>simp[hp,h_]);rw[au]at i1;exact⟨s',(cz h).trans i1,i2⟩
 exact key l [] Sl.nil rfl rfl
theorem qf{s:Sl Int}(hb:s.l.length<9223372036854775807)(v:Int):eu s v=some (s.l.any fun x=>v==x):=by
 unfold eu iv
 have:=BG (f:=gC s v) s.l (fun i x=>if(v==x)=true then some (i:Int)else none) () (by omega) (fun i hi=>by
  simp only[gC];rw[decide_eq_true (by omega),cond_true,nV hi,ae];cases v==gt s.l i<;>rfl) (by
  simp only[gC];rw[decide_eq_false (by omega),cond_false])
 rw[this,ae,<-II];cases mB (fun(i:Nat)x=>if(v==x)=true then some (i:Int)else none) s.l 0<;>rfl
section
variable{t:aj}{L:List Nat}(hV:lF t)(hL:L.length=t.aP.l.length)(hn:∀x∈L,nn x){c:Nat->Nat}(hc:∀i,i<t.ah.toNat->c i<=oK)
include hn in
theorem Qm{k:Int}(h0:0<=k)(h1:k<L.length):tU (dW L) k=some (decide (wt L k<oK)):=by
 unfold tU;have hWl:(dW L).l=L:=rF L;have hk:k.toNat<L.length:=by omega
 have hinf:sf 1=some oK:=rfl;have hw:=hn _ (mP (l:=L) hk);rw[hWl,decide_eq_true (show k>=0 by omega),decide_eq_true (show k<(L.length:Int)by omega),Bool.and_self,cond_true,eC.2 ⟨show k=((k.toNat:Nat):Int)by omega,hk⟩,ae,hinf,ae,ae];congr 1;have hi:nn oK:=qC (am _);rw[Hk (nL (uU hw) (mq hw)) (nL (uU hi) (mq hi)),yg hw,yg hi,rn (am _)];exact decide_eq_decide.2 (by show((wt L k:Nat):Int)<((oK:Nat):Int)<->_;omega)
def vz(t:aj)(L:List Nat)(c:Nat->Nat)(i:Nat):List aE:=(fU t (i:Int)).filter fun x=>jU (iF t L) c i (ed L x)
include hV hL hn hc in
theorem BA{i:Nat}(hi:i<t.ah.toNat):∃s,md t (dW L) (Sl.mk (bw t.ah.toNat c)) (i:Int)=some s/\s.l=vz t L c i:=by
 unfold md;have hci:=hc i hi;have hcn:nn (c i):=qC hci;rw[h_,nV (by rw[cu];exact hi),ae,g_ hi,IH (uU hcn) (mq hcn),ae];have hinf:oK=9218868437227405312:=rL;by_cases h1:c i=oK
 .have:(c i==9218868437227405312)=true:=by rw[h1,hinf];rfl
  rw[this,cond_true];refine⟨Sl.nil,rfl,?_⟩;symm;refine List.filter_eq_nil_iff.2 fun x _=>?_;unfold jU;rw[decide_eq_false (by omega)];simp
 .have:(c i==9218868437227405312)=false:=by rw[beq_eq_false_iff_ne,<-hinf];exact h1
  rw[this,cond_false];obtain⟨r,r1,r2⟩:=EV hV (i:Int);rw[r1,ae];have hWl:(dW L).l=L:=rF L;have hlen8:r.l.length<=8:=by rw[r2];exact bt (dY _ _) (by simp)
  obtain⟨s,s1,s2⟩:=Td (f:=mb (dW L) (Sl.mk (bw t.ah.toNat c)) (i:Int) r) r.l (fun x=>jU (iF t L) c i (ed L x)) (fun j s hj hsl=>by
   have hxm:gt r.l j∈fU t (i:Int):=by rw[<-r2];exact mP hj
   obtain⟨k1,k2,k3,k4,k5⟩:=nk hV hxm;simp only[mb];rw[decide_eq_true (by omega),cond_true,nV hj,ae];generalize gt r.l j=x at*;have hto:x.To.toNat<t.ah.toNat:=by omega
   have hlk:x.iI.toNat<L.length:=by omega
   have hup:=Qm hn (k:=x.iI) k4 (by omega);have hcond:((tU (dW L) (aE.iI x)).bind fun r10=>
 bif r10 then((cZ (aE.iI x) (dW L).l.length).bind fun n11=>
 (cZ (aE.To x) (Sl.mk (bw t.ah.toNat c)).l.length).bind fun n12=>
 (o3 (gt (dW L).l n11) (gt (Sl.mk (bw t.ah.toNat c)).l n12)).bind fun r13=>
 (cZ (i:Int) (Sl.mk (bw t.ah.toNat c)).l.length).bind fun n14=>
 some (DH .f64 r13 (gt (Sl.mk (bw t.ah.toNat c)).l n14)))else
 (some false):Option Bool)=some (jU (iF t L) c i (ed L x)):=by
       rw[hup,ae];unfold jU;rw[decide_eq_true (show c i<oK by omega),dE];show(bif decide (wt L x.iI<oK)then _ else _)=some (decide (wt L x.iI<oK)&&(P (wt L x.iI) (c x.To.toNat)==c i));cases decide (wt L x.iI<oK)with
       |false=>rfl
       |true=>
        rw[cond_true,hWl,eC.2 ⟨show x.iI=((x.iI.toNat:Nat):Int)by omega,hlk⟩,ae,h_,eC.2 ⟨show x.To=((x.To.toNat:Nat):Int)by omega,by rw[cu];exact hto⟩,ae,g_ hto,En (hn _ (mP hlk)) (hc _ hto),ae,nV (by rw[cu];exact hi),ae,g_ hi];have hp:nn (P (ab (gt L x.iI.toNat)) (c x.To.toNat)):=qC R8;rw[As (nL (uU hp) (mq hp)) (nL (uU hcn) (mq hcn)),yg hp,yg hcn,rn R8,rn hci];rw[dE];show some (decide (((P (wt L x.iI) (c x.To.toNat):Nat):Int)=((c i:Nat):Int)))=_;congr 1;rw[<-Bt];by_cases h:((P (wt L x.iI) (c x.To.toNat):Nat):Int)=((c i:Nat):Int)
        .rw [decide_eq_true h,h];simp
        .rw [decide_eq_false h,beq_eq_false_iff_ne.2 h]
   rw[hcond,ae];cases hb:jU (iF t L) c i (ed L x)with|true=>rw[cond_true,iM.2 ⟨rfl,by rw[au];simp;omega⟩,ae,ae,u4 (by omega)];rfl|false=>rw[cond_false,ae,u4 (by omega)];rfl) (fun s=>by
   simp only[mb];rw[decide_eq_false (by omega),cond_false])
  rw[s1];exact⟨s,rfl,by rw[s2,r2];rfl⟩
variable{g:Nat}
def jG(t:aj)(L:List Nat)(c:Nat->Nat)(g k i j:Nat):Int:=if j<i then j5 (iF t L) c g (k+1) j else j5 (iF t L) c g k j
theorem MH{k i j:Nat}:(jG t L c g k i j==(k:Int))=(j5 (iF t L) c g k j==(k:Int)):=by
 unfold jG;split
 .have h1:=th (E:=iF t L) (c:=c) (g:=g) k j;by_cases h2:j5 (iF t L) c g k j=-1
  .rw [h2];have h3:((-1:Int)==(k:Int))=false:=by rw[beq_eq_false_iff_ne];omega
   rw[h3,beq_eq_false_iff_ne];simp only[j5];split
   .omega
   .rw [h2];omega
  .rw [wF h2]
 .rfl
theorem B3{k i:Nat}(hi:i<t.ah.toNat):(bw t.ah.toNat (jG t L c g k i)).set i (j5 (iF t L) c g (k+1) i)=bw t.ah.toNat (jG t L c g k (i+1)):=by
 rw[ng hi];refine gE fun j hj=>?_;unfold jG;by_cases h1:j=i
 .rw [if_pos h1,if_pos (by omega),h1]
 .rw [if_neg h1];by_cases h2:j<i
  .rw [if_pos h2,if_pos (by omega)]
  .rw [if_neg h2,if_neg (by omega)]
theorem B4{k i:Nat}(h:j5 (iF t L) c g (k+1) i=j5 (iF t L) c g k i):bw t.ah.toNat (jG t L c g k i)=bw t.ah.toNat (jG t L c g k (i+1)):=by
 refine gE fun j hj=>?_;unfold jG;by_cases h2:j<i
 .rw [if_pos h2,if_pos (by omega)]
 .rw [if_neg h2];by_cases h1:j=i
  .subst h1;rw[if_pos (by omega),h]
  .rw [if_neg (by omega)]
def J8(t:aj)(L:List Nat)(c:Nat->Nat)(g k i:Nat):Bool:=(iF t L i).any fun e=>jU (iF t L) c i e&&(j5 (iF t L) c g k e.1==(k:Int))
theorem C3{k i:Nat}:j5 (iF t L) c g (k+1) i=if j5 (iF t L) c g k i=-1/\J8 t L c g k i=true then(k:Int)+1 else j5 (iF t L) c g k i:=rfl
theorem IL{k i:Nat}:jG t L c g k i i=j5 (iF t L) c g k i:=by unfold jG;rw[if_neg (by omega)]
include hV in
theorem OZ{k i:Nat}{s:Sl aE}(hs:s.l=vz t L c i){m:Nat}:bp s (Sl.mk (bw t.ah.toNat (jG t L c g k m))) (k:Int)=some (J8 t L c g k i):=by
 unfold bp bP;have hlen:s.l.length<=8:=by rw[hs];exact bt (List.length_filter_le _ _) (bt (dY _ _) (by simp))
 have:=BG (f:=bI s (Sl.mk (bw t.ah.toNat (jG t L c g k m))) (k:Int)) s.l (fun i x=>if(j5 (iF t L) c g k x.To.toNat==(k:Int))=true then some (i:Int)else none) () (by omega) (fun j hj=>by
  have hxm:gt s.l j∈fU t (i:Int):=by have h:=mP hj;generalize gt s.l j=x at h|-;rw[hs]at h;exact(List.mem_filter.1 h).1
  obtain⟨k1,k2,_⟩:=nk hV hxm;simp only[bI];rw[decide_eq_true (by omega),cond_true,nV hj,ae];generalize gt s.l j=x at*;have hto:x.To.toNat<t.ah.toNat:=by omega
  unfold rH;rw[h_,eC.2 ⟨show aE.To x=((x.To.toNat:Nat):Int)by show x.To=_;omega,by rw[cu];exact hto⟩,ae,g_ hto,ae,MH];cases(j5 (iF t L) c g k x.To.toNat==(k:Int))<;>rfl) (by
  simp only[bI];rw[decide_eq_false (by omega),cond_false])
 rw[this,ae];have h2:=II (p:=fun x:aE=>j5 (iF t L) c g k x.To.toNat==(k:Int)) s.l;have h3:s.l.any (fun x:aE=>j5 (iF t L) c g k x.To.toNat==(k:Int))=J8 t L c g k i:=by rw[hs,vz,List.any_filter,J8,iF,List.any_map];rfl
 rw[h3]at h2;rw[<-h2];cases mB (fun(i:Nat)(x:aE)=>if(j5 (iF t L) c g k x.To.toNat==(k:Int))=true then some (i:Int)else none) s.l 0<;>rfl
include hV hL hn hc in
theorem Jt{k:Nat}(hk:k<1000){z:Sl Int}(hz:z.l.length=t.ah.toNat):aY (jC t (dW L) (Sl.mk (bw t.ah.toNat c)) (k:Int) z) (0,Sl.mk (bw t.ah.toNat (j5 (iF t L) c g k)))=some (Sl.mk (bw t.ah.toNat (j5 (iF t L) c g (k+1)))):=by
 have h8:=l_ hV
 have:=Bc (f:=jC t (dW L) (Sl.mk (bw t.ah.toNat c)) (k:Int) z) (fun i:Nat=>((i:Int),Sl.mk (bw t.ah.toNat (jG t L c g k i)))) t.ah.toNat (b:=Sl.mk (bw t.ah.toNat (j5 (iF t L) c g (k+1)))) (fun i hi=>by
  obtain⟨s,s1,s2⟩:=BA hV hL hn hc hi;have hr:=th (E:=iF t L) (c:=c) (g:=g) k i;simp only[jC];rw[hz,decide_eq_true (by omega),cond_true,h_,nV (by rw[cu];exact hi),ae,g_ hi,IL];by_cases h1:j5 (iF t L) c g k i=-1
  .rw [decide_eq_true (show j5 (iF t L) c g k i<0 by omega),cond_true,s1,ae,OZ hV s2,ae,ae];cases hh:J8 t L c g k i with
   |true=>
    have h2:j5 (iF t L) c g (k+1) i=((k+1:Nat):Int):=by rw[C3,if_pos ⟨h1,hh⟩];rfl
    rw[cond_true,ae,ae,u4 (by omega),u4 (by omega),<-h2,B3 hi]
   |false=>rw[cond_false,ae,u4 (by omega),B4 (by rw[C3,if_neg (by rw[hh];simp)])]
  .rw [decide_eq_false (show¬j5 (iF t L) c g k i<0 by omega),cond_false,ae,cond_false,ae,u4 (by omega),B4 (wF h1)]) (by
  simp only[jC];rw[hz,decide_eq_false (by omega),cond_false];congr 2;exact congrArg Sl.mk (gE fun j hj=>if_pos hj))
 have e0:bw t.ah.toNat (jG t L c g k 0)=bw t.ah.toNat (j5 (iF t L) c g k):=gE fun j _=>if_neg (by omega);rw[e0]at this;exact this
include hV hL hn hc in
theorem Gz:∃K:Nat,aY (iz t (dW L) (Sl.mk (bw t.ah.toNat c))) (0,Sl.mk (bw t.ah.toNat (j5 (iF t L) c g 0)))=some (Sl.mk (bw t.ah.toNat (j5 (iF t L) c g K)))/\∀i,i<t.ah.toNat->j5 (iF t L) c g K i≠(K:Int):=by
 have h8:=l_ hV;have hE:=wJ hV L
 have key:∀(d k:Nat),k+d=t.ah.toNat->∃K:Nat,aY (iz t (dW L) (Sl.mk (bw t.ah.toNat c))) ((k:Int),Sl.mk (bw t.ah.toNat (j5 (iF t L) c g k)))=some (Sl.mk (bw t.ah.toNat (j5 (iF t L) c g K)))/\∀i,i<t.ah.toNat->j5 (iF t L) c g K i≠(K:Int):=by
  intro d;induction d with
  |zero=>
   intro k hk;have hno:∀i,i<t.ah.toNat->j5 (iF t L) c g k i≠(k:Int):=fun i hi=>by have:=Mj (c:=c) (g:=g) hE k hi;omega
   refine⟨k,bH ?_,hno⟩;simp only[iz];rw[qf (by rw[h_,cu];omega),ae,h_];have:(bw t.ah.toNat (j5 (iF t L) c g k)).any (fun x=>(k:Int)==x)=false:=by rw[List.any_eq_false];intro x hx;obtain⟨i,hi,rfl⟩:=bv.1 hx;have:=hno i (eF.1 hi);simp;omega
   rw[this,cond_false]
  |succ d ih=>
   intro k hk;by_cases hno:∀i,i<t.ah.toNat->j5 (iF t L) c g k i≠(k:Int)
   .refine ⟨k,bH ?_,hno⟩;simp only[iz];rw[qf (by rw[h_,cu];omega),ae,h_];have:(bw t.ah.toNat (j5 (iF t L) c g k)).any (fun x=>(k:Int)==x)=false:=by rw[List.any_eq_false];intro x hx;obtain⟨i,hi,rfl⟩:=bv.1 hx;have:=hno i (eF.1 hi);simp;omega
    rw[this,cond_false]
   .obtain ⟨K,i1,i2⟩:=ih (k+1) (by omega);refine⟨K,(cz (a':=(((k+1:Nat):Int),Sl.mk (bw t.ah.toNat (j5 (iF t L) c g (k+1))))) ?_).trans i1,i2⟩;simp only[iz];rw[qf (by rw[h_,cu];omega),ae,h_];have:(bw t.ah.toNat (j5 (iF t L) c g k)).any (fun x=>(k:Int)==x)=true:=by rw[List.any_eq_true];have⟨i,hi⟩:=Classical.not_forall.1 hno;have hi1:i<t.ah.toNat:=Classical.byContradiction fun h=>hi fun q=>absurd q h;have hi2:j5 (iF t L) c g k i=(k:Int):=Classical.byContradiction fun h=>hi fun _=>h;exact⟨_,bv.2 ⟨i,eF.2 hi1,rfl⟩,by rw[hi2];simp⟩
    rw[this,cond_true,Jt hV hL hn hc (by omega) (by rw[h_,cu]),ae,u4 (by omega)]
 exact key t.ah.toNat 0 (by omega)
end
end Go.Proofs.Ytingpmogbibghaa.S
