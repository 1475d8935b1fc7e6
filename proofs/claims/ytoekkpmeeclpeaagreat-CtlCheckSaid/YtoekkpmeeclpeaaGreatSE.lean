/- Steps: what both tell. Conditions: a topology and weights that may be. -/
import Derived.Test.YtoekkpmeeclpeaaGreatSD
open Bool renaming true_and->eO
open List renaming length_append->ap,length_filterMap_le->cZ,length_map->aD,mem_map->br,mem_range->eG
open Nat renaming le_refl->am,le_trans->bo
open Option renaming bind_some->ae
open Option.some renaming inj->aa
open Go.Ev Go Go.Fl Go.Ways
namespace Go.Proofs.YtoekkpmeeclpeaaGreat.S
theorem Jo{α:Type}{p:α->Bool}(l:List α):decide ((match j9 (fun(i:Nat)x=>if p x then some (i:Int)else none) l 0 with|some b=>b|none=>(-1:Int))>=0)=l.any p:=by
 have h3:=sC (p:=p) (g:=fun i=>(i:Int)) l 0;rw[<-h3];cases hsc:j9 (fun(i:Nat)x=>if p x then some (i:Int)else none) l 0 with
 |none=>rfl
 |some b=>
  obtain⟨j,x,_,h5,_⟩:=jP hsc;split at h5
  .obtain rfl:=aa h5;exact decide_eq_true (show(((0+j:Nat):Int))>=0 by omega)
  .cases h5
theorem UZ{α:Type}[Inhabited α]{f:Int×Sl α->Option ((Int×Sl α)⊕Sl α)}(l:List α)(p:α->Bool)
  (h1:∀(i:Nat)(s:Sl α),i<l.length->s.l.length<=i->f ((i:Int),s)=some (.inl (((i+1:Nat):Int),bif p (gt l i)then Sl.mk (s.l++[gt l i])else s)))
  (h2:∀s:Sl α,f ((l.length:Int),s)=some (.inr s)):∃s,aP f (0,Sl.nil)=some s/\s.l=l.filter p:=by
 have key:∀(R O:List α)(s:Sl α),l=O++R->s.l=O.filter p->∃s',aP f ((O.length:Int),s)=some s'/\s'.l=l.filter p:=by
  intro R;induction R with
  |nil=>
   intro O s e hs;have e:l=O:=by rw[e,List.append_nil]
   subst e;exact⟨s,bt (h2 _),hs⟩
  |cons x R ih=>
   intro O s e hs;have hx:gt l O.length=x:=by rw[e];exact tt
   have h:=h1 O.length s (by rw[e];simp) (by rw[hs];exact List.length_filter_le _ _);rw[hx]at h;obtain⟨s',i1,i2⟩:=ih (O++[x]) (bif p x then Sl.mk (s.l++[x])else s) (by rw[e];simp) (by rw[List.filter_append,<-hs];cases hp:p x<;>simp[hp,ii]);rw[ap]at i1;exact⟨s',(bX h).trans i1,i2⟩
 exact key l [] Sl.nil rfl rfl
theorem pQ{s:Sl Int}(hb:s.l.length<9223372036854775807)(v:Int):dL s v=some (s.l.any fun x=>v==x):=by
 unfold dL jo
 have:=tU (f:=dK s v) s.l (fun i x=>if(v==x)=true then some (i:Int)else none) () (by omega) (fun i hi=>by
  simp only[dK];rw[decide_eq_true (by omega),cond_true,og hi,ae];cases v==gt s.l i<;>rfl) (by
  simp only[dK];rw[decide_eq_false (by omega),cond_false])
 rw[this,ae,<-Jo];cases j9 (fun(i:Nat)x=>if(v==x)=true then some (i:Int)else none) s.l 0<;>rfl
section
variable{t:ai}{L:List Nat}(hV:gi t)(hL:L.length=t.aE.l.length)(hn:∀x∈L,nn x){c:Nat->Nat}(hc:∀i,i<t.ah.toNat->c i<=oh)
include hn in
theorem RX{k:Int}(h0:0<=k)(h1:k<L.length):tL (dM L) k=some (decide (wt L k<oh)):=by
 unfold tL;have hWl:(dM L).l=L:=rn L;have hk:k.toNat<L.length:=by omega
 have hinf:ub 1=some oh:=rfl;have hw:=hn _ (kQ (l:=L) hk);rw[hWl,decide_eq_true (show k>=0 by omega),decide_eq_true (show k<(L.length:Int)by omega),Bool.and_self,cond_true,dO.2 ⟨show k=((k.toNat:Nat):Int)by omega,hk⟩,ae,hinf,ae,ae];congr 1;have hi:nn oh:=qP (am _);rw[HW (nd (vR hw) (mm hw)) (nd (vR hi) (mm hi)),yE hw,yE hi,rb (am _)];exact decide_eq_decide.2 (by show((wt L k:Nat):Int)<((oh:Nat):Int)<->_;omega)
include hn in
theorem Pj{b:Sl Int}(hb:b.l=dV L){k:Int}(h0:0<=k)(h1:k<L.length):wC b k=some (decide (wt L k<oh)):=by
 unfold wC;have hk:k.toNat<L.length:=by omega
 have hw:=hn _ (kQ (l:=L) hk);have e0:b.l.length=L.length:=by rw[hb,aD]
 rw[e0,decide_eq_false (show¬k<0 by omega),decide_eq_false (show¬k>=(L.length:Int)by omega),Bool.or_false,cond_false,dO.2 ⟨show k=((k.toNat:Nat):Int)by omega,hk⟩,ae,hb,oP hk,Ic,ae];congr 1;unfold wt;generalize gt L k.toNat=x at hw;unfold Lt;rw[mm hw,cond_false];rcases hw with hw|hw
 .have hx:=hw;rw[ru]at hx;rw[rb hw,beq_eq_false_iff_ne.2 (show x≠18442240474082181120 by omega),cond_false,decide_eq_false (show¬x>9223372036854775808 by omega),cond_false,beq_eq_false_iff_ne.2 (show x≠9223372036854775808 by omega),cond_false];have hinf:oh=9218868437227405312:=ru;by_cases h:x=0
  .subst h;decide
  .rw [beq_eq_false_iff_ne.2 h,cond_false];by_cases h2:x<9218868437227405312
   .rw [decide_eq_true h2,decide_eq_true (show x<oh by rw[hinf];exact h2)];rfl
   .rw [decide_eq_false h2,decide_eq_false (show¬x<oh by rw[hinf];exact h2)];rfl
 .subst hw;decide
def vQ(t:ai)(L:List Nat)(c:Nat->Nat)(i:Nat):List aw:=(eC t (i:Int)).filter fun x=>je (hO t L) c i (ed L x)
include hV hL hn hc in
theorem BR{i:Nat}(hi:i<t.ah.toNat):∃s,oT t (dM L) (Sl.mk (bv t.ah.toNat c)) (i:Int)=some s/\s.l=vQ t L c i:=by
 unfold oT;have hci:=hc i hi;have hcn:nn (c i):=qP hci;rw[ii,og (by rw[cJ];exact hi),ae,gM hi,Jn (vR hcn) (mm hcn),ae];have hinf:oh=9218868437227405312:=ru;by_cases h1:c i=oh
 .have:(c i==9218868437227405312)=true:=by rw[h1,hinf];rfl
  rw[this,cond_true];refine⟨Sl.nil,rfl,?_⟩;symm;refine List.filter_eq_nil_iff.2 fun x _=>?_;unfold je;rw[decide_eq_false (by omega)];simp
 .have:(c i==9218868437227405312)=false:=by rw[beq_eq_false_iff_ne,<-hinf];exact h1
  rw[this,cond_false];obtain⟨r,r1,r2⟩:=Aq hV (i:Int);rw[r1,ae];have hWl:(dM L).l=L:=rn L;have hlen8:r.l.length<=8:=by rw[r2];exact bo (cZ _ _) (by simp)
  obtain⟨s,s1,s2⟩:=UZ (f:=nB (dM L) (Sl.mk (bv t.ah.toNat c)) (i:Int) r) r.l (fun x=>je (hO t L) c i (ed L x)) (fun j s hj hsl=>by
   have hxm:gt r.l j∈eC t (i:Int):=by rw[<-r2];exact kQ hj
   obtain⟨k1,k2,k3,k4,k5⟩:=mM hV hxm;simp only[nB];rw[decide_eq_true (by omega),cond_true,og hj,ae];generalize gt r.l j=x at*;have hto:x.To.toNat<t.ah.toNat:=by omega
   have hlk:x.hZ.toNat<L.length:=by omega
   have hup:=RX hn (k:=x.hZ) k4 (by omega);have hcond:((tL (dM L) (aw.hZ x)).bind fun r10=>
 bif r10 then((cC (aw.hZ x) (dM L).l.length).bind fun n11=>
 (cC (aw.To x) (Sl.mk (bv t.ah.toNat c)).l.length).bind fun n12=>
 (oE (gt (dM L).l n11) (gt (Sl.mk (bv t.ah.toNat c)).l n12)).bind fun r13=>
 (cC (i:Int) (Sl.mk (bv t.ah.toNat c)).l.length).bind fun n14=>
 some (GB .f64 r13 (gt (Sl.mk (bv t.ah.toNat c)).l n14)))else
 (some false):Option Bool)=some (je (hO t L) c i (ed L x)):=by
       rw[hup,ae];unfold je;rw[decide_eq_true (show c i<oh by omega),eO];show(bif decide (wt L x.hZ<oh)then _ else _)=some (decide (wt L x.hZ<oh)&&(P (wt L x.hZ) (c x.To.toNat)==c i));cases decide (wt L x.hZ<oh)with
       |false=>rfl
       |true=>
        rw[cond_true,hWl,dO.2 ⟨show x.hZ=((x.hZ.toNat:Nat):Int)by omega,hlk⟩,ae,ii,dO.2 ⟨show x.To=((x.To.toNat:Nat):Int)by omega,by rw[cJ];exact hto⟩,ae,gM hto,ER (hn _ (kQ hlk)) (hc _ hto),ae,og (by rw[cJ];exact hi),ae,gM hi];have hp:nn (P (ab (gt L x.hZ.toNat)) (c x.To.toNat)):=qP T1;rw[AI (nd (vR hp) (mm hp)) (nd (vR hcn) (mm hcn)),yE hp,yE hcn,rb T1,rb hci];rw[eO];show some (decide (((P (wt L x.hZ) (c x.To.toNat):Nat):Int)=((c i:Nat):Int)))=_;congr 1;rw[<-BG];by_cases h:((P (wt L x.hZ) (c x.To.toNat):Nat):Int)=((c i:Nat):Int)
        .rw [decide_eq_true h,h];simp
        .rw [decide_eq_false h,beq_eq_false_iff_ne.2 h]
   rw[hcond,ae];cases hb:je (hO t L) c i (ed L x)with|true=>rw[cond_true,iP.2 ⟨rfl,by rw[ap];simp;omega⟩,ae,ae,vn (by omega)];rfl|false=>rw[cond_false,ae,vn (by omega)];rfl) (fun s=>by
   simp only[nB];rw[decide_eq_false (by omega),cond_false])
  rw[s1];exact⟨s,rfl,by rw[s2,r2];rfl⟩
include hV hL hn hc in
theorem Em{b:Sl Int}(hb:b.l=dV L){i:Nat}(hi:i<t.ah.toNat){x:aw}(hxm:x∈eC t (i:Int)):qc b (Sl.mk (dV (bv t.ah.toNat c))) (i:Int) x=some (je (hO t L) c i (ed L x)):=by
 obtain⟨k1,k2,k3,k4,k5⟩:=mM hV hxm;have hto:x.To.toNat<t.ah.toNat:=by omega
 have hlk:x.hZ.toNat<L.length:=by omega
 have hinf:oh=9218868437227405312:=ru;have hci:=hc i hi;unfold qc;have hgi:gt (dV (bv t.ah.toNat c)) i=((c i:Nat):Int):=by rw[oP (by rw[cJ];exact hi),gM hi]
 rw[ii,og (by rw[aD,cJ];exact hi),ae,hgi];unfold je;by_cases h1:c i=oh
 .have:(((c i:Nat):Int) !=9218868437227405312)=false:=by rw[bne_eq_false_iff_eq,h1,hinf];rfl
  rw[this,cond_false,decide_eq_false (show¬c i<oh by omega)];rfl
 .have:(((c i:Nat):Int) !=9218868437227405312)=true:=by rw[bne_iff_ne];omega
  rw[this,cond_true,decide_eq_true (show c i<oh by omega),eO];have hup:=Pj hn hb (k:=bJ.hZ x) k4 (by show x.hZ<_;omega);rw[hup,ae];show(bif decide (wt L x.hZ<oh)then _ else _:Option Bool).bind _=some (decide (wt L x.hZ<oh)&&(P (wt L x.hZ) (c x.To.toNat)==c i));cases decide (wt L x.hZ<oh)with|false=>rfl|true=>have i2:cC (bJ.hZ x) b.l.length=some x.hZ.toNat:=dO.2 ⟨by show x.hZ=_;omega,by rw[hb,aD];exact hlk⟩;have i1:cC (bJ.To x) (dV (bv t.ah.toNat c)).length=some x.To.toNat:=dO.2 ⟨by show x.To=_;omega,by rw[aD,cJ];exact hto⟩;rw[cond_true,i2,ae,i1,ae,hb,oP hlk,oP (by rw[cJ];exact hto),gM hto,B8 (hn _ (kQ hlk)) (hc _ hto),ae,ae,ae,hgi,BG];rfl
variable{g:Nat}
def iV(t:ai)(L:List Nat)(c:Nat->Nat)(g k i j:Nat):Int:=if j<i then jj (hO t L) c g (k+1) j else jj (hO t L) c g k j
theorem NO{k i j:Nat}:(iV t L c g k i j==(k:Int))=(jj (hO t L) c g k j==(k:Int)):=by
 unfold iV;split
 .have h1:=sQ (E:=hO t L) (c:=c) (g:=g) k j;by_cases h2:jj (hO t L) c g k j=-1
  .rw [h2];have h3:((-1:Int)==(k:Int))=false:=by rw[beq_eq_false_iff_ne];omega
   rw[h3,beq_eq_false_iff_ne];simp only[jj];split
   .omega
   .rw [h2];omega
  .rw [wT h2]
 .rfl
theorem Ck{k i:Nat}(hi:i<t.ah.toNat):(bv t.ah.toNat (iV t L c g k i)).set i (jj (hO t L) c g (k+1) i)=bv t.ah.toNat (iV t L c g k (i+1)):=by
 rw[mK hi];refine fY fun j hj=>?_;unfold iV;by_cases h1:j=i
 .rw [if_pos h1,if_pos (by omega),h1]
 .rw [if_neg h1];by_cases h2:j<i
  .rw [if_pos h2,if_pos (by omega)]
  .rw [if_neg h2,if_neg (by omega)]
theorem Cl{k i:Nat}(h:jj (hO t L) c g (k+1) i=jj (hO t L) c g k i):bv t.ah.toNat (iV t L c g k i)=bv t.ah.toNat (iV t L c g k (i+1)):=by
 refine fY fun j hj=>?_;unfold iV;by_cases h2:j<i
 .rw [if_pos h2,if_pos (by omega)]
 .rw [if_neg h2];by_cases h1:j=i
  .subst h1;rw[if_pos (by omega),h]
  .rw [if_neg (by omega)]
def K3(t:ai)(L:List Nat)(c:Nat->Nat)(g k i:Nat):Bool:=(hO t L i).any fun e=>je (hO t L) c i e&&(jj (hO t L) c g k e.1==(k:Int))
theorem Dn{k i:Nat}:jj (hO t L) c g (k+1) i=if jj (hO t L) c g k i=-1/\K3 t L c g k i=true then(k:Int)+1 else jj (hO t L) c g k i:=rfl
theorem Js{k i:Nat}:iV t L c g k i i=jj (hO t L) c g k i:=by unfold iV;rw[if_neg (by omega)]
include hV in
theorem Qj{k i:Nat}{s:Sl aw}(hs:s.l=vQ t L c i){m:Nat}:bZ s (Sl.mk (bv t.ah.toNat (iV t L c g k m))) (k:Int)=some (K3 t L c g k i):=by
 unfold bZ db;have hlen:s.l.length<=8:=by rw[hs];exact bo (List.length_filter_le _ _) (bo (cZ _ _) (by simp))
 have:=tU (f:=bY s (Sl.mk (bv t.ah.toNat (iV t L c g k m))) (k:Int)) s.l (fun i x=>if(jj (hO t L) c g k x.To.toNat==(k:Int))=true then some (i:Int)else none) () (by omega) (fun j hj=>by
  have hxm:gt s.l j∈eC t (i:Int):=by have h:=kQ hj;generalize gt s.l j=x at h|-;rw[hs]at h;exact(List.mem_filter.1 h).1
  obtain⟨k1,k2,_⟩:=mM hV hxm;simp only[bY];rw[decide_eq_true (by omega),cond_true,og hj,ae];generalize gt s.l j=x at*;have hto:x.To.toNat<t.ah.toNat:=by omega
  unfold rp;rw[ii,dO.2 ⟨show aw.To x=((x.To.toNat:Nat):Int)by show x.To=_;omega,by rw[cJ];exact hto⟩,ae,gM hto,ae,NO];cases(jj (hO t L) c g k x.To.toNat==(k:Int))<;>rfl) (by
  simp only[bY];rw[decide_eq_false (by omega),cond_false])
 rw[this,ae];have h2:=Jo (p:=fun x:aw=>jj (hO t L) c g k x.To.toNat==(k:Int)) s.l;have h3:s.l.any (fun x:aw=>jj (hO t L) c g k x.To.toNat==(k:Int))=K3 t L c g k i:=by rw[hs,vQ,List.any_filter,K3,hO,List.any_map];rfl
 rw[h3]at h2;rw[<-h2];cases j9 (fun(i:Nat)(x:aw)=>if(jj (hO t L) c g k x.To.toNat==(k:Int))=true then some (i:Int)else none) s.l 0<;>rfl
include hV hL hn hc in
theorem Kg{k:Nat}(hk:k<1000){z:Sl Int}(hz:z.l.length=t.ah.toNat):aP (lg t (dM L) (Sl.mk (bv t.ah.toNat c)) (k:Int) z) (0,Sl.mk (bv t.ah.toNat (jj (hO t L) c g k)))=some (Sl.mk (bv t.ah.toNat (jj (hO t L) c g (k+1)))):=by
 have h8:=mU hV
 have:=Bs (f:=lg t (dM L) (Sl.mk (bv t.ah.toNat c)) (k:Int) z) (fun i:Nat=>((i:Int),Sl.mk (bv t.ah.toNat (iV t L c g k i)))) t.ah.toNat (b:=Sl.mk (bv t.ah.toNat (jj (hO t L) c g (k+1)))) (fun i hi=>by
  obtain⟨s,s1,s2⟩:=BR hV hL hn hc hi;have hr:=sQ (E:=hO t L) (c:=c) (g:=g) k i;simp only[lg];rw[hz,decide_eq_true (by omega),cond_true,ii,og (by rw[cJ];exact hi),ae,gM hi,Js];by_cases h1:jj (hO t L) c g k i=-1
  .rw [decide_eq_true (show jj (hO t L) c g k i<0 by omega),cond_true,s1,ae,Qj hV s2,ae,ae];cases hh:K3 t L c g k i with
   |true=>
    have h2:jj (hO t L) c g (k+1) i=((k+1:Nat):Int):=by rw[Dn,if_pos ⟨h1,hh⟩];rfl
    rw[cond_true,ae,ae,vn (by omega),vn (by omega),<-h2,Ck hi]
   |false=>rw[cond_false,ae,vn (by omega),Cl (by rw[Dn,if_neg (by rw[hh];simp)])]
  .rw [decide_eq_false (show¬jj (hO t L) c g k i<0 by omega),cond_false,ae,cond_false,ae,vn (by omega),Cl (wT h1)]) (by
  simp only[lg];rw[hz,decide_eq_false (by omega),cond_false];congr 2;exact congrArg Sl.mk (fY fun j hj=>if_pos hj))
 have e0:bv t.ah.toNat (iV t L c g k 0)=bv t.ah.toNat (jj (hO t L) c g k):=fY fun j _=>if_neg (by omega);rw[e0]at this;exact this
include hV hL hn hc in
theorem G7:∃K:Nat,aP (jO t (dM L) (Sl.mk (bv t.ah.toNat c))) (0,Sl.mk (bv t.ah.toNat (jj (hO t L) c g 0)))=some (Sl.mk (bv t.ah.toNat (jj (hO t L) c g K)))/\∀i,i<t.ah.toNat->jj (hO t L) c g K i≠(K:Int):=by
 have h8:=mU hV;have hE:=w8 hV L
 have key:∀(d k:Nat),k+d=t.ah.toNat->∃K:Nat,aP (jO t (dM L) (Sl.mk (bv t.ah.toNat c))) ((k:Int),Sl.mk (bv t.ah.toNat (jj (hO t L) c g k)))=some (Sl.mk (bv t.ah.toNat (jj (hO t L) c g K)))/\∀i,i<t.ah.toNat->jj (hO t L) c g K i≠(K:Int):=by
  intro d;induction d with
  |zero=>
   intro k hk;have hno:∀i,i<t.ah.toNat->jj (hO t L) c g k i≠(k:Int):=fun i hi=>by have:=Nt (c:=c) (g:=g) hE k hi;omega
   refine⟨k,bt ?_,hno⟩;simp only[jO];rw[pQ (by rw[ii,cJ];omega),ae,ii];have:(bv t.ah.toNat (jj (hO t L) c g k)).any (fun x=>(k:Int)==x)=false:=by rw[List.any_eq_false];intro x hx;obtain⟨i,hi,rfl⟩:=br.1 hx;have:=hno i (eG.1 hi);simp;omega
   rw[this,cond_false]
  |succ d ih=>
   intro k hk;by_cases hno:∀i,i<t.ah.toNat->jj (hO t L) c g k i≠(k:Int)
   .refine ⟨k,bt ?_,hno⟩;simp only[jO];rw[pQ (by rw[ii,cJ];omega),ae,ii];have:(bv t.ah.toNat (jj (hO t L) c g k)).any (fun x=>(k:Int)==x)=false:=by rw[List.any_eq_false];intro x hx;obtain⟨i,hi,rfl⟩:=br.1 hx;have:=hno i (eG.1 hi);simp;omega
    rw[this,cond_false]
   .obtain ⟨K,i1,i2⟩:=ih (k+1) (by omega);refine⟨K,(bX (a':=(((k+1:Nat):Int),Sl.mk (bv t.ah.toNat (jj (hO t L) c g (k+1))))) ?_).trans i1,i2⟩;simp only[jO];rw[pQ (by rw[ii,cJ];omega),ae,ii];have:(bv t.ah.toNat (jj (hO t L) c g k)).any (fun x=>(k:Int)==x)=true:=by rw[List.any_eq_true];have⟨i,hi⟩:=Classical.not_forall.1 hno;have hi1:i<t.ah.toNat:=Classical.byContradiction fun h=>hi fun q=>absurd q h;have hi2:jj (hO t L) c g k i=(k:Int):=Classical.byContradiction fun h=>hi fun _=>h;exact⟨_,br.2 ⟨i,eG.2 hi1,rfl⟩,by rw[hi2];simp⟩
    rw[this,cond_true,Kg hV hL hn hc (by omega) (by rw[ii,cJ]),ae,vn (by omega)]
 exact key t.ah.toNat 0 (by omega)
end
end Go.Proofs.YtoekkpmeeclpeaaGreat.S
