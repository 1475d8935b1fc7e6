/- Steps and trees: both tell the same. Conditions: a topology and weights that may be. -/
import Derived.Test.YtoekkpmeeclpeaaGreatSE
open List renaming ext_getElem->gQ,length_append->ap,length_filterMap_le->cZ,length_range->cM,length_replicate->aY,length_reverse->jL,range->bm,replicate->aj
open Nat renaming le_trans->bo
open Option renaming bind_some->ae
open Go.Ev Go Go.Fl Go.Ways
namespace Go.Proofs.YtoekkpmeeclpeaaGreat.S
section
variable{t:ai}{L:List Nat}(hV:gi t)(hL:L.length=t.aE.l.length)(hn:∀x∈L,nn x)
def rA(t:ai)(L:List Nat)(c:Nat->Nat)(g:Nat):Nat->Int:=jj (hO t L) c g (t.ah.toNat-1)
theorem IR{n g:Nat}(hg:g<n){E:Nat->List (Nat×Nat)}{c:Nat->Nat}:(aj n (-1:Int)).set g 0=bv n (jj E c g 0):=by
 have e1:aj n (-1:Int)=bv n (fun _=>(-1:Int)):=gQ (by simp[bv]) fun j h1 h2=>by simp[bv]
 rw[e1,mK hg];rfl
include hV hL hn in
theorem GM{g:Nat}(hg:g<t.ah.toNat){c:Nat->Nat}(hc:∀i,i<t.ah.toNat->c i<=oh)(hcosts:lj t (dM L) (g:Int)=some (Sl.mk (bv t.ah.toNat c))):
  qK t (dM L) (g:Int)=some (Sl.mk (bv t.ah.toNat (rA t L c g))):=by
 obtain⟨s1,s2,s3⟩:=mU hV;unfold qK;have hrep:=z_ (x:=-1) s2 s3;rw[<-s1]at hrep;obtain⟨K,k1,k2⟩:=G7 hV hL hn (g:=g) hc;have hnil:(Sl.mk (bv t.ah.toNat c):Sl Nat).fA=false:=rfl;rw[hcosts,ae,hnil,cond_false,hrep,ae,ii,og (by rw[aY];exact hg),ae,IR hg (E:=hO t L) (c:=c),k1,ae];congr 1;exact congrArg Sl.mk (fY fun i hi=>Nu (w8 hV L) k2 hi)
variable{c:Nat->Nat}(hc:∀i,i<t.ah.toNat->c i<=oh){b:Sl Int}(hb:b.l=dV L){g:Nat}
include hV hL hn hc hb in
theorem NN{k i:Nat}(hk:k<1000)(hi:i<t.ah.toNat){r:Sl bJ}(hr:r.l=eC t (i:Int)):
  aP (lq b (Sl.mk (dV (bv t.ah.toNat c))) ((k+1:Nat):Int) r (i:Int)) (0,Sl.mk (bv t.ah.toNat (iV t L c g k i)))=some (Sl.mk (bv t.ah.toNat (iV t L c g k (i+1)))):=by
 have hlen8:r.l.length<=8:=by rw[hr];exact bo (cZ _ _) (by simp)
 -- after so many qJ
 let v:List aw->Int:=fun A=>if jj (hO t L) c g k i=-1/\(A.any fun x=>je (hO t L) c i (ed L x)&&(jj (hO t L) c g k x.To.toNat==(k:Int)))=true then(k:Int)+1 else jj (hO t L) c g k i
 have key:∀(R A:List aw),r.l=A++R->aP (lq b (Sl.mk (dV (bv t.ah.toNat c))) ((k+1:Nat):Int) r (i:Int)) ((A.length:Int),Sl.mk ((bv t.ah.toNat (iV t L c g k i)).set i (v A)))=some (Sl.mk ((bv t.ah.toNat (iV t L c g k i)).set i (v r.l))):=by
  intro R;induction R with
  |nil=>
   intro A e;have e:r.l=A:=by rw[e,List.append_nil]
   refine(bt ?_).trans (by rw[e]);simp only[lq];rw[e,decide_eq_false (by omega),cond_false]
  |cons x R ih=>
   intro A e;have hj:A.length<r.l.length:=by rw[e];simp
   have hx:gt r.l A.length=x:=by rw[e];exact tt
   have hxm:x∈eC t (i:Int):=by rw[<-hr,e];simp
   obtain⟨k1,k2,k3,k4,k5⟩:=mM hV hxm;have hto:x.To.toNat<t.ah.toNat:=by omega
   have hne:x.To.toNat≠i:=by omega
   have dR:=Em hV hL hn hc hb hi hxm;refine(bX (a':=(((A++[x]).length:Int),Sl.mk ((bv t.ah.toNat (iV t L c g k i)).set i (v (A++[x]))))) ?_).trans (ih (A++[x]) (by rw[e];simp));have hlen:((bv t.ah.toNat (iV t L c g k i)).set i (v A)).length=t.ah.toNat:=by rw[List.length_set,cJ]
   have g1:gt ((bv t.ah.toNat (iV t L c g k i)).set i (v A)) i=v A:=by rw[mK hi,gM hi,if_pos rfl]
   have g2:gt ((bv t.ah.toNat (iV t L c g k i)).set i (v A)) x.To.toNat=iV t L c g k i x.To.toNat:=by rw[mK hi,gM hto,if_neg hne]
   have hw:wr .i64 (((k+1:Nat):Int)-1)=(k:Int):=by rw[tK (by omega) (by omega)];omega
   simp only[lq];rw[decide_eq_true (by omega),cond_true,ii,og (by rw[hlen];exact hi),ae,g1,og hj];simp only[ae];rw[hx,dR,hw];have i1:cC (bJ.To x) ((bv t.ah.toNat (iV t L c g k i)).set i (v A)).length=some x.To.toNat:=dO.2 ⟨by show x.To=_;omega,by rw[hlen];exact hto⟩;rw[i1];simp only[ae];rw[g2,NO,ap];have hr2:=sQ (E:=hO t L) (c:=c) (g:=g) k i
   have hv:v (A++[x])=if v A=-1/\(je (hO t L) c i (ed L x)&&(jj (hO t L) c g k x.To.toNat==(k:Int)))=true then(k:Int)+1 else v A:=by
    show(if _/\((A++[x]).any _)=true then _ else _)=_;rw[List.any_append];by_cases h1:jj (hO t L) c g k i=-1
    .by_cases h2:(A.any fun x=>je (hO t L) c i (ed L x)&&(jj (hO t L) c g k x.To.toNat==(k:Int)))=true
     .have e1:v A=(k:Int)+1:=if_pos ⟨h1,h2⟩;rw[e1,if_pos ⟨h1,by rw[h2];rfl⟩,if_neg (fun q=>absurd q.1 (by omega))]
     .have e1:v A=jj (hO t L) c g k i:=if_neg fun q=>h2 q.2;have h2:=Bool.eq_false_iff.2 h2;rw[e1,h2];simp
    .have e1:v A=jj (hO t L) c g k i:=if_neg fun q=>h1 q.1;rw[e1,if_neg fun q=>h1 q.1,if_neg fun q=>h1 q.1]
   by_cases h1:v A=-1
   .have b1:(v A==-1)=true:=beq_iff_eq.2 h1;rw[b1,cond_true];cases h2:(jj (hO t L) c g k x.To.toNat==(k:Int))with
    |true=>
     rw[cond_true,ae];cases h3:je (hO t L) c i (ed L x)with
     |true=>
      have hvv:v (A++[x])=(k:Int)+1:=by rw[hv,if_pos ⟨h1,by rw[h2,h3];rfl⟩]
      rw[cond_true,ae,List.set_set,hvv,vn (by omega)];rfl
     |false=>
      have hvv:v (A++[x])=v A:=by rw[hv,if_neg (by rw[h3];simp)]
      rw[cond_false,ae,hvv,vn (by omega)];rfl
    |false=>
     have hvv:v (A++[x])=v A:=by rw[hv,if_neg (by rw[h2];simp)]
     rw[cond_false,ae,cond_false,ae,hvv,vn (by omega)];rfl
   .have b1:(v A==-1)=false:=beq_eq_false_iff_ne.2 h1;have hvv:v (A++[x])=v A:=by rw[hv,if_neg fun q=>h1 q.1]
    rw[b1,cond_false,ae,cond_false,ae,hvv,vn (by omega)];rfl
 have h0:=key r.l [] rfl
 have e0:(bv t.ah.toNat (iV t L c g k i)).set i (v [])=bv t.ah.toNat (iV t L c g k i):=by
  have:v []=iV t L c g k i i:=by rw[Js];exact if_neg (by simp)
  rw[this,mK hi];refine fY fun j hj=>?_;by_cases h:j=i
  .rw [if_pos h,h]
  .rw [if_neg h]
 have e1:(bv t.ah.toNat (iV t L c g k i)).set i (v r.l)=bv t.ah.toNat (iV t L c g k (i+1)):=by
  have:v r.l=jj (hO t L) c g (k+1) i:=by rw[Dn,K3,hO,List.any_map,hr];rfl
  rw[this,Ck hi]
 rw[e0,e1]at h0;exact h0
include hV hL hn hc hb in
theorem Ek(h2:t.bc.l.length<=12)(hg:g<t.ah.toNat)(hcosts:lF t b (g:Int)=some (Sl.mk (dV (bv t.ah.toNat c)))):
  qN t b (g:Int)=some (Sl.mk (bv t.ah.toNat (rA t L c g))):=by
 obtain⟨s1,s2,s3⟩:=mU hV;unfold qN;have hrl:(dV (bv t.ah.toNat c)).length=t.ah.toNat:=by rw[List.length_map,cJ]
 have hL1:aP (lr (Sl.mk (dV (bv t.ah.toNat c)))) (0,Sl.nil)=some (Sl.mk (aj t.ah.toNat (-1))):=by
  have:=Bx (f:=lr (Sl.mk (dV (bv t.ah.toNat c)))) (bm t.ah.toNat) (fun _=>(-1:Int)) (fun i s hi hs=>by
   rw[cM]at hi;simp only[lr];rw[ii,hrl,decide_eq_true (by omega),cond_true,iP.2 ⟨rfl,by rw[ap];simp;omega⟩,ae,vn (by omega)]) (fun s=>by
   simp only[lr,cM];rw[ii,hrl,decide_eq_false (by omega),cond_false])
  rw[this];have e:(bm t.ah.toNat).map (fun _=>(-1:Int))=aj t.ah.toNat (-1):=gQ (by simp) fun j h1 h2=>by simp
  rw[e,pG (by intro h;have:=congrArg List.length h;simp at this;omega)]
 have hround:∀k,k<1000->aP (lp t b (Sl.mk (dV (bv t.ah.toNat c))) ((k+1:Nat):Int)) (0,Sl.mk (bv t.ah.toNat (jj (hO t L) c g k)))=some (Sl.mk (bv t.ah.toNat (jj (hO t L) c g (k+1)))):=by
  intro k hk
  have:=Bs (f:=lp t b (Sl.mk (dV (bv t.ah.toNat c))) ((k+1:Nat):Int)) (fun i:Nat=>((i:Int),Sl.mk (bv t.ah.toNat (iV t L c g k i)))) t.ah.toNat (b:=Sl.mk (bv t.ah.toNat (jj (hO t L) c g (k+1)))) (fun i hi=>by
   obtain⟨r,r1,r2⟩:=xV hV (i:Int);simp only[lp];rw[ii,hrl,decide_eq_true (by omega),cond_true,r1,ae,NN hV hL hn hc hb hk hi r2,ae,vn (by omega)]) (by
   simp only[lp];rw[ii,hrl,decide_eq_false (by omega),cond_false];congr 2;exact congrArg Sl.mk (fY fun j hj=>if_pos hj))
  have e0:bv t.ah.toNat (iV t L c g k 0)=bv t.ah.toNat (jj (hO t L) c g k):=fY fun j _=>if_neg (by omega);rw[e0]at this;exact this
 have hL4:=Bs (f:=lm t b (Sl.mk (dV (bv t.ah.toNat c)))) (fun k:Nat=>(((k+1:Nat):Int),Sl.mk (bv t.ah.toNat (jj (hO t L) c g k)))) (t.ah.toNat-1) (b:=Sl.mk (bv t.ah.toNat (rA t L c g))) (fun k hk=>by
  simp only[lm];rw[ii,hrl,decide_eq_true (by omega),cond_true,hround k (by omega),ae,vn (by omega)]) (by
  simp only[lm];rw[ii,hrl,decide_eq_false (by omega),cond_false];rfl)
 have e4:aP (lm t b (Sl.mk (dV (bv t.ah.toNat c)))) (1,Sl.mk (bv t.ah.toNat (jj (hO t L) c g 0)))=some (Sl.mk (bv t.ah.toNat (rA t L c g))):=hL4;rw[hcosts,ae,hL1,ae,ii,hrl,decide_eq_true (by omega),cond_true,ii,og (by rw[aY];exact hg),ae,ae,IR hg (E:=hO t L) (c:=c),e4];rfl
def wm(t:ai)(L:List Nat)(c:Nat->Nat)(g i:Nat):Int:=match(eC t (i:Int)).find? (fun x=>je (hO t L) c i (ed L x)&&(rA t L c g x.To.toNat+1==rA t L c g i))with|some x=>x.fB|none=>-1
theorem FV{i:Nat}:(vQ t L c i).find? (fun x=>rA t L c g x.To.toNat==rA t L c g i-1)=(eC t (i:Int)).find? (fun x=>je (hO t L) c i (ed L x)&&(rA t L c g x.To.toNat+1==rA t L c g i)):=by
 unfold vQ;rw[List.find?_filter];congr 1;funext x;rw[Bool.eq_iff_iff];simp only[decide_eq_true_eq,Bool.and_eq_true,beq_iff_eq];constructor
 .rintro ⟨a,b⟩;exact⟨a,by omega⟩
 .rintro ⟨a,b⟩;exact⟨a,by omega⟩
include hV in
theorem L4{i:Nat}(hi:i<t.ah.toNat){s:Sl aw}(hs:s.l=vQ t L c i){z:List Int}(hz:z.length=t.ah.toNat)(hzi:gt z i=-1):
  aP (jH (Sl.mk (bv t.ah.toNat (rA t L c g))) (i:Int) s) (0,Sl.mk z)=some (Sl.mk (z.set i (wm t L c g i))):=by
 have hlen:s.l.length<=8:=by rw[hs];exact bo (List.length_filter_le _ _) (bo (cZ _ _) (by simp))
 have hfr:=sQ (E:=hO t L) (c:=c) (g:=g) (t.ah.toNat-1) i;have h8:=mU hV;have hw:wr .i64 (rA t L c g i-1)=rA t L c g i-1:=tK (by unfold rA;omega) (by unfold rA;omega)
 have key:∀(R A:List aw),s.l=A++R->aP (jH (Sl.mk (bv t.ah.toNat (rA t L c g))) (i:Int) s) ((A.length:Int),Sl.mk z)=some (match R.find? (fun x=>rA t L c g x.To.toNat==rA t L c g i-1)with|some x=>Sl.mk (z.set i x.fB)|none=>Sl.mk z):=by
  intro R;induction R with
  |nil=>intro A e;refine bt ?_;simp only[jH];rw[decide_eq_false (by rw[e];simp),cond_false];rfl
  |cons x R ih=>
   intro A e;have hj:A.length<s.l.length:=by rw[e];simp
   have hx:gt s.l A.length=x:=by rw[e];exact tt
   have hxm:x∈eC t (i:Int):=by
    have:x∈vQ t L c i:=by rw[<-hs,e];simp
    exact(List.mem_filter.1 this).1
   obtain⟨k1,k2,k3,k4,k5⟩:=mM hV hxm;have hto:x.To.toNat<t.ah.toNat:=by omega
   have i1:cC (aw.To x) (bv t.ah.toNat (rA t L c g)).length=some x.To.toNat:=dO.2 ⟨by show x.To=_;omega,by rw[cJ];exact hto⟩;rw[List.find?_cons];cases hb2:(rA t L c g x.To.toNat==rA t L c g i-1)with|true=>refine bt ?_;simp only[jH];rw[decide_eq_true (by omega),cond_true,og hj,ae,hx,ii,i1,ae,og (by rw[cJ];exact hi),ae,gM hto,gM hi,hw,hb2,cond_true,ii,og (by omega),ae]|false=>refine(bX (a':=(((A++[x]).length:Int),Sl.mk z)) ?_).trans (ih (A++[x]) (by rw[e];simp));simp only[jH];rw[decide_eq_true (by omega),cond_true,og hj,ae,hx,ii,i1,ae,og (by rw[cJ];exact hi),ae,gM hto,gM hi,hw,hb2,cond_false,vn (by omega),ap];rfl
 have:=key s.l [] rfl;rw[hs,FV]at this;have e0:aP (jH (Sl.mk (bv t.ah.toNat (rA t L c g))) (i:Int) s) (0,Sl.mk z)=_:=this;rw[e0];unfold wm;congr 1;cases(eC t (i:Int)).find? (fun x=>je (hO t L) c i (ed L x)&&(rA t L c g x.To.toNat+1==rA t L c g i))with|some x=>rfl|none=>show Sl.mk z=Sl.mk (z.set i (-1));congr 1;rw[<-hzi,ju (by omega),List.set_getElem_self]
def Q9(t:ai)(L:List Nat)(c:Nat->Nat)(g:Nat)(p:Int)(i:Nat):Int:=if i=g then p else wm t L c g i
include hV hL hn hc hb in
theorem JX{i:Nat}(hi:i<t.ah.toNat){r:Sl bJ}(hr:r.l=eC t (i:Int)):
  aP (mq b (Sl.mk (dV (bv t.ah.toNat c))) (Sl.mk (bv t.ah.toNat (rA t L c g))) (i:Int) r) ((-1),wr .i64 ((r.l.length:Int)-1))=some (wm t L c g i):=by
 have hlen8:r.l.length<=8:=by rw[hr];exact bo (cZ _ _) (by simp)
 have h8:=mU hV;have w0:∀k:Nat,k<=8->wr .i64 ((k:Int)-1)=(k:Int)-1:=fun k hk=>tK (by omega) (by omega);rw[w0 _ hlen8]
 have key:∀(A R:List aw),r.l=A.reverse++R->aP (mq b (Sl.mk (dV (bv t.ah.toNat c))) (Sl.mk (bv t.ah.toNat (rA t L c g))) (i:Int) r) ((match R.find? (fun x=>je (hO t L) c i (ed L x)&&(rA t L c g x.To.toNat+1==rA t L c g i))with|some x=>x.fB|none=>-1),(A.length:Int)-1)=some (match r.l.find? (fun x=>je (hO t L) c i (ed L x)&&(rA t L c g x.To.toNat+1==rA t L c g i))with|some x=>x.fB|none=>-1):=by
  intro A;induction A with
  |nil=>
   intro R e;have e:r.l=R:=by rw[e];rfl
   refine(bt ?_).trans (by rw[e]);simp only[mq];rw[decide_eq_false (by simp),cond_false]
  |cons x A ih=>
   intro R e;have e':r.l=A.reverse++x::R:=by rw[e];simp
   have hj:A.length<r.l.length:=by rw[e'];simp
   have hx:gt r.l A.length=x:=by rw[e'];have:=tt (A:=A.reverse) (B:=R) (x:=x);rwa[jL]at this
   have hxm:x∈eC t (i:Int):=by rw[<-hr,e'];simp
   obtain⟨k1,k2,k3,k4,k5⟩:=mM hV hxm;have hto:x.To.toNat<t.ah.toNat:=by omega
   have dR:=Em hV hL hn hc hb hi hxm;have hfr:=sQ (E:=hO t L) (c:=c) (g:=g) (t.ah.toNat-1) x.To.toNat;have hw:wr .i64 (rA t L c g x.To.toNat+1)=rA t L c g x.To.toNat+1:=tK (by unfold rA;omega) (by unfold rA;omega);have i1:cC (bJ.To x) (bv t.ah.toNat (rA t L c g)).length=some x.To.toNat:=dO.2 ⟨by show x.To=_;omega,by rw[cJ];exact hto⟩;have eI:((x::A).length:Int)-1=(A.length:Int):=by simp
   rw[eI];refine(bX (a':=((match(x::R).find? (fun x=>je (hO t L) c i (ed L x)&&(rA t L c g x.To.toNat+1==rA t L c g i))with|some x=>x.fB|none=>-1),(A.length:Int)-1)) ?_).trans (ih (x::R) e');simp only[mq];rw[decide_eq_true (by omega),cond_true,og hj];simp only[ae];rw[hx,dR,ae,ii,i1,ae,og (by rw[cJ];exact hi),ae,gM hto,gM hi,hw,w0 _ (by omega),List.find?_cons];cases h1:je (hO t L) c i (ed L x)with
   |true=>rw[cond_true,ae,Bool.true_and];cases h2:(rA t L c g x.To.toNat+1==rA t L c g i)with|true=>rfl|false=>rfl
   |false=>rw[cond_false,ae];rfl
 have:=key r.l.reverse [] (by simp);rw[jL,hr]at this;rw[hr];exact this
variable{h:Nat}(hh:h<t.bc.l.length)
theorem Jp(hV:gi t){h:Nat}(hh:h<t.bc.l.length):0<=(gt t.bc.l h).At/\(gt t.bc.l h).At<t.ah/\0<=(gt t.bc.l h).fB/\(gt t.bc.l h).fB<8:=by have hp:=hV.gZ ⟨(gt t.bc.l h).At,(gt t.bc.l h).fB⟩ (by rw[jS];exact List.mem_append_right _ (List.mem_flatMap.2 ⟨gt t.bc.l h,kQ hh,by simp[xd]⟩));exact⟨hp.1.1,hp.1.2,hp.2.1,hp.2.2⟩
end
end Go.Proofs.YtoekkpmeeclpeaaGreat.S
