/- Steps and trees: both tell the same. Conditions: a topology and weights that may be. -/
import Derived.Test.YtoekkpmeeclpeaaGreatSE
import Derived.Test.YtoekkpmeeclpeaaGreatST
open Bool renaming and_eq_true->ax,eq_iff_iff->jO,not_false->nC,not_true->gF,true_and->mG
open List renaming ext_getElem->gA,getElem_mem->aZ,getElem_of_mem->ga,length_append->aA,length_range->dH,length_replicate->bo,length_singleton->aR,map_append->fM,mem_flatMap->cA,mem_map->aP,mem_of_getElem?->bl,mem_range->cM,mem_singleton->az,range->aK,replicate->ay
open Nat renaming le_refl->aq,le_trans->bh
open Option renaming bind_some->af
open Option.some renaming inj->ac,injEq->fo
open Go.Ev Go Go.Fl Go.Ways
noncomputable section
namespace Go.Proofs.YtoekkpmeeclpeaaGreat.S
section
variable{t:ao}{L:List Nat}(hV:fF t)(hL:L.length=t.a7.l.length)(hn:∀x∈L,nn x)
def yl(t:ao)(L:List Nat)(c:Nat->Nat)(g:Nat):Nat->Int:=mS (nz t L) c g (t.au.toNat-1)
theorem TN{n g:Nat}(hg:g<n){E:Nat->List (Nat×Nat)}{c:Nat->Nat}:(ay n (-1:Int)).set g 0=eP n (mS E c g 0):=by
 have e1:ay n (-1:Int)=eP n (fun _=>(-1:Int)):=gA (by simp[eP]) fun j h1 h2=>by simp[eP]
 rw[e1,uC hg];rfl
include hV hL hn in
theorem Kb{g:Nat}(hg:g<t.au.toNat){c:Nat->Nat}(hc:∀i,i<t.au.toNat->c i<=w7)(hcosts:jS t (gw L) (g:Int)=some (Sl.mk (eP t.au.toNat c))):
  pJ t (gw L) (g:Int)=some (Sl.mk (eP t.au.toNat (yl t L c g))):=by
 obtain⟨s1,s2,s3⟩:=uT hV;unfold pJ;have hrep:=Dr (x:=-1) s2 s3;rw[<-s1]at hrep;obtain⟨K,k1,k2⟩:=Kn hV hL hn (g:=g) hc;have hnil:(Sl.mk (eP t.au.toNat c):Sl Nat).od=false:=rfl;rw[hcosts,af,hnil,cond_false,hrep,af,ma,BC (by rw[bo];exact hg),af,TN hg (E:=nz t L) (c:=c),k1,af];congr 1;exact congrArg Sl.mk (iA fun i hi=>Ri (AN hV L) k2 hi)
variable{c:Nat->Nat}(hc:∀i,i<t.au.toNat->c i<=w7){b:Sl Int}(hb:b.l=oQ L){g:Nat}
def xh(t:ao)(L:List Nat)(c:Nat->Nat)(g i:Nat):Int:=match(gj t (i:Int)).find? (fun x=>qe (nz t L) c i (ed L x)&&(yl t L c g x.To.toNat+1==yl t L c g i))with|some x=>x.gk|none=>-1
theorem Jh{i:Nat}:(zq t L c i).find? (fun x=>yl t L c g x.To.toNat==yl t L c g i-1)=(gj t (i:Int)).find? (fun x=>qe (nz t L) c i (ed L x)&&(yl t L c g x.To.toNat+1==yl t L c g i)):=by
 unfold zq;rw[List.find?_filter];congr 1;funext x;rw[jO];simp only[decide_eq_true_eq,ax,beq_iff_eq];constructor
 .rintro ⟨a,b⟩;exact⟨a,by omega⟩
 .rintro ⟨a,b⟩;exact⟨a,by omega⟩
include hV in
theorem PA{i:Nat}(hi:i<t.au.toNat){s:Sl aD}(hs:s.l=zq t L c i){z:List Int}(hz:z.length=t.au.toNat)(hzi:gt z i=-1):
  aU (i_ (Sl.mk (eP t.au.toNat (yl t L c g))) (i:Int) s) (0,Sl.mk z)=some (Sl.mk (z.set i (xh t L c g i))):=by
 have hlen:s.l.length<=8:=by rw[hs];exact bh (List.length_filter_le _ _) (bh (List.length_filterMap_le _ _) (by simp))
 have hfr:=wA (E:=nz t L) (c:=c) (g:=g) (t.au.toNat-1) i;have h8:=uT hV;have hw:wr .i64 (yl t L c g i-1)=yl t L c g i-1:=iY (by unfold yl;omega) (by unfold yl;omega)
 have key:∀(R A:List aD),s.l=A++R->aU (i_ (Sl.mk (eP t.au.toNat (yl t L c g))) (i:Int) s) ((A.length:Int),Sl.mk z)=some (match R.find? (fun x=>yl t L c g x.To.toNat==yl t L c g i-1)with|some x=>Sl.mk (z.set i x.gk)|none=>Sl.mk z):=by
  intro R;induction R with
  |nil=>intro A e;refine cQ ?_;simp only[i_];rw[decide_eq_false (by rw[e];simp),cond_false];rfl
  |cons x R ih=>
   intro A e;have hj:A.length<s.l.length:=by rw[e];simp
   have hx:gt s.l A.length=x:=by rw[e];exact FX
   have hxm:x∈gj t (i:Int):=by
    have:x∈zq t L c i:=by rw[<-hs,e];simp
    exact(List.mem_filter.1 this).1
   obtain⟨k1,k2,k3,k4,k5⟩:=sQ hV hxm;have hto:x.To.toNat<t.au.toNat:=by omega
   have i1:cH (aD.To x) (eP t.au.toNat (yl t L c g)).length=some x.To.toNat:=nq.2 ⟨by show x.To=_;omega,by rw[gl];exact hto⟩;rw[List.find?_cons];cases hb2:(yl t L c g x.To.toNat==yl t L c g i-1)with|true=>refine cQ ?_;simp only[i_];rw[decide_eq_true (by omega),cond_true,BC hj,af,hx,ma,i1,af,BC (by rw[gl];exact hi),af,nr hto,nr hi,hw,hb2,cond_true,ma,BC (by omega),af]|false=>refine(fA (a':=(((A++[x]).length:Int),Sl.mk z)) ?_).trans (ih (A++[x]) (by rw[e];simp));simp only[i_];rw[decide_eq_true (by omega),cond_true,BC hj,af,hx,ma,i1,af,BC (by rw[gl];exact hi),af,nr hto,nr hi,hw,hb2,cond_false,LK (by omega),aA];rfl
 have:=key s.l [] rfl;rw[hs,Jh]at this;have e0:aU (i_ (Sl.mk (eP t.au.toNat (yl t L c g))) (i:Int) s) (0,Sl.mk z)=_:=this;rw[e0];unfold xh;congr 1;cases(gj t (i:Int)).find? (fun x=>qe (nz t L) c i (ed L x)&&(yl t L c g x.To.toNat+1==yl t L c g i))with|some x=>rfl|none=>show Sl.mk z=Sl.mk (z.set i (-1));congr 1;rw[<-hzi,dc (by omega),List.set_getElem_self]
def Fo(t:ao)(L:List Nat)(c:Nat->Nat)(g:Nat)(p:Int)(i:Nat):Int:=if i=g then p else xh t L c g i
variable{h:Nat}(hh:h<t.bn.l.length)
theorem GP(hV:fF t){h:Nat}(hh:h<t.bn.l.length):0<=(gt t.bn.l h).At/\(gt t.bn.l h).At<t.au/\0<=(gt t.bn.l h).gk/\(gt t.bn.l h).gk<8:=by have hp:=hV.ic ⟨(gt t.bn.l h).At,(gt t.bn.l h).gk⟩ (by rw[pL];exact List.mem_append_right _ (cA.2 ⟨gt t.bn.l h,xJ hh,by simp[Wo]⟩));exact⟨hp.1.1,hp.1.2,hp.2.1,hp.2.2⟩
end
end Go.Proofs.YtoekkpmeeclpeaaGreat.S
open Go.Ev Go Go.Fl Go.Ways
namespace Go.Proofs.YtoekkpmeeclpeaaGreat.S
def cB(t:ao)(L:List Nat)(g:Nat):Nat->Nat:=B (nz t L) g t.au.toNat
theorem WA(t:ao)(L:List Nat)(g i:Nat):cB t L g i<=w7:=afH _ _
def hg(t:ao)(h:Nat):Nat:=(gt t.bn.l h).At.toNat
def uk(t:ao)(L:List Nat)(h:Nat):Nat->Int:=Fo t L (cB t L (hg t h)) (hg t h) (gt t.bn.l h).gk
section
variable{t:ao}{L:List Nat}(hV:fF t)(hL:L.length=t.a7.l.length)(hn:∀x∈L,nn x)
include hV hL hn in
theorem Ve{g:Nat}(hg:g<t.au.toNat):jS t (gw L) (g:Int)=some (Sl.mk (eP t.au.toNat (cB t L g))):=by obtain⟨cl,out,h1,h2⟩:=Lk hV hL hn hg;rw[h1,iA fun i hi=>(h2.w5 (AN hV L)).1 i hi];rfl
include hV hL hn in
theorem Xs:T5 t L=true:=by unfold T5;rw[decide_eq_true hV,mG,hL,beq_self_eq_true,mG];exact List.all_eq_true.2 fun x hx=>yi.2 (hn x hx)
include hV hL hn in
theorem Ie:jR t (gw L)=some true:=by have hok:=Xs hV hL hn;have hr:=Bq (t:=t) (L:=L) (fun x hx=>zt (hn x hx)) (by have:=hV.FN;omega);rwa[(KH hok).2.2.2,hok]at hr
include hV hL hn in
theorem Pz{h:Nat}(hh:h<t.bn.l.length):qU t (gw L) (h:Int)=some (Sl.mk (eP t.au.toNat (uk t L h)),0):=by
 obtain⟨s1,s2,s3⟩:=uT hV;obtain⟨p1,p2,p3,p4⟩:=GP hV hh;have hgn:hg t h<t.au.toNat:=by unfold hg;omega
 have hat:(gt t.bn.l h).At=((hg t h:Nat):Int):=by unfold hg;omega
 have hcs:=Ve hV hL hn hgn;have fh:=Kb hV hL hn hgn (fun i _=>WA t L (hg t h) i) hcs;have hrep:=Dr (x:=-1) s2 s3;rw[<-s1]at hrep;unfold qU;rw[Ie hV hL hn,af,gF,cond_false];have hguard:((decide ((h:Int)<0))||(decide ((h:Int)>=(((ao.bn t).l).length:Int))))=false:=by rw[decide_eq_false (show¬(h:Int)<0 by omega),decide_eq_false (by omega)];rfl
 have hloop:=TI (f:=ko t (gw L) (Sl.mk (eP t.au.toNat (cB t L (hg t h)))) (Sl.mk (eP t.au.toNat (yl t L (cB t L (hg t h)) (hg t h)))) (Sl.mk (ay t.au.toNat (-1)))) (fun i:Nat=>((i:Int),Sl.mk (eP t.au.toNat fun j=>if j<i then xh t L (cB t L (hg t h)) (hg t h) j else-1))) t.au.toNat (b:=Sl.mk (eP t.au.toNat (xh t L (cB t L (hg t h)) (hg t h)))) (fun i hi=>by
  obtain⟨s,q1,q2⟩:=Fu hV hL hn (fun i _=>WA t L (hg t h) i) hi;simp only[ko];rw[ma,bo,decide_eq_true (by omega),cond_true,q1,af,PA hV hi q2 (by rw[gl]) (by rw[nr hi,if_neg (by omega)]),af,uC hi,LK (by omega)];congr 4;refine iA fun j hj=>?_;by_cases e:j=i
  .rw [if_pos e,if_pos (by omega),e]
  .rw [if_neg e];by_cases e2:j<i
   .rw [if_pos e2,if_pos (by omega)]
   .rw [if_neg e2,if_neg (by omega)]) (by
  simp only[ko];rw[ma,bo,decide_eq_false (by omega),cond_false];congr 2;exact congrArg Sl.mk (iA fun j hj=>if_pos hj))
 have e0:(eP t.au.toNat fun j=>if j<0 then xh t L (cB t L (hg t h)) (hg t h) j else-1)=ay t.au.toNat (-1):=gA (by simp[eP]) fun j h1 h2=>by simp[eP]
 have hloop2:aU (ko t (gw L) (Sl.mk (eP t.au.toNat (cB t L (hg t h)))) (Sl.mk (eP t.au.toNat (yl t L (cB t L (hg t h)) (hg t h)))) (Sl.mk (ay t.au.toNat (-1)))) (0,Sl.mk (ay t.au.toNat (-1)))=some (Sl.mk (eP t.au.toNat (xh t L (cB t L (hg t h)) (hg t h)))):=by rw[<-e0]at hloop|-;exact hloop
 rw[hguard,cond_false,BC hh,af,hat,hcs,af,fh,af,hrep,af,hloop2,af,af,ma,BC (by rw[gl];exact hgn),af,uC hgn];rfl
variable{b:Sl Int}(hb:b.l=oQ L)(h12:t.bn.l.length<=12)
def si(t:ao)(L:List Nat)(m i:Nat):List Int:=(aK m).map fun h=>uk t L h i
theorem Qf(m i:Nat):si t L (m+1) i=si t L m i++[uk t L m i]:=by unfold si;rw[List.range_succ,fM];rfl
include hV h12 in
theorem Ll{m:Nat}(hm:m<t.bn.l.length){p:Sl Int}(hp:p=Sl.mk (eP t.au.toNat (uk t L m))):
  aU (jL p) (0,Sl.mk (eP t.au.toNat fun i=>gw (si t L m i)))=some (Sl.mk (eP t.au.toNat fun i=>gw (si t L (m+1) i))):=by
 obtain⟨s1,s2,s3⟩:=uT hV;subst hp
 have:=TI (f:=jL (Sl.mk (eP t.au.toNat (uk t L m)))) (fun k:Nat=>((k:Int),Sl.mk (eP t.au.toNat fun i=>if i<k then gw (si t L (m+1) i)else gw (si t L m i)))) t.au.toNat (b:=Sl.mk (eP t.au.toNat fun i=>gw (si t L (m+1) i))) (fun k hk=>by
  simp only[jL];rw[ma,gl,decide_eq_true (by omega),cond_true,BC hk,af,ma,BC (by rw[gl];exact hk),af,nr hk,if_neg (by omega),v6,nr hk,vQ.2 ⟨rfl,by rw[aA];unfold si;simp;omega⟩,af,af];have hb1:Nat.beq k k=true:=Nat.beq_refl k;rw[hb1,cond_true,uC hk,LK (by omega)];congr 4;refine iA fun j hj=>?_;by_cases e:j=k
  .rw [if_pos e,if_pos (by omega),e,<-Qf,LU (by rw[Qf];simp)]
  .rw [if_neg e];by_cases e2:j<k
   .rw [if_pos e2,if_pos (by omega)]
   .rw [if_neg e2,if_neg (by omega)]) (by
  simp only[jL];rw[ma,gl,decide_eq_false (by omega),cond_false];congr 2;exact congrArg Sl.mk (iA fun j hj=>if_pos hj))
 have e0:(eP t.au.toNat fun i=>if i<0 then gw (si t L (m+1) i)else gw (si t L m i))=eP t.au.toNat fun i=>gw (si t L m i):=iA fun j _=>if_neg (by omega);rw[e0]at this;exact this
def Yy(t:ao)(L:List Nat):Prop:=∃h,h<t.bn.l.length/\∃i,i<t.au.toNat/\uk t L h i=-1
theorem Ja{n:Nat}{f:Nat->Int}:(eP n f).any (fun x=>(-1:Int)==x)=true<->∃i,i<n/\f i=-1:=by
 rw[List.any_eq_true];constructor
 .rintro ⟨x,hx,h⟩;obtain⟨i,hi,rfl⟩:=aP.1 hx;exact⟨i,cM.1 hi,(beq_iff_eq.1 h).symm⟩
 .rintro ⟨i,hi,h⟩;exact⟨_,aP.2 ⟨i,cM.2 hi,rfl⟩,by rw[h];rfl⟩
include hV hL hn h12 in
theorem Km:(Yy t L/\iU t (gw L)=some (Sl.nil,7))\/(¬Yy t L/\iU t (gw L)=some (Sl.mk (eP t.au.toNat fun i=>gw (si t L t.bn.l.length i)),0)):=by
 obtain⟨s1,s2,s3⟩:=uT hV
 have hstep:∀m,m<t.bn.l.length->fI t (gw L) ((m:Int),Sl.mk (eP t.au.toNat fun i=>gw (si t L m i)))=some (if∃i,i<t.au.toNat/\uk t L m i=-1 then .inr (.inl 7)else .inl (((m+1:Nat):Int),Sl.mk (eP t.au.toNat fun i=>gw (si t L (m+1) i)))):=by
  intro m hm;simp only[fI];rw[decide_eq_true (by omega),cond_true,Pz hV hL hn hm,af];simp only[];rw[td (by rw[ma,gl];omega),af,ma];by_cases h:∃i,i<t.au.toNat/\uk t L m i=-1
  .rw [Ja.2 h,cond_true,if_pos h]
  .have:(eP t.au.toNat (uk t L m)).any (fun x=>(-1:Int)==x)=false:=by rw[Bool.eq_false_iff];exact fun q=>h (Ja.1 q)
   rw[this,cond_false,Ll hV h12 hm rfl,af,LK (by omega),if_neg h]
 have hm0:zQ (Sl.nil:Sl Int) t.au t.au=some (eP t.au.toNat fun i=>gw (si t L 0 i)):=by unfold zQ;rw[if_pos (by omega)];congr 1;exact gA (by simp[eP]) fun j h1 h2=>by simp[eP,si,gw]
 have hloop:∀(d m:Nat),m+d=t.bn.l.length->(∃h,m<=h/\h<t.bn.l.length/\(∃i,i<t.au.toNat/\uk t L h i=-1)/\aU (fI t (gw L)) ((m:Int),Sl.mk (eP t.au.toNat fun i=>gw (si t L m i)))=some (.inl 7))\/((∀h,m<=h->h<t.bn.l.length->¬∃i,i<t.au.toNat/\uk t L h i=-1)/\aU (fI t (gw L)) ((m:Int),Sl.mk (eP t.au.toNat fun i=>gw (si t L m i)))=some (.inr (Sl.mk (eP t.au.toNat fun i=>gw (si t L t.bn.l.length i))))):=by
  intro d;induction d with
  |zero=>
   intro m hm;obtain rfl:m=t.bn.l.length:=by omega
   refine .inr ⟨fun h h1 h2=>by omega,cQ ?_⟩;simp only[fI];rw[decide_eq_false (by omega),cond_false]
  |succ d ih=>
   intro m hm;have hs:=hstep m (by omega);by_cases h:∃i,i<t.au.toNat/\uk t L m i=-1
   .rw [if_pos h]at hs;exact .inl ⟨m,aq _,by omega,h,cQ hs⟩
   .rw [if_neg h]at hs;rcases ih (m+1) (by omega)with⟨q,q1,q2,q3,q4⟩|⟨q1,q2⟩
    .exact .inl ⟨q,by omega,q2,q3,(fA hs).trans q4⟩
    .refine .inr ⟨fun x h1 h2=>?_,(fA hs).trans q2⟩;by_cases e:x=m
     .rw [e];exact h
     .exact q1 x (by omega) h2
 unfold iU;rw[Ie hV hL hn,af,gF,cond_false,hm0,af];rcases hloop t.bn.l.length 0 (by omega)with⟨q,q1,q2,q3,q4⟩|⟨q1,q2⟩
 .refine .inl ⟨⟨q,q2,q3⟩,?_⟩;have q4':aU (fI t (gw L)) (0,Sl.mk (eP t.au.toNat fun i=>gw (si t L 0 i)))=some (.inl 7):=q4;rw[q4'];rfl
 .refine .inr ⟨fun⟨x,h1,h2⟩=>q1 x (by omega) h1 h2,?_⟩;have q2':aU (fI t (gw L)) (0,Sl.mk (eP t.au.toNat fun i=>gw (si t L 0 i)))=_:=q2;rw[q2'];rfl
end
end Go.Proofs.YtoekkpmeeclpeaaGreat.S
open Go.Ev Go
namespace Go.Proofs.YtoekkpmeeclpeaaGreat.S
def SS(t:ao)(r:Sl (Sl Int)):Prop:=(∀eP∈r.l,eP.l.length<=12)/\t.a7.l.length<=30/\t.bn.l.length<=12/\r.l.length<=12
instance(t:ao)(r:Sl (Sl Int)):Decidable (SS t r):=by unfold SS;infer_instance
structure mL(t:ao)(r:Sl (Sl Int)):Prop where
 EP:fF t
 len:(r.l.length:Int)=t.au
 Qg:∀eP∈r.l,eP.l.length=t.bn.l.length/\∀p∈eP.l,0<=p/\p<8
instance(t:ao)(r:Sl (Sl Int)):Decidable (mL t r):=Classical.propDecidable _
theorem G1{s:Sl Int}(hb:s.l.length<9223372036854775808):cr s=some (decide (¬∀p∈s.l,0<=p/\p<8)):=by
 have h:=yL (f:=cV s) s.l (fun i p=>if¬(0<=p/\p<8)then some (i:Int)else none) () hb (fun i hi=>by
  have e:((decide ((gt s.l i)<0))||(decide ((gt s.l i)>=8)))=decide (¬(0<=gt s.l i/\gt s.l i<8)):=by rw[jO];simp only[Bool.or_eq_true,decide_eq_true_eq];omega
  simp only[cV,nM hi,cond_true,bV hi,af,uX,e];by_cases hc:¬(0<=gt s.l i/\gt s.l i<8)
  .rw [if_pos hc,decide_eq_true hc];rfl
  .rw [if_neg hc,decide_eq_false hc];rfl) (by simp only[cV,sS,cond_false])
 simp only[cr,df,h,af];cases hs:lZ (fun i p=>if¬(0<=p/\p<8)then some (i:Int)else none) s.l 0 with
 |none=>
  have hall:∀p∈s.l,0<=p/\p<8:=by intro p hp;obtain⟨j,hj,rfl⟩:=ga hp;have:=qY.1 hs j s.l[j] (by simp[hj]);apply Classical.byContradiction;intro hn;rw[if_pos hn]at this;simp at this
  have e:decide (¬∀p∈s.l,0<=p/\p<8)=false:=decide_eq_false fun h=>h hall;rw[e];rfl
 |some b=>
  obtain⟨j,x,h1,h2,_⟩:=nI hs;split at h2
  .rename_i hx;obtain rfl:=ac h2;have e:decide (¬∀p∈s.l,0<=p/\p<8)=true:=decide_eq_true fun h=>hx (h x (bl h1));rw[e];simp only[af,fo,decide_eq_true_eq];omega
  .simp at h2
theorem H_{t:ao}{r:Sl (Sl Int)}(hb:r.l.length<9223372036854775808)(hrow:∀eP∈r.l,eP.l.length<9223372036854775808):jT t r=some (decide (mL t r)):=by
 unfold jT;simp only[yZ,af];by_cases hV:fF t
 rotate_left
 .rw [decide_eq_false hV];exact congrArg some (decide_eq_false fun h=>hV h.EP).symm
 by_cases hl:(r.l.length:Int)=t.au
 rotate_left
 .have e:((r.l.length:Int) !=t.au)=true:=by simpa using hl
  rw[decide_eq_true hV,e];exact congrArg some (decide_eq_false fun h=>hl h.len).symm
 have e:((r.l.length:Int) !=t.au)=false:=by simpa using hl
 rw[decide_eq_true hV,e];simp only[gF,Bool.or_self,cond_false]
 have h:=acp (f:=kS t r) r.l (fun eP=>decide (¬(eP.l.length=t.bn.l.length/\∀p∈eP.l,0<=p/\p<8))) hb (fun i hi=>by
  have hm:gt r.l i∈r.l:=by rw[dc hi];exact aZ _
  simp only[kS,nM hi,cond_true,bV hi,af,G1 (hrow _ hm)];by_cases h1:(gt r.l i).l.length=t.bn.l.length
  .have e1:(((gt r.l i).l.length:Int) !=(t.bn.l.length:Int))=false:=by rw[h1];simp
   by_cases h2:∀p∈(gt r.l i).l,0<=p/\p<8
   .have e2:decide (¬∀p∈(gt r.l i).l,0<=p/\p<8)=false:=decide_eq_false fun h=>h h2;have e3:decide (¬((gt r.l i).l.length=t.bn.l.length/\∀p∈(gt r.l i).l,0<=p/\p<8))=false:=decide_eq_false fun h=>h ⟨h1,h2⟩;rw[e1,e2,e3];rfl
   .have e2:decide (¬∀p∈(gt r.l i).l,0<=p/\p<8)=true:=decide_eq_true h2;have e3:decide (¬((gt r.l i).l.length=t.bn.l.length/\∀p∈(gt r.l i).l,0<=p/\p<8))=true:=decide_eq_true fun h=>h2 h.2;rw[e1,e2,e3];rfl
  .have e1:(((gt r.l i).l.length:Int) !=(t.bn.l.length:Int))=true:=by rw[bne_iff_ne];omega
   have e3:decide (¬((gt r.l i).l.length=t.bn.l.length/\∀p∈(gt r.l i).l,0<=p/\p<8))=true:=decide_eq_true fun h=>h1 h.1;rw[e1,e3];rfl) (by simp only[kS,sS,cond_false])
 rw[h]
 have hr:(∀eP∈r.l,decide (¬(eP.l.length=t.bn.l.length/\∀p∈eP.l,0<=p/\p<8))=false)<->∀eP∈r.l,eP.l.length=t.bn.l.length/\∀p∈eP.l,0<=p/\p<8:=by
  constructor
  .intro h eP hm;have:=h eP hm;rw[decide_eq_false_iff_not]at this;exact Classical.not_not.1 this
  .intro h eP hm;exact decide_eq_false fun hn=>hn (h eP hm)
 by_cases hs:∀eP∈r.l,eP.l.length=t.bn.l.length/\∀p∈eP.l,0<=p/\p<8
 .rw [if_pos (hr.2 hs)];exact congrArg some (decide_eq_true ⟨hV,hl,hs⟩).symm
 .rw [if_neg (fun h=>hs (hr.1 h))];exact congrArg some (decide_eq_false fun h=>hs h.Qg).symm
section
variable{t:ao}{r:Sl (Sl Int)}{h:Nat}
def jG(r:Sl (Sl Int))(h:Nat)(s:Nat):Int:=gt (gt r.l s).l h
def LF(t:ao)(r:Sl (Sl Int))(h:Nat)(s:Nat):Prop:=(gt t.bn.l h).At=(s:Int)/\(gt t.bn.l h).gk=jG r h s
instance{s:Nat}:Decidable (LF t r h s):=by unfold LF;infer_instance
def Bv(t:ao)(r:Sl (Sl Int))(h:Nat)(s:Nat):Option Nat:=(lZ (tP (s:Int) (jG r h s)) t.a7.l 0).map (·.1.toNat)
theorem mL.eP(hV:mL t r){s:Nat}(hs:s<r.l.length):(gt r.l s).l.length=t.bn.l.length:=by
 have:gt r.l s∈r.l:=by rw[dc hs];exact aZ _
 exact(hV.Qg _ this).1
theorem mL.z7(hV:mL t r):r.l.length<=8:=by have:=hV.len;have:=hV.EP.sw;omega
theorem mL.AM(hV:mL t r):t.bn.l.length<=8:=hV.EP.AM
theorem FG(hV:mL t r)(s:Nat):(Bv t r h s=none/\Dz t s (jG r h s)=(0,0,0,false))\/
  ∃(s':Nat)(b c:Int),Bv t r h s=some s'/\s'<r.l.length/\Dz t s (jG r h s)=((s':Int),b,c,true):=by
 unfold Bv Dz;cases hc:lZ (tP (s:Int) (jG r h s)) t.a7.l 0 with|none=>exact .inl ⟨rfl,rfl⟩|some q=>obtain⟨a,b,c⟩:=q;obtain⟨h1,h2⟩:=TY hV.EP hc;have:=hV.len;refine .inr ⟨a.toNat,b,c,rfl,by omega,?_⟩;rw[Int.toNat_of_nonneg h1]
theorem Uk(hV:mL t r){s s':Nat}(hn:Bv t r h s=some s'):s'<r.l.length:=by
 rcases FG (h:=h) hV s with⟨e,_⟩|⟨s2,_,_,e,h2,_⟩
 .rw [e]at hn;cases hn
 .rw [e]at hn;cases hn;exact h2
inductive vm(t:ao)(r:Sl (Sl Int))(h:Nat):Nat->Nat->Prop
 |I9 {s:Nat}:LF t r h s->vm t r h s 0
 |gP {s s' k:Nat}:¬LF t r h s->Bv t r h s=some s'->vm t r h s' k->vm t r h s (k+1)
theorem vm.yr{s a b:Nat}(ha:vm t r h s a)(hb:vm t r h s b):a=b:=by
 induction ha generalizing b with
 |I9 h1=>cases hb with|I9 _=>rfl|gP h2 _ _=>exact absurd h1 h2
 |gP h1 h2 _ ih=>cases hb with|I9 h3=>exact absurd h3 h1|gP _ h4 h5=>rw[h2]at h4;cases h4;rw[ih h5]
theorem vm.aen(hV:mL t r){s k:Nat}(ha:vm t r h s k)(hs:s<r.l.length):∃w:List Nat,w.length=k+1/\w.Nodup/\∀x∈w,x<r.l.length/\∃j,j<=k/\vm t r h x j:=by
 induction ha with
 |@I9 s h1=>exact⟨[s],rfl,by simp,fun x hx=>by obtain rfl:=az.1 hx;exact⟨hs,0,aq _,.I9 h1⟩⟩
 |@gP s s' k h1 h2 h3 ih=>
  obtain⟨w,e1,e2,e3⟩:=ih (Uk hV h2);have fh:=vm.gP h1 h2 h3;refine⟨s::w,by simp[e1],List.nodup_cons.2 ⟨fun hm=>?_,e2⟩,fun x hx=>?_⟩
  .obtain ⟨_,j,hj,hj2⟩:=e3 s hm;have:=hj2.yr fh;omega
  .rcases List.mem_cons.1 hx with rfl|hx
   .exact ⟨hs,k+1,aq _,fh⟩
   .obtain ⟨a,j,b,c⟩:=e3 x hx;exact⟨a,j,by omega,c⟩
theorem vm.lt(hV:mL t r){s k:Nat}(ha:vm t r h s k)(hs:s<r.l.length):k<r.l.length:=by obtain⟨w,h1,h2,h3⟩:=ha.aen hV hs;have hsub:w⊆aK r.l.length:=fun x hx=>cM.2 (h3 x hx).1;have:=h2.length_le_of_subset hsub;simp at this;omega
end
end Go.Proofs.YtoekkpmeeclpeaaGreat.S
open Go.Ev Go
namespace Go.Proofs.YtoekkpmeeclpeaaGreat.S
def mY(t:ao)(r:Sl (Sl Int)):Prop:=mL t r/\∀s,s<r.l.length->∀h,h<t.bn.l.length->∃k,vm t r h s k
section
variable{t:ao}{r:Sl (Sl Int)}{h:Nat}
def jf(t:ao)(r:Sl (Sl Int))(h s:Nat):Nat:=open Classical in if hk:∃k,vm t r h s k then Classical.choose hk else 0
theorem U8{s k:Nat}(ha:vm t r h s k):jf t r h s=k:=by
 have hk:∃k,vm t r h s k:=⟨k,ha⟩
 unfold jf;rw[dif_pos hk];exact(Classical.choose_spec hk).yr ha
theorem mY.jf(hG:mY t r){s:Nat}(hs:s<r.l.length)(hh:h<t.bn.l.length):vm t r h s (jf t r h s):=by obtain⟨k,hk⟩:=hG.2 s hs h hh;rw[U8 hk];exact hk
theorem mY.lt(hG:mY t r){s:Nat}(hs:s<r.l.length)(hh:h<t.bn.l.length):S.jf t r h s<r.l.length:=(hG.jf hs hh).lt hG.1 hs
def wW(t:ao)(r:Sl (Sl Int))(h:Nat):List Int:=(aK r.l.length).map fun s=>(jf t r h s:Int)
theorem BK:(wW t r h).length=r.l.length:=by simp[wW]
theorem R7{s:Nat}(hs:s<r.l.length):gt (wW t r h) s=(jf t r h s:Int):=by rw[dc (by rw[BK];exact hs)];simp[wW]
theorem Lg{n:Nat}:((aK (n+1)).map fun s=>(jf t r h s:Int))=((aK n).map fun s=>(jf t r h s:Int))++[(jf t r h n:Int)]:=by rw[List.range_succ,fM];rfl
theorem U1(hh:h<t.bn.l.length):(((!true)||(decide ((h:Int)<0)))||(decide ((h:Int)>=(t.bn.l.length:Int))))=false:=by simp only[gF,Bool.false_or,Bool.or_eq_false_iff,decide_eq_false_iff_not];omega
theorem FA(hV:mL t r){s:Nat}(hs:s<r.l.length)(hh:h<t.bn.l.length):pn r (s:Int) (h:Int)=some (jG r h s,true):=by
 have h1:decide ((s:Int)<0)=false:=by rw[decide_eq_false_iff_not];omega
 have h2:decide ((s:Int)>=(r.l.length:Int))=false:=by rw[decide_eq_false_iff_not];omega
 have h3:decide ((h:Int)<0)=false:=by rw[decide_eq_false_iff_not];omega
 have hrl:=hV.eP hs;have h4:decide ((h:Int)>=((gt r.l s).l.length:Int))=false:=by rw[decide_eq_false_iff_not];omega
 have hhl:h<(gt r.l s).l.length:=by omega
 simp only[pn,h1,h2,h3,Bool.or_self,cond_false,bV hs,af,h4,bV hhl,jG]
theorem NN(hV:mL t r)(hh:h<t.bn.l.length){s:Nat}(hs:s<r.l.length):
  re t r (s:Int) (h:Int)=some ((Dz t s (jG r h s)).1,(Dz t s (jG r h s)).2.2.2):=by
 have hlk:=hV.EP.FN;simp only[re,FA hV hs hh,af,gF,cond_false,NU _ _ (show t.a7.l.length<9223372036854775808 by omega)]
def jF(l:List Nat):List Int:=l.map fun(x:Nat)=>(x:Int)
theorem tn(l:List Nat):(jF l).length=l.length:=by simp[jF]
theorem D2(l:List Nat)(i:Nat):gt (jF l) i=((gt l i:Nat):Int):=by simp only[gt,jF,List.getD_eq_getElem?_getD,List.getElem?_map];cases l[i]?<;>rfl
theorem Oy{l:List Nat}{k:Nat}:(k:Int)∈jF l<->k∈l:=by simp only[jF,aP];exact⟨fun⟨y,hy,e⟩=>by rw[show k=y by omega];exact hy,fun h=>⟨k,h,rfl⟩⟩
theorem Oz(l:List Nat)(k:Nat):jF l++[(k:Int)]=jF (l++[k]):=by simp[jF]
theorem vg{s:Sl Int}(x:Int)(hb:s.l.length<9223372036854775808):bJ s x=some (decide (x∈s.l)):=by
 have h:=yL (f:=cJ s x) s.l (fun i y=>if x=y then some (i:Int)else none) () hb (fun i hi=>by
  have e:(x==gt s.l i)=decide (x=gt s.l i):=by rw[jO];simp
  simp only[cJ,nM hi,cond_true,bV hi,af,e];by_cases hc:x=gt s.l i
  .rw [if_pos hc,decide_eq_true hc];rfl
  .rw [if_neg hc,decide_eq_false hc];rfl) (by simp only[cJ,sS,cond_false])
 simp only[bJ,fC,h,af];cases hs:lZ (fun i y=>if x=y then some (i:Int)else none) s.l 0 with
 |none=>
  have hn:x∉s.l:=by intro hx;obtain⟨j,hj,e⟩:=ga hx;have:=qY.1 hs j s.l[j] (by simp[hj]);rw[if_pos e.symm]at this;simp at this
  rw[decide_eq_false hn];rfl
 |some b=>
  obtain⟨j,y,h1,h2,_⟩:=nI hs;split at h2
  .rename_i hx;obtain rfl:=ac h2;rw[decide_eq_true (by rw[hx];exact bl h1)];simp only[af,fo,decide_eq_true_eq];omega
  .simp at h2
theorem Db{l:List Nat}{x:Nat}(hb:l.length<1000000):iF (.mk (jF (l++[x])))=some (decide (x∈l)):=by
 have main:∀s:Sl Int,s=.mk (jF (l++[x]))->iF s=some (decide (x∈l)):=by
  intro s hs;have hsl:s.l=jF (l++[x]):=by rw[hs];rfl
  have hlen:s.l.length=l.length+1:=by rw[hsl,tn];simp
  have h0:decide ((s.l.length:Int)>0)=true:=by rw[decide_eq_true_eq];omega
  have hw:wr .i64 ((s.l.length:Int)-1)=(l.length:Int):=by rw[hlen,iY (by omega) (by omega)];omega
  have hcut:ou s.l 0 (l.length:Int)=some (jF l):=by rw[vM];refine⟨⟨Int.le_refl _,by omega,by omega⟩,?_⟩;rw[hsl];simp[jF]
  have hi:l.length<s.l.length:=by omega
  have hg:gt s.l l.length=(x:Int):=by rw[hsl,D2,dc (by simp)];simp
  have hto:s.to (jF l)=.mk (jF l):=by rw[hs];rfl
  have hc:=vg (s:=.mk (jF l)) (x:Int) (by rw[Sl.sB,tn];omega);have hm:decide ((x:Int)∈(Sl.mk (jF l)).l)=decide (x∈l):=by rw[jO,decide_eq_true_eq,decide_eq_true_eq];exact Oy
  rw[hm]at hc;simp only[iF,h0,cond_true,hw,hcut,af,bV hi,hto,hg,hc]
 exact main _ rfl
theorem I8(s:Nat):decide ((gt t.bn.l h)=(⟨(s:Int),jG r h s⟩:fZ))=decide (LF t r h s):=by rw[jO,decide_eq_true_eq,decide_eq_true_eq (p:=LF t r h s)];unfold LF;generalize gt t.bn.l h=x;obtain⟨a,b⟩:=x;exact Prod.mk.injEq ..▸Iff.rfl
theorem RF{o:List Nat}{k:Nat}:gt (o++[k]) o.length=k:=by rw[dc (by simp)];simp
theorem Pt(hV:mL t r)(hh:h<t.bn.l.length):∀(m:Nat)(l:List Nat)(x:Nat),x<r.l.length->(∀y∈l,∃j,m<j/\vm t r h y j)->vm t r h x m->l.length+m<1000->
  ∃w:List Int,aU (ku t r (h:Int)) (.mk (jF (l++[x])))=some (.inl (0,.mk w))/\w.length=l.length+m+1:=by
 intro m;induction m with
 |zero=>
  intro l x hx hl ha hb;have hno:x∉l:=fun hm=>by obtain⟨j,h1,h2⟩:=hl x hm;have:=h2.yr ha;omega
  have htw:=Db (l:=l) (x:=x) (by omega);rw[decide_eq_false hno]at htw;have hlen:(Sl.mk (jF (l++[x]))).l.length=l.length+1:=by rw[Sl.sB,tn];simp
  have hw:wr .i64 (((Sl.mk (jF (l++[x]))).l.length:Int)-1)=(l.length:Int):=by rw[hlen,iY (by omega) (by omega)];omega
  have hi:l.length<(Sl.mk (jF (l++[x]))).l.length:=by omega
  have hg:gt (Sl.mk (jF (l++[x]))).l l.length=(x:Int):=by rw[Sl.sB,D2,RF]
  have hhr:h<(gt r.l x).l.length:=by rw[hV.eP hx];exact hh
  have hport:gt (gt r.l x).l h=jG r h x:=rfl;cases ha with|I9 hH=>refine⟨_,cQ (by simp only[ku,htw,af,nC,cond_true,hw,bV hi,bV hh,hg,bV hx,bV hhr,hport,I8,decide_eq_true hH];rfl),by rw[tn];simp⟩
 |succ m ih=>
  intro l x hx hl ha hb;have hno:x∉l:=fun hm=>by obtain⟨j,h1,h2⟩:=hl x hm;have:=h2.yr ha;omega
  have htw:=Db (l:=l) (x:=x) (by omega);rw[decide_eq_false hno]at htw;have hlen:(Sl.mk (jF (l++[x]))).l.length=l.length+1:=by rw[Sl.sB,tn];simp
  have hw:wr .i64 (((Sl.mk (jF (l++[x]))).l.length:Int)-1)=(l.length:Int):=by rw[hlen,iY (by omega) (by omega)];omega
  have hi:l.length<(Sl.mk (jF (l++[x]))).l.length:=by omega
  have hg:gt (Sl.mk (jF (l++[x]))).l l.length=(x:Int):=by rw[Sl.sB,D2,RF]
  have hhr:h<(gt r.l x).l.length:=by rw[hV.eP hx];exact hh
  have hport:gt (gt r.l x).l h=jG r h x:=rfl;have ha0:=ha;cases ha with
  |@gP _ y _ hH hn ha'=>
   rcases FG (h:=h) hV x with⟨e1,_⟩|⟨y',b,c,e1,hy,e2⟩
   .rw [e1]at hn;cases hn
   .rw [e1]at hn;obtain rfl:=ac hn
    obtain⟨w,h1,h2⟩:=ih (l++[x]) y' hy (fun z hz=>by
     rcases List.mem_append.1 hz with hz|hz
     .obtain ⟨j,q1,q2⟩:=hl z hz;exact⟨j,by omega,q2⟩
     .obtain rfl:=az.1 hz;exact⟨m+1,by omega,ha0⟩) ha' (by rw[aA,aR];omega)
    refine⟨w,?_,by rw[h2,aA,aR];omega⟩;rw[fA (a':=.mk (jF (l++[x]++[y'])))]
    .exact h1
    .have hcap:g_ ((Sl.mk (jF (l++[x]))).l++[(y':Int)])=some (jF (l++[x]++[y'])):=by rw[Sl.sB,nX (by rw[aA,tn];simp;omega),Oz]
     simp only[ku,htw,af,nC,cond_true,hw,bV hi,bV hh,hg,bV hx,bV hhr,hport,I8,decide_eq_false hH,cond_false,NN hV hh hx,e2,gF,hcap]
theorem zj(hV:mL t r):jT t r=some true:=by have hsm:=hV.z7;rw[H_ (by omega) (fun eP hm=>by have:=(hV.Qg eP hm).1;have:=hV.EP.AM;omega),decide_eq_true hV]
theorem Ng(hV:mL t r)(hh:h<t.bn.l.length){s k:Nat}(hs:s<r.l.length)(ha:vm t r h s k):∃w:List Int,ra t r (s:Int) (h:Int)=some (.mk w,0)/\w.length=k+1:=by have hk:=ha.lt hV hs;have hsm:=hV.z7;obtain⟨w,h1,h2⟩:=Pt hV hh k [] s hs (fun y hy=>by simp at hy) ha (by simp;omega);have h1:aU (ku t r (h:Int)) (.mk [(s:Int)])=_:=h1;exact⟨w,by simp only[ra,FA hV hs hh,zj hV,af,gF,cond_false,h1],by simpa using h2⟩
theorem MH(hG:mY t r)(hh:h<t.bn.l.length)(hn:0<r.l.length):rf t r (h:Int)=some (.mk (wW t r h)):=by
 have hsm:=hG.1.z7
 have main:∀(d i:Nat),i+d=r.l.length->∀s:Sl Int,s.l=((aK i).map fun s=>(jf t r h s:Int))->(0<i\/0<d)->(0<i->s=.mk s.l)->aU (lE t r (h:Int)) ((i:Int),s)=some (.mk (wW t r h)):=by
  intro d;induction d with
  |zero=>
   intro i hi s hs hp hmk;obtain rfl:i=r.l.length:=by omega
   rw[cQ (b:=s) (by simp only[lE,sS,cond_false]),hmk (by omega),hs];rfl
  |succ d ih=>
   intro i hi s hs hp hmk;have hlt:i<r.l.length:=by omega
   have ha:=hG.jf hlt hh;have hb:=hG.lt hlt hh;obtain⟨l,h1,h2⟩:=Ng hG.1 hh hlt ha;have hw:wr .i64 (((Sl.mk l).l.length:Int)-1)=(jf t r h i:Int):=by rw[Sl.sB,h2,iY (by omega) (by omega)];omega
   have hsl:s.l.length=i:=by rw[hs];simp
   rw[fA (a':=(((i+1:Nat):Int),.mk (s.l++[(jf t r h i:Int)]))) (by simp only[lE,nM hlt,cond_true,h1,af,hw,nX (show(s.l++[(jf t r h i:Int)]).length<=2147483648 by rw[aA,aR];omega),zS (show i<9223372036854775807 by omega)])];exact ih (i+1) (by omega) _ (by rw[Sl.sB,hs,Lg]) (.inl (by omega)) (fun _=>rfl)
 have h1:aU (lE t r (h:Int)) (0,Sl.nil)=_:=main r.l.length 0 (by omega) .nil rfl (.inr hn) (fun h=>by omega);simp only[rf,zj hG.1,af,U1 hh,cond_false,h1]
theorem mY.pos(hG:mY t r):0<r.l.length:=by have:=hG.1.len;have:=hG.1.EP.sw;omega
theorem Jb(hG:mY t r):pp t r=some true:=by
 have hsm:=hG.1.z7;have hho:=hG.1.AM
 have h1:=yL (f:=mu t r) (β:=Bool) (γ:=Unit) (aK t.bn.l.length) (fun _ _=>none) () (by simp;omega) (fun i hi=>by
  have hi:i<t.bn.l.length:=by simpa using hi
  have hno:(-1:Int)∉(Sl.mk (wW t r i)).l:=fun hm=>by obtain⟨s,_,e⟩:=aP.1 hm;omega
  have hc:=vg (s:=.mk (wW t r i)) (-1) (by rw[Sl.sB,BK];omega);rw[decide_eq_false hno]at hc;simp only[mu,nM hi,cond_true,MH hG hi hG.pos,af,hc,cond_false]) (by simp only[mu,dH,sS,cond_false])
 have h2:lZ (β:=Bool) (fun(_ _:Nat)=>none) (aK t.bn.l.length) 0=none:=qY.2 fun _ _ _=>rfl;rw[h2]at h1;simp only[pp,zj hG.1,af,gF,cond_false,h1]
end
end Go.Proofs.YtoekkpmeeclpeaaGreat.S
open Go.Ev Go Go.Fl Go.Ways
namespace Go.Proofs.YtoekkpmeeclpeaaGreat.S
section
variable{t:ao}{L:List Nat}(hV:fF t)
theorem Bb{c:Nat->Nat}{g i:Nat}(h:xh t L c g i≠-1):∃x∈gj t (i:Int),xh t L c g i=x.gk/\yl t L c g x.To.toNat+1=yl t L c g i/\qe (nz t L) c i (ed L x)=true:=by unfold xh at h|-;cases hf:(gj t (i:Int)).find? (fun x=>qe (nz t L) c i (ed L x)&&(yl t L c g x.To.toNat+1==yl t L c g i))with|none=>rw[hf]at h;exact absurd rfl h|some x=>have h2:=List.find?_some hf;rw[ax]at h2;exact⟨x,List.mem_of_find?_eq_some hf,rfl,beq_iff_eq.1 h2.2,h2.1⟩
include hV in
theorem TU{i:Nat}{x:aD}(h:x∈gj t (i:Int)):0<=x.gk/\x.gk<8:=by obtain⟨j,l,b,h1,h2,h3⟩:=(qk hV).1 h;have hp:=hV.ic ⟨(i:Int),x.gk⟩ (by rw[pL];exact List.mem_append_left _ (cA.2 ⟨l,bl h1,h2.AA⟩));exact hp.2
abbrev rts(t:ao)(L:List Nat):Sl (Sl Int):=Sl.mk (eP t.au.toNat fun i=>gw (si t L t.bn.l.length i))
theorem Do{s h:Nat}(hs:s<t.au.toNat)(hh:h<t.bn.l.length):jG (rts t L) h s=uk t L h s:=by unfold jG;rw[ma,nr hs,v6];unfold si;rw[XU (by rw[dH];exact hh)];congr 1;rw[dc (by rw[dH];exact hh)];simp
include hV in
theorem Qe(hno:¬Yy t L):mY t (rts t L):=by
 obtain⟨s1,s2,s3⟩:=uT hV;have hlen:(rts t L).l.length=t.au.toNat:=by rw[ma,gl]
 refine⟨⟨hV,by rw[hlen];omega,fun r hr=>?_⟩,fun s hs h hh=>?_⟩
 .rw [ma]at hr;obtain⟨i,hi,rfl⟩:=aP.1 hr;have hi:=cM.1 hi;rw[v6];refine⟨by unfold si;simp,fun p hp=>?_⟩;obtain⟨h,hh,rfl⟩:=aP.1 hp;have hh:=cM.1 hh;have hne:uk t L h i≠-1:=fun e=>hno ⟨h,hh,i,hi,e⟩;obtain⟨p1,p2,p3,p4⟩:=GP hV hh;unfold uk Fo at hne|-;by_cases e:i=hg t h
  .rw [if_pos e];exact⟨p3,p4⟩
  .rw [if_neg e]at hne|-;obtain⟨x,x1,x2,_⟩:=Bb hne;rw[x2];exact TU hV x1
 .rw [hlen]at hs;obtain⟨p1,p2,p3,p4⟩:=GP hV hh;have hgn:hg t h<t.au.toNat:=by unfold hg;omega
  have hat:(gt t.bn.l h).At=((hg t h:Nat):Int):=by unfold hg;omega
  have key:∀(m s:Nat),s<t.au.toNat->yl t L (cB t L (hg t h)) (hg t h) s+1=(m:Int)->∃k,vm t (rts t L) h s k:=by
   intro m;induction m with
   |zero=>
    intro s hs hm;by_cases e:s=hg t h
    .exact ⟨0,.I9 ⟨by rw[hat,e],by rw[Do hs hh];unfold uk Fo;rw[if_pos e]⟩⟩
    .exfalso;have hne:uk t L h s≠-1:=fun q=>hno ⟨h,hh,s,hs,q⟩;unfold uk Fo at hne;rw[if_neg e]at hne;obtain⟨x,x1,x2,x3,_⟩:=Bb hne;have:=(wA (E:=nz t L) (c:=cB t L (hg t h)) (g:=hg t h) (t.au.toNat-1) x.To.toNat).1;unfold yl at x3 hm;omega
   |succ m ih=>
    intro s hs hm;by_cases e:s=hg t h
    .exact ⟨0,.I9 ⟨by rw[hat,e],by rw[Do hs hh];unfold uk Fo;rw[if_pos e]⟩⟩
    .have hne:uk t L h s≠-1:=fun q=>hno ⟨h,hh,s,hs,q⟩;have htr:uk t L h s=xh t L (cB t L (hg t h)) (hg t h) s:=by unfold uk Fo;rw[if_neg e]
     rw[htr]at hne;obtain⟨x,x1,x2,x3,_⟩:=Bb hne;obtain⟨k1,k2,k3,k4,k5⟩:=sQ hV x1;obtain⟨k,hk⟩:=ih x.To.toNat (by omega) (by omega);refine⟨k+1,.gP (fun q=>e ?_) ?_ hk⟩
     .have:=q.1;rw[hat]at this;omega
     .obtain ⟨j,l,b,h1,h2,h3⟩:=(qk hV).1 x1;unfold Bv;rw[Do hs hh,htr,x2,(Dy hV).2 ⟨j,l,h1,h2,h3⟩];rfl
  have hr:=(wA (E:=nz t L) (c:=cB t L (hg t h)) (g:=hg t h) (t.au.toNat-1) s).1;exact key (yl t L (cB t L (hg t h)) (hg t h) s+1).toNat s hs (by unfold yl;omega)
end
end Go.Proofs.YtoekkpmeeclpeaaGreat.S
