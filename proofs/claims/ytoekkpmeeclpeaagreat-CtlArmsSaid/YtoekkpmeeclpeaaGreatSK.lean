/- Steps and trees: both tell the same. Conditions: a topology and weights that may be. -/
import Derived.Test.YtoekkpmeeclpeaaGreatSE
import Derived.Test.YtoekkpmeeclpeaaGreatST
open Bool renaming and_eq_true->aw,eq_iff_iff->jF,not_false->mU,not_true->gy,true_and->lX
open List renaming ext_getElem->gq,getElem_mem->aX,getElem_of_mem->fU,length_append->aA,length_range->dD,length_replicate->bp,length_singleton->aP,map_append->eS,mem_flatMap->cx,mem_map->aL,mem_of_getElem?->bj,mem_range->cI,mem_singleton->az,range->aK,replicate->ay
open Nat renaming le_refl->aq,le_trans->bg
open Option renaming bind_some->ad
open Option.some renaming inj->ac,injEq->fh
open Go.Ev Go Go.Fl Go.Ways
noncomputable section
namespace Go.Proofs.YtoekkpmeeclpeaaGreat.S
section
variable{t:ao}{L:List Nat}(hV:fB t)(hL:L.length=t.aZ.l.length)(hn:∀x∈L,nn x)
def ye(t:ao)(L:List Nat)(c:Nat->Nat)(g:Nat):Nat->Int:=mi (mQ t L) c g (t.au.toNat-1)
theorem SZ{n g:Nat}(hg:g<n){E:Nat->List (Nat×Nat)}{c:Nat->Nat}:(ay n (-1:Int)).set g 0=eO n (mi E c g 0):=by
 have e1:ay n (-1:Int)=eO n (fun _=>(-1:Int)):=gq (by simp[eO]) fun j h1 h2=>by simp[eO]
 rw[e1,tO hg];rfl
include hV hL hn in
theorem Jx{g:Nat}(hg:g<t.au.toNat){c:Nat->Nat}(hc:∀i,i<t.au.toNat->c i<=wx)(hcosts:jI t (gk L) (g:Int)=some (Sl.mk (eO t.au.toNat c))):
  oU t (gk L) (g:Int)=some (Sl.mk (eO t.au.toNat (ye t L c g))):=by
 obtain⟨s1,s2,s3⟩:=ug hV;unfold oU;have hrep:=CT (x:=-1) s2 s3;rw[<-s1]at hrep;obtain⟨K,k1,k2⟩:=JJ hV hL hn (g:=g) hc;have hnil:(Sl.mk (eO t.au.toNat c):Sl Nat).nw=false:=rfl;rw[hcosts,ad,hnil,cond_false,hrep,ad,lH,AX (by rw[bp];exact hg),ad,SZ hg (E:=mQ t L) (c:=c),k1,ad];congr 1;exact congrArg Sl.mk (ii fun i hi=>QC (zU hV L) k2 hi)
variable{c:Nat->Nat}(hc:∀i,i<t.au.toNat->c i<=wx){b:Sl Int}(hb:b.l=nX L){g:Nat}
def wH(t:ao)(L:List Nat)(c:Nat->Nat)(g i:Nat):Int:=match(f9 t (i:Int)).find? (fun x=>pp (mQ t L) c i (ed L x)&&(ye t L c g x.To.toNat+1==ye t L c g i))with|some x=>x.gi|none=>-1
theorem IE{i:Nat}:(yz t L c i).find? (fun x=>ye t L c g x.To.toNat==ye t L c g i-1)=(f9 t (i:Int)).find? (fun x=>pp (mQ t L) c i (ed L x)&&(ye t L c g x.To.toNat+1==ye t L c g i)):=by
 unfold yz;rw[List.find?_filter];congr 1;funext x;rw[jF];simp only[decide_eq_true_eq,aw,beq_iff_eq];constructor
 .rintro ⟨a,b⟩;exact⟨a,by omega⟩
 .rintro ⟨a,b⟩;exact⟨a,by omega⟩
include hV in
theorem OW{i:Nat}(hi:i<t.au.toNat){s:Sl aD}(hs:s.l=yz t L c i){z:List Int}(hz:z.length=t.au.toNat)(hzi:gt z i=-1):
  aU (iS (Sl.mk (eO t.au.toNat (ye t L c g))) (i:Int) s) (0,Sl.mk z)=some (Sl.mk (z.set i (wH t L c g i))):=by
 have hlen:s.l.length<=8:=by rw[hs];exact bg (List.length_filter_le _ _) (bg (List.length_filterMap_le _ _) (by simp))
 have hfr:=vJ (E:=mQ t L) (c:=c) (g:=g) (t.au.toNat-1) i;have h8:=ug hV;have hw:wr .i64 (ye t L c g i-1)=ye t L c g i-1:=iQ (by unfold ye;omega) (by unfold ye;omega)
 have key:∀(R A:List aD),s.l=A++R->aU (iS (Sl.mk (eO t.au.toNat (ye t L c g))) (i:Int) s) ((A.length:Int),Sl.mk z)=some (match R.find? (fun x=>ye t L c g x.To.toNat==ye t L c g i-1)with|some x=>Sl.mk (z.set i x.gi)|none=>Sl.mk z):=by
  intro R;induction R with
  |nil=>intro A e;refine cM ?_;simp only[iS];rw[decide_eq_false (by rw[e];simp),cond_false];rfl
  |cons x R ih=>
   intro A e;have hj:A.length<s.l.length:=by rw[e];simp
   have hx:gt s.l A.length=x:=by rw[e];exact Fk
   have hxm:x∈f9 t (i:Int):=by
    have:x∈yz t L c i:=by rw[<-hs,e];simp
    exact(List.mem_filter.1 this).1
   obtain⟨k1,k2,k3,k4,k5⟩:=rQ hV hxm;have hto:x.To.toNat<t.au.toNat:=by omega
   have i1:cD (aD.To x) (eO t.au.toNat (ye t L c g)).length=some x.To.toNat:=mJ.2 ⟨by show x.To=_;omega,by rw[f_];exact hto⟩;rw[List.find?_cons];cases hb2:(ye t L c g x.To.toNat==ye t L c g i-1)with|true=>refine cM ?_;simp only[iS];rw[decide_eq_true (by omega),cond_true,AX hj,ad,hx,lH,i1,ad,AX (by rw[f_];exact hi),ad,mK hto,mK hi,hw,hb2,cond_true,lH,AX (by omega),ad]|false=>refine(fu (a':=(((A++[x]).length:Int),Sl.mk z)) ?_).trans (ih (A++[x]) (by rw[e];simp));simp only[iS];rw[decide_eq_true (by omega),cond_true,AX hj,ad,hx,lH,i1,ad,AX (by rw[f_];exact hi),ad,mK hto,mK hi,hw,hb2,cond_false,K6 (by omega),aA];rfl
 have:=key s.l [] rfl;rw[hs,IE]at this;have e0:aU (iS (Sl.mk (eO t.au.toNat (ye t L c g))) (i:Int) s) (0,Sl.mk z)=_:=this;rw[e0];unfold wH;congr 1;cases(f9 t (i:Int)).find? (fun x=>pp (mQ t L) c i (ed L x)&&(ye t L c g x.To.toNat+1==ye t L c g i))with|some x=>rfl|none=>show Sl.mk z=Sl.mk (z.set i (-1));congr 1;rw[<-hzi,cU (by omega),List.set_getElem_self]
def EL(t:ao)(L:List Nat)(c:Nat->Nat)(g:Nat)(p:Int)(i:Nat):Int:=if i=g then p else wH t L c g i
variable{h:Nat}(hh:h<t.bn.l.length)
theorem Gb(hV:fB t){h:Nat}(hh:h<t.bn.l.length):0<=(gt t.bn.l h).At/\(gt t.bn.l h).At<t.au/\0<=(gt t.bn.l h).gi/\(gt t.bn.l h).gi<8:=by have hp:=hV.gU ⟨(gt t.bn.l h).At,(gt t.bn.l h).gi⟩ (by rw[oW];exact List.mem_append_right _ (cx.2 ⟨gt t.bn.l h,w9 hh,by simp[VN]⟩));exact⟨hp.1.1,hp.1.2,hp.2.1,hp.2.2⟩
end
end Go.Proofs.YtoekkpmeeclpeaaGreat.S
open Go.Ev Go Go.Fl Go.Ways
namespace Go.Proofs.YtoekkpmeeclpeaaGreat.S
def cB(t:ao)(L:List Nat)(g:Nat):Nat->Nat:=B (mQ t L) g t.au.toNat
theorem VX(t:ao)(L:List Nat)(g i:Nat):cB t L g i<=wx:=afa _ _
def hg(t:ao)(h:Nat):Nat:=(gt t.bn.l h).At.toNat
def tw(t:ao)(L:List Nat)(h:Nat):Nat->Int:=EL t L (cB t L (hg t h)) (hg t h) (gt t.bn.l h).gi
section
variable{t:ao}{L:List Nat}(hV:fB t)(hL:L.length=t.aZ.l.length)(hn:∀x∈L,nn x)
include hV hL hn in
theorem UD{g:Nat}(hg:g<t.au.toNat):jI t (gk L) (g:Int)=some (Sl.mk (eO t.au.toNat (cB t L g))):=by obtain⟨cl,out,h1,h2⟩:=KI hV hL hn hg;rw[h1,ii fun i hi=>(h2.wu (zU hV L)).1 i hi];rfl
include hV hL hn in
theorem WS:Ti t L=true:=by unfold Ti;rw[decide_eq_true hV,lX,hL,beq_self_eq_true,lX];exact List.all_eq_true.2 fun x hx=>xB.2 (hn x hx)
include hV hL hn in
theorem Hj:jH t (gk L)=some true:=by have hok:=WS hV hL hn;have hr:=AL (t:=t) (L:=L) (fun x hx=>yB (hn x hx)) (by have:=hV.Fa;omega);rwa[(J4 hok).2.2.2,hok]at hr
include hV hL hn in
theorem OV{h:Nat}(hh:h<t.bn.l.length):qf t (gk L) (h:Int)=some (Sl.mk (eO t.au.toNat (tw t L h)),0):=by
 obtain⟨s1,s2,s3⟩:=ug hV;obtain⟨p1,p2,p3,p4⟩:=Gb hV hh;have hgn:hg t h<t.au.toNat:=by unfold hg;omega
 have hat:(gt t.bn.l h).At=((hg t h:Nat):Int):=by unfold hg;omega
 have hcs:=UD hV hL hn hgn;have fe:=Jx hV hL hn hgn (fun i _=>VX t L (hg t h) i) hcs;have hrep:=CT (x:=-1) s2 s3;rw[<-s1]at hrep;unfold qf;rw[Hj hV hL hn,ad,gy,cond_false];have hguard:((decide ((h:Int)<0))||(decide ((h:Int)>=(((ao.bn t).l).length:Int))))=false:=by rw[decide_eq_false (show¬(h:Int)<0 by omega),decide_eq_false (by omega)];rfl
 have hloop:=SS (f:=j7 t (gk L) (Sl.mk (eO t.au.toNat (cB t L (hg t h)))) (Sl.mk (eO t.au.toNat (ye t L (cB t L (hg t h)) (hg t h)))) (Sl.mk (ay t.au.toNat (-1)))) (fun i:Nat=>((i:Int),Sl.mk (eO t.au.toNat fun j=>if j<i then wH t L (cB t L (hg t h)) (hg t h) j else-1))) t.au.toNat (b:=Sl.mk (eO t.au.toNat (wH t L (cB t L (hg t h)) (hg t h)))) (fun i hi=>by
  obtain⟨s,q1,q2⟩:=EQ hV hL hn (fun i _=>VX t L (hg t h) i) hi;simp only[j7];rw[lH,bp,decide_eq_true (by omega),cond_true,q1,ad,OW hV hi q2 (by rw[f_]) (by rw[mK hi,if_neg (by omega)]),ad,tO hi,K6 (by omega)];congr 4;refine ii fun j hj=>?_;by_cases e:j=i
  .rw [if_pos e,if_pos (by omega),e]
  .rw [if_neg e];by_cases e2:j<i
   .rw [if_pos e2,if_pos (by omega)]
   .rw [if_neg e2,if_neg (by omega)]) (by
  simp only[j7];rw[lH,bp,decide_eq_false (by omega),cond_false];congr 2;exact congrArg Sl.mk (ii fun j hj=>if_pos hj))
 have e0:(eO t.au.toNat fun j=>if j<0 then wH t L (cB t L (hg t h)) (hg t h) j else-1)=ay t.au.toNat (-1):=gq (by simp[eO]) fun j h1 h2=>by simp[eO]
 have hloop2:aU (j7 t (gk L) (Sl.mk (eO t.au.toNat (cB t L (hg t h)))) (Sl.mk (eO t.au.toNat (ye t L (cB t L (hg t h)) (hg t h)))) (Sl.mk (ay t.au.toNat (-1)))) (0,Sl.mk (ay t.au.toNat (-1)))=some (Sl.mk (eO t.au.toNat (wH t L (cB t L (hg t h)) (hg t h)))):=by rw[<-e0]at hloop|-;exact hloop
 rw[hguard,cond_false,AX hh,ad,hat,hcs,ad,fe,ad,hrep,ad,hloop2,ad,ad,lH,AX (by rw[f_];exact hgn),ad,tO hgn];rfl
variable{b:Sl Int}(hb:b.l=nX L)(h12:t.bn.l.length<=12)
def rn(t:ao)(L:List Nat)(m i:Nat):List Int:=(aK m).map fun h=>tw t L h i
theorem PC(m i:Nat):rn t L (m+1) i=rn t L m i++[tw t L m i]:=by unfold rn;rw[List.range_succ,eS];rfl
include hV h12 in
theorem KJ{m:Nat}(hm:m<t.bn.l.length){p:Sl Int}(hp:p=Sl.mk (eO t.au.toNat (tw t L m))):
  aU (jC p) (0,Sl.mk (eO t.au.toNat fun i=>gk (rn t L m i)))=some (Sl.mk (eO t.au.toNat fun i=>gk (rn t L (m+1) i))):=by
 obtain⟨s1,s2,s3⟩:=ug hV;subst hp
 have:=SS (f:=jC (Sl.mk (eO t.au.toNat (tw t L m)))) (fun k:Nat=>((k:Int),Sl.mk (eO t.au.toNat fun i=>if i<k then gk (rn t L (m+1) i)else gk (rn t L m i)))) t.au.toNat (b:=Sl.mk (eO t.au.toNat fun i=>gk (rn t L (m+1) i))) (fun k hk=>by
  simp only[jC];rw[lH,f_,decide_eq_true (by omega),cond_true,AX hk,ad,lH,AX (by rw[f_];exact hk),ad,mK hk,if_neg (by omega),vm,mK hk,u_.2 ⟨rfl,by rw[aA];unfold rn;simp;omega⟩,ad,ad];have hb1:Nat.beq k k=true:=Nat.beq_refl k;rw[hb1,cond_true,tO hk,K6 (by omega)];congr 4;refine ii fun j hj=>?_;by_cases e:j=k
  .rw [if_pos e,if_pos (by omega),e,<-PC,Ld (by rw[PC];simp)]
  .rw [if_neg e];by_cases e2:j<k
   .rw [if_pos e2,if_pos (by omega)]
   .rw [if_neg e2,if_neg (by omega)]) (by
  simp only[jC];rw[lH,f_,decide_eq_false (by omega),cond_false];congr 2;exact congrArg Sl.mk (ii fun j hj=>if_pos hj))
 have e0:(eO t.au.toNat fun i=>if i<0 then gk (rn t L (m+1) i)else gk (rn t L m i))=eO t.au.toNat fun i=>gk (rn t L m i):=ii fun j _=>if_neg (by omega);rw[e0]at this;exact this
def X2(t:ao)(L:List Nat):Prop:=∃h,h<t.bn.l.length/\∃i,i<t.au.toNat/\tw t L h i=-1
theorem Ix{n:Nat}{f:Nat->Int}:(eO n f).any (fun x=>(-1:Int)==x)=true<->∃i,i<n/\f i=-1:=by
 rw[List.any_eq_true];constructor
 .rintro ⟨x,hx,h⟩;obtain⟨i,hi,rfl⟩:=aL.1 hx;exact⟨i,cI.1 hi,(beq_iff_eq.1 h).symm⟩
 .rintro ⟨i,hi,h⟩;exact⟨_,aL.2 ⟨i,cI.2 hi,rfl⟩,by rw[h];rfl⟩
include hV hL hn h12 in
theorem JI:(X2 t L/\iK t (gk L)=some (Sl.nil,7))\/(¬X2 t L/\iK t (gk L)=some (Sl.mk (eO t.au.toNat fun i=>gk (rn t L t.bn.l.length i)),0)):=by
 obtain⟨s1,s2,s3⟩:=ug hV
 have hstep:∀m,m<t.bn.l.length->fF t (gk L) ((m:Int),Sl.mk (eO t.au.toNat fun i=>gk (rn t L m i)))=some (if∃i,i<t.au.toNat/\tw t L m i=-1 then .inr (.inl 7)else .inl (((m+1:Nat):Int),Sl.mk (eO t.au.toNat fun i=>gk (rn t L (m+1) i)))):=by
  intro m hm;simp only[fF];rw[decide_eq_true (by omega),cond_true,OV hV hL hn hm,ad];simp only[];rw[sc (by rw[lH,f_];omega),ad,lH];by_cases h:∃i,i<t.au.toNat/\tw t L m i=-1
  .rw [Ix.2 h,cond_true,if_pos h]
  .have:(eO t.au.toNat (tw t L m)).any (fun x=>(-1:Int)==x)=false:=by rw[Bool.eq_false_iff];exact fun q=>h (Ix.1 q)
   rw[this,cond_false,KJ hV h12 hm rfl,ad,K6 (by omega),if_neg h]
 have hm0:yT (Sl.nil:Sl Int) t.au t.au=some (eO t.au.toNat fun i=>gk (rn t L 0 i)):=by unfold yT;rw[if_pos (by omega)];congr 1;exact gq (by simp[eO]) fun j h1 h2=>by simp[eO,rn,gk]
 have hloop:∀(d m:Nat),m+d=t.bn.l.length->(∃h,m<=h/\h<t.bn.l.length/\(∃i,i<t.au.toNat/\tw t L h i=-1)/\aU (fF t (gk L)) ((m:Int),Sl.mk (eO t.au.toNat fun i=>gk (rn t L m i)))=some (.inl 7))\/((∀h,m<=h->h<t.bn.l.length->¬∃i,i<t.au.toNat/\tw t L h i=-1)/\aU (fF t (gk L)) ((m:Int),Sl.mk (eO t.au.toNat fun i=>gk (rn t L m i)))=some (.inr (Sl.mk (eO t.au.toNat fun i=>gk (rn t L t.bn.l.length i))))):=by
  intro d;induction d with
  |zero=>
   intro m hm;obtain rfl:m=t.bn.l.length:=by omega
   refine .inr ⟨fun h h1 h2=>by omega,cM ?_⟩;simp only[fF];rw[decide_eq_false (by omega),cond_false]
  |succ d ih=>
   intro m hm;have hs:=hstep m (by omega);by_cases h:∃i,i<t.au.toNat/\tw t L m i=-1
   .rw [if_pos h]at hs;exact .inl ⟨m,aq _,by omega,h,cM hs⟩
   .rw [if_neg h]at hs;rcases ih (m+1) (by omega)with⟨q,q1,q2,q3,q4⟩|⟨q1,q2⟩
    .exact .inl ⟨q,by omega,q2,q3,(fu hs).trans q4⟩
    .refine .inr ⟨fun x h1 h2=>?_,(fu hs).trans q2⟩;by_cases e:x=m
     .rw [e];exact h
     .exact q1 x (by omega) h2
 unfold iK;rw[Hj hV hL hn,ad,gy,cond_false,hm0,ad];rcases hloop t.bn.l.length 0 (by omega)with⟨q,q1,q2,q3,q4⟩|⟨q1,q2⟩
 .refine .inl ⟨⟨q,q2,q3⟩,?_⟩;have q4':aU (fF t (gk L)) (0,Sl.mk (eO t.au.toNat fun i=>gk (rn t L 0 i)))=some (.inl 7):=q4;rw[q4'];rfl
 .refine .inr ⟨fun⟨x,h1,h2⟩=>q1 x (by omega) h1 h2,?_⟩;have q2':aU (fF t (gk L)) (0,Sl.mk (eO t.au.toNat fun i=>gk (rn t L 0 i)))=_:=q2;rw[q2'];rfl
end
end Go.Proofs.YtoekkpmeeclpeaaGreat.S
open Go.Ev Go
namespace Go.Proofs.YtoekkpmeeclpeaaGreat.S
def V5(t:ao)(r:Sl (Sl Int)):Prop:=(∀eO∈r.l,eO.l.length<=12)/\t.aZ.l.length<=30/\t.bn.l.length<=12/\r.l.length<=12
instance(t:ao)(r:Sl (Sl Int)):Decidable (V5 t r):=by unfold V5;infer_instance
structure l_(t:ao)(r:Sl (Sl Int)):Prop where
 D_:fB t
 len:(r.l.length:Int)=t.au
 SU:∀eO∈r.l,eO.l.length=t.bn.l.length/\∀p∈eO.l,0<=p/\p<8
instance(t:ao)(r:Sl (Sl Int)):Decidable (l_ t r):=Classical.propDecidable _
theorem Gn{s:Sl Int}(hb:s.l.length<9223372036854775808):cq s=some (decide (¬∀p∈s.l,0<=p/\p<8)):=by
 have h:=x5 (f:=cR s) s.l (fun i p=>if¬(0<=p/\p<8)then some (i:Int)else none) () hb (fun i hi=>by
  have e:((decide ((gt s.l i)<0))||(decide ((gt s.l i)>=8)))=decide (¬(0<=gt s.l i/\gt s.l i<8)):=by rw[jF];simp only[Bool.or_eq_true,decide_eq_true_eq];omega
  simp only[cR,m9 hi,cond_true,bS hi,ad,ul,e];by_cases hc:¬(0<=gt s.l i/\gt s.l i<8)
  .rw [if_pos hc,decide_eq_true hc];rfl
  .rw [if_neg hc,decide_eq_false hc];rfl) (by simp only[cR,rS,cond_false])
 simp only[cq,dc,h,ad];cases hs:lF (fun i p=>if¬(0<=p/\p<8)then some (i:Int)else none) s.l 0 with
 |none=>
  have hall:∀p∈s.l,0<=p/\p<8:=by intro p hp;obtain⟨j,hj,rfl⟩:=fU hp;have:=qj.1 hs j s.l[j] (by simp[hj]);apply Classical.byContradiction;intro hn;rw[if_pos hn]at this;simp at this
  have e:decide (¬∀p∈s.l,0<=p/\p<8)=false:=decide_eq_false fun h=>h hall;rw[e];rfl
 |some b=>
  obtain⟨j,x,h1,h2,_⟩:=m7 hs;split at h2
  .rename_i hx;obtain rfl:=ac h2;have e:decide (¬∀p∈s.l,0<=p/\p<8)=true:=decide_eq_true fun h=>hx (h x (bj h1));rw[e];simp only[ad,fh,decide_eq_true_eq];omega
  .simp at h2
theorem Hc{t:ao}{r:Sl (Sl Int)}(hb:r.l.length<9223372036854775808)(hrow:∀eO∈r.l,eO.l.length<9223372036854775808):jJ t r=some (decide (l_ t r)):=by
 unfold jJ;simp only[yl,ad];by_cases hV:fB t
 rotate_left
 .rw [decide_eq_false hV];exact congrArg some (decide_eq_false fun h=>hV h.D_).symm
 by_cases hl:(r.l.length:Int)=t.au
 rotate_left
 .have e:((r.l.length:Int) !=t.au)=true:=by simpa using hl
  rw[decide_eq_true hV,e];exact congrArg some (decide_eq_false fun h=>hl h.len).symm
 have e:((r.l.length:Int) !=t.au)=false:=by simpa using hl
 rw[decide_eq_true hV,e];simp only[gy,Bool.or_self,cond_false]
 have h:=abQ (f:=kG t r) r.l (fun eO=>decide (¬(eO.l.length=t.bn.l.length/\∀p∈eO.l,0<=p/\p<8))) hb (fun i hi=>by
  have hm:gt r.l i∈r.l:=by rw[cU hi];exact aX _
  simp only[kG,m9 hi,cond_true,bS hi,ad,Gn (hrow _ hm)];by_cases h1:(gt r.l i).l.length=t.bn.l.length
  .have e1:(((gt r.l i).l.length:Int) !=(t.bn.l.length:Int))=false:=by rw[h1];simp
   by_cases h2:∀p∈(gt r.l i).l,0<=p/\p<8
   .have e2:decide (¬∀p∈(gt r.l i).l,0<=p/\p<8)=false:=decide_eq_false fun h=>h h2;have e3:decide (¬((gt r.l i).l.length=t.bn.l.length/\∀p∈(gt r.l i).l,0<=p/\p<8))=false:=decide_eq_false fun h=>h ⟨h1,h2⟩;rw[e1,e2,e3];rfl
   .have e2:decide (¬∀p∈(gt r.l i).l,0<=p/\p<8)=true:=decide_eq_true h2;have e3:decide (¬((gt r.l i).l.length=t.bn.l.length/\∀p∈(gt r.l i).l,0<=p/\p<8))=true:=decide_eq_true fun h=>h2 h.2;rw[e1,e2,e3];rfl
  .have e1:(((gt r.l i).l.length:Int) !=(t.bn.l.length:Int))=true:=by rw[bne_iff_ne];omega
   have e3:decide (¬((gt r.l i).l.length=t.bn.l.length/\∀p∈(gt r.l i).l,0<=p/\p<8))=true:=decide_eq_true fun h=>h1 h.1;rw[e1,e3];rfl) (by simp only[kG,rS,cond_false])
 rw[h]
 have hr:(∀eO∈r.l,decide (¬(eO.l.length=t.bn.l.length/\∀p∈eO.l,0<=p/\p<8))=false)<->∀eO∈r.l,eO.l.length=t.bn.l.length/\∀p∈eO.l,0<=p/\p<8:=by
  constructor
  .intro h eO hm;have:=h eO hm;rw[decide_eq_false_iff_not]at this;exact Classical.not_not.1 this
  .intro h eO hm;exact decide_eq_false fun hn=>hn (h eO hm)
 by_cases hs:∀eO∈r.l,eO.l.length=t.bn.l.length/\∀p∈eO.l,0<=p/\p<8
 .rw [if_pos (hr.2 hs)];exact congrArg some (decide_eq_true ⟨hV,hl,hs⟩).symm
 .rw [if_neg (fun h=>hs (hr.1 h))];exact congrArg some (decide_eq_false fun h=>hs h.SU).symm
section
variable{t:ao}{r:Sl (Sl Int)}{h:Nat}
def jw(r:Sl (Sl Int))(h:Nat)(s:Nat):Int:=gt (gt r.l s).l h
def K1(t:ao)(r:Sl (Sl Int))(h:Nat)(s:Nat):Prop:=(gt t.bn.l h).At=(s:Int)/\(gt t.bn.l h).gi=jw r h s
instance{s:Nat}:Decidable (K1 t r h s):=by unfold K1;infer_instance
def AQ(t:ao)(r:Sl (Sl Int))(h:Nat)(s:Nat):Option Nat:=(lF (sN (s:Int) (jw r h s)) t.aZ.l 0).map (·.1.toNat)
theorem l_.eO(hV:l_ t r){s:Nat}(hs:s<r.l.length):(gt r.l s).l.length=t.bn.l.length:=by
 have:gt r.l s∈r.l:=by rw[cU hs];exact aX _
 exact(hV.SU _ this).1
theorem l_.Br(hV:l_ t r):r.l.length<=8:=by have:=hV.len;have:=hV.D_.sw;omega
theorem l_.zT(hV:l_ t r):t.bn.l.length<=8:=hV.D_.zT
theorem E4(hV:l_ t r)(s:Nat):(AQ t r h s=none/\C1 t s (jw r h s)=(0,0,0,false))\/
  ∃(s':Nat)(b c:Int),AQ t r h s=some s'/\s'<r.l.length/\C1 t s (jw r h s)=((s':Int),b,c,true):=by
 unfold AQ C1;cases hc:lF (sN (s:Int) (jw r h s)) t.aZ.l 0 with|none=>exact .inl ⟨rfl,rfl⟩|some q=>obtain⟨a,b,c⟩:=q;obtain⟨h1,h2⟩:=Td hV.D_ hc;have:=hV.len;refine .inr ⟨a.toNat,b,c,rfl,by omega,?_⟩;rw[Int.toNat_of_nonneg h1]
theorem TH(hV:l_ t r){s s':Nat}(hn:AQ t r h s=some s'):s'<r.l.length:=by
 rcases E4 (h:=h) hV s with⟨e,_⟩|⟨s2,_,_,e,h2,_⟩
 .rw [e]at hn;cases hn
 .rw [e]at hn;cases hn;exact h2
inductive uF(t:ao)(r:Sl (Sl Int))(h:Nat):Nat->Nat->Prop
 |Iv {s:Nat}:K1 t r h s->uF t r h s 0
 |gM {s s' k:Nat}:¬K1 t r h s->AQ t r h s=some s'->uF t r h s' k->uF t r h s (k+1)
theorem uF.xK{s a b:Nat}(ha:uF t r h s a)(hb:uF t r h s b):a=b:=by
 induction ha generalizing b with
 |Iv h1=>cases hb with|Iv _=>rfl|gM h2 _ _=>exact absurd h1 h2
 |gM h1 h2 _ ih=>cases hb with|Iv h3=>exact absurd h3 h1|gM _ h4 h5=>rw[h2]at h4;cases h4;rw[ih h5]
theorem uF.adO(hV:l_ t r){s k:Nat}(ha:uF t r h s k)(hs:s<r.l.length):∃w:List Nat,w.length=k+1/\w.Nodup/\∀x∈w,x<r.l.length/\∃j,j<=k/\uF t r h x j:=by
 induction ha with
 |@Iv s h1=>exact⟨[s],rfl,by simp,fun x hx=>by obtain rfl:=az.1 hx;exact⟨hs,0,aq _,.Iv h1⟩⟩
 |@gM s s' k h1 h2 h3 ih=>
  obtain⟨w,e1,e2,e3⟩:=ih (TH hV h2);have fe:=uF.gM h1 h2 h3;refine⟨s::w,by simp[e1],List.nodup_cons.2 ⟨fun hm=>?_,e2⟩,fun x hx=>?_⟩
  .obtain ⟨_,j,hj,hj2⟩:=e3 s hm;have:=hj2.xK fe;omega
  .rcases List.mem_cons.1 hx with rfl|hx
   .exact ⟨hs,k+1,aq _,fe⟩
   .obtain ⟨a,j,b,c⟩:=e3 x hx;exact⟨a,j,by omega,c⟩
theorem uF.lt(hV:l_ t r){s k:Nat}(ha:uF t r h s k)(hs:s<r.l.length):k<r.l.length:=by obtain⟨w,h1,h2,h3⟩:=ha.adO hV hs;have hsub:w⊆aK r.l.length:=fun x hx=>cI.2 (h3 x hx).1;have:=h2.length_le_of_subset hsub;simp at this;omega
end
end Go.Proofs.YtoekkpmeeclpeaaGreat.S
open Go.Ev Go
namespace Go.Proofs.YtoekkpmeeclpeaaGreat.S
def mr(t:ao)(r:Sl (Sl Int)):Prop:=l_ t r/\∀s,s<r.l.length->∀h,h<t.bn.l.length->∃k,uF t r h s k
section
variable{t:ao}{r:Sl (Sl Int)}{h:Nat}
def iY(t:ao)(r:Sl (Sl Int))(h s:Nat):Nat:=open Classical in if hk:∃k,uF t r h s k then Classical.choose hk else 0
theorem Uw{s k:Nat}(ha:uF t r h s k):iY t r h s=k:=by
 have hk:∃k,uF t r h s k:=⟨k,ha⟩
 unfold iY;rw[dif_pos hk];exact(Classical.choose_spec hk).xK ha
theorem mr.iY(hG:mr t r){s:Nat}(hs:s<r.l.length)(hh:h<t.bn.l.length):uF t r h s (iY t r h s):=by obtain⟨k,hk⟩:=hG.2 s hs h hh;rw[Uw hk];exact hk
theorem mr.lt(hG:mr t r){s:Nat}(hs:s<r.l.length)(hh:h<t.bn.l.length):S.iY t r h s<r.l.length:=(hG.iY hs hh).lt hG.1 hs
def wg(t:ao)(r:Sl (Sl Int))(h:Nat):List Int:=(aK r.l.length).map fun s=>(iY t r h s:Int)
theorem A5:(wg t r h).length=r.l.length:=by simp[wg]
theorem Rk{s:Nat}(hs:s<r.l.length):gt (wg t r h) s=(iY t r h s:Int):=by rw[cU (by rw[A5];exact hs)];simp[wg]
theorem KE{n:Nat}:((aK (n+1)).map fun s=>(iY t r h s:Int))=((aK n).map fun s=>(iY t r h s:Int))++[(iY t r h n:Int)]:=by rw[List.range_succ,eS];rfl
theorem Uo(hh:h<t.bn.l.length):(((!true)||(decide ((h:Int)<0)))||(decide ((h:Int)>=(t.bn.l.length:Int))))=false:=by simp only[gy,Bool.false_or,Bool.or_eq_false_iff,decide_eq_false_iff_not];omega
theorem EW(hV:l_ t r){s:Nat}(hs:s<r.l.length)(hh:h<t.bn.l.length):oD r (s:Int) (h:Int)=some (jw r h s,true):=by
 have h1:decide ((s:Int)<0)=false:=by rw[decide_eq_false_iff_not];omega
 have h2:decide ((s:Int)>=(r.l.length:Int))=false:=by rw[decide_eq_false_iff_not];omega
 have h3:decide ((h:Int)<0)=false:=by rw[decide_eq_false_iff_not];omega
 have hrl:=hV.eO hs;have h4:decide ((h:Int)>=((gt r.l s).l.length:Int))=false:=by rw[decide_eq_false_iff_not];omega
 have hhl:h<(gt r.l s).l.length:=by omega
 simp only[oD,h1,h2,h3,Bool.or_self,cond_false,bS hs,ad,h4,bS hhl,jw]
theorem M7(hV:l_ t r)(hh:h<t.bn.l.length){s:Nat}(hs:s<r.l.length):
  qn t r (s:Int) (h:Int)=some ((C1 t s (jw r h s)).1,(C1 t s (jw r h s)).2.2.2):=by
 have hlk:=hV.D_.Fa;simp only[qn,EW hV hs hh,ad,gy,cond_false,Nd _ _ (show t.aZ.l.length<9223372036854775808 by omega)]
def jt(l:List Nat):List Int:=l.map fun(x:Nat)=>(x:Int)
theorem sn(l:List Nat):(jt l).length=l.length:=by simp[jt]
theorem Dr(l:List Nat)(i:Nat):gt (jt l) i=((gt l i:Nat):Int):=by simp only[gt,jt,List.getD_eq_getElem?_getD,List.getElem?_map];cases l[i]?<;>rfl
theorem NQ{l:List Nat}{k:Nat}:(k:Int)∈jt l<->k∈l:=by simp only[jt,aL];exact⟨fun⟨y,hy,e⟩=>by rw[show k=y by omega];exact hy,fun h=>⟨k,h,rfl⟩⟩
theorem NR(l:List Nat)(k:Nat):jt l++[(k:Int)]=jt (l++[k]):=by simp[jt]
theorem uB{s:Sl Int}(x:Int)(hb:s.l.length<9223372036854775808):bJ s x=some (decide (x∈s.l)):=by
 have h:=x5 (f:=cG s x) s.l (fun i y=>if x=y then some (i:Int)else none) () hb (fun i hi=>by
  have e:(x==gt s.l i)=decide (x=gt s.l i):=by rw[jF];simp
  simp only[cG,m9 hi,cond_true,bS hi,ad,e];by_cases hc:x=gt s.l i
  .rw [if_pos hc,decide_eq_true hc];rfl
  .rw [if_neg hc,decide_eq_false hc];rfl) (by simp only[cG,rS,cond_false])
 simp only[bJ,fx,h,ad];cases hs:lF (fun i y=>if x=y then some (i:Int)else none) s.l 0 with
 |none=>
  have hn:x∉s.l:=by intro hx;obtain⟨j,hj,e⟩:=fU hx;have:=qj.1 hs j s.l[j] (by simp[hj]);rw[if_pos e.symm]at this;simp at this
  rw[decide_eq_false hn];rfl
 |some b=>
  obtain⟨j,y,h1,h2,_⟩:=m7 hs;split at h2
  .rename_i hx;obtain rfl:=ac h2;rw[decide_eq_true (by rw[hx];exact bj h1)];simp only[ad,fh,decide_eq_true_eq];omega
  .simp at h2
theorem CC{l:List Nat}{x:Nat}(hb:l.length<1000000):ir (.mk (jt (l++[x])))=some (decide (x∈l)):=by
 have main:∀s:Sl Int,s=.mk (jt (l++[x]))->ir s=some (decide (x∈l)):=by
  intro s hs;have hsl:s.l=jt (l++[x]):=by rw[hs];rfl
  have hlen:s.l.length=l.length+1:=by rw[hsl,sn];simp
  have h0:decide ((s.l.length:Int)>0)=true:=by rw[decide_eq_true_eq];omega
  have hw:wr .i64 ((s.l.length:Int)-1)=(l.length:Int):=by rw[hlen,iQ (by omega) (by omega)];omega
  have hcut:nD s.l 0 (l.length:Int)=some (jt l):=by rw[u5];refine⟨⟨Int.le_refl _,by omega,by omega⟩,?_⟩;rw[hsl];simp[jt]
  have hi:l.length<s.l.length:=by omega
  have hg:gt s.l l.length=(x:Int):=by rw[hsl,Dr,cU (by simp)];simp
  have hto:s.to (jt l)=.mk (jt l):=by rw[hs];rfl
  have hc:=uB (s:=.mk (jt l)) (x:Int) (by rw[Sl.qz,sn];omega);have hm:decide ((x:Int)∈(Sl.mk (jt l)).l)=decide (x∈l):=by rw[jF,decide_eq_true_eq,decide_eq_true_eq];exact NQ
  rw[hm]at hc;simp only[ir,h0,cond_true,hw,hcut,ad,bS hi,hto,hg,hc]
 exact main _ rfl
theorem Iu(s:Nat):decide ((gt t.bn.l h)=(⟨(s:Int),jw r h s⟩:fR))=decide (K1 t r h s):=by rw[jF,decide_eq_true_eq,decide_eq_true_eq (p:=K1 t r h s)];unfold K1;generalize gt t.bn.l h=x;obtain⟨a,b⟩:=x;exact Prod.mk.injEq ..▸Iff.rfl
theorem QX{o:List Nat}{k:Nat}:gt (o++[k]) o.length=k:=by rw[cU (by simp)];simp
theorem OO(hV:l_ t r)(hh:h<t.bn.l.length):∀(m:Nat)(l:List Nat)(x:Nat),x<r.l.length->(∀y∈l,∃j,m<j/\uF t r h y j)->uF t r h x m->l.length+m<1000->
  ∃w:List Int,aU (j_ t r (h:Int)) (.mk (jt (l++[x])))=some (.inl (0,.mk w))/\w.length=l.length+m+1:=by
 intro m;induction m with
 |zero=>
  intro l x hx hl ha hb;have hno:x∉l:=fun hm=>by obtain⟨j,h1,h2⟩:=hl x hm;have:=h2.xK ha;omega
  have htw:=CC (l:=l) (x:=x) (by omega);rw[decide_eq_false hno]at htw;have hlen:(Sl.mk (jt (l++[x]))).l.length=l.length+1:=by rw[Sl.qz,sn];simp
  have hw:wr .i64 (((Sl.mk (jt (l++[x]))).l.length:Int)-1)=(l.length:Int):=by rw[hlen,iQ (by omega) (by omega)];omega
  have hi:l.length<(Sl.mk (jt (l++[x]))).l.length:=by omega
  have hg:gt (Sl.mk (jt (l++[x]))).l l.length=(x:Int):=by rw[Sl.qz,Dr,QX]
  have hhr:h<(gt r.l x).l.length:=by rw[hV.eO hx];exact hh
  have hport:gt (gt r.l x).l h=jw r h x:=rfl;cases ha with|Iv hH=>refine⟨_,cM (by simp only[j_,htw,ad,mU,cond_true,hw,bS hi,bS hh,hg,bS hx,bS hhr,hport,Iu,decide_eq_true hH];rfl),by rw[sn];simp⟩
 |succ m ih=>
  intro l x hx hl ha hb;have hno:x∉l:=fun hm=>by obtain⟨j,h1,h2⟩:=hl x hm;have:=h2.xK ha;omega
  have htw:=CC (l:=l) (x:=x) (by omega);rw[decide_eq_false hno]at htw;have hlen:(Sl.mk (jt (l++[x]))).l.length=l.length+1:=by rw[Sl.qz,sn];simp
  have hw:wr .i64 (((Sl.mk (jt (l++[x]))).l.length:Int)-1)=(l.length:Int):=by rw[hlen,iQ (by omega) (by omega)];omega
  have hi:l.length<(Sl.mk (jt (l++[x]))).l.length:=by omega
  have hg:gt (Sl.mk (jt (l++[x]))).l l.length=(x:Int):=by rw[Sl.qz,Dr,QX]
  have hhr:h<(gt r.l x).l.length:=by rw[hV.eO hx];exact hh
  have hport:gt (gt r.l x).l h=jw r h x:=rfl;have ha0:=ha;cases ha with
  |@gM _ y _ hH hn ha'=>
   rcases E4 (h:=h) hV x with⟨e1,_⟩|⟨y',b,c,e1,hy,e2⟩
   .rw [e1]at hn;cases hn
   .rw [e1]at hn;obtain rfl:=ac hn
    obtain⟨w,h1,h2⟩:=ih (l++[x]) y' hy (fun z hz=>by
     rcases List.mem_append.1 hz with hz|hz
     .obtain ⟨j,q1,q2⟩:=hl z hz;exact⟨j,by omega,q2⟩
     .obtain rfl:=az.1 hz;exact⟨m+1,by omega,ha0⟩) ha' (by rw[aA,aP];omega)
    refine⟨w,?_,by rw[h2,aA,aP];omega⟩;rw[fu (a':=.mk (jt (l++[x]++[y'])))]
    .exact h1
    .have hcap:ic ((Sl.mk (jt (l++[x]))).l++[(y':Int)])=some (jt (l++[x]++[y'])):=by rw[Sl.qz,nm (by rw[aA,sn];simp;omega),NR]
     simp only[j_,htw,ad,mU,cond_true,hw,bS hi,bS hh,hg,bS hx,bS hhr,hport,Iu,decide_eq_false hH,cond_false,M7 hV hh hx,e2,gy,hcap]
theorem yt(hV:l_ t r):jJ t r=some true:=by have hsm:=hV.Br;rw[Hc (by omega) (fun eO hm=>by have:=(hV.SU eO hm).1;have:=hV.D_.zT;omega),decide_eq_true hV]
theorem MB(hV:l_ t r)(hh:h<t.bn.l.length){s k:Nat}(hs:s<r.l.length)(ha:uF t r h s k):∃w:List Int,ql t r (s:Int) (h:Int)=some (.mk w,0)/\w.length=k+1:=by have hk:=ha.lt hV hs;have hsm:=hV.Br;obtain⟨w,h1,h2⟩:=OO hV hh k [] s hs (fun y hy=>by simp at hy) ha (by simp;omega);have h1:aU (j_ t r (h:Int)) (.mk [(s:Int)])=_:=h1;exact⟨w,by simp only[ql,EW hV hs hh,yt hV,ad,gy,cond_false,h1],by simpa using h2⟩
theorem L3(hG:mr t r)(hh:h<t.bn.l.length)(hn:0<r.l.length):qo t r (h:Int)=some (.mk (wg t r h)):=by
 have hsm:=hG.1.Br
 have main:∀(d i:Nat),i+d=r.l.length->∀s:Sl Int,s.l=((aK i).map fun s=>(iY t r h s:Int))->(0<i\/0<d)->(0<i->s=.mk s.l)->aU (k_ t r (h:Int)) ((i:Int),s)=some (.mk (wg t r h)):=by
  intro d;induction d with
  |zero=>
   intro i hi s hs hp hmk;obtain rfl:i=r.l.length:=by omega
   rw[cM (b:=s) (by simp only[k_,rS,cond_false]),hmk (by omega),hs];rfl
  |succ d ih=>
   intro i hi s hs hp hmk;have hlt:i<r.l.length:=by omega
   have ha:=hG.iY hlt hh;have hb:=hG.lt hlt hh;obtain⟨l,h1,h2⟩:=MB hG.1 hh hlt ha;have hw:wr .i64 (((Sl.mk l).l.length:Int)-1)=(iY t r h i:Int):=by rw[Sl.qz,h2,iQ (by omega) (by omega)];omega
   have hsl:s.l.length=i:=by rw[hs];simp
   rw[fu (a':=(((i+1:Nat):Int),.mk (s.l++[(iY t r h i:Int)]))) (by simp only[k_,m9 hlt,cond_true,h1,ad,hw,nm (show(s.l++[(iY t r h i:Int)]).length<=2147483648 by rw[aA,aP];omega),yV (show i<9223372036854775807 by omega)])];exact ih (i+1) (by omega) _ (by rw[Sl.qz,hs,KE]) (.inl (by omega)) (fun _=>rfl)
 have h1:aU (k_ t r (h:Int)) (0,Sl.nil)=_:=main r.l.length 0 (by omega) .nil rfl (.inr hn) (fun h=>by omega);simp only[qo,yt hG.1,ad,Uo hh,cond_false,h1]
theorem mr.pos(hG:mr t r):0<r.l.length:=by have:=hG.1.len;have:=hG.1.D_.sw;omega
theorem Iy(hG:mr t r):oE t r=some true:=by
 have hsm:=hG.1.Br;have hho:=hG.1.zT
 have h1:=x5 (f:=lQ t r) (β:=Bool) (γ:=Unit) (aK t.bn.l.length) (fun _ _=>none) () (by simp;omega) (fun i hi=>by
  have hi:i<t.bn.l.length:=by simpa using hi
  have hno:(-1:Int)∉(Sl.mk (wg t r i)).l:=fun hm=>by obtain⟨s,_,e⟩:=aL.1 hm;omega
  have hc:=uB (s:=.mk (wg t r i)) (-1) (by rw[Sl.qz,A5];omega);rw[decide_eq_false hno]at hc;simp only[lQ,m9 hi,cond_true,L3 hG hi hG.pos,ad,hc,cond_false]) (by simp only[lQ,dD,rS,cond_false])
 have h2:lF (β:=Bool) (fun(_ _:Nat)=>none) (aK t.bn.l.length) 0=none:=qj.2 fun _ _ _=>rfl;rw[h2]at h1;simp only[oE,yt hG.1,ad,gy,cond_false,h1]
end
end Go.Proofs.YtoekkpmeeclpeaaGreat.S
open Go.Ev Go Go.Fl Go.Ways
namespace Go.Proofs.YtoekkpmeeclpeaaGreat.S
section
variable{t:ao}{L:List Nat}(hV:fB t)
theorem Aw{c:Nat->Nat}{g i:Nat}(h:wH t L c g i≠-1):∃x∈f9 t (i:Int),wH t L c g i=x.gi/\ye t L c g x.To.toNat+1=ye t L c g i/\pp (mQ t L) c i (ed L x)=true:=by unfold wH at h|-;cases hf:(f9 t (i:Int)).find? (fun x=>pp (mQ t L) c i (ed L x)&&(ye t L c g x.To.toNat+1==ye t L c g i))with|none=>rw[hf]at h;exact absurd rfl h|some x=>have h2:=List.find?_some hf;rw[aw]at h2;exact⟨x,List.mem_of_find?_eq_some hf,rfl,beq_iff_eq.1 h2.2,h2.1⟩
include hV in
theorem S9{i:Nat}{x:aD}(h:x∈f9 t (i:Int)):0<=x.gi/\x.gi<8:=by obtain⟨j,l,b,h1,h2,h3⟩:=(pA hV).1 h;have hp:=hV.gU ⟨(i:Int),x.gi⟩ (by rw[oW];exact List.mem_append_left _ (cx.2 ⟨l,bj h1,h2.zJ⟩));exact hp.2
abbrev rts(t:ao)(L:List Nat):Sl (Sl Int):=Sl.mk (eO t.au.toNat fun i=>gk (rn t L t.bn.l.length i))
theorem CQ{s h:Nat}(hs:s<t.au.toNat)(hh:h<t.bn.l.length):jw (rts t L) h s=tw t L h s:=by unfold jw;rw[lH,mK hs,vm];unfold rn;rw[Xm (by rw[dD];exact hh)];congr 1;rw[cU (by rw[dD];exact hh)];simp
include hV in
theorem PB(hno:¬X2 t L):mr t (rts t L):=by
 obtain⟨s1,s2,s3⟩:=ug hV;have hlen:(rts t L).l.length=t.au.toNat:=by rw[lH,f_]
 refine⟨⟨hV,by rw[hlen];omega,fun r hr=>?_⟩,fun s hs h hh=>?_⟩
 .rw [lH]at hr;obtain⟨i,hi,rfl⟩:=aL.1 hr;have hi:=cI.1 hi;rw[vm];refine⟨by unfold rn;simp,fun p hp=>?_⟩;obtain⟨h,hh,rfl⟩:=aL.1 hp;have hh:=cI.1 hh;have hne:tw t L h i≠-1:=fun e=>hno ⟨h,hh,i,hi,e⟩;obtain⟨p1,p2,p3,p4⟩:=Gb hV hh;unfold tw EL at hne|-;by_cases e:i=hg t h
  .rw [if_pos e];exact⟨p3,p4⟩
  .rw [if_neg e]at hne|-;obtain⟨x,x1,x2,_⟩:=Aw hne;rw[x2];exact S9 hV x1
 .rw [hlen]at hs;obtain⟨p1,p2,p3,p4⟩:=Gb hV hh;have hgn:hg t h<t.au.toNat:=by unfold hg;omega
  have hat:(gt t.bn.l h).At=((hg t h:Nat):Int):=by unfold hg;omega
  have key:∀(m s:Nat),s<t.au.toNat->ye t L (cB t L (hg t h)) (hg t h) s+1=(m:Int)->∃k,uF t (rts t L) h s k:=by
   intro m;induction m with
   |zero=>
    intro s hs hm;by_cases e:s=hg t h
    .exact ⟨0,.Iv ⟨by rw[hat,e],by rw[CQ hs hh];unfold tw EL;rw[if_pos e]⟩⟩
    .exfalso;have hne:tw t L h s≠-1:=fun q=>hno ⟨h,hh,s,hs,q⟩;unfold tw EL at hne;rw[if_neg e]at hne;obtain⟨x,x1,x2,x3,_⟩:=Aw hne;have:=(vJ (E:=mQ t L) (c:=cB t L (hg t h)) (g:=hg t h) (t.au.toNat-1) x.To.toNat).1;unfold ye at x3 hm;omega
   |succ m ih=>
    intro s hs hm;by_cases e:s=hg t h
    .exact ⟨0,.Iv ⟨by rw[hat,e],by rw[CQ hs hh];unfold tw EL;rw[if_pos e]⟩⟩
    .have hne:tw t L h s≠-1:=fun q=>hno ⟨h,hh,s,hs,q⟩;have htr:tw t L h s=wH t L (cB t L (hg t h)) (hg t h) s:=by unfold tw EL;rw[if_neg e]
     rw[htr]at hne;obtain⟨x,x1,x2,x3,_⟩:=Aw hne;obtain⟨k1,k2,k3,k4,k5⟩:=rQ hV x1;obtain⟨k,hk⟩:=ih x.To.toNat (by omega) (by omega);refine⟨k+1,.gM (fun q=>e ?_) ?_ hk⟩
     .have:=q.1;rw[hat]at this;omega
     .obtain ⟨j,l,b,h1,h2,h3⟩:=(pA hV).1 x1;unfold AQ;rw[CQ hs hh,htr,x2,(C0 hV).2 ⟨j,l,h1,h2,h3⟩];rfl
  have hr:=(vJ (E:=mQ t L) (c:=cB t L (hg t h)) (g:=hg t h) (t.au.toNat-1) s).1;exact key (ye t L (cB t L (hg t h)) (hg t h) s+1).toNat s hs (by unfold ye;omega)
end
end Go.Proofs.YtoekkpmeeclpeaaGreat.S
