/- ShortTells: costs, steps, trees and routes are the reference's. Conditions: words of 64 bits. -/
import Derived.Test.YtoekkpmeeclpeaaGreatSG
open Bool renaming not_true->gW,true_and->eO
open List renaming ext_getElem->gQ,length->iN,length_append->ap,length_range->cM,length_replicate->aY,map_append->fU,mem_map->br,mem_range->eG,range->bm,range_succ->mP,replicate->aj
open Nat renaming le_refl->am
open Option renaming bind_some->ae
open Go.Ev Go Go.Fl Go.Ways
namespace Go.Proofs.YtoekkpmeeclpeaaGreat.S
def cB(t:ai)(L:List Nat)(g:Nat):Nat->Nat:=B (hO t L) g t.ah.toNat
theorem JG(t:ai)(L:List Nat)(g i:Nat):cB t L g i<=oh:=Vw _ _
def hg(t:ai)(h:Nat):Nat:=(gt t.bc.l h).At.toNat
def qv(t:ai)(L:List Nat)(h:Nat):Nat->Int:=Q9 t L (cB t L (hg t h)) (hg t h) (gt t.bc.l h).fB
section
variable{t:ai}{L:List Nat}(hV:gi t)(hL:L.length=t.aE.l.length)(hn:∀x∈L,nn x)
include hV hL hn in
theorem QD{g:Nat}(hg:g<t.ah.toNat):lj t (dM L) (g:Int)=some (Sl.mk (bv t.ah.toNat (cB t L g))):=by obtain⟨cl,dQ,h1,h2⟩:=H8 hV hL hn hg;rw[h1,fY fun i hi=>(h2.qU (w8 hV L)).1 i hi];rfl
include hV hL hn in
theorem MX:KE t L=true:=by unfold KE;rw[decide_eq_true hV,eO,hL,beq_self_eq_true,eO];exact List.all_eq_true.2 fun x hx=>sN.2 (hn x hx)
include hV hL hn in
theorem EG:lf t (dM L)=some true:=by have hok:=MX hV hL hn;have hr:=xM (t:=t) (L:=L) (fun x hx=>vR (hn x hx)) (by have:=hV.wS;omega);rwa[(Hw hok).2.2.2,hok]at hr
include hV hL hn in
theorem L3{h:Nat}(hh:h<t.bc.l.length):sn t (dM L) (h:Int)=some (Sl.mk (bv t.ah.toNat (qv t L h)),0):=by
 obtain⟨s1,s2,s3⟩:=mU hV;obtain⟨p1,p2,p3,p4⟩:=Jp hV hh;have hgn:hg t h<t.ah.toNat:=by unfold hg;omega
 have hat:(gt t.bc.l h).At=((hg t h:Nat):Int):=by unfold hg;omega
 have hcs:=QD hV hL hn hgn;have dR:=GM hV hL hn hgn (fun i _=>JG t L (hg t h) i) hcs;have hrep:=z_ (x:=-1) s2 s3;rw[<-s1]at hrep;unfold sn;rw[EG hV hL hn,ae,gW,cond_false];have hguard:((decide ((h:Int)<0))||(decide ((h:Int)>=(((ai.bc t).l).length:Int))))=false:=by rw[decide_eq_false (show¬(h:Int)<0 by omega),decide_eq_false (by omega)];rfl
 have hloop:=Bs (f:=mo t (dM L) (Sl.mk (bv t.ah.toNat (cB t L (hg t h)))) (Sl.mk (bv t.ah.toNat (rA t L (cB t L (hg t h)) (hg t h)))) (Sl.mk (aj t.ah.toNat (-1)))) (fun i:Nat=>((i:Int),Sl.mk (bv t.ah.toNat fun j=>if j<i then wm t L (cB t L (hg t h)) (hg t h) j else-1))) t.ah.toNat (b:=Sl.mk (bv t.ah.toNat (wm t L (cB t L (hg t h)) (hg t h)))) (fun i hi=>by
  obtain⟨s,q1,q2⟩:=BR hV hL hn (fun i _=>JG t L (hg t h) i) hi;simp only[mo];rw[ii,aY,decide_eq_true (by omega),cond_true,q1,ae,L4 hV hi q2 (by rw[cJ]) (by rw[gM hi,if_neg (by omega)]),ae,mK hi,vn (by omega)];congr 4;refine fY fun j hj=>?_;by_cases e:j=i
  .rw [if_pos e,if_pos (by omega),e]
  .rw [if_neg e];by_cases e2:j<i
   .rw [if_pos e2,if_pos (by omega)]
   .rw [if_neg e2,if_neg (by omega)]) (by
  simp only[mo];rw[ii,aY,decide_eq_false (by omega),cond_false];congr 2;exact congrArg Sl.mk (fY fun j hj=>if_pos hj))
 have e0:(bv t.ah.toNat fun j=>if j<0 then wm t L (cB t L (hg t h)) (hg t h) j else-1)=aj t.ah.toNat (-1):=gQ (by simp[bv]) fun j h1 h2=>by simp[bv]
 have hloop2:aP (mo t (dM L) (Sl.mk (bv t.ah.toNat (cB t L (hg t h)))) (Sl.mk (bv t.ah.toNat (rA t L (cB t L (hg t h)) (hg t h)))) (Sl.mk (aj t.ah.toNat (-1)))) (0,Sl.mk (aj t.ah.toNat (-1)))=some (Sl.mk (bv t.ah.toNat (wm t L (cB t L (hg t h)) (hg t h)))):=by rw[<-e0]at hloop|-;exact hloop
 rw[hguard,cond_false,og hh,ae,hat,hcs,ae,dR,ae,hrep,ae,hloop2,ae,ae,ii,og (by rw[cJ];exact hgn),ae,mK hgn];rfl
variable{b:Sl Int}(hb:b.l=dV L)(h12:t.bc.l.length<=12)
include hV hL hn hb h12 in
theorem BZ:lw t b=some true:=by have hlk:=hV.wS;have hr:=vO (t:=t) hb (by omega) (by omega) h12;rwa[MX hV hL hn]at hr
include hV hL hn hb h12 in
theorem BO{h:Nat}(hh:h<t.bc.l.length):sG t b (h:Int)=some (Sl.mk (bv t.ah.toNat (qv t L h)),0):=by
 obtain⟨s1,s2,s3⟩:=mU hV;obtain⟨p1,p2,p3,p4⟩:=Jp hV hh;have hgn:hg t h<t.ah.toNat:=by unfold hg;omega
 have hat:(gt t.bc.l h).At=((hg t h:Nat):Int):=by unfold hg;omega
 have hcs:=F9 hV hL hn hb h12 hgn;have dR:=Ek hV hL hn (fun i _=>JG t L (hg t h) i) hb h12 hgn hcs;unfold sG;rw[BZ hV hL hn hb h12,ae,gW,cond_false];have hguard:((decide ((h:Int)<0))||(decide ((h:Int)>=(((ai.bc t).l).length:Int))))=false:=by rw[decide_eq_false (show¬(h:Int)<0 by omega),decide_eq_false (by omega)];rfl
 have hloop:=Bx (f:=oM t b (h:Int) h (Sl.mk (dV (bv t.ah.toNat (cB t L (hg t h))))) (Sl.mk (bv t.ah.toNat (rA t L (cB t L (hg t h)) (hg t h))))) (bm t.ah.toNat) (qv t L h) (fun i s hi hs=>by
  rw[cM]at hi;obtain⟨r,r1,r2⟩:=xV hV (i:Int);have hgr:gt (bm t.ah.toNat) i=i:=by rw[ju (by rw[cM];exact hi)];simp
  have htr:=JX hV hL hn (fun i _=>JG t L (hg t h) i) hb (g:=hg t h) hi r2;simp only[oM];rw[decide_eq_true (show(i:Int)<t.ah by omega),cond_true,r1,ae,htr,ae,hat,og hh,BG]
  have e1:(bif i==hg t h then(some h).bind (fun n24=>some (eX.fB (gt t.bc.l n24)))else some (wm t L (cB t L (hg t h)) (hg t h) i):Option Int)=some (qv t L h i):=by
   unfold qv Q9;by_cases e:i=hg t h
   .rw [beq_iff_eq.2 e,if_pos e];rfl
   .rw [beq_eq_false_iff_ne.2 e,if_neg e];rfl
  rw[e1,ae,iP.2 ⟨rfl,by rw[ap];simp;omega⟩,ae,vn (by omega),hgr]) (fun s=>by
  simp only[oM,cM];rw[decide_eq_false (show¬((t.ah.toNat:Nat):Int)<t.ah by omega),cond_false])
 have hcs':lF t b ((hg t h:Nat):Int)=some (Sl.mk (dV (bv t.ah.toNat (cB t L (hg t h))))):=hcs;rw[hguard,cond_false,og hh,ae,hat,hcs',ae,dR,ae,hloop,ae,pG (by intro h;have:=congrArg iN h;simp at this;omega)]
def j_(t:ai)(L:List Nat)(m i:Nat):List Int:=(bm m).map fun h=>qv t L h i
theorem C3(m i:Nat):j_ t L (m+1) i=j_ t L m i++[qv t L m i]:=by unfold j_;rw[mP,fU];rfl
include hV h12 in
theorem Ia{m:Nat}(hm:m<t.bc.l.length){p:Sl Int}(hp:p=Sl.mk (bv t.ah.toNat (qv t L m))):
  aP (kD p) (0,Sl.mk (bv t.ah.toNat fun i=>dM (j_ t L m i)))=some (Sl.mk (bv t.ah.toNat fun i=>dM (j_ t L (m+1) i))):=by
 obtain⟨s1,s2,s3⟩:=mU hV;subst hp
 have:=Bs (f:=kD (Sl.mk (bv t.ah.toNat (qv t L m)))) (fun k:Nat=>((k:Int),Sl.mk (bv t.ah.toNat fun i=>if i<k then dM (j_ t L (m+1) i)else dM (j_ t L m i)))) t.ah.toNat (b:=Sl.mk (bv t.ah.toNat fun i=>dM (j_ t L (m+1) i))) (fun k hk=>by
  simp only[kD];rw[ii,cJ,decide_eq_true (by omega),cond_true,og hk,ae,ii,og (by rw[cJ];exact hk),ae,gM hk,if_neg (by omega),rn,gM hk,iP.2 ⟨rfl,by rw[ap];unfold j_;simp;omega⟩,ae,ae];have hb1:Nat.beq k k=true:=Nat.beq_refl k;rw[hb1,cond_true,mK hk,vn (by omega)];congr 4;refine fY fun j hj=>?_;by_cases e:j=k
  .rw [if_pos e,if_pos (by omega),e,<-C3,pG (by rw[C3];simp)]
  .rw [if_neg e];by_cases e2:j<k
   .rw [if_pos e2,if_pos (by omega)]
   .rw [if_neg e2,if_neg (by omega)]) (by
  simp only[kD];rw[ii,cJ,decide_eq_false (by omega),cond_false];congr 2;exact congrArg Sl.mk (fY fun j hj=>if_pos hj))
 have e0:(bv t.ah.toNat fun i=>if i<0 then dM (j_ t L (m+1) i)else dM (j_ t L m i))=bv t.ah.toNat fun i=>dM (j_ t L m i):=fY fun j _=>if_neg (by omega);rw[e0]at this;exact this
def Q4(t:ai)(L:List Nat):Prop:=∃h,h<t.bc.l.length/\∃i,i<t.ah.toNat/\qv t L h i=-1
theorem FK{n:Nat}{f:Nat->Int}:(bv n f).any (fun x=>(-1:Int)==x)=true<->∃i,i<n/\f i=-1:=by
 rw[List.any_eq_true];constructor
 .rintro ⟨x,hx,h⟩;obtain⟨i,hi,rfl⟩:=br.1 hx;exact⟨i,eG.1 hi,(beq_iff_eq.1 h).symm⟩
 .rintro ⟨i,hi,h⟩;exact⟨_,br.2 ⟨i,eG.2 hi,rfl⟩,by rw[h];rfl⟩
include hV hL hn h12 in
theorem G6:(Q4 t L/\kj t (dM L)=some (Sl.nil,7))\/(¬Q4 t L/\kj t (dM L)=some (Sl.mk (bv t.ah.toNat fun i=>dM (j_ t L t.bc.l.length i)),0)):=by
 obtain⟨s1,s2,s3⟩:=mU hV
 have hstep:∀m,m<t.bc.l.length->gE t (dM L) ((m:Int),Sl.mk (bv t.ah.toNat fun i=>dM (j_ t L m i)))=some (if∃i,i<t.ah.toNat/\qv t L m i=-1 then .inr (.inl 7)else .inl (((m+1:Nat):Int),Sl.mk (bv t.ah.toNat fun i=>dM (j_ t L (m+1) i)))):=by
  intro m hm;simp only[gE];rw[decide_eq_true (by omega),cond_true,L3 hV hL hn hm,ae];simp only[];rw[pQ (by rw[ii,cJ];omega),ae,ii];by_cases h:∃i,i<t.ah.toNat/\qv t L m i=-1
  .rw [FK.2 h,cond_true,if_pos h]
  .have:(bv t.ah.toNat (qv t L m)).any (fun x=>(-1:Int)==x)=false:=by rw[Bool.eq_false_iff];exact fun q=>h (FK.1 q)
   rw[this,cond_false,Ia hV h12 hm rfl,ae,vn (by omega),if_neg h]
 have hm0:D2 (Sl.nil:Sl Int) t.ah t.ah=some (bv t.ah.toNat fun i=>dM (j_ t L 0 i)):=by unfold D2;rw[if_pos (by omega)];congr 1;exact gQ (by simp[bv]) fun j h1 h2=>by simp[bv,j_,dM]
 have hloop:∀(d m:Nat),m+d=t.bc.l.length->(∃h,m<=h/\h<t.bc.l.length/\(∃i,i<t.ah.toNat/\qv t L h i=-1)/\aP (gE t (dM L)) ((m:Int),Sl.mk (bv t.ah.toNat fun i=>dM (j_ t L m i)))=some (.inl 7))\/((∀h,m<=h->h<t.bc.l.length->¬∃i,i<t.ah.toNat/\qv t L h i=-1)/\aP (gE t (dM L)) ((m:Int),Sl.mk (bv t.ah.toNat fun i=>dM (j_ t L m i)))=some (.inr (Sl.mk (bv t.ah.toNat fun i=>dM (j_ t L t.bc.l.length i))))):=by
  intro d;induction d with
  |zero=>
   intro m hm;obtain rfl:m=t.bc.l.length:=by omega
   refine .inr ⟨fun h h1 h2=>by omega,bt ?_⟩;simp only[gE];rw[decide_eq_false (by omega),cond_false]
  |succ d ih=>
   intro m hm;have hs:=hstep m (by omega);by_cases h:∃i,i<t.ah.toNat/\qv t L m i=-1
   .rw [if_pos h]at hs;exact .inl ⟨m,am _,by omega,h,bt hs⟩
   .rw [if_neg h]at hs;rcases ih (m+1) (by omega)with⟨q,q1,q2,q3,q4⟩|⟨q1,q2⟩
    .exact .inl ⟨q,by omega,q2,q3,(bX hs).trans q4⟩
    .refine .inr ⟨fun x h1 h2=>?_,(bX hs).trans q2⟩;by_cases e:x=m
     .rw [e];exact h
     .exact q1 x (by omega) h2
 unfold kj;rw[EG hV hL hn,ae,gW,cond_false,hm0,ae];rcases hloop t.bc.l.length 0 (by omega)with⟨q,q1,q2,q3,q4⟩|⟨q1,q2⟩
 .refine .inl ⟨⟨q,q2,q3⟩,?_⟩;have q4':aP (gE t (dM L)) (0,Sl.mk (bv t.ah.toNat fun i=>dM (j_ t L 0 i)))=some (.inl 7):=q4;rw[q4'];rfl
 .refine .inr ⟨fun⟨x,h1,h2⟩=>q1 x (by omega) h1 h2,?_⟩;have q2':aP (gE t (dM L)) (0,Sl.mk (bv t.ah.toNat fun i=>dM (j_ t L 0 i)))=_:=q2;rw[q2'];rfl
include hV hL hn hb h12 in
theorem EE:(Q4 t L->ko t b=some (Sl.nil,7))/\(¬Q4 t L->ko t b=some (Sl.mk (bv t.ah.toNat fun i=>dM (j_ t L t.bc.l.length i)),0)):=by
 obtain⟨s1,s2,s3⟩:=mU hV;have hrl:∀{f:Nat->Int},(bv t.ah.toNat f).length=t.ah.toNat:=cJ _ _
 -- one switch
 have hin:∀i,i<t.ah.toNat->(∀(d m:Nat),m+d=t.bc.l.length->((∃h,m<=h/\h<t.bc.l.length/\qv t L h i=-1)->aP (fT t b (i:Int)) ((m:Int),dM (j_ t L m i))=some (.inl 7))/\((∀h,m<=h->h<t.bc.l.length->qv t L h i≠-1)->aP (fT t b (i:Int)) ((m:Int),dM (j_ t L m i))=some (.inr (dM (j_ t L t.bc.l.length i))))):=by
  intro i hi d;induction d with
  |zero=>
   intro m hm;obtain rfl:m=t.bc.l.length:=by omega
   refine⟨fun⟨h,h1,h2,_⟩=>by omega,fun _=>bt ?_⟩;simp only[fT];rw[decide_eq_false (by omega),cond_false]
  |succ d ih=>
   intro m hm;have hmm:m<t.bc.l.length:=by omega
   obtain⟨ih1,ih2⟩:=ih (m+1) (by omega);by_cases h:qv t L m i=-1
   .refine ⟨fun _=>bt ?_,fun q=>absurd h (q m (am _) hmm)⟩;simp only[fT];rw[decide_eq_true (by omega),cond_true,BO hV hL hn hb h12 hmm,ae];simp only[];rw[ii,og (by rw[hrl];exact hi),ae,gM hi,h];rfl
   .have hs:fT t b (i:Int) ((m:Int),dM (j_ t L m i))=some (.inl (((m+1:Nat):Int),dM (j_ t L (m+1) i))):=by simp only[fT];rw[decide_eq_true (by omega),cond_true,BO hV hL hn hb h12 hmm,ae];simp only[];rw[ii,og (by rw[hrl];exact hi),ae,gM hi,beq_eq_false_iff_ne.2 h,cond_false,ae,gM hi,rn,<-C3,iP.2 ⟨rfl,by unfold j_;simp;omega⟩,ae,vn (by omega),pG (by rw[C3];simp)]
    refine⟨fun⟨x,h1,h2,h3⟩=>(bX hs).trans (ih1 ⟨x,?_,h2,h3⟩),fun q=>(bX hs).trans (ih2 fun x h1 h2=>q x (by omega) h2)⟩;rcases Nat.eq_or_lt_of_le h1 with e|e
    .subst e;exact absurd h3 h
    .exact e
 have hout:∀(d k:Nat),k+d=t.ah.toNat->((∃i,k<=i/\i<t.ah.toNat/\∃h,h<t.bc.l.length/\qv t L h i=-1)->aP (fS t b) ((k:Int),dM (bv k fun i=>dM (j_ t L t.bc.l.length i)))=some (.inl 7))/\((∀i,k<=i->i<t.ah.toNat->∀h,h<t.bc.l.length->qv t L h i≠-1)->aP (fS t b) ((k:Int),dM (bv k fun i=>dM (j_ t L t.bc.l.length i)))=some (.inr (dM (bv t.ah.toNat fun i=>dM (j_ t L t.bc.l.length i))))):=by
  intro d;induction d with
  |zero=>
   intro k hk;obtain rfl:k=t.ah.toNat:=by omega
   refine⟨fun⟨i,h1,h2,_⟩=>by omega,fun _=>bt ?_⟩;simp only[fS];rw[decide_eq_false (show¬((t.ah.toNat:Nat):Int)<t.ah by omega),cond_false]
  |succ d ih=>
   intro k hk;have hkk:k<t.ah.toNat:=by omega
   obtain⟨ih1,ih2⟩:=ih (k+1) (by omega);obtain⟨h1,h2⟩:=hin k hkk t.bc.l.length 0 (by omega);by_cases h:∃h,h<t.bc.l.length/\qv t L h k=-1
   .obtain ⟨x,hx1,hx2⟩:=h;have h1':aP (fT t b (k:Int)) (0,Sl.nil)=some (.inl 7):=h1 ⟨x,by omega,hx1,hx2⟩;refine⟨fun _=>bt ?_,fun q=>absurd hx2 (q k (am _) hkk x hx1)⟩;simp only[fS];rw[decide_eq_true (show(k:Int)<t.ah by omega),cond_true,h1'];rfl
   .have h2':aP (fT t b (k:Int)) (0,Sl.nil)=some (.inr (dM (j_ t L t.bc.l.length k))):=h2 fun x _ hx hx2=>h ⟨x,hx,hx2⟩
    have hs:fS t b ((k:Int),dM (bv k fun i=>dM (j_ t L t.bc.l.length i)))=some (.inl (((k+1:Nat):Int),dM (bv (k+1) fun i=>dM (j_ t L t.bc.l.length i)))):=by
     simp only[fS];rw[decide_eq_true (show(k:Int)<t.ah by omega),cond_true,h2',ae];simp only[];have e:(bv (k+1) fun i=>dM (j_ t L t.bc.l.length i))=(bv k fun i=>dM (j_ t L t.bc.l.length i))++[dM (j_ t L t.bc.l.length k)]:=by unfold bv;rw[mP,fU];rfl
     rw[rn,<-e,iP.2 ⟨rfl,by rw[cJ];omega⟩,ae,vn (by omega),pG (by rw[e];simp)]
    refine⟨fun⟨i,h3,h4,h5⟩=>(bX hs).trans (ih1 ⟨i,?_,h4,h5⟩),fun q=>(bX hs).trans (ih2 fun i h3 h4=>q i (by omega) h4)⟩;rcases Nat.eq_or_lt_of_le h3 with e|e
    .subst e;exact absurd h5 h
    .exact e
 obtain⟨o1,o2⟩:=hout t.ah.toNat 0 (by omega);unfold ko;rw[BZ hV hL hn hb h12,ae,gW,cond_false];constructor
 .rintro ⟨h,h1,i,h2,h3⟩;have o1':aP (fS t b) (0,Sl.nil)=some (.inl 7):=o1 ⟨i,by omega,h2,h,h1,h3⟩;rw[o1'];rfl
 .intro q;have o2':aP (fS t b) (0,Sl.nil)=some (.inr (dM (bv t.ah.toNat fun i=>dM (j_ t L t.bc.l.length i)))):=o2 fun i _ hi h hh e=>q ⟨h,hh,i,hi,e⟩;rw[o2',ae];simp only[];rw[pG (by intro h;have:=congrArg iN h;rw[cJ]at this;simp at this;omega)]
end
end Go.Proofs.YtoekkpmeeclpeaaGreat.S
