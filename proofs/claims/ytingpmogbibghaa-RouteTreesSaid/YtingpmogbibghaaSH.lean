/- ShortTells: costs, steps, trees and routes are the reference's. Conditions: words of 64 bits. -/
import Derived.Test.YtingpmogbibghaaSG
import Derived.Test.YtingpmogbibghaaS
import Derived.Test.YtingpmogbibghaaTwin
open Bool renaming not_true->ir,true_and->dE
open List renaming ext_getElem->jw,length_replicate->a_,mem_map->bv,mem_range->eF,replicate->ak
open Option renaming bind_some->ae
open Go.Ev Go Go.Fl Go.Ways
namespace Go.Proofs.Ytingpmogbibghaa.S
def cB(t:aj)(L:List Nat)(g:Nat):Nat->Nat:=B (iF t L) g t.ah.toNat
theorem yr(t:aj)(L:List Nat)(g i:Nat):cB t L g i<=oK:=TE _ _
def hg(t:aj)(h:Nat):Nat:=(gt t.bg.l h).At.toNat
def qQ(t:aj)(L:List Nat)(h:Nat):Nat->Int:=PP t L (cB t L (hg t h)) (hg t h) (gt t.bg.l h).f_
section
variable{t:aj}{L:List Nat}(hV:lF t)(hL:L.length=t.aP.l.length)(hn:∀x∈L,nn x)
include hV hL hn in
theorem IY{g:Nat}(hg:g<t.ah.toNat):gD t (dW L) (g:Int)=some (Sl.mk (bw t.ah.toNat (cB t L g))):=by obtain⟨cl,ez,h1,h2⟩:=Hu hV hL hn hg;rw[h1,gE fun i hi=>(h2.rO (wJ hV L)).1 i hi];rfl
include hV hL hn in
theorem LS:EO t L=true:=by unfold EO;rw[decide_eq_true hV,dE,hL,beq_self_eq_true,dE];exact List.all_eq_true.2 fun x hx=>tf.2 (hn x hx)
include hV hL hn in
theorem Ec:j_ t (dW L)=some true:=by have hok:=LS hV hL hn;have hr:=rY (t:=t) (L:=L) (fun x hx=>uU (hn x hx)) (by have:=hV.yi;omega);rwa[(zZ hok).2.2.2,hok]at hr
include hV hL hn in
theorem DS{h:Nat}(hh:h<t.bg.l.length):kp t (dW L) (h:Int)=some (Sl.mk (bw t.ah.toNat (qQ t L h)),0):=by
 obtain⟨s1,s2,s3⟩:=l_ hV;obtain⟨p1,p2,p3,p4⟩:=IJ hV hh;have hgn:hg t h<t.ah.toNat:=by unfold hg;omega
 have hat:(gt t.bg.l h).At=((hg t h:Nat):Int):=by unfold hg;omega
 have hcs:=IY hV hL hn hgn;have eE:=zu hV hL hn hgn (fun i _=>yr t L (hg t h) i) hcs;have hrep:=Eg (x:=-1) s2 s3;rw[<-s1]at hrep;unfold kp;rw[Ec hV hL hn,ae,ir,cond_false];have hguard:((decide ((h:Int)<0))||(decide ((h:Int)>=(((aj.bg t).l).length:Int))))=false:=by rw[decide_eq_false (show¬(h:Int)<0 by omega),decide_eq_false (by omega)];rfl
 have hloop:=Bc (f:=ko t (dW L) (Sl.mk (bw t.ah.toNat (cB t L (hg t h)))) (Sl.mk (bw t.ah.toNat (rT t L (cB t L (hg t h)) (hg t h)))) (Sl.mk (ak t.ah.toNat (-1)))) (fun i:Nat=>((i:Int),Sl.mk (bw t.ah.toNat fun j=>if j<i then vU t L (cB t L (hg t h)) (hg t h) j else-1))) t.ah.toNat (b:=Sl.mk (bw t.ah.toNat (vU t L (cB t L (hg t h)) (hg t h)))) (fun i hi=>by
  obtain⟨s,q1,q2⟩:=BA hV hL hn (fun i _=>yr t L (hg t h) i) hi;simp only[ko];rw[h_,a_,decide_eq_true (by omega),cond_true,q1,ae,K5 hV hi q2 (by rw[cu]) (by rw[g_ hi,if_neg (by omega)]),ae,ng hi,u4 (by omega)];congr 4;refine gE fun j hj=>?_;by_cases e:j=i
  .rw [if_pos e,if_pos (by omega),e]
  .rw [if_neg e];by_cases e2:j<i
   .rw [if_pos e2,if_pos (by omega)]
   .rw [if_neg e2,if_neg (by omega)]) (by
  simp only[ko];rw[h_,a_,decide_eq_false (by omega),cond_false];congr 2;exact congrArg Sl.mk (gE fun j hj=>if_pos hj))
 have e0:(bw t.ah.toNat fun j=>if j<0 then vU t L (cB t L (hg t h)) (hg t h) j else-1)=ak t.ah.toNat (-1):=jw (by simp[bw]) fun j h1 h2=>by simp[bw]
 have hloop2:aY (ko t (dW L) (Sl.mk (bw t.ah.toNat (cB t L (hg t h)))) (Sl.mk (bw t.ah.toNat (rT t L (cB t L (hg t h)) (hg t h)))) (Sl.mk (ak t.ah.toNat (-1)))) (0,Sl.mk (ak t.ah.toNat (-1)))=some (Sl.mk (bw t.ah.toNat (vU t L (cB t L (hg t h)) (hg t h)))):=by rw[<-e0]at hloop|-;exact hloop
 rw[hguard,cond_false,nV hh,ae,hat,hcs,ae,eE,ae,hrep,ae,hloop2,ae,ae,h_,nV (by rw[cu];exact hgn),ae,ng hgn];rfl
variable{b:Sl Int}(hb:b.l=eh L)(h12:t.bg.l.length<=12)
def lc(t:aj)(L:List Nat)(m i:Nat):List Int:=(List.range m).map fun h=>qQ t L h i
theorem CK(m i:Nat):lc t L (m+1) i=lc t L m i++[qQ t L m i]:=by unfold lc;rw[List.range_succ,List.map_append];rfl
include hV h12 in
theorem Hx{m:Nat}(hm:m<t.bg.l.length){p:Sl Int}(hp:p=Sl.mk (bw t.ah.toNat (qQ t L m))):
  aY (jZ p) (0,Sl.mk (bw t.ah.toNat fun i=>dW (lc t L m i)))=some (Sl.mk (bw t.ah.toNat fun i=>dW (lc t L (m+1) i))):=by
 obtain⟨s1,s2,s3⟩:=l_ hV;subst hp
 have:=Bc (f:=jZ (Sl.mk (bw t.ah.toNat (qQ t L m)))) (fun k:Nat=>((k:Int),Sl.mk (bw t.ah.toNat fun i=>if i<k then dW (lc t L (m+1) i)else dW (lc t L m i)))) t.ah.toNat (b:=Sl.mk (bw t.ah.toNat fun i=>dW (lc t L (m+1) i))) (fun k hk=>by
  simp only[jZ];rw[h_,cu,decide_eq_true (by omega),cond_true,nV hk,ae,h_,nV (by rw[cu];exact hk),ae,g_ hk,if_neg (by omega),rF,g_ hk,iM.2 ⟨rfl,by rw[List.length_append];unfold lc;simp;omega⟩,ae,ae];have hb1:Nat.beq k k=true:=Nat.beq_refl k;rw[hb1,cond_true,ng hk,u4 (by omega)];congr 4;refine gE fun j hj=>?_;by_cases e:j=k
  .rw [if_pos e,if_pos (by omega),e,<-CK,o9 (by rw[CK];simp)]
  .rw [if_neg e];by_cases e2:j<k
   .rw [if_pos e2,if_pos (by omega)]
   .rw [if_neg e2,if_neg (by omega)]) (by
  simp only[jZ];rw[h_,cu,decide_eq_false (by omega),cond_false];congr 2;exact congrArg Sl.mk (gE fun j hj=>if_pos hj))
 have e0:(bw t.ah.toNat fun i=>if i<0 then dW (lc t L (m+1) i)else dW (lc t L m i))=bw t.ah.toNat fun i=>dW (lc t L m i):=gE fun j _=>if_neg (by omega);rw[e0]at this;exact this
def PK(t:aj)(L:List Nat):Prop:=∃h,h<t.bg.l.length/\∃i,i<t.ah.toNat/\qQ t L h i=-1
theorem Fj{n:Nat}{f:Nat->Int}:(bw n f).any (fun x=>(-1:Int)==x)=true<->∃i,i<n/\f i=-1:=by
 rw[List.any_eq_true];constructor
 .rintro ⟨x,hx,h⟩;obtain⟨i,hi,rfl⟩:=bv.1 hx;exact⟨i,eF.1 hi,(beq_iff_eq.1 h).symm⟩
 .rintro ⟨i,hi,h⟩;exact⟨_,bv.2 ⟨i,eF.2 hi,rfl⟩,by rw[h];rfl⟩
include hV hL hn h12 in
theorem Gy:(PK t L/\ip t (dW L)=some (Sl.nil,7))\/(¬PK t L/\ip t (dW L)=some (Sl.mk (bw t.ah.toNat fun i=>dW (lc t L t.bg.l.length i)),0)):=by
 obtain⟨s1,s2,s3⟩:=l_ hV
 have hstep:∀m,m<t.bg.l.length->fS t (dW L) ((m:Int),Sl.mk (bw t.ah.toNat fun i=>dW (lc t L m i)))=some (if∃i,i<t.ah.toNat/\qQ t L m i=-1 then .inr (.inl 7)else .inl (((m+1:Nat):Int),Sl.mk (bw t.ah.toNat fun i=>dW (lc t L (m+1) i)))):=by
  intro m hm;simp only[fS];rw[decide_eq_true (by omega),cond_true,DS hV hL hn hm,ae];simp only[];rw[qf (by rw[h_,cu];omega),ae,h_];by_cases h:∃i,i<t.ah.toNat/\qQ t L m i=-1
  .rw [Fj.2 h,cond_true,if_pos h]
  .have:(bw t.ah.toNat (qQ t L m)).any (fun x=>(-1:Int)==x)=false:=by rw[Bool.eq_false_iff];exact fun q=>h (Fj.1 q)
   rw[this,cond_false,Hx hV h12 hm rfl,ae,u4 (by omega),if_neg h]
 have hm0:A0 (Sl.nil:Sl Int) t.ah t.ah=some (bw t.ah.toNat fun i=>dW (lc t L 0 i)):=by unfold A0;rw[if_pos (by omega)];congr 1;exact jw (by simp[bw]) fun j h1 h2=>by simp[bw,lc,dW]
 have hloop:∀(d m:Nat),m+d=t.bg.l.length->(∃h,m<=h/\h<t.bg.l.length/\(∃i,i<t.ah.toNat/\qQ t L h i=-1)/\aY (fS t (dW L)) ((m:Int),Sl.mk (bw t.ah.toNat fun i=>dW (lc t L m i)))=some (.inl 7))\/((∀h,m<=h->h<t.bg.l.length->¬∃i,i<t.ah.toNat/\qQ t L h i=-1)/\aY (fS t (dW L)) ((m:Int),Sl.mk (bw t.ah.toNat fun i=>dW (lc t L m i)))=some (.inr (Sl.mk (bw t.ah.toNat fun i=>dW (lc t L t.bg.l.length i))))):=by
  intro d;induction d with
  |zero=>
   intro m hm;obtain rfl:m=t.bg.l.length:=by omega
   refine .inr ⟨fun h h1 h2=>by omega,bH ?_⟩;simp only[fS];rw[decide_eq_false (by omega),cond_false]
  |succ d ih=>
   intro m hm;have hs:=hstep m (by omega);by_cases h:∃i,i<t.ah.toNat/\qQ t L m i=-1
   .rw [if_pos h]at hs;exact .inl ⟨m,Nat.le_refl _,by omega,h,bH hs⟩
   .rw [if_neg h]at hs;rcases ih (m+1) (by omega)with⟨q,q1,q2,q3,q4⟩|⟨q1,q2⟩
    .exact .inl ⟨q,by omega,q2,q3,(cz hs).trans q4⟩
    .refine .inr ⟨fun x h1 h2=>?_,(cz hs).trans q2⟩;by_cases e:x=m
     .rw [e];exact h
     .exact q1 x (by omega) h2
 unfold ip;rw[Ec hV hL hn,ae,ir,cond_false,hm0,ae];rcases hloop t.bg.l.length 0 (by omega)with⟨q,q1,q2,q3,q4⟩|⟨q1,q2⟩
 .refine .inl ⟨⟨q,q2,q3⟩,?_⟩;have q4':aY (fS t (dW L)) (0,Sl.mk (bw t.ah.toNat fun i=>dW (lc t L 0 i)))=some (.inl 7):=q4;rw[q4'];rfl
 .refine .inr ⟨fun⟨x,h1,h2⟩=>q1 x (by omega) h1 h2,?_⟩;have q2':aY (fS t (dW L)) (0,Sl.mk (bw t.ah.toNat fun i=>dW (lc t L 0 i)))=_:=q2;rw[q2'];rfl
end
end Go.Proofs.Ytingpmogbibghaa.S
