/- Costs of ways, by relaxing: round by round, and one switch after the other; steps. Plain. Conditions: as stated. -/
import Derived.Test.YtingpmogbibghaaFlo
open Bool renaming and_eq_true_iff->cH
open List renaming append_nil->aV,length_range->cV,mem_append->ap,mem_append_left->aA,mem_cons->aJ,mem_cons_of_mem->av,mem_cons_self->bh,mem_range->eF,mem_singleton->aq,range->bN
open Nat renaming exists_eq_add_of_le->ZZ,le_refl->am,le_trans->bt
namespace Go.Ways
open Ieee Go.Fl
abbrev oK:Nat:=double.infRung
def P(a b:Nat):Nat:=plus double a b
theorem NI{a b a' b':Nat}(h1:a<=a')(h2:b<=b'):P a b<=P a' b':=Jz h1 h2
theorem DA{a b:Nat}(h:b<=oK):b<=P a b:=GI h
theorem R8{a b:Nat}:P a b<=oK:=yX
structure wY(n:Nat)(E:Nat->List (Nat×Nat)):Prop where
 lt:∀i,i<n->∀e∈E i,e.1<n
 ne:∀i,i<n->∀e∈E i,e.1≠i
 K8:∀i,i<n->∀e∈E i,(i,e.2)∈E e.1
def wa(E:Nat->List (Nat×Nat))(c:Nat->Nat)(i:Nat):Nat:=(E i).foldl (fun b e=>min b (P e.2 (c e.1))) (c i)
def B(E:Nat->List (Nat×Nat))(g:Nat):Nat->Nat->Nat
 |0=>fun i=>if i=g then 0 else oK
 |k+1=>wa E (B E g k)
theorem IN{c:Nat->Nat}:∀(l:List (Nat×Nat))(b:Nat),l.foldl (fun b e=>min b (P e.2 (c e.1))) b<=b/\∀e∈l,l.foldl (fun b e=>min b (P e.2 (c e.1))) b<=P e.2 (c e.1)
 |[],b=>⟨am _,by simp⟩
 |e::l,b=>by
  obtain⟨h1,h2⟩:=IN (c:=c) l (min b (P e.2 (c e.1)));simp only[List.foldl_cons];refine⟨by omega,fun f hf=>?_⟩;rcases aJ.1 hf with hf|hf
  .rw [hf];omega
  .exact h2 f hf
theorem IP{c:Nat->Nat}{m:Nat}:∀(l:List (Nat×Nat))(b:Nat),m<=b->(∀e∈l,m<=P e.2 (c e.1))->m<=l.foldl (fun b e=>min b (P e.2 (c e.1))) b
 |[],_,h,_=>h
 |e::l,b,h,h2=>IP l (min b (P e.2 (c e.1))) (by have:=h2 e bh;omega) fun f hf=>h2 f (av _ hf)
theorem Eh{E:Nat->List (Nat×Nat)}{c:Nat->Nat}{i:Nat}:wa E c i<=c i/\∀e∈E i,wa E c i<=P e.2 (c e.1):=IN (E i) (c i)
theorem Lu{E:Nat->List (Nat×Nat)}{c:Nat->Nat}{i m:Nat}(h:m<=c i)(h2:∀e∈E i,m<=P e.2 (c e.1)):m<=wa E c i:=IP (E i) (c i) h h2
section
variable{n g:Nat}{E:Nat->List (Nat×Nat)}
theorem Qg(k i:Nat):B E g (k+1) i<=B E g k i:=Eh.1
theorem TE(k i:Nat):B E g k i<=oK:=by induction k with|zero=>unfold B;split<;>omega|succ k ih=>exact bt (Qg k i) ih
theorem zt(hE:wY n E){c:Nat->Nat}(h0:c g=0)(hI:∀i,i<n->c i<=oK)(hs:∀i,i<n->∀e∈E i,c i<=P e.2 (c e.1)):∀k i,i<n->c i<=B E g k i
 |0,i,hi=>by
  unfold B;split
  .rename_i h;rw[h,h0];exact am _
  .exact hI i hi
 |k+1,i,hi=>Lu (zt hE h0 hI hs k i hi) fun e he=>bt (hs i hi e he) (NI (am _) (zt hE h0 hI hs k e.1 (hE.lt i hi e he)))
inductive Tp(E:Nat->List (Nat×Nat))(g:Nat)(ez:Nat->Nat)(vK:List Nat):Nat->Prop
 |aN:Tp E g ez vK g
 |nW {i c w:Nat}:c∈vK->(c,w)∈E i->P w (ez c)=ez i->Tp E g ez vK c->Tp E g ez vK i
theorem Tp.nz{ez out':Nat->Nat}{cl cl':List Nat}(hc:∀c∈cl,out' c=ez c)(hm:∀c∈cl,c∈cl'){i:Nat}(h:Tp E g ez cl i)(hi:out' i=ez i):Tp E g out' cl' i:=by induction h with|aN=>exact .aN|@nW i c w h1 h2 h3 _ ih=>exact .nW (hm c h1) h2 (by rw[hc c h1,h3,hi]) (ih (hc c h1))
structure KO(n g:Nat)(E:Nat->List (Nat×Nat))(cl op:List Nat)(ez:Nat->Nat):Prop where
 GM:(cl++op).Perm (bN n)
 qh:∀i,i<n->ez i<=oK
 g0:ez g=0
 SZ:∀i,i<n->B E g cl.length i<=ez i
 sub:∀c∈cl,∀e∈E c,ez e.1<=P e.2 (ez c)
 PT:∀c∈cl,∀o∈op,ez c<=ez o
 DT:∀i,i<n->ez i<oK->Tp E g ez cl i
theorem KO.Sq(hg:g<n):KO n g E [] (bN n) (fun i=>if i=g then 0 else oK)where
 GM:=by rw[List.nil_append]
 qh:=fun i _=>by split<;>omega
 g0:=if_pos rfl
 SZ:=fun i _=>am _
 sub:=fun c hc=>nomatch hc
 PT:=fun c hc=>nomatch hc
 DT:=fun i _ h=>by
  by_cases e:i=g
  .rw [e];exact .aN
  .rw [if_neg e]at h;omega
def qp(E:Nat->List (Nat×Nat))(ez:Nat->Nat)(iD:Nat):List (Nat×Nat)->Nat->Nat
 |[]=>ez
 |e::l=>fun j=>if j=e.1 then min (qp E ez iD l j) (P e.2 (ez iD))else qp E ez iD l j
theorem sO{ez:Nat->Nat}{iD:Nat}:∀(l:List (Nat×Nat))(j:Nat),qp E ez iD l j<=ez j/\(∀e∈l,e.1=j->qp E ez iD l j<=P e.2 (ez iD))
 |[],j=>⟨am _,by simp⟩
 |e::l,j=>by
  obtain⟨h1,h2⟩:=sO (ez:=ez) (iD:=iD) l j;simp only[qp];split
  .rename_i h;refine⟨by omega,fun f hf hj=>?_⟩;rcases aJ.1 hf with hf|hf
   .rw [hf];omega
   .have:=h2 f hf hj;omega
  .rename_i h;refine⟨h1,fun f hf hj=>?_⟩;rcases aJ.1 hf with hf|hf
   .rw [hf]at hj;exact absurd hj.symm h
   .exact h2 f hf hj
theorem q9{ez:Nat->Nat}{iD:Nat}:∀(l:List (Nat×Nat))(j:Nat),qp E ez iD l j=ez j\/∃e∈l,e.1=j/\qp E ez iD l j=P e.2 (ez iD)
 |[],j=>.inl rfl
 |e::l,j=>by
  simp only[qp];split
  .rename_i h;rcases Nat.le_total (qp E ez iD l j) (P e.2 (ez iD))with h1|h1
   .rw [Nat.min_eq_left h1];exact(q9 l j).imp id fun⟨f,hf,h2⟩=>⟨f,av _ hf,h2⟩
   .rw [Nat.min_eq_right h1];exact .inr ⟨e,bh,h.symm,rfl⟩
  .exact (q9 l j).imp id fun⟨f,hf,h2⟩=>⟨f,av _ hf,h2⟩
theorem KO.nW(hE:wY n E){cl op:List Nat}{iD:Nat}{ez:Nat->Nat}(h:KO n g E cl (iD::op) ez)(hmin:∀o∈op,ez iD<=ez o){l:List (Nat×Nat)}(hl:∀e,e∈l<->e∈E iD):KO n g E (cl++[iD]) op (qp E ez iD l):=by
 have hmem:∀x,x∈cl\/x=iD\/x∈op->x<n:=fun x hx=>eF.1 (h.GM.mem_iff.1 (by
  rcases hx with hx|hx|hx
  .exact aA _ hx
  .rw [hx];simp
  .simp [hx]))
 have hat:iD<n:=hmem iD (.inr (.inl rfl));have hout:=h.qh iD hat
 have keepAt:qp E ez iD l iD=ez iD:=by
  rcases q9 (E:=E) (ez:=ez) (iD:=iD) l iD with h1|⟨e,he,h2,_⟩
  .exact h1
  .exact absurd h2 (hE.ne iD hat e ((hl e).1 he))
 have keepC:∀c∈cl,qp E ez iD l c=ez c:=fun c hc=>by
  rcases q9 (E:=E) (ez:=ez) (iD:=iD) l c with h1|⟨e,he,h2,h3⟩
  .exact h1
  .have h4:=h.PT c hc iD bh;have h5:=DA (a:=e.2) hout;have h6:=(sO (E:=E) (ez:=ez) (iD:=iD) l c).1;omega
 refine⟨by rw[List.append_assoc];exact h.GM,fun i hi=>bt (sO _ i).1 (h.qh i hi),?_,fun i hi=>?_,fun c hc e he=>?_,fun c hc o ho=>?_,fun i hi hlt=>?_⟩
 .have:=(sO (E:=E) (ez:=ez) (iD:=iD) l g).1;rw[h.g0]at this;omega
 .rw [List.length_append];show B E g (cl.length+1) i<=_;rcases q9 (E:=E) (ez:=ez) (iD:=iD) l i with h1|⟨e,he,h2,h3⟩
  .rw [h1];exact bt (Qg _ _) (h.SZ i hi)
  .rw [h3];have hsym:=hE.K8 iD hat e ((hl e).1 he);rw[h2]at hsym;exact bt (Eh.2 _ hsym) (NI (am _) (h.SZ iD hat))
 .rcases ap.1 hc with hc|hc
  .rw [keepC c hc];exact bt (sO _ _).1 (h.sub c hc e he)
  .obtain rfl:=aq.1 hc;rw[keepAt];exact(sO _ _).2 e ((hl e).2 he) rfl
 .have ho':ez iD<=qp E ez iD l o:=by
   rcases q9 (E:=E) (ez:=ez) (iD:=iD) l o with h1|⟨e,he,h2,h3⟩
   .rw [h1];exact hmin o ho
   .rw [h3];exact DA hout
  rcases ap.1 hc with hc|hc
  .rw [keepC c hc];exact bt (h.PT c hc iD bh) ho'
  .obtain rfl:=aq.1 hc;rw[keepAt];exact ho'
 .rcases q9 (E:=E) (ez:=ez) (iD:=iD) l i with h1|⟨e,he,h2,h3⟩
  .exact (h.DT i hi (by omega)).nz keepC (fun c hc=>aA _ hc) h1
  .have hlt2:ez iD<oK:=by have:=DA (a:=e.2) hout;omega
   have hsym:=hE.K8 iD hat e ((hl e).1 he);rw[h2]at hsym;exact .nW (List.mem_append_right _ bh) hsym (by rw[keepAt,h3]) ((h.DT iD hat hlt2).nz keepC (fun c hc=>aA _ hc) keepAt)
theorem KO.rO(hE:wY n E){cl:List Nat}{ez:Nat->Nat}(h:KO n g E cl [] ez):(∀i,i<n->ez i=B E g n i)/\(∀i,i<n->ez i<oK->Tp E g ez cl i):=by
 have hp:=h.GM;rw[aV]at hp;have hlen:=hp.length_eq;rw[cV]at hlen;refine⟨fun i hi=>Nat.le_antisymm (zt hE h.g0 h.qh (fun i hi e he=>?_) n i hi) ?_,h.DT⟩
 .exact h.sub e.1 (hp.mem_iff.2 (eF.2 (hE.lt i hi e he))) (i,e.2) (hE.K8 i hi e he)
 .have:=h.SZ i hi;rwa[hlen]at this
theorem KO.ZB(hE:wY n E){cl:List Nat}{ez:Nat->Nat}(h:KO n g E cl [] ez):∀i,i<n->∀e∈E i,ez i<=P e.2 (ez e.1):=fun i hi e he=>by have hp:=h.GM;rw[aV]at hp;exact h.sub e.1 (hp.mem_iff.2 (eF.2 (hE.lt i hi e he))) (i,e.2) (hE.K8 i hi e he)
def jU(E:Nat->List (Nat×Nat))(c:Nat->Nat)(i:Nat)(e:Nat×Nat):Bool:=decide (c i<oK)&&decide (e.2<oK)&&(P e.2 (c e.1)==c i)
def j5(E:Nat->List (Nat×Nat))(c:Nat->Nat)(g:Nat):Nat->Nat->Int
 |0=>fun i=>if i=g then 0 else-1
 |k+1=>fun i=>if j5 E c g k i=-1/\(E i).any (fun e=>jU E c i e&&(j5 E c g k e.1==(k:Int)))=true then(k:Int)+1 else j5 E c g k i
variable{c:Nat->Nat}
theorem th:∀k i,-1<=j5 E c g k i/\j5 E c g k i<=k
 |0,i=>by simp only[j5];split<;>omega
 |k+1,i=>by have:=th k i;simp only[j5];split<;>omega
theorem wF{k i:Nat}(h:j5 E c g k i≠-1):j5 E c g (k+1) i=j5 E c g k i:=by simp only[j5];rw[if_neg fun q=>h q.1]
theorem aab{k:Nat}{i:Nat}(h:j5 E c g k i≠-1):∀j,k<=j->j5 E c g j i=j5 E c g k i:=by intro j hj;obtain⟨d,rfl⟩:=ZZ hj;clear hj;induction d with|zero=>rfl|succ d ih=>exact(wF (k:=k+d) (by rw[ih];exact h)).trans ih
theorem E_:∀(k i:Nat)(m:Nat),j5 E c g k i=(m:Int)+1->∃e∈E i,jU E c i e=true/\j5 E c g k e.1=(m:Int)
 |0,i,m,h=>by simp only[j5]at h;split at h<;>omega
 |k+1,i,m,h=>by
  have hk:=h;simp only[j5]at h;split at h
  .rename_i hc;obtain⟨e,he,h2⟩:=List.any_eq_true.1 hc.2;have h2:=cH.1 h2;have h3:j5 E c g k e.1=(k:Int):=beq_iff_eq.1 h2.2;refine⟨e,he,h2.1,?_⟩;rw[wF (by omega),h3];omega
  .obtain ⟨e,he,h2,h3⟩:=E_ k i m h;exact⟨e,he,h2,by rw[wF (by omega),h3]⟩
theorem BY(hE:wY n E)(k:Nat):∀(m i:Nat),i<n->j5 E c g k i=(m:Int)->∃l:List Nat,l.length=m+1/\(∀x∈l,x<n/\j5 E c g k x<=(m:Int))/\l.Nodup
 |0,i,hi,h=>⟨[i],rfl,by intro x hx;rw[aq.1 hx];exact⟨hi,by omega⟩,List.pairwise_singleton _ _⟩
 |m+1,i,hi,h=>by
  obtain⟨e,he,_,h3⟩:=E_ k i m (by rw[h];rfl);obtain⟨l,h4,h5,h6⟩:=BY hE k m e.1 (hE.lt i hi e he) h3;refine⟨i::l,by rw[List.length_cons,h4],fun x hx=>?_,List.nodup_cons.2 ⟨fun hx=>?_,h6⟩⟩
  .rcases aJ.1 hx with hx|hx
   .rw [hx];exact⟨hi,by omega⟩
   .have:=h5 x hx;exact⟨this.1,by omega⟩
  .have:=h5 i hx;omega
theorem Mj(hE:wY n E)(k:Nat){i:Nat}(hi:i<n):j5 E c g k i<(n:Int):=by
 rcases Int.lt_or_le (j5 E c g k i) n with h|h
 .exact h
 .obtain ⟨m,hm⟩:∃m:Nat,j5 E c g k i=(m:Int):=⟨(j5 E c g k i).toNat,by omega⟩
  obtain⟨l,h1,h2,h3⟩:=BY hE k m i hi hm;have:=h3.length_le_of_subset (l₂:=bN n) fun x hx=>eF.2 (h2 x hx).1;rw[cV,h1]at this;omega
theorem E9(hE:wY n E):∀(d i:Nat),i<n->j5 E c g (n-1+d) i=j5 E c g (n-1) i
 |0,i,_=>rfl
 |d+1,i,hi=>by
  have h1:=E9 hE d i hi;have h2:=Mj (c:=c) (g:=g) hE (n-1+(d+1)) hi;rw[<-h1];have e:n-1+(d+1)=(n-1+d)+1:=by omega
  rw[e]at h2|-;simp only[j5]at h2|-;split
  .rename_i hc;rw[if_pos hc]at h2;omega
  .rfl
theorem E8{k:Nat}(hE:wY n E)(h:∀i,i<n->j5 E c g k i≠(k:Int)):∀(d i:Nat),i<n->j5 E c g (k+d) i=j5 E c g k i
 |0,_,_=>rfl
 |d+1,i,hi=>by
  have h1:=E8 hE h d;have e:k+(d+1)=(k+d)+1:=by omega
  rw[e];simp only[j5];rw[if_neg,h1 i hi];intro hc;obtain⟨e',he,h2⟩:=List.any_eq_true.1 hc.2;have h3:j5 E c g (k+d) e'.1=((k+d:Nat):Int):=beq_iff_eq.1 (cH.1 h2).2;have he2:=hE.lt i hi e' he;rw[h1 e'.1 he2]at h3;have h4:=th (E:=E) (c:=c) (g:=g) k e'.1;have h5:d=0:=by omega
  subst h5;exact h e'.1 he2 h3
theorem Ml(hE:wY n E){k:Nat}(h:∀i,i<n->j5 E c g k i≠(k:Int)){i:Nat}(hi:i<n):j5 E c g k i=j5 E c g (n-1) i:=by
 rcases Nat.le_total k (n-1)with h1|h1
 .obtain ⟨d,hd⟩:=ZZ h1;rw[hd];exact(E8 hE h d i hi).symm
 .obtain ⟨d,hd⟩:=ZZ h1;rw[hd];exact E9 hE d i hi
theorem Z_(hE:wY n E){cl:List Nat}(hI:∀i,i<n->c i<=oK)(hcl:∀x∈cl,x<n)(hg:g<n){i:Nat}(h:Tp E g c cl i):i<n->c i<oK->∃k,j5 E c g k i≠-1:=by
 induction h with
 |aN=>intro _ _;exact⟨0,by simp[j5]⟩
 |@nW i j w h1 h2 h3 _ ih=>
  intro hi hlt;have hj:=hcl j h1;have hjl:c j<oK:=by have h4:=DA (a:=w) (hI j hj);rw[h3]at h4;omega
  have hjb:=hI j hj;obtain⟨k,hk⟩:=ih hj hjl;have hr:=th (E:=E) (c:=c) (g:=g) k j;obtain⟨m,hm⟩:∃m:Nat,j5 E c g k j=(m:Int):=⟨(j5 E c g k j).toNat,by omega⟩
  -- it had it after m lL
  have hmm:j5 E c g m j=(m:Int):=by
   have h0:∀(q:Nat),j5 E c g q j=(m:Int)->j5 E c g m j=(m:Int):=by
    intro q;induction q with
    |zero=>
     intro hq;have hrr:=th (E:=E) (c:=c) (g:=g) 0 j;have:m=0:=by omega
     rw[this]at hq|-;exact hq
    |succ q ihq=>
     intro hq;by_cases hq2:j5 E c g q j=-1
     .have hq3:=hq;simp only[j5]at hq3;split at hq3
      .have:m=q+1:=by omega
       rw[this]at hq|-;exact hq
      .omega
     .exact ihq (by rw[<-wF hq2];exact hq)
   exact h0 k hm
  by_cases hi1:j5 E c g m i=-1
  .refine ⟨m+1,?_⟩
   have hw:w<oK:=by
    rcases Nat.lt_or_ge w oK with h|h
    .exact h
    .exfalso;have:P w (c j)=oK:=by unfold P plus;rw[if_neg (fun q=>absurd q.1 (Nat.not_lt.2 h))]
     omega
   have ht:(E i).any (fun e=>jU E c i e&&(j5 E c g m e.1==(m:Int)))=true:=by refine List.any_eq_true.2 ⟨(j,w),h2,?_⟩;unfold jU;simp only[Bool.and_eq_true,decide_eq_true_eq,beq_iff_eq];exact⟨⟨⟨hlt,hw⟩,h3⟩,hmm⟩
   have hl:j5 E c g (m+1) i=(m:Int)+1:=by simp only[j5];exact if_pos ⟨hi1,ht⟩
   omega
  .exact ⟨m,hi1⟩
theorem aad(hE:wY n E){k i:Nat}(hi:i<n)(h:j5 E c g k i≠-1):j5 E c g (n-1) i≠-1:=by
 rcases Nat.le_total k (n-1)with h1|h1
 .rw [aab h _ h1];exact h
 .obtain ⟨d,hd⟩:=ZZ h1;rw[hd,E9 hE d i hi]at h;exact h
end
end Go.Ways
