/- Costs of ways, by relaxing: round by round, and one switch after the other; steps. Plain. Conditions: as stated. -/
import Derived.Test.YtingpmogbibghaaFlo
open List renaming append_nil->aV,mem_append->ap,mem_append_left->aA,mem_cons->aJ,mem_cons_of_mem->av,mem_cons_self->bh,mem_range->eF,mem_singleton->aq,range->bN
open Nat renaming le_refl->am,le_trans->bt
namespace Go.Ways
open Ieee Go.Fl
abbrev oK:Nat:=double.infRung
def P(a b:Nat):Nat:=plus double a b
theorem NI{a b a' b':Nat}(h1:a<=a')(h2:b<=b'):P a b<=P a' b':=Jz h1 h2
theorem DA{a b:Nat}(h:b<=oK):b<=P a b:=GI h
theorem R8{a b:Nat}:P a b<=oK:=yX
structure wY(n:Nat)(E:Nat->List (Nat×Nat)):Prop where
 lt:∀i,i<n->∀e∈E i,e.1<n
 ne:∀i,i<n->∀e∈E i,e.1≠i
 K8:∀i,i<n->∀e∈E i,(i,e.2)∈E e.1
def wa(E:Nat->List (Nat×Nat))(c:Nat->Nat)(i:Nat):Nat:=(E i).foldl (fun b e=>min b (P e.2 (c e.1))) (c i)
def B(E:Nat->List (Nat×Nat))(g:Nat):Nat->Nat->Nat
 |0=>fun i=>if i=g then 0 else oK
 |k+1=>wa E (B E g k)
theorem IN{c:Nat->Nat}:∀(l:List (Nat×Nat))(b:Nat),l.foldl (fun b e=>min b (P e.2 (c e.1))) b<=b/\∀e∈l,l.foldl (fun b e=>min b (P e.2 (c e.1))) b<=P e.2 (c e.1)
 |[],b=>⟨am _,by simp⟩
 |e::l,b=>by
  obtain⟨h1,h2⟩:=IN (c:=c) l (min b (P e.2 (c e.1)));simp only[List.foldl_cons];refine⟨by omega,fun f hf=>?_⟩;rcases aJ.1 hf with hf|hf
  .rw [hf];omega
  .exact h2 f hf
theorem IP{c:Nat->Nat}{m:Nat}:∀(l:List (Nat×Nat))(b:Nat),m<=b->(∀e∈l,m<=P e.2 (c e.1))->m<=l.foldl (fun b e=>min b (P e.2 (c e.1))) b
 |[],_,h,_=>h
 |e::l,b,h,h2=>IP l (min b (P e.2 (c e.1))) (by have:=h2 e bh;omega) fun f hf=>h2 f (av _ hf)
theorem Eh{E:Nat->List (Nat×Nat)}{c:Nat->Nat}{i:Nat}:wa E c i<=c i/\∀e∈E i,wa E c i<=P e.2 (c e.1):=IN (E i) (c i)
theorem Lu{E:Nat->List (Nat×Nat)}{c:Nat->Nat}{i m:Nat}(h:m<=c i)(h2:∀e∈E i,m<=P e.2 (c e.1)):m<=wa E c i:=IP (E i) (c i) h h2
section
variable{n g:Nat}{E:Nat->List (Nat×Nat)}
theorem Qg(k i:Nat):B E g (k+1) i<=B E g k i:=Eh.1
theorem TE(k i:Nat):B E g k i<=oK:=by induction k with|zero=>unfold B;split<;>omega|succ k ih=>exact bt (Qg k i) ih
theorem zt(hE:wY n E){c:Nat->Nat}(h0:c g=0)(hI:∀i,i<n->c i<=oK)(hs:∀i,i<n->∀e∈E i,c i<=P e.2 (c e.1)):∀k i,i<n->c i<=B E g k i
 |0,i,hi=>by
  unfold B;split
  .rename_i h;rw[h,h0];exact am _
  .exact hI i hi
 |k+1,i,hi=>Lu (zt hE h0 hI hs k i hi) fun e he=>bt (hs i hi e he) (NI (am _) (zt hE h0 hI hs k e.1 (hE.lt i hi e he)))
inductive Tp(E:Nat->List (Nat×Nat))(g:Nat)(ez:Nat->Nat)(vK:List Nat):Nat->Prop
 |aN:Tp E g ez vK g
 |nW {i c w:Nat}:c∈vK->(c,w)∈E i->P w (ez c)=ez i->Tp E g ez vK c->Tp E g ez vK i
theorem Tp.nz{ez out':Nat->Nat}{cl cl':List Nat}(hc:∀c∈cl,out' c=ez c)(hm:∀c∈cl,c∈cl'){i:Nat}(h:Tp E g ez cl i)(hi:out' i=ez i):Tp E g out' cl' i:=by induction h with|aN=>exact .aN|@nW i c w h1 h2 h3 _ ih=>exact .nW (hm c h1) h2 (by rw[hc c h1,h3,hi]) (ih (hc c h1))
structure KO(n g:Nat)(E:Nat->List (Nat×Nat))(cl op:List Nat)(ez:Nat->Nat):Prop where
 GM:(cl++op).Perm (bN n)
 qh:∀i,i<n->ez i<=oK
 g0:ez g=0
 SZ:∀i,i<n->B E g cl.length i<=ez i
 sub:∀c∈cl,∀e∈E c,ez e.1<=P e.2 (ez c)
 PT:∀c∈cl,∀o∈op,ez c<=ez o
 DT:∀i,i<n->ez i<oK->Tp E g ez cl i
theorem KO.Sq(hg:g<n):KO n g E [] (bN n) (fun i=>if i=g then 0 else oK)where
 GM:=by rw[List.nil_append]
 qh:=fun i _=>by split<;>omega
 g0:=if_pos rfl
 SZ:=fun i _=>am _
 sub:=fun c hc=>nomatch hc
 PT:=fun c hc=>nomatch hc
 DT:=fun i _ h=>by
  by_cases e:i=g
  .rw [e];exact .aN
  .rw [if_neg e]at h;omega
def qp(E:Nat->List (Nat×Nat))(ez:Nat->Nat)(iD:Nat):List (Nat×Nat)->Nat->Nat
 |[]=>ez
 |e::l=>fun j=>if j=e.1 then min (qp E ez iD l j) (P e.2 (ez iD))else qp E ez iD l j
theorem sO{ez:Nat->Nat}{iD:Nat}:∀(l:List (Nat×Nat))(j:Nat),qp E ez iD l j<=ez j/\(∀e∈l,e.1=j->qp E ez iD l j<=P e.2 (ez iD))
 |[],j=>⟨am _,by simp⟩
 |e::l,j=>by
  obtain⟨h1,h2⟩:=sO (ez:=ez) (iD:=iD) l j;simp only[qp];split
  .rename_i h;refine⟨by omega,fun f hf hj=>?_⟩;rcases aJ.1 hf with hf|hf
   .rw [hf];omega
   .have:=h2 f hf hj;omega
  .rename_i h;refine⟨h1,fun f hf hj=>?_⟩;rcases aJ.1 hf with hf|hf
   .rw [hf]at hj;exact absurd hj.symm h
   .exact h2 f hf hj
theorem q9{ez:Nat->Nat}{iD:Nat}:∀(l:List (Nat×Nat))(j:Nat),qp E ez iD l j=ez j\/∃e∈l,e.1=j/\qp E ez iD l j=P e.2 (ez iD)
 |[],j=>.inl rfl
 |e::l,j=>by
  simp only[qp];split
  .rename_i h;rcases Nat.le_total (qp E ez iD l j) (P e.2 (ez iD))with h1|h1
   .rw [Nat.min_eq_left h1];exact(q9 l j).imp id fun⟨f,hf,h2⟩=>⟨f,av _ hf,h2⟩
   .rw [Nat.min_eq_right h1];exact .inr ⟨e,bh,h.symm,rfl⟩
  .exact (q9 l j).imp id fun⟨f,hf,h2⟩=>⟨f,av _ hf,h2⟩
theorem KO.nW(hE:wY n E){cl op:List Nat}{iD:Nat}{ez:Nat->Nat}(h:KO n g E cl (iD::op) ez)(hmin:∀o∈op,ez iD<=ez o){l:List (Nat×Nat)}(hl:∀e,e∈l<->e∈E iD):KO n g E (cl++[iD]) op (qp E ez iD l):=by
 have hmem:∀x,x∈cl\/x=iD\/x∈op->x<n:=fun x hx=>eF.1 (h.GM.mem_iff.1 (by
  rcases hx with hx|hx|hx
  .exact aA _ hx
  .rw [hx];simp
  .simp [hx]))
 have hat:iD<n:=hmem iD (.inr (.inl rfl));have hout:=h.qh iD hat
 have keepAt:qp E ez iD l iD=ez iD:=by
  rcases q9 (E:=E) (ez:=ez) (iD:=iD) l iD with h1|⟨e,he,h2,_⟩
  .exact h1
  .exact absurd h2 (hE.ne iD hat e ((hl e).1 he))
 have keepC:∀c∈cl,qp E ez iD l c=ez c:=fun c hc=>by
  rcases q9 (E:=E) (ez:=ez) (iD:=iD) l c with h1|⟨e,he,h2,h3⟩
  .exact h1
  .have h4:=h.PT c hc iD bh;have h5:=DA (a:=e.2) hout;have h6:=(sO (E:=E) (ez:=ez) (iD:=iD) l c).1;omega
 refine⟨by rw[List.append_assoc];exact h.GM,fun i hi=>bt (sO _ i).1 (h.qh i hi),?_,fun i hi=>?_,fun c hc e he=>?_,fun c hc o ho=>?_,fun i hi hlt=>?_⟩
 .have:=(sO (E:=E) (ez:=ez) (iD:=iD) l g).1;rw[h.g0]at this;omega
 .rw [List.length_append];show B E g (cl.length+1) i<=_;rcases q9 (E:=E) (ez:=ez) (iD:=iD) l i with h1|⟨e,he,h2,h3⟩
  .rw [h1];exact bt (Qg _ _) (h.SZ i hi)
  .rw [h3];have hsym:=hE.K8 iD hat e ((hl e).1 he);rw[h2]at hsym;exact bt (Eh.2 _ hsym) (NI (am _) (h.SZ iD hat))
 .rcases ap.1 hc with hc|hc
  .rw [keepC c hc];exact bt (sO _ _).1 (h.sub c hc e he)
  .obtain rfl:=aq.1 hc;rw[keepAt];exact(sO _ _).2 e ((hl e).2 he) rfl
 .have ho':ez iD<=qp E ez iD l o:=by
   rcases q9 (E:=E) (ez:=ez) (iD:=iD) l o with h1|⟨e,he,h2,h3⟩
   .rw [h1];exact hmin o ho
   .rw [h3];exact DA hout
  rcases ap.1 hc with hc|hc
  .rw [keepC c hc];exact bt (h.PT c hc iD bh) ho'
  .obtain rfl:=aq.1 hc;rw[keepAt];exact ho'
 .rcases q9 (E:=E) (ez:=ez) (iD:=iD) l i with h1|⟨e,he,h2,h3⟩
  .exact (h.DT i hi (by omega)).nz keepC (fun c hc=>aA _ hc) h1
  .have hlt2:ez iD<oK:=by have:=DA (a:=e.2) hout;omega
   have hsym:=hE.K8 iD hat e ((hl e).1 he);rw[h2]at hsym;exact .nW (List.mem_append_right _ bh) hsym (by rw[keepAt,h3]) ((h.DT iD hat hlt2).nz keepC (fun c hc=>aA _ hc) keepAt)
theorem KO.rO(hE:wY n E){cl:List Nat}{ez:Nat->Nat}(h:KO n g E cl [] ez):(∀i,i<n->ez i=B E g n i)/\(∀i,i<n->ez i<oK->Tp E g ez cl i):=by
 have hp:=h.GM;rw[aV]at hp;have hlen:=hp.length_eq;rw[List.length_range]at hlen;refine⟨fun i hi=>Nat.le_antisymm (zt hE h.g0 h.qh (fun i hi e he=>?_) n i hi) ?_,h.DT⟩
 .exact h.sub e.1 (hp.mem_iff.2 (eF.2 (hE.lt i hi e he))) (i,e.2) (hE.K8 i hi e he)
 .have:=h.SZ i hi;rwa[hlen]at this
theorem KO.ZB(hE:wY n E){cl:List Nat}{ez:Nat->Nat}(h:KO n g E cl [] ez):∀i,i<n->∀e∈E i,ez i<=P e.2 (ez e.1):=fun i hi e he=>by have hp:=h.GM;rw[aV]at hp;exact h.sub e.1 (hp.mem_iff.2 (eF.2 (hE.lt i hi e he))) (i,e.2) (hE.K8 i hi e he)
variable{c:Nat->Nat}
end
end Go.Ways
