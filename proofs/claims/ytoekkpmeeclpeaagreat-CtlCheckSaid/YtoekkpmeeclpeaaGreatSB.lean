/- Costs of ways, by relaxing: round by round, and one switch after the other; steps. Plain. Conditions: as stated. -/
import Derived.Test.YtoekkpmeeclpeaaGreatFlo
open Bool renaming and_eq_true_iff->cf
open List renaming length_range->cM,mem_append->aC,mem_append_left->aU,mem_cons->aW,mem_cons_of_mem->aI,mem_cons_self->bC,mem_range->eG,mem_singleton->aq,range->bm
open Nat renaming le_refl->am,le_trans->bo
namespace Go.Ways
open Ieee Go.Fl
abbrev oh:Nat:=double.infRung
def P(a b:Nat):Nat:=plus double a b
theorem O0{a b a' b':Nat}(h1:a<=a')(h2:b<=b'):P a b<=P a' b':=Km h1 h2
theorem DW{a b:Nat}(h:b<=oh):b<=P a b:=Hg h
theorem T1{a b:Nat}:P a b<=oh:=zp
structure xu(n:Nat)(E:Nat->List (Nat×Nat)):Prop where
 lt:∀i,i<n->∀e∈E i,e.1<n
 ne:∀i,i<n->∀e∈E i,e.1≠i
 L8:∀i,i<n->∀e∈E i,(i,e.2)∈E e.1
def wB(E:Nat->List (Nat×Nat))(c:Nat->Nat)(i:Nat):Nat:=(E i).foldl (fun b e=>min b (P e.2 (c e.1))) (c i)
def B(E:Nat->List (Nat×Nat))(g:Nat):Nat->Nat->Nat
 |0=>fun i=>if i=g then 0 else oh
 |k+1=>wB E (B E g k)
theorem Ju{c:Nat->Nat}:∀(l:List (Nat×Nat))(b:Nat),l.foldl (fun b e=>min b (P e.2 (c e.1))) b<=b/\∀e∈l,l.foldl (fun b e=>min b (P e.2 (c e.1))) b<=P e.2 (c e.1)
 |[],b=>⟨am _,by simp⟩
 |e::l,b=>by
  obtain⟨h1,h2⟩:=Ju (c:=c) l (min b (P e.2 (c e.1)));simp only[List.foldl_cons];refine⟨by omega,fun f hf=>?_⟩;rcases aW.1 hf with hf|hf
  .rw [hf];omega
  .exact h2 f hf
theorem Jv{c:Nat->Nat}{m:Nat}:∀(l:List (Nat×Nat))(b:Nat),m<=b->(∀e∈l,m<=P e.2 (c e.1))->m<=l.foldl (fun b e=>min b (P e.2 (c e.1))) b
 |[],_,h,_=>h
 |e::l,b,h,h2=>Jv l (min b (P e.2 (c e.1))) (by have:=h2 e bC;omega) fun f hf=>h2 f (aI _ hf)
theorem EM{E:Nat->List (Nat×Nat)}{c:Nat->Nat}{i:Nat}:wB E c i<=c i/\∀e∈E i,wB E c i<=P e.2 (c e.1):=Ju (E i) (c i)
theorem MA{E:Nat->List (Nat×Nat)}{c:Nat->Nat}{i m:Nat}(h:m<=c i)(h2:∀e∈E i,m<=P e.2 (c e.1)):m<=wB E c i:=Jv (E i) (c i) h h2
section
variable{n g:Nat}{E:Nat->List (Nat×Nat)}
theorem RJ(k i:Nat):B E g (k+1) i<=B E g k i:=EM.1
theorem Vw(k i:Nat):B E g k i<=oh:=by induction k with|zero=>unfold B;split<;>omega|succ k ih=>exact bo (RJ k i) ih
theorem zN(hE:xu n E){c:Nat->Nat}(h0:c g=0)(hI:∀i,i<n->c i<=oh)(hs:∀i,i<n->∀e∈E i,c i<=P e.2 (c e.1)):∀k i,i<n->c i<=B E g k i
 |0,i,hi=>by
  unfold B;split
  .rename_i h;rw[h,h0];exact am _
  .exact hI i hi
 |k+1,i,hi=>MA (zN hE h0 hI hs k i hi) fun e he=>bo (hs i hi e he) (O0 (am _) (zN hE h0 hI hs k e.1 (hE.lt i hi e he)))
inductive Tp(E:Nat->List (Nat×Nat))(g:Nat)(dQ:Nat->Nat)(v8:List Nat):Nat->Prop
 |aL:Tp E g dQ v8 g
 |ld {i c w:Nat}:c∈v8->(c,w)∈E i->P w (dQ c)=dQ i->Tp E g dQ v8 c->Tp E g dQ v8 i
theorem Tp.lK{dQ out':Nat->Nat}{cl cl':List Nat}(hc:∀c∈cl,out' c=dQ c)(hm:∀c∈cl,c∈cl'){i:Nat}(h:Tp E g dQ cl i)(hi:out' i=dQ i):Tp E g out' cl' i:=by induction h with|aL=>exact .aL|@ld i c w h1 h2 h3 _ ih=>exact .ld (hm c h1) h2 (by rw[hc c h1,h3,hi]) (ih (hc c h1))
structure LL(n g:Nat)(E:Nat->List (Nat×Nat))(cl op:List Nat)(dQ:Nat->Nat):Prop where
 Hj:(cl++op).Perm (bm n)
 pT:∀i,i<n->dQ i<=oh
 g0:dQ g=0
 UP:∀i,i<n->B E g cl.length i<=dQ i
 sub:∀c∈cl,∀e∈E c,dQ e.1<=P e.2 (dQ c)
 Rd:∀c∈cl,∀o∈op,dQ c<=dQ o
 Eg:∀i,i<n->dQ i<oh->Tp E g dQ cl i
theorem LL.yv(hg:g<n):LL n g E [] (bm n) (fun i=>if i=g then 0 else oh)where
 Hj:=by rw[List.nil_append]
 pT:=fun i _=>by split<;>omega
 g0:=if_pos rfl
 UP:=fun i _=>am _
 sub:=fun c hc=>nomatch hc
 Rd:=fun c hc=>nomatch hc
 Eg:=fun i _ h=>by
  by_cases e:i=g
  .rw [e];exact .aL
  .rw [if_neg e]at h;omega
def p7(E:Nat->List (Nat×Nat))(dQ:Nat->Nat)(gU:Nat):List (Nat×Nat)->Nat->Nat
 |[]=>dQ
 |e::l=>fun j=>if j=e.1 then min (p7 E dQ gU l j) (P e.2 (dQ gU))else p7 E dQ gU l j
theorem sj{dQ:Nat->Nat}{gU:Nat}:∀(l:List (Nat×Nat))(j:Nat),p7 E dQ gU l j<=dQ j/\(∀e∈l,e.1=j->p7 E dQ gU l j<=P e.2 (dQ gU))
 |[],j=>⟨am _,by simp⟩
 |e::l,j=>by
  obtain⟨h1,h2⟩:=sj (dQ:=dQ) (gU:=gU) l j;simp only[p7];split
  .rename_i h;refine⟨by omega,fun f hf hj=>?_⟩;rcases aW.1 hf with hf|hf
   .rw [hf];omega
   .have:=h2 f hf hj;omega
  .rename_i h;refine⟨h1,fun f hf hj=>?_⟩;rcases aW.1 hf with hf|hf
   .rw [hf]at hj;exact absurd hj.symm h
   .exact h2 f hf hj
theorem qI{dQ:Nat->Nat}{gU:Nat}:∀(l:List (Nat×Nat))(j:Nat),p7 E dQ gU l j=dQ j\/∃e∈l,e.1=j/\p7 E dQ gU l j=P e.2 (dQ gU)
 |[],j=>.inl rfl
 |e::l,j=>by
  simp only[p7];split
  .rename_i h;rcases Nat.le_total (p7 E dQ gU l j) (P e.2 (dQ gU))with h1|h1
   .rw [Nat.min_eq_left h1];exact(qI l j).imp id fun⟨f,hf,h2⟩=>⟨f,aI _ hf,h2⟩
   .rw [Nat.min_eq_right h1];exact .inr ⟨e,bC,h.symm,rfl⟩
  .exact (qI l j).imp id fun⟨f,hf,h2⟩=>⟨f,aI _ hf,h2⟩
theorem LL.ld(hE:xu n E){cl op:List Nat}{gU:Nat}{dQ:Nat->Nat}(h:LL n g E cl (gU::op) dQ)(hmin:∀o∈op,dQ gU<=dQ o){l:List (Nat×Nat)}(hl:∀e,e∈l<->e∈E gU):LL n g E (cl++[gU]) op (p7 E dQ gU l):=by
 have hmem:∀x,x∈cl\/x=gU\/x∈op->x<n:=fun x hx=>eG.1 (h.Hj.mem_iff.1 (by
  rcases hx with hx|hx|hx
  .exact aU _ hx
  .rw [hx];simp
  .simp [hx]))
 have hat:gU<n:=hmem gU (.inr (.inl rfl));have hout:=h.pT gU hat
 have keepAt:p7 E dQ gU l gU=dQ gU:=by
  rcases qI (E:=E) (dQ:=dQ) (gU:=gU) l gU with h1|⟨e,he,h2,_⟩
  .exact h1
  .exact absurd h2 (hE.ne gU hat e ((hl e).1 he))
 have keepC:∀c∈cl,p7 E dQ gU l c=dQ c:=fun c hc=>by
  rcases qI (E:=E) (dQ:=dQ) (gU:=gU) l c with h1|⟨e,he,h2,h3⟩
  .exact h1
  .have h4:=h.Rd c hc gU bC;have h5:=DW (a:=e.2) hout;have h6:=(sj (E:=E) (dQ:=dQ) (gU:=gU) l c).1;omega
 refine⟨by rw[List.append_assoc];exact h.Hj,fun i hi=>bo (sj _ i).1 (h.pT i hi),?_,fun i hi=>?_,fun c hc e he=>?_,fun c hc o ho=>?_,fun i hi hlt=>?_⟩
 .have:=(sj (E:=E) (dQ:=dQ) (gU:=gU) l g).1;rw[h.g0]at this;omega
 .rw [List.length_append];show B E g (cl.length+1) i<=_;rcases qI (E:=E) (dQ:=dQ) (gU:=gU) l i with h1|⟨e,he,h2,h3⟩
  .rw [h1];exact bo (RJ _ _) (h.UP i hi)
  .rw [h3];have hsym:=hE.L8 gU hat e ((hl e).1 he);rw[h2]at hsym;exact bo (EM.2 _ hsym) (O0 (am _) (h.UP gU hat))
 .rcases aC.1 hc with hc|hc
  .rw [keepC c hc];exact bo (sj _ _).1 (h.sub c hc e he)
  .obtain rfl:=aq.1 hc;rw[keepAt];exact(sj _ _).2 e ((hl e).2 he) rfl
 .have ho':dQ gU<=p7 E dQ gU l o:=by
   rcases qI (E:=E) (dQ:=dQ) (gU:=gU) l o with h1|⟨e,he,h2,h3⟩
   .rw [h1];exact hmin o ho
   .rw [h3];exact DW hout
  rcases aC.1 hc with hc|hc
  .rw [keepC c hc];exact bo (h.Rd c hc gU bC) ho'
  .obtain rfl:=aq.1 hc;rw[keepAt];exact ho'
 .rcases qI (E:=E) (dQ:=dQ) (gU:=gU) l i with h1|⟨e,he,h2,h3⟩
  .exact (h.Eg i hi (by omega)).lK keepC (fun c hc=>aU _ hc) h1
  .have hlt2:dQ gU<oh:=by have:=DW (a:=e.2) hout;omega
   have hsym:=hE.L8 gU hat e ((hl e).1 he);rw[h2]at hsym;exact .ld (List.mem_append_right _ bC) hsym (by rw[keepAt,h3]) ((h.Eg gU hat hlt2).lK keepC (fun c hc=>aU _ hc) keepAt)
theorem LL.qU(hE:xu n E){cl:List Nat}{dQ:Nat->Nat}(h:LL n g E cl [] dQ):(∀i,i<n->dQ i=B E g n i)/\(∀i,i<n->dQ i<oh->Tp E g dQ cl i):=by
 have hp:=h.Hj;rw[List.append_nil]at hp;have hlen:=hp.length_eq;rw[cM]at hlen;refine⟨fun i hi=>Nat.le_antisymm (zN hE h.g0 h.pT (fun i hi e he=>?_) n i hi) ?_,h.Eg⟩
 .exact h.sub e.1 (hp.mem_iff.2 (eG.2 (hE.lt i hi e he))) (i,e.2) (hE.L8 i hi e he)
 .have:=h.UP i hi;rwa[hlen]at this
def je(E:Nat->List (Nat×Nat))(c:Nat->Nat)(i:Nat)(e:Nat×Nat):Bool:=decide (c i<oh)&&decide (e.2<oh)&&(P e.2 (c e.1)==c i)
def jj(E:Nat->List (Nat×Nat))(c:Nat->Nat)(g:Nat):Nat->Nat->Int
 |0=>fun i=>if i=g then 0 else-1
 |k+1=>fun i=>if jj E c g k i=-1/\(E i).any (fun e=>je E c i e&&(jj E c g k e.1==(k:Int)))=true then(k:Int)+1 else jj E c g k i
variable{c:Nat->Nat}
theorem sQ:∀k i,-1<=jj E c g k i/\jj E c g k i<=k
 |0,i=>by simp only[jj];split<;>omega
 |k+1,i=>by have:=sQ k i;simp only[jj];split<;>omega
theorem wT{k i:Nat}(h:jj E c g k i≠-1):jj E c g (k+1) i=jj E c g k i:=by simp only[jj];rw[if_neg fun q=>h q.1]
theorem FB:∀(k i:Nat)(m:Nat),jj E c g k i=(m:Int)+1->∃e∈E i,je E c i e=true/\jj E c g k e.1=(m:Int)
 |0,i,m,h=>by simp only[jj]at h;split at h<;>omega
 |k+1,i,m,h=>by
  have hk:=h;simp only[jj]at h;split at h
  .rename_i hc;obtain⟨e,he,h2⟩:=List.any_eq_true.1 hc.2;have h2:=cf.1 h2;have h3:jj E c g k e.1=(k:Int):=beq_iff_eq.1 h2.2;refine⟨e,he,h2.1,?_⟩;rw[wT (by omega),h3];omega
  .obtain ⟨e,he,h2,h3⟩:=FB k i m h;exact⟨e,he,h2,by rw[wT (by omega),h3]⟩
theorem Cg(hE:xu n E)(k:Nat):∀(m i:Nat),i<n->jj E c g k i=(m:Int)->∃l:List Nat,l.length=m+1/\(∀x∈l,x<n/\jj E c g k x<=(m:Int))/\l.Nodup
 |0,i,hi,h=>⟨[i],rfl,by intro x hx;rw[aq.1 hx];exact⟨hi,by omega⟩,List.pairwise_singleton _ _⟩
 |m+1,i,hi,h=>by
  obtain⟨e,he,_,h3⟩:=FB k i m (by rw[h];rfl);obtain⟨l,h4,h5,h6⟩:=Cg hE k m e.1 (hE.lt i hi e he) h3;refine⟨i::l,by rw[List.length_cons,h4],fun x hx=>?_,List.nodup_cons.2 ⟨fun hx=>?_,h6⟩⟩
  .rcases aW.1 hx with hx|hx
   .rw [hx];exact⟨hi,by omega⟩
   .have:=h5 x hx;exact⟨this.1,by omega⟩
  .have:=h5 i hx;omega
theorem Nt(hE:xu n E)(k:Nat){i:Nat}(hi:i<n):jj E c g k i<(n:Int):=by
 rcases Int.lt_or_le (jj E c g k i) n with h|h
 .exact h
 .obtain ⟨m,hm⟩:∃m:Nat,jj E c g k i=(m:Int):=⟨(jj E c g k i).toNat,by omega⟩
  obtain⟨l,h1,h2,h3⟩:=Cg hE k m i hi hm;have:=h3.length_le_of_subset (l₂:=bm n) fun x hx=>eG.2 (h2 x hx).1;rw[cM,h1]at this;omega
theorem FA(hE:xu n E):∀(d i:Nat),i<n->jj E c g (n-1+d) i=jj E c g (n-1) i
 |0,i,_=>rfl
 |d+1,i,hi=>by
  have h1:=FA hE d i hi;have h2:=Nt (c:=c) (g:=g) hE (n-1+(d+1)) hi;rw[<-h1];have e:n-1+(d+1)=(n-1+d)+1:=by omega
  rw[e]at h2|-;simp only[jj]at h2|-;split
  .rename_i hc;rw[if_pos hc]at h2;omega
  .rfl
theorem Fz{k:Nat}(hE:xu n E)(h:∀i,i<n->jj E c g k i≠(k:Int)):∀(d i:Nat),i<n->jj E c g (k+d) i=jj E c g k i
 |0,_,_=>rfl
 |d+1,i,hi=>by
  have h1:=Fz hE h d;have e:k+(d+1)=(k+d)+1:=by omega
  rw[e];simp only[jj];rw[if_neg,h1 i hi];intro hc;obtain⟨e',he,h2⟩:=List.any_eq_true.1 hc.2;have h3:jj E c g (k+d) e'.1=((k+d:Nat):Int):=beq_iff_eq.1 (cf.1 h2).2;have he2:=hE.lt i hi e' he;rw[h1 e'.1 he2]at h3;have h4:=sQ (E:=E) (c:=c) (g:=g) k e'.1;have h5:d=0:=by omega
  subst h5;exact h e'.1 he2 h3
theorem Nu(hE:xu n E){k:Nat}(h:∀i,i<n->jj E c g k i≠(k:Int)){i:Nat}(hi:i<n):jj E c g k i=jj E c g (n-1) i:=by
 rcases Nat.le_total k (n-1)with h1|h1
 .obtain ⟨d,hd⟩:=Nat.exists_eq_add_of_le h1;rw[hd];exact(Fz hE h d i hi).symm
 .obtain ⟨d,hd⟩:=Nat.exists_eq_add_of_le h1;rw[hd];exact FA hE d i hi
end
end Go.Ways
