/- Costs of ways, by relaxing: round by round, and one switch after the other; steps. Plain. Conditions: as stated. -/
import Derived.Test.YtoekkpmeeclpeaaGreatFz
import Derived.Test.YtoekkpmeeclpeaaGreatSN
open Bool renaming eq_false_iff->vC,or_false->j7,true_and->fV
open List renaming append_nil->bO,getElem_map->jM,length_append->au,length_map->br,length_range->bB,length_replicate->bz,mem_append->aK,mem_append_left->bM,mem_cons->aO,mem_cons_of_mem->bp,mem_cons_self->aL,mem_map->aR,mem_of_getElem?->bA,mem_range->ct,mem_singleton->aB,range->aG,replicate->az,replicate_succ->gG
open Nat renaming le_refl->aw,le_trans->bg
open Option renaming bind_some->aa
open Option.some renaming inj->af
noncomputable section
namespace Go.Ways
open Ieee Go.Fl
abbrev vJ:Nat:=double.infRung
def P(a b:Nat):Nat:=plus double a b
theorem aaN{a b a' b':Nat}(h1:a<=a')(h2:b<=b'):P a b<=P a' b':=Vb h1 h2
theorem NX{a b:Nat}(h:b<=vJ):b<=P a b:=Rh h
theorem agP{a b:Nat}:P a b<=vJ:=IT
structure GE(n:Nat)(E:Nat->List (Nat×Nat)):Prop where
 lt:∀i,i<n->∀e∈E i,e.1<n
 ne:∀i,i<n->∀e∈E i,e.1≠i
 sym:∀i,i<n->∀e∈E i,(i,e.2)∈E e.1
def FL(E:Nat->List (Nat×Nat))(c:Nat->Nat)(i:Nat):Nat:=(E i).foldl (fun b e=>min b (P e.2 (c e.1))) (c i)
def B(E:Nat->List (Nat×Nat))(g:Nat):Nat->Nat->Nat
 |0=>fun i=>if i=g then 0 else vJ
 |k+1=>FL E (B E g k)
theorem TV{c:Nat->Nat}:∀(l:List (Nat×Nat))(b:Nat),l.foldl (fun b e=>min b (P e.2 (c e.1))) b<=b/\∀e∈l,l.foldl (fun b e=>min b (P e.2 (c e.1))) b<=P e.2 (c e.1)
 |[],b=>⟨aw _,by simp⟩
 |e::l,b=>by
  obtain⟨h1,h2⟩:=TV (c:=c) l (min b (P e.2 (c e.1)));simp only[List.foldl_cons];refine⟨by omega,fun f hf=>?_⟩;rcases aO.1 hf with hf|hf
  .rw [hf];omega
  .exact h2 f hf
theorem TX{c:Nat->Nat}{m:Nat}:∀(l:List (Nat×Nat))(b:Nat),m<=b->(∀e∈l,m<=P e.2 (c e.1))->m<=l.foldl (fun b e=>min b (P e.2 (c e.1))) b
 |[],_,h,_=>h
 |e::l,b,h,h2=>TX l (min b (P e.2 (c e.1))) (by have:=h2 e aL;omega) fun f hf=>h2 f (bp _ hf)
theorem OQ{E:Nat->List (Nat×Nat)}{c:Nat->Nat}{i:Nat}:FL E c i<=c i/\∀e∈E i,FL E c i<=P e.2 (c e.1):=TV (E i) (c i)
theorem X8{E:Nat->List (Nat×Nat)}{c:Nat->Nat}{i m:Nat}(h:m<=c i)(h2:∀e∈E i,m<=P e.2 (c e.1)):m<=FL E c i:=TX (E i) (c i) h h2
section
variable{n g:Nat}{E:Nat->List (Nat×Nat)}
theorem aeX(k i:Nat):B E g (k+1) i<=B E g k i:=OQ.1
theorem an0(k i:Nat):B E g k i<=vJ:=by induction k with|zero=>unfold B;split<;>omega|succ k ih=>exact bg (aeX k i) ih
theorem Ji(hE:GE n E){c:Nat->Nat}(h0:c g=0)(hI:∀i,i<n->c i<=vJ)(hs:∀i,i<n->∀e∈E i,c i<=P e.2 (c e.1)):∀k i,i<n->c i<=B E g k i
 |0,i,hi=>by
  unfold B;split
  .rename_i h;rw[h,h0];exact aw _
  .exact hI i hi
 |k+1,i,hi=>X8 (Ji hE h0 hI hs k i hi) fun e he=>bg (hs i hi e he) (aaN (aw _) (Ji hE h0 hI hs k e.1 (hE.lt i hi e he)))
inductive Tp(E:Nat->List (Nat×Nat))(g:Nat)(out:Nat->Nat)(Fd:List Nat):Nat->Prop
 |jA:Tp E g out Fd g
 |iT {i c w:Nat}:c∈Fd->(c,w)∈E i->P w (out c)=out i->Tp E g out Fd c->Tp E g out Fd i
theorem Tp.tH{out out':Nat->Nat}{cl cl':List Nat}(hc:∀c∈cl,out' c=out c)(hm:∀c∈cl,c∈cl'){i:Nat}(h:Tp E g out cl i)(hi:out' i=out i):Tp E g out' cl' i:=by induction h with|jA=>exact .jA|@iT i c w h1 h2 h3 _ ih=>exact .iT (hm c h1) h2 (by rw[hc c h1,h3,hi]) (ih (hc c h1))
structure WI(n g:Nat)(E:Nat->List (Nat×Nat))(cl op:List Nat)(out:Nat->Nat):Prop where
 Rn:(cl++op).Perm (aG n)
 zF:∀i,i<n->out i<=vJ
 g0:out g=0
 WL:∀i,i<n->B E g cl.length i<=out i
 sub:∀c∈cl,∀e∈E c,out e.1<=P e.2 (out c)
 ord:∀c∈cl,∀o∈op,out c<=out o
 Ob:∀i,i<n->out i<vJ->Tp E g out cl i
theorem WI.HP(hg:g<n):WI n g E [] (aG n) (fun i=>if i=g then 0 else vJ)where
 Rn:=by rw[List.nil_append]
 zF:=fun i _=>by split<;>omega
 g0:=if_pos rfl
 WL:=fun i _=>aw _
 sub:=fun c hc=>nomatch hc
 ord:=fun c hc=>nomatch hc
 Ob:=fun i _ h=>by
  by_cases e:i=g
  .rw [e];exact .jA
  .rw [if_neg e]at h;omega
def zI(E:Nat->List (Nat×Nat))(out:Nat->Nat)(bK:Nat):List (Nat×Nat)->Nat->Nat
 |[]=>out
 |e::l=>fun j=>if j=e.1 then min (zI E out bK l j) (P e.2 (out bK))else zI E out bK l j
theorem BM{out:Nat->Nat}{bK:Nat}:∀(l:List (Nat×Nat))(j:Nat),zI E out bK l j<=out j/\(∀e∈l,e.1=j->zI E out bK l j<=P e.2 (out bK))
 |[],j=>⟨aw _,by simp⟩
 |e::l,j=>by
  obtain⟨h1,h2⟩:=BM (out:=out) (bK:=bK) l j;simp only[zI];split
  .rename_i h;refine⟨by omega,fun f hf hj=>?_⟩;rcases aO.1 hf with hf|hf
   .rw [hf];omega
   .have:=h2 f hf hj;omega
  .rename_i h;refine⟨h1,fun f hf hj=>?_⟩;rcases aO.1 hf with hf|hf
   .rw [hf]at hj;exact absurd hj.symm h
   .exact h2 f hf hj
theorem zU{out:Nat->Nat}{bK:Nat}:∀(l:List (Nat×Nat))(j:Nat),zI E out bK l j=out j\/∃e∈l,e.1=j/\zI E out bK l j=P e.2 (out bK)
 |[],j=>.inl rfl
 |e::l,j=>by
  simp only[zI];split
  .rename_i h;rcases Nat.le_total (zI E out bK l j) (P e.2 (out bK))with h1|h1
   .rw [Nat.min_eq_left h1];exact(zU l j).imp id fun⟨f,hf,h2⟩=>⟨f,bp _ hf,h2⟩
   .rw [Nat.min_eq_right h1];exact .inr ⟨e,aL,h.symm,rfl⟩
  .exact (zU l j).imp id fun⟨f,hf,h2⟩=>⟨f,bp _ hf,h2⟩
theorem WI.iT(hE:GE n E){cl op:List Nat}{bK:Nat}{out:Nat->Nat}(h:WI n g E cl (bK::op) out)(hmin:∀o∈op,out bK<=out o){l:List (Nat×Nat)}(hl:∀e,e∈l<->e∈E bK):WI n g E (cl++[bK]) op (zI E out bK l):=by
 have hmem:∀x,x∈cl\/x=bK\/x∈op->x<n:=fun x hx=>ct.1 (h.Rn.mem_iff.1 (by
  rcases hx with hx|hx|hx
  .exact bM _ hx
  .rw [hx];simp
  .simp [hx]))
 have hat:bK<n:=hmem bK (.inr (.inl rfl));have hout:=h.zF bK hat
 have keepAt:zI E out bK l bK=out bK:=by
  rcases zU (E:=E) (out:=out) (bK:=bK) l bK with h1|⟨e,he,h2,_⟩
  .exact h1
  .exact absurd h2 (hE.ne bK hat e ((hl e).1 he))
 have keepC:∀c∈cl,zI E out bK l c=out c:=fun c hc=>by
  rcases zU (E:=E) (out:=out) (bK:=bK) l c with h1|⟨e,he,h2,h3⟩
  .exact h1
  .have h4:=h.ord c hc bK aL;have h5:=NX (a:=e.2) hout;have h6:=(BM (E:=E) (out:=out) (bK:=bK) l c).1;omega
 refine⟨by rw[List.append_assoc];exact h.Rn,fun i hi=>bg (BM _ i).1 (h.zF i hi),?_,fun i hi=>?_,fun c hc e he=>?_,fun c hc o ho=>?_,fun i hi hlt=>?_⟩
 .have:=(BM (E:=E) (out:=out) (bK:=bK) l g).1;rw[h.g0]at this;omega
 .rw [au];show B E g (cl.length+1) i<=_;rcases zU (E:=E) (out:=out) (bK:=bK) l i with h1|⟨e,he,h2,h3⟩
  .rw [h1];exact bg (aeX _ _) (h.WL i hi)
  .rw [h3];have hsym:=hE.sym bK hat e ((hl e).1 he);rw[h2]at hsym;exact bg (OQ.2 _ hsym) (aaN (aw _) (h.WL bK hat))
 .rcases aK.1 hc with hc|hc
  .rw [keepC c hc];exact bg (BM _ _).1 (h.sub c hc e he)
  .obtain rfl:=aB.1 hc;rw[keepAt];exact(BM _ _).2 e ((hl e).2 he) rfl
 .have ho':out bK<=zI E out bK l o:=by
   rcases zU (E:=E) (out:=out) (bK:=bK) l o with h1|⟨e,he,h2,h3⟩
   .rw [h1];exact hmin o ho
   .rw [h3];exact NX hout
  rcases aK.1 hc with hc|hc
  .rw [keepC c hc];exact bg (h.ord c hc bK aL) ho'
  .obtain rfl:=aB.1 hc;rw[keepAt];exact ho'
 .rcases zU (E:=E) (out:=out) (bK:=bK) l i with h1|⟨e,he,h2,h3⟩
  .exact (h.Ob i hi (by omega)).tH keepC (fun c hc=>bM _ hc) h1
  .have hlt2:out bK<vJ:=by have:=NX (a:=e.2) hout;omega
   have hsym:=hE.sym bK hat e ((hl e).1 he);rw[h2]at hsym;exact .iT (List.mem_append_right _ aL) hsym (by rw[keepAt,h3]) ((h.Ob bK hat hlt2).tH keepC (fun c hc=>bM _ hc) keepAt)
theorem WI.CI(hE:GE n E){cl:List Nat}{out:Nat->Nat}(h:WI n g E cl [] out):(∀i,i<n->out i=B E g n i)/\(∀i,i<n->out i<vJ->Tp E g out cl i):=by
 have hp:=h.Rn;rw[bO]at hp;have hlen:=hp.length_eq;rw[bB]at hlen;refine⟨fun i hi=>Nat.le_antisymm (Ji hE h.g0 h.zF (fun i hi e he=>?_) n i hi) ?_,h.Ob⟩
 .exact h.sub e.1 (hp.mem_iff.2 (ct.2 (hE.lt i hi e he))) (i,e.2) (hE.sym i hi e he)
 .have:=h.WL i hi;rwa[hlen]at this
def b9(E:Nat->List (Nat×Nat))(c:Nat->Nat)(i:Nat)(e:Nat×Nat):Bool:=decide (c i<vJ)&&decide (e.2<vJ)&&(P e.2 (c e.1)==c i)
def mu(E:Nat->List (Nat×Nat))(c:Nat->Nat)(g:Nat):Nat->Nat->Int
 |0=>fun i=>if i=g then 0 else-1
 |k+1=>fun i=>if mu E c g k i=-1/\(E i).any (fun e=>b9 E c i e&&(mu E c g k e.1==(k:Int)))=true then(k:Int)+1 else mu E c g k i
variable{c:Nat->Nat}
theorem yc:∀k i,-1<=mu E c g k i/\mu E c g k i<=k
 |0,i=>by simp only[mu];split<;>omega
 |k+1,i=>by have:=yc k i;simp only[mu];split<;>omega
theorem F6{k i:Nat}(h:mu E c g k i≠-1):mu E c g (k+1) i=mu E c g k i:=by simp only[mu];rw[if_neg fun q=>h q.1]
theorem PG:∀(k i:Nat)(m:Nat),mu E c g k i=(m:Int)+1->∃e∈E i,b9 E c i e=true/\mu E c g k e.1=(m:Int)
 |0,i,m,h=>by simp only[mu]at h;split at h<;>omega
 |k+1,i,m,h=>by
  have hk:=h;simp only[mu]at h;split at h
  .rename_i hc;obtain⟨e,he,h2⟩:=List.any_eq_true.1 hc.2;have h2:=Bool.and_eq_true_iff.1 h2;have h3:mu E c g k e.1=(k:Int):=beq_iff_eq.1 h2.2;refine⟨e,he,h2.1,?_⟩;rw[F6 (by omega),h3];omega
  .obtain ⟨e,he,h2,h3⟩:=PG k i m h;exact⟨e,he,h2,by rw[F6 (by omega),h3]⟩
theorem Ma(hE:GE n E)(k:Nat):∀(m i:Nat),i<n->mu E c g k i=(m:Int)->∃l:List Nat,l.length=m+1/\(∀x∈l,x<n/\mu E c g k x<=(m:Int))/\l.Nodup
 |0,i,hi,h=>⟨[i],rfl,by intro x hx;rw[aB.1 hx];exact⟨hi,by omega⟩,List.pairwise_singleton _ _⟩
 |m+1,i,hi,h=>by
  obtain⟨e,he,_,h3⟩:=PG k i m (by rw[h];rfl);obtain⟨l,h4,h5,h6⟩:=Ma hE k m e.1 (hE.lt i hi e he) h3;refine⟨i::l,by rw[List.length_cons,h4],fun x hx=>?_,List.nodup_cons.2 ⟨fun hx=>?_,h6⟩⟩
  .rcases aO.1 hx with hx|hx
   .rw [hx];exact⟨hi,by omega⟩
   .have:=h5 x hx;exact⟨this.1,by omega⟩
  .have:=h5 i hx;omega
theorem Ze(hE:GE n E)(k:Nat){i:Nat}(hi:i<n):mu E c g k i<(n:Int):=by
 rcases Int.lt_or_le (mu E c g k i) n with h|h
 .exact h
 .obtain ⟨m,hm⟩:∃m:Nat,mu E c g k i=(m:Int):=⟨(mu E c g k i).toNat,by omega⟩
  obtain⟨l,h1,h2,h3⟩:=Ma hE k m i hi hm;have:=h3.length_le_of_subset (l₂:=aG n) fun x hx=>ct.2 (h2 x hx).1;rw[bB,h1]at this;omega
theorem PF(hE:GE n E):∀(d i:Nat),i<n->mu E c g (n-1+d) i=mu E c g (n-1) i
 |0,i,_=>rfl
 |d+1,i,hi=>by
  have h1:=PF hE d i hi;have h2:=Ze (c:=c) (g:=g) hE (n-1+(d+1)) hi;rw[<-h1];have e:n-1+(d+1)=(n-1+d)+1:=by omega
  rw[e]at h2|-;simp only[mu]at h2|-;split
  .rename_i hc;rw[if_pos hc]at h2;omega
  .rfl
theorem PE{k:Nat}(hE:GE n E)(h:∀i,i<n->mu E c g k i≠(k:Int)):∀(d i:Nat),i<n->mu E c g (k+d) i=mu E c g k i
 |0,_,_=>rfl
 |d+1,i,hi=>by
  have h1:=PE hE h d;have e:k+(d+1)=(k+d)+1:=by omega
  rw[e];simp only[mu];rw[if_neg,h1 i hi];intro hc;obtain⟨e',he,h2⟩:=List.any_eq_true.1 hc.2;have h3:mu E c g (k+d) e'.1=((k+d:Nat):Int):=beq_iff_eq.1 (Bool.and_eq_true_iff.1 h2).2;have he2:=hE.lt i hi e' he;rw[h1 e'.1 he2]at h3;have h4:=yc (E:=E) (c:=c) (g:=g) k e'.1;have h5:d=0:=by omega
  subst h5;exact h e'.1 he2 h3
theorem Zf(hE:GE n E){k:Nat}(h:∀i,i<n->mu E c g k i≠(k:Int)){i:Nat}(hi:i<n):mu E c g k i=mu E c g (n-1) i:=by
 rcases Nat.le_total k (n-1)with h1|h1
 .obtain ⟨d,hd⟩:=Nat.exists_eq_add_of_le h1;rw[hd];exact(PE hE h d i hi).symm
 .obtain ⟨d,hd⟩:=Nat.exists_eq_add_of_le h1;rw[hd];exact PF hE d i hi
end
end Go.Ways
open Go.Ev Go Go.Fl Go.Ways
namespace Go.Proofs.YtoekkpmeeclpeaaGreat.S
theorem jX{α:Type}(l:List α):(Sl.mk l).l=l:=rfl
theorem Fp{n:Nat}(h:n<9223372036854775807):wr .i64 ((n:Int)+1)=((n+1:Nat):Int):=pN h
def f9{α:Type}:List α->Sl α
 |[]=>.nil
 |x::l=>.mk (x::l)
theorem yC{α:Type}(l:List α):(f9 l).l=l:=by cases l<;>rfl
theorem xW{α:Type}{l:List α}(h:l≠[]):f9 l=.mk l:=by cases l with|nil=>exact absurd rfl h|cons=>rfl
theorem Li{α β:Type}[Inhabited α]{f:Int×Sl β->Option ((Int×Sl β)⊕Sl β)}(l:List α)(g:α->β)
  (h1:∀(i:Nat)(s:Sl β),i<l.length->s.l.length=i->f ((i:Int),s)=some (.inl (((i+1:Nat):Int),Sl.mk (s.l++[g (gt l i)]))))
  (h2:∀s:Sl β,f ((l.length:Int),s)=some (.inr s)):aJ f (0,Sl.nil)=some (f9 (l.map g)):=by
 have key:∀(R O:List α)(s:Sl β),l=O++R->s=f9 (O.map g)->aJ f ((O.length:Int),s)=some (f9 (l.map g)):=by
  intro R;induction R with
  |nil=>
   intro O s e hs;have e:l=O:=by rw[e,bO]
   subst e;rw[hs];exact bW (h2 _)
  |cons x R ih=>
   intro O s e hs;have hx:gt l O.length=x:=by rw[e];exact Gd
   have h:=h1 O.length s (by rw[e];simp) (by rw[hs,yC,br]);rw[hx]at h;refine(dD h).trans ?_;have:=ih (O++[x]) (Sl.mk (s.l++[g x])) (by rw[e];simp) (by rw[hs,yC,List.map_append,xW (by simp)];rfl);rw[au]at this;exact this
 exact key l [] Sl.nil rfl rfl
theorem Q7{S β:Type}{f:S->Option (S⊕β)}(st:Nat->S)(k:Nat){b:β}(h1:∀i,i<k->f (st i)=some (.inl (st (i+1))))(h2:f (st k)=some (.inr b)):aJ f (st 0)=some b:=by
 have:∀(d i:Nat),i+d=k->aJ f (st i)=some b:=by
  intro d;induction d with
  |zero=>
   intro i hi;obtain rfl:i=k:=by omega
   exact bW h2
  |succ d ih=>intro i hi;exact(dD (h1 i (by omega))).trans (ih (i+1) (by omega))
 exact this k 0 (by omega)
abbrev gM(l:List Nat):List Int:=l.map (fun n:Nat=>(n:Int))
theorem wO{l:List Nat}{i:Nat}(h:i<l.length):gt (gM l) i=((gt l i:Nat):Int):=by rw[dx (by rw[br];exact h),dx h,jM]
theorem agc{α β:Type}[Inhabited α][Inhabited β]{l:List α}{g:α->β}{i:Nat}(h:i<l.length):gt (l.map g) i=g (gt l i):=by rw[dx (by rw[br];exact h),dx h,jM]
abbrev dK{α:Type}(n:Nat)(f:Nat->α):List α:=(aG n).map f
theorem eo{α:Type}(n:Nat)(f:Nat->α):(dK n f).length=n:=by simp[dK]
theorem jt{α:Type}[Inhabited α]{n i:Nat}{f:Nat->α}(h:i<n):gt (dK n f) i=f i:=by rw[dx (by rw[eo];exact h)];simp[dK]
theorem sM{α:Type}{n i:Nat}{f:Nat->α}{v:α}(h:i<n):(dK n f).set i v=dK n (fun j=>if j=i then v else f j):=by
 refine List.ext_getElem (by simp[dK]) fun j h1 h2=>?_;rw[List.getElem_set];simp only[dK,jM,List.getElem_range];by_cases e:i=j
 .rw [if_pos e,if_pos e.symm]
 .rw [if_neg e,if_neg fun q=>e q.symm]
theorem iP{α:Type}{n:Nat}{f g:Nat->α}(h:∀i,i<n->f i=g i):dK n f=dK n g:=List.map_congr_left fun i hi=>h i (ct.1 hi)
theorem QX{α:Type}{x z:α}{i m:Nat}:kV (az i x++az m z) i ((az i x).take m)=az (i+min i m) x++az (m-min i m) z:=by
 unfold kV;rw[List.take_replicate,bz];have e1:(az i x++az m z).take i=az i x:=by rw[List.take_append_of_le_length (by simp)];simp
 have e2:(az i x++az m z).drop (i+min m i)=az (m-min m i) z:=by
  rw[List.drop_append,List.drop_replicate,List.drop_replicate,bz];have:i-(i+min m i)=0:=by omega
  rw[this];simp
 rw[e1,e2,<-List.replicate_append_replicate,Nat.min_comm m i]
theorem OO{α:Type}{f:(Int×Sl α)->Option ((Int×Sl α)⊕(Sl α))}(hf:∀i7 s8,f (i7,s8)=bif decide (i7<(s8.l.length:Int))then((rG s8.l i7 s8.l.length).bind fun l9=>
 (rG s8.l 0 i7).bind fun l10=>
 some (.inl (wr .i64 (i7+((min ((s8.to l10).l).length ((s8.to l9).l).length:Nat):Int)),(s8.to (IG s8.l i7.toNat ((s8.to l9).l).length ((s8.to l10).l))))))else
 (some (.inr s8))) (x z:α) (n:Nat) (hn:n<=8):∀(k i:Nat),n-i<=k->1<=i->i<=n->aJ f ((i:Int),Sl.mk (az i x++az (n-i) z))=some (Sl.mk (az n x)):=by
 intro k;induction k with
 |zero=>
  intro i hk h1 hi;obtain rfl:i=n:=by omega
  refine bW ?_;rw[hf,jX,decide_eq_false (by simp)];simp
 |succ k ih=>
  intro i hk h1 hi;by_cases he:i=n
  .exact ih i (by omega) h1 hi
  .have hlen:(az i x++az (n-i) z).length=n:=by simp;omega
   have c1:rG (az i x++az (n-i) z) (i:Int) ((az i x++az (n-i) z).length:Int)=some (az (n-i) z):=by
    unfold rG;rw[if_pos ⟨by omega,by rw[hlen];omega,Int.le_refl _⟩,hlen];congr 1;have e1:((i:Nat):Int).toNat=i:=by omega
    have e2:((n:Nat):Int).toNat=n:=by omega
    rw[e1,e2,List.drop_append,List.drop_replicate,bz,Nat.sub_self];simp
   have c2:rG (az i x++az (n-i) z) 0 (i:Int)=some (az i x):=by
    unfold rG;rw[if_pos ⟨by omega,by omega,by rw[hlen];omega⟩];congr 1;have e1:((i:Nat):Int).toNat=i:=by omega
    rw[e1];simp
   refine(dD (a':=(((i+min i (n-i):Nat):Int),Sl.mk (az (i+min i (n-i)) x++az (n-(i+min i (n-i))) z))) ?_).trans (ih _ (by omega) (by omega) (by omega));rw[hf,jX,decide_eq_true (by rw[hlen];omega),cond_true,c1,aa,c2,aa];show some (Sum.inl (wr .i64 ((i:Int)+((min (az i x).length (az (n-i) z).length:Nat):Int)),Sl.mk (kV (az i x++az (n-i) z) ((i:Nat):Int).toNat ((az i x).take (az (n-i) z).length))))=_;have e1:((i:Nat):Int).toNat=i:=by omega
   rw[e1,bz,bz,QX,gZ (by omega) (by omega)];have e3:n-i-min i (n-i)=n-(i+min i (n-i)):=by omega
   rw[e3];congr 3
theorem Tz{n:Nat}(h0:1<=n)(h:n<=8):lz (wr .u64 (((1:Nat):Int))) (wr .u64 (n:Int))=some (0,(n:Int)):=by
 have:∀k:Fin 8,lz (wr .u64 (((1:Nat):Int))) (wr .u64 ((k.val:Int)+1))=some (0,(k.val:Int)+1):=by unfold lz pq;rw[p_];decide+kernel
 have h2:=this ⟨n-1,by omega⟩;have e:(((n-1:Nat):Int))+1=(n:Int):=by omega
 simp only[e]at h2;exact h2
theorem X6{x:Nat}{n:Nat}(h0:1<=n)(h:n<=8):fw (Sl.mk [x]) (n:Int)=some (Sl.mk (az n x)):=by
 unfold fw;have e1:((Sl.mk [x]:Sl Nat).l.length:Int)=((1:Nat):Int):=rfl;have w:wr .i64 (n:Int)=(n:Int):=gZ (by omega) (by omega);rw[decide_eq_false (by omega),cond_false,e1,Tz h0 h,aa];simp only[];rw[decide_eq_false (by decide),decide_eq_false (by omega),j7,cond_false,w];have hm:Fm 0 (n:Int) (n:Int)=some (az n 0):=by unfold Fm;rw[if_pos (by omega)];rfl
 rw[hm,aa]
 have hs:Sl.mk (IG (az n 0) 0 (az n 0).length (Sl.mk [x]:Sl Nat).l)=Sl.mk (az 1 x++az (n-1) 0):=by
  obtain⟨m,rfl⟩:∃m,n=m+1:=⟨n-1,by omega⟩
  simp[IG,kV,gG,Sl.l]
 have hmin:((min (Sl.mk [x]:Sl Nat).l.length (az n 0).length:Nat):Int)=((1:Nat):Int):=by rw[bz];show((min 1 n:Nat):Int)=_;omega
 rw[hs,hmin,OO (fun _ _=>rfl) x 0 n h (n-1) 1 (aw _) (aw _) h0];rfl
theorem Jz{x:Int}{n:Nat}(h0:1<=n)(h:n<=8):ft (Sl.mk [x]) (n:Int)=some (Sl.mk (az n x)):=by
 unfold ft;have e1:((Sl.mk [x]:Sl Int).l.length:Int)=((1:Nat):Int):=rfl;have w:wr .i64 (n:Int)=(n:Int):=gZ (by omega) (by omega);rw[decide_eq_false (by omega),cond_false,e1,Tz h0 h,aa];simp only[];rw[decide_eq_false (by decide),decide_eq_false (by omega),j7,cond_false,w];have hm:Fm (0:Int) (n:Int) (n:Int)=some (az n 0):=by unfold Fm;rw[if_pos (by omega)];rfl
 rw[hm,aa]
 have hs:Sl.mk (IG (az n 0) 0 (az n (0:Int)).length (Sl.mk [x]:Sl Int).l)=Sl.mk (az 1 x++az (n-1) 0):=by
  obtain⟨m,rfl⟩:∃m,n=m+1:=⟨n-1,by omega⟩
  simp[IG,kV,gG,Sl.l]
 have hmin:((min (Sl.mk [x]:Sl Int).l.length (az n (0:Int)).length:Nat):Int)=((1:Nat):Int):=by rw[bz];show((min 1 n:Nat):Int)=_;omega
 rw[hs,hmin,OO (fun _ _=>rfl) x 0 n h (n-1) 1 (aw _) (aw _) h0];rfl
def Fk(n:Nat):Bool:=decide (n<=9218868437227405312)||(n==9223372036854775808)
theorem Cc{n:Nat}:Fk n=true<->nn n:=by unfold Fk nn;rw[AQ,Bool.or_eq_true,decide_eq_true_eq,beq_iff_eq]
theorem ac2{n:Nat}(h:Jc n):Ch n=some (Fk n):=by
 unfold Ch;congr 1;by_cases hn:nn n
 .rw [acE hn,Cc.2 hn]
 .have e:Fk n=false:=by rw[vC];exact fun q=>hn (Cc.1 q)
  rw[e];cases hnan:nV n with
  |true=>rw[Ns (.inl hnan),T4 (.inl hnan)];rfl
  |false=>
   have z:ok 0:=⟨by decide,by decide⟩
   have p0:pl 0=0:=by decide
   have hf:=Da hnan;have hlt:pl n<0:=by unfold nn at hn;rw[AQ]at hn;unfold pl;split<;>omega
   rw[E9 (tY h hnan) z,Kk (tY h hnan) z,p0,decide_eq_false (by omega),decide_eq_false (by omega)];rfl
theorem aaa(n:Nat):B6 (n:Int)=some (Fk n):=by unfold B6 Fk;congr 1;have h1:decide ((n:Int)<=9218868437227405312)=decide (n<=9218868437227405312):=decide_eq_decide.2 (by omega);have h2:((n:Int)==9223372036854775808)=(n==9223372036854775808):=Lt n 9223372036854775808;rw[h1,h2]
theorem Vy(n:Nat):Fk (kQ n)=Fk n:=by
 cases h:nV n with
 |false=>rw[zu h]
 |true=>
  rw[Ht h];have h2:=Y2 h;have:Fk n=false:=by rw[vC];intro q;have:=Cc.1 q;unfold nn at this;rw[AQ]at this;omega
  rw[this];decide
def Vs(t:am)(L:List Nat):Bool:=decide (gB t)&&(L.length==t.aS.l.length&&L.all Fk)
theorem BQ{α β:Type}{p:α->Bool}{g:Nat->β}:∀(l:List α)(i:Nat),(lE (fun i x=>if p x then some (g i)else none) l i).isSome=l.any p
 |[],i=>rfl
 |x::l,i=>by simp only[lE,List.any_cons];cases p x with|true=>rfl|false=>exact BQ l (i+1)
theorem GT{t:am}{L:List Nat}(hw:∀x∈L,Jc x)(hb:L.length<=17592186044416):mD t (f9 (L.map kQ))=some (Vs t L):=by
 unfold mD Vs;rw[BJ,aa];by_cases hV:gB t
 .rw [decide_eq_true hV,cond_true];have hl:(f9 (L.map kQ)).l=L.map kQ:=yC _
  have h1:cN (f9 (L.map kQ))=some (match lE (fun i x=>if !(Fk x)then some (i:Int)else none) (L.map kQ) 0 with|some b=>b|none=>-1):=by
   unfold cN
   have:=xO (f:=dg (f9 (L.map kQ))) (L.map kQ) (fun i x=>if !(Fk x)then some (i:Int)else none) () (by rw[br];omega) (fun i hi=>by
    simp only[dg];rw[hl,decide_eq_true (by omega),cond_true,Bw hi,aa];unfold Az;rw[ac2 (by obtain⟨y,hy,e⟩:=aR.1 (xC hi);rw[<-e];exact ac_ (hw y hy)),aa,aa];cases Fk (gt (L.map kQ) i)<;>rfl) (by
    simp only[dg];rw[hl,decide_eq_false (by omega),cond_false])
   rw[this,aa];cases lE (fun i x=>if !(Fk x)then some (i:Int)else none) (L.map kQ) 0<;>rfl
  have h2:cD (f9 (L.map kQ))=some (!(L.all Fk)):=by
   unfold cD;rw[h1,aa];have h3:=BQ (p:=fun x=>!(Fk x)) (g:=fun i=>(i:Int)) (L.map kQ) 0;have h4:(L.map kQ).any (fun x=>!(Fk x))=!(L.all Fk):=by rw[List.any_map,List.not_all_eq_any_not];congr 1;funext x;show(!(Fk (kQ x)))=_;rw[Vy]
   rw[h4]at h3;rw[<-h3];congr 1;cases hsc:lE (fun i x=>if !(Fk x)then some (i:Int)else none) (L.map kQ) 0 with
   |none=>rfl
   |some b=>
    obtain⟨j,x,_,h5,_⟩:=kw hsc;split at h5
    .obtain rfl:=af h5;simp only[Option.isSome_some];exact decide_eq_true (by omega)
    .cases h5
  unfold wU;rw[hl,br,h2,aa,Lt,fV,Bool.not_not];cases(L.length==t.aS.l.length)<;>rfl
 .rw [decide_eq_false hV];rfl
theorem EK{t:am}{b:Sl Int}{L:List Nat}(hl:b.l=gM L)(hb:L.length<=30)(h1:t.aS.l.length<=30)(h2:t.aU.l.length<=12):qy t b=some (Vs t L):=by
 unfold qy Vs;rw[DL h1 h2,aa];by_cases hV:gB t
 .rw [decide_eq_true hV,cond_true];unfold CY;have e0:b.l.length=L.length:=by rw[hl,br]
  have:=xO (f:=uI b) L (fun _ x=>if !(Fk x)then some false else none) () (by omega) (fun i hi=>by
   simp only[uI];rw[decide_eq_true (by omega),cond_true,Bw (by omega),aa,hl,wO hi,aaa,aa];cases Fk (gt L i)<;>rfl) (by
   simp only[uI];rw[decide_eq_false (by omega),cond_false])
  rw[this,aa,e0,Lt];have h3:=BQ (p:=fun x=>!(Fk x)) (g:=fun _=>false) L 0;have h4:L.any (fun x=>!(Fk x))=!(L.all Fk):=by rw[List.not_all_eq_any_not]
  rw[h4]at h3;rw[fV];cases hsc:lE (fun _ x=>if !(Fk x)then some false else none) L 0 with
  |none=>
   rw[hsc]at h3;have h3':L.all Fk=true:=by cases h:L.all Fk with|true=>rfl|false=>rw[h]at h3;cases h3
   rw[h3',Bool.and_true];rfl
  |some z=>
   rw[hsc]at h3;have h3':L.all Fk=false:=by cases h:L.all Fk with|true=>rw[h]at h3;cases h3|false=>rfl
   obtain⟨j,x,_,h5,_⟩:=kw hsc;split at h5
   .obtain rfl:=af h5;rw[h3',Bool.and_false];rfl
   .cases h5
 .rw [decide_eq_false hV];rfl
def wt(L:List Nat)(k:Int):Nat:=ab (gt L k.toNat)
def jI(t:am)(L:List Nat)(i:Nat):List (Nat×Nat):=(gd t (i:Int)).map fun x=>(x.To.toNat,wt L x.ku)
theorem qY{t:am}(hV:gB t){i:Nat}{x:aM}(h:x∈gd t (i:Int)):0<=x.To/\x.To<t.ao/\x.To≠(i:Int)/\0<=x.ku/\x.ku<t.aS.l.length:=by
 obtain⟨j,l,b,h1,h2,h3⟩:=(uP hV).1 h;have hp:=hV.jq ⟨x.To,b⟩ (by rw[mr];exact bM _ (List.mem_flatMap.2 ⟨l,bA h1,h2.symm.yq⟩));have hj:=(List.getElem?_eq_some_iff.1 h1).1;have hl:=hV.VL l (bA h1);have hp1:0<=x.To/\x.To<t.ao:=hp.1;refine⟨hp1.1,hp1.2,?_,by omega,by omega⟩;rcases h2 with⟨a1,_,a3,_⟩|⟨a1,_,a3,_⟩
 .rw [a3,a1];exact fun e=>hl.1 e.symm
 .rw [a3,a1];exact fun e=>hl.1 e
theorem Ge{t:am}(hV:gB t)(L:List Nat):GE t.ao.toNat (jI t L)where
 lt:=fun i _ e he=>by obtain⟨x,hx,rfl⟩:=aR.1 he;have:=qY hV hx;show x.To.toNat<_;omega
 ne:=fun i _ e he=>by obtain⟨x,hx,rfl⟩:=aR.1 he;have:=qY hV hx;show x.To.toNat≠i;omega
 sym:=fun i _ e he=>by
  obtain⟨x,hx,rfl⟩:=aR.1 he;have hk:=qY hV hx;obtain⟨j,l,b,h1,h2,h3⟩:=(uP hV).1 hx;have hto:((x.To.toNat:Nat):Int)=x.To:=by omega
  refine aR.2 ⟨(b,(i:Int),x.ku),(uP hV).2 ⟨j,l,x.fU,h1,?_,h3⟩,rfl⟩;show IK l ((x.To.toNat:Nat):Int) b (i:Int) x.fU;rw[hto];exact h2.symm
theorem OZ{a b:Nat}(ha:nn a)(hb:b<=vJ):wi a b=some (P (ab a) b):=by
 unfold wi;obtain⟨h1,h2⟩:=aaG ha (Ag hb);rw[Av hb]at h2;rw[Mk (EU h1),zu (rC h1),aa];have z:ok 0:=⟨by decide,by decide⟩
 have p0:pl 0=0:=by decide
 rw[Kk (tY (EU h1) (rC h1)) z,p0,H6 h1];unfold P;rw[<-h2];by_cases h0:ab (He .f64 a b)=0
 .rw [h0];rfl
 .rw [decide_eq_false (by omega),cond_false];congr 1;unfold ab at h0|-;split
  .rename_i h;rw[if_pos h]at h0;exact absurd rfl h0
  .rfl
theorem L0{a b:Nat}(ha:nn a)(hb:b<=vJ):yQ (a:Int) (b:Int)=some ((P (ab a) b:Nat):Int):=by
 unfold yQ;obtain⟨h1,h2⟩:=aaG ha (Ag hb);rw[Av hb]at h2;rw[Kf,aa,Kf,aa];unfold yg;rw[FX,rC h1,cond_false,aa,KC,zu (rC h1),aa];have e:(((He .f64 a b:Nat):Int)==9223372036854775808)=(He .f64 a b==9223372036854775808):=Lt _ 9223372036854775808;rw[e];unfold P;rw[<-h2];unfold ab;by_cases hc:He .f64 a b=9223372036854775808
 .rw [hc,if_pos rfl];rfl
 .rw [beq_eq_false_iff_ne.2 hc,if_neg hc];rfl
theorem acj{a b:Nat}(ha:a<=vJ)(hb:b<=vJ):Hc .f64 a b=min a b:=by
 have oa:=tY (EU (Ag ha)) (rC (Ag ha));have ob:=tY (EU (Ag hb)) (rC (Ag hb));have h:FloatKind.f64.format.order a b=some (compare (pl a) (pl b)):=FV oa ob;unfold Hc;rw[h,H6 (Ag ha),H6 (Ag hb),Av ha,Av hb];rcases Nat.lt_trichotomy a b with e|e|e
 .rw [Int.compare_eq_lt.2 (by omega)];show a=_;omega
 .rw [Int.compare_eq_eq.2 (by omega)];subst e;show(if _ then a else a)=_;rw[ite_self];omega
 .rw [Int.compare_eq_gt.2 (by omega)];show b=_;omega
end Go.Proofs.YtoekkpmeeclpeaaGreat.S
