/- Costs of ways, by relaxing: round by round, and one switch after the other; steps. Plain. Conditions: as stated. -/
import Derived.Test.YtoekkpmeeclpeaaGreatFz
import Derived.Test.YtoekkpmeeclpeaaGreatSN
open Bool renaming or_false->oW
open List renaming append_nil->br,getElem_map->jg,length_append->aA,length_map->gq,length_range->dH,length_replicate->bo,mem_append->aG,mem_append_left->bw,mem_cons->aI,mem_cons_of_mem->bc,mem_cons_self->aF,mem_map->aP,mem_of_getElem?->bl,mem_range->cM,mem_singleton->az,range->aK,replicate->ay,replicate_succ->eZ
open Nat renaming le_refl->aq,le_trans->bh
open Option renaming bind_some->af
open Option.some renaming inj->ac
noncomputable section
namespace Go.Ways
open Ieee Go.Fl
abbrev w7:Nat:=double.infRung
def P(a b:Nat):Nat:=plus double a b
theorem SY{a b a' b':Nat}(h1:a<=a')(h2:b<=b'):P a b<=P a' b':=NR h1 h2
theorem Hn{a b:Nat}(h:b<=w7):b<=P a b:=Ks h
theorem Yu{a b:Nat}:P a b<=w7:=CT
structure A7(n:Nat)(E:Nat->List (Nat×Nat)):Prop where
 lt:∀i,i<n->∀e∈E i,e.1<n
 ne:∀i,i<n->∀e∈E i,e.1≠i
 VW:∀i,i<n->∀e∈E i,(i,e.2)∈E e.1
def L1(E:Nat->List (Nat×Nat))(c:Nat->Nat)(i:Nat):Nat:=(E i).foldl (fun b e=>min b (P e.2 (c e.1))) (c i)
def B(E:Nat->List (Nat×Nat))(g:Nat):Nat->Nat->Nat
 |0=>fun i=>if i=g then 0 else w7
 |k+1=>L1 E (B E g k)
theorem MD{c:Nat->Nat}:∀(l:List (Nat×Nat))(b:Nat),l.foldl (fun b e=>min b (P e.2 (c e.1))) b<=b/\∀e∈l,l.foldl (fun b e=>min b (P e.2 (c e.1))) b<=P e.2 (c e.1)
 |[],b=>⟨aq _,by simp⟩
 |e::l,b=>by
  obtain⟨h1,h2⟩:=MD (c:=c) l (min b (P e.2 (c e.1)));simp only[List.foldl_cons];refine⟨by omega,fun f hf=>?_⟩;rcases aI.1 hf with hf|hf
  .rw [hf];omega
  .exact h2 f hf
theorem MF{c:Nat->Nat}{m:Nat}:∀(l:List (Nat×Nat))(b:Nat),m<=b->(∀e∈l,m<=P e.2 (c e.1))->m<=l.foldl (fun b e=>min b (P e.2 (c e.1))) b
 |[],_,h,_=>h
 |e::l,b,h,h2=>MF l (min b (P e.2 (c e.1))) (by have:=h2 e aF;omega) fun f hf=>h2 f (bc _ hf)
theorem Ih{E:Nat->List (Nat×Nat)}{c:Nat->Nat}{i:Nat}:L1 E c i<=c i/\∀e∈E i,L1 E c i<=P e.2 (c e.1):=MD (E i) (c i)
theorem Qp{E:Nat->List (Nat×Nat)}{c:Nat->Nat}{i m:Nat}(h:m<=c i)(h2:∀e∈E i,m<=P e.2 (c e.1)):m<=L1 E c i:=MF (E i) (c i) h h2
section
variable{n g:Nat}{E:Nat->List (Nat×Nat)}
theorem WK(k i:Nat):B E g (k+1) i<=B E g k i:=Ih.1
theorem afH(k i:Nat):B E g k i<=w7:=by induction k with|zero=>unfold B;split<;>omega|succ k ih=>exact bh (WK k i) ih
theorem De(hE:A7 n E){c:Nat->Nat}(h0:c g=0)(hI:∀i,i<n->c i<=w7)(hs:∀i,i<n->∀e∈E i,c i<=P e.2 (c e.1)):∀k i,i<n->c i<=B E g k i
 |0,i,hi=>by
  unfold B;split
  .rename_i h;rw[h,h0];exact aq _
  .exact hI i hi
 |k+1,i,hi=>Qp (De hE h0 hI hs k i hi) fun e he=>bh (hs i hi e he) (SY (aq _) (De hE h0 hI hs k e.1 (hE.lt i hi e he)))
inductive Tp(E:Nat->List (Nat×Nat))(g:Nat)(out:Nat->Nat)(zK:List Nat):Nat->Prop
 |gV:Tp E g out zK g
 |gP {i c w:Nat}:c∈zK->(c,w)∈E i->P w (out c)=out i->Tp E g out zK c->Tp E g out zK i
theorem Tp.u9{out out':Nat->Nat}{cl cl':List Nat}(hc:∀c∈cl,out' c=out c)(hm:∀c∈cl,c∈cl'){i:Nat}(h:Tp E g out cl i)(hi:out' i=out i):Tp E g out' cl' i:=by induction h with|gV=>exact .gV|@gP i c w h1 h2 h3 _ ih=>exact .gP (hm c h1) h2 (by rw[hc c h1,h3,hi]) (ih (hc c h1))
structure Pa(n g:Nat)(E:Nat->List (Nat×Nat))(cl op:List Nat)(out:Nat->Nat):Prop where
 Kv:(cl++op).Perm (aK n)
 uh:∀i,i<n->out i<=w7
 g0:out g=0
 Pd:∀i,i<n->B E g cl.length i<=out i
 sub:∀c∈cl,∀e∈E c,out e.1<=P e.2 (out c)
 V4:∀c∈cl,∀o∈op,out c<=out o
 HG:∀i,i<n->out i<w7->Tp E g out cl i
theorem Pa.Fv(hg:g<n):Pa n g E [] (aK n) (fun i=>if i=g then 0 else w7)where
 Kv:=by rw[List.nil_append]
 uh:=fun i _=>by split<;>omega
 g0:=if_pos rfl
 Pd:=fun i _=>aq _
 sub:=fun c hc=>nomatch hc
 V4:=fun c hc=>nomatch hc
 HG:=fun i _ h=>by
  by_cases e:i=g
  .rw [e];exact .gV
  .rw [if_neg e]at h;omega
def tE(E:Nat->List (Nat×Nat))(out:Nat->Nat)(cF:Nat):List (Nat×Nat)->Nat->Nat
 |[]=>out
 |e::l=>fun j=>if j=e.1 then min (tE E out cF l j) (P e.2 (out cF))else tE E out cF l j
theorem vZ{out:Nat->Nat}{cF:Nat}:∀(l:List (Nat×Nat))(j:Nat),tE E out cF l j<=out j/\(∀e∈l,e.1=j->tE E out cF l j<=P e.2 (out cF))
 |[],j=>⟨aq _,by simp⟩
 |e::l,j=>by
  obtain⟨h1,h2⟩:=vZ (out:=out) (cF:=cF) l j;simp only[tE];split
  .rename_i h;refine⟨by omega,fun f hf hj=>?_⟩;rcases aI.1 hf with hf|hf
   .rw [hf];omega
   .have:=h2 f hf hj;omega
  .rename_i h;refine⟨h1,fun f hf hj=>?_⟩;rcases aI.1 hf with hf|hf
   .rw [hf]at hj;exact absurd hj.symm h
   .exact h2 f hf hj
theorem uz{out:Nat->Nat}{cF:Nat}:∀(l:List (Nat×Nat))(j:Nat),tE E out cF l j=out j\/∃e∈l,e.1=j/\tE E out cF l j=P e.2 (out cF)
 |[],j=>.inl rfl
 |e::l,j=>by
  simp only[tE];split
  .rename_i h;rcases Nat.le_total (tE E out cF l j) (P e.2 (out cF))with h1|h1
   .rw [Nat.min_eq_left h1];exact(uz l j).imp id fun⟨f,hf,h2⟩=>⟨f,bc _ hf,h2⟩
   .rw [Nat.min_eq_right h1];exact .inr ⟨e,aF,h.symm,rfl⟩
  .exact (uz l j).imp id fun⟨f,hf,h2⟩=>⟨f,bc _ hf,h2⟩
theorem Pa.gP(hE:A7 n E){cl op:List Nat}{cF:Nat}{out:Nat->Nat}(h:Pa n g E cl (cF::op) out)(hmin:∀o∈op,out cF<=out o){l:List (Nat×Nat)}(hl:∀e,e∈l<->e∈E cF):Pa n g E (cl++[cF]) op (tE E out cF l):=by
 have hmem:∀x,x∈cl\/x=cF\/x∈op->x<n:=fun x hx=>cM.1 (h.Kv.mem_iff.1 (by
  rcases hx with hx|hx|hx
  .exact bw _ hx
  .rw [hx];simp
  .simp [hx]))
 have hat:cF<n:=hmem cF (.inr (.inl rfl));have hout:=h.uh cF hat
 have keepAt:tE E out cF l cF=out cF:=by
  rcases uz (E:=E) (out:=out) (cF:=cF) l cF with h1|⟨e,he,h2,_⟩
  .exact h1
  .exact absurd h2 (hE.ne cF hat e ((hl e).1 he))
 have keepC:∀c∈cl,tE E out cF l c=out c:=fun c hc=>by
  rcases uz (E:=E) (out:=out) (cF:=cF) l c with h1|⟨e,he,h2,h3⟩
  .exact h1
  .have h4:=h.V4 c hc cF aF;have h5:=Hn (a:=e.2) hout;have h6:=(vZ (E:=E) (out:=out) (cF:=cF) l c).1;omega
 refine⟨by rw[List.append_assoc];exact h.Kv,fun i hi=>bh (vZ _ i).1 (h.uh i hi),?_,fun i hi=>?_,fun c hc e he=>?_,fun c hc o ho=>?_,fun i hi hlt=>?_⟩
 .have:=(vZ (E:=E) (out:=out) (cF:=cF) l g).1;rw[h.g0]at this;omega
 .rw [aA];show B E g (cl.length+1) i<=_;rcases uz (E:=E) (out:=out) (cF:=cF) l i with h1|⟨e,he,h2,h3⟩
  .rw [h1];exact bh (WK _ _) (h.Pd i hi)
  .rw [h3];have hsym:=hE.VW cF hat e ((hl e).1 he);rw[h2]at hsym;exact bh (Ih.2 _ hsym) (SY (aq _) (h.Pd cF hat))
 .rcases aG.1 hc with hc|hc
  .rw [keepC c hc];exact bh (vZ _ _).1 (h.sub c hc e he)
  .obtain rfl:=az.1 hc;rw[keepAt];exact(vZ _ _).2 e ((hl e).2 he) rfl
 .have ho':out cF<=tE E out cF l o:=by
   rcases uz (E:=E) (out:=out) (cF:=cF) l o with h1|⟨e,he,h2,h3⟩
   .rw [h1];exact hmin o ho
   .rw [h3];exact Hn hout
  rcases aG.1 hc with hc|hc
  .rw [keepC c hc];exact bh (h.V4 c hc cF aF) ho'
  .obtain rfl:=az.1 hc;rw[keepAt];exact ho'
 .rcases uz (E:=E) (out:=out) (cF:=cF) l i with h1|⟨e,he,h2,h3⟩
  .exact (h.HG i hi (by omega)).u9 keepC (fun c hc=>bw _ hc) h1
  .have hlt2:out cF<w7:=by have:=Hn (a:=e.2) hout;omega
   have hsym:=hE.VW cF hat e ((hl e).1 he);rw[h2]at hsym;exact .gP (List.mem_append_right _ aF) hsym (by rw[keepAt,h3]) ((h.HG cF hat hlt2).u9 keepC (fun c hc=>bw _ hc) keepAt)
theorem Pa.w5(hE:A7 n E){cl:List Nat}{out:Nat->Nat}(h:Pa n g E cl [] out):(∀i,i<n->out i=B E g n i)/\(∀i,i<n->out i<w7->Tp E g out cl i):=by
 have hp:=h.Kv;rw[br]at hp;have hlen:=hp.length_eq;rw[dH]at hlen;refine⟨fun i hi=>Nat.le_antisymm (De hE h.g0 h.uh (fun i hi e he=>?_) n i hi) ?_,h.HG⟩
 .exact h.sub e.1 (hp.mem_iff.2 (cM.2 (hE.lt i hi e he))) (i,e.2) (hE.VW i hi e he)
 .have:=h.Pd i hi;rwa[hlen]at this
def qe(E:Nat->List (Nat×Nat))(c:Nat->Nat)(i:Nat)(e:Nat×Nat):Bool:=decide (c i<w7)&&decide (e.2<w7)&&(P e.2 (c e.1)==c i)
def mS(E:Nat->List (Nat×Nat))(c:Nat->Nat)(g:Nat):Nat->Nat->Int
 |0=>fun i=>if i=g then 0 else-1
 |k+1=>fun i=>if mS E c g k i=-1/\(E i).any (fun e=>qe E c i e&&(mS E c g k e.1==(k:Int)))=true then(k:Int)+1 else mS E c g k i
variable{c:Nat->Nat}
theorem wA:∀k i,-1<=mS E c g k i/\mS E c g k i<=k
 |0,i=>by simp only[mS];split<;>omega
 |k+1,i=>by have:=wA k i;simp only[mS];split<;>omega
theorem AF{k i:Nat}(h:mS E c g k i≠-1):mS E c g (k+1) i=mS E c g k i:=by simp only[mS];rw[if_neg fun q=>h q.1]
theorem I1:∀(k i:Nat)(m:Nat),mS E c g k i=(m:Int)+1->∃e∈E i,qe E c i e=true/\mS E c g k e.1=(m:Int)
 |0,i,m,h=>by simp only[mS]at h;split at h<;>omega
 |k+1,i,m,h=>by
  have hk:=h;simp only[mS]at h;split at h
  .rename_i hc;obtain⟨e,he,h2⟩:=List.any_eq_true.1 hc.2;have h2:=Bool.and_eq_true_iff.1 h2;have h3:mS E c g k e.1=(k:Int):=beq_iff_eq.1 h2.2;refine⟨e,he,h2.1,?_⟩;rw[AF (by omega),h3];omega
  .obtain ⟨e,he,h2,h3⟩:=I1 k i m h;exact⟨e,he,h2,by rw[AF (by omega),h3]⟩
theorem FO(hE:A7 n E)(k:Nat):∀(m i:Nat),i<n->mS E c g k i=(m:Int)->∃l:List Nat,l.length=m+1/\(∀x∈l,x<n/\mS E c g k x<=(m:Int))/\l.Nodup
 |0,i,hi,h=>⟨[i],rfl,by intro x hx;rw[az.1 hx];exact⟨hi,by omega⟩,List.pairwise_singleton _ _⟩
 |m+1,i,hi,h=>by
  obtain⟨e,he,_,h3⟩:=I1 k i m (by rw[h];rfl);obtain⟨l,h4,h5,h6⟩:=FO hE k m e.1 (hE.lt i hi e he) h3;refine⟨i::l,by rw[List.length_cons,h4],fun x hx=>?_,List.nodup_cons.2 ⟨fun hx=>?_,h6⟩⟩
  .rcases aI.1 hx with hx|hx
   .rw [hx];exact⟨hi,by omega⟩
   .have:=h5 x hx;exact⟨this.1,by omega⟩
  .have:=h5 i hx;omega
theorem Rh(hE:A7 n E)(k:Nat){i:Nat}(hi:i<n):mS E c g k i<(n:Int):=by
 rcases Int.lt_or_le (mS E c g k i) n with h|h
 .exact h
 .obtain ⟨m,hm⟩:∃m:Nat,mS E c g k i=(m:Int):=⟨(mS E c g k i).toNat,by omega⟩
  obtain⟨l,h1,h2,h3⟩:=FO hE k m i hi hm;have:=h3.length_le_of_subset (l₂:=aK n) fun x hx=>cM.2 (h2 x hx).1;rw[dH,h1]at this;omega
theorem I0(hE:A7 n E):∀(d i:Nat),i<n->mS E c g (n-1+d) i=mS E c g (n-1) i
 |0,i,_=>rfl
 |d+1,i,hi=>by
  have h1:=I0 hE d i hi;have h2:=Rh (c:=c) (g:=g) hE (n-1+(d+1)) hi;rw[<-h1];have e:n-1+(d+1)=(n-1+d)+1:=by omega
  rw[e]at h2|-;simp only[mS]at h2|-;split
  .rename_i hc;rw[if_pos hc]at h2;omega
  .rfl
theorem IZ{k:Nat}(hE:A7 n E)(h:∀i,i<n->mS E c g k i≠(k:Int)):∀(d i:Nat),i<n->mS E c g (k+d) i=mS E c g k i
 |0,_,_=>rfl
 |d+1,i,hi=>by
  have h1:=IZ hE h d;have e:k+(d+1)=(k+d)+1:=by omega
  rw[e];simp only[mS];rw[if_neg,h1 i hi];intro hc;obtain⟨e',he,h2⟩:=List.any_eq_true.1 hc.2;have h3:mS E c g (k+d) e'.1=((k+d:Nat):Int):=beq_iff_eq.1 (Bool.and_eq_true_iff.1 h2).2;have he2:=hE.lt i hi e' he;rw[h1 e'.1 he2]at h3;have h4:=wA (E:=E) (c:=c) (g:=g) k e'.1;have h5:d=0:=by omega
  subst h5;exact h e'.1 he2 h3
theorem Ri(hE:A7 n E){k:Nat}(h:∀i,i<n->mS E c g k i≠(k:Int)){i:Nat}(hi:i<n):mS E c g k i=mS E c g (n-1) i:=by
 rcases Nat.le_total k (n-1)with h1|h1
 .obtain ⟨d,hd⟩:=Nat.exists_eq_add_of_le h1;rw[hd];exact(IZ hE h d i hi).symm
 .obtain ⟨d,hd⟩:=Nat.exists_eq_add_of_le h1;rw[hd];exact I0 hE d i hi
end
end Go.Ways
open Go.Ev Go Go.Fl Go.Ways
namespace Go.Proofs.YtoekkpmeeclpeaaGreat.S
theorem ma{α:Type}(l:List α):(Sl.mk l).l=l:=rfl
theorem LK{n:Nat}(h:n<9223372036854775807):wr .i64 ((n:Int)+1)=((n+1:Nat):Int):=zS h
def gw{α:Type}:List α->Sl α
 |[]=>.nil
 |x::l=>.mk (x::l)
theorem v6{α:Type}(l:List α):(gw l).l=l:=by cases l<;>rfl
theorem LU{α:Type}{l:List α}(h:l≠[]):gw l=.mk l:=by cases l with|nil=>exact absurd rfl h|cons=>rfl
theorem Oj{α β:Type}[Inhabited α]{f:Int×Sl β->Option ((Int×Sl β)⊕Sl β)}(l:List α)(g:α->β)
  (h1:∀(i:Nat)(s:Sl β),i<l.length->s.l.length=i->f ((i:Int),s)=some (.inl (((i+1:Nat):Int),Sl.mk (s.l++[g (gt l i)]))))
  (h2:∀s:Sl β,f ((l.length:Int),s)=some (.inr s)):aU f (0,Sl.nil)=some (gw (l.map g)):=by
 have key:∀(R O:List α)(s:Sl β),l=O++R->s=gw (O.map g)->aU f ((O.length:Int),s)=some (gw (l.map g)):=by
  intro R;induction R with
  |nil=>
   intro O s e hs;have e:l=O:=by rw[e,br]
   subst e;rw[hs];exact cQ (h2 _)
  |cons x R ih=>
   intro O s e hs;have hx:gt l O.length=x:=by rw[e];exact FX
   have h:=h1 O.length s (by rw[e];simp) (by rw[hs,v6,gq]);rw[hx]at h;refine(fA h).trans ?_;have:=ih (O++[x]) (Sl.mk (s.l++[g x])) (by rw[e];simp) (by rw[hs,v6,List.map_append,LU (by simp)];rfl);rw[aA]at this;exact this
 exact key l [] Sl.nil rfl rfl
theorem TI{S β:Type}{f:S->Option (S⊕β)}(st:Nat->S)(k:Nat){b:β}(h1:∀i,i<k->f (st i)=some (.inl (st (i+1))))(h2:f (st k)=some (.inr b)):aU f (st 0)=some b:=by
 have:∀(d i:Nat),i+d=k->aU f (st i)=some b:=by
  intro d;induction d with
  |zero=>
   intro i hi;obtain rfl:i=k:=by omega
   exact cQ h2
  |succ d ih=>intro i hi;exact(fA (h1 i (by omega))).trans (ih (i+1) (by omega))
 exact this k 0 (by omega)
abbrev oQ(l:List Nat):List Int:=l.map (fun n:Nat=>(n:Int))
theorem MC{l:List Nat}{i:Nat}(h:i<l.length):gt (oQ l) i=((gt l i:Nat):Int):=by rw[dc (by rw[gq];exact h),dc h,jg]
theorem XU{α β:Type}[Inhabited α][Inhabited β]{l:List α}{g:α->β}{i:Nat}(h:i<l.length):gt (l.map g) i=g (gt l i):=by rw[dc (by rw[gq];exact h),dc h,jg]
abbrev eP{α:Type}(n:Nat)(f:Nat->α):List α:=(aK n).map f
theorem gl{α:Type}(n:Nat)(f:Nat->α):(eP n f).length=n:=by simp[eP]
theorem nr{α:Type}[Inhabited α]{n i:Nat}{f:Nat->α}(h:i<n):gt (eP n f) i=f i:=by rw[dc (by rw[gl];exact h)];simp[eP]
theorem uC{α:Type}{n i:Nat}{f:Nat->α}{v:α}(h:i<n):(eP n f).set i v=eP n (fun j=>if j=i then v else f j):=by
 refine List.ext_getElem (by simp[eP]) fun j h1 h2=>?_;rw[List.getElem_set];simp only[eP,jg,List.getElem_range];by_cases e:i=j
 .rw [if_pos e,if_pos e.symm]
 .rw [if_neg e,if_neg fun q=>e q.symm]
theorem iA{α:Type}{n:Nat}{f g:Nat->α}(h:∀i,i<n->f i=g i):eP n f=eP n g:=List.map_congr_left fun i hi=>h i (cM.1 hi)
theorem Kc{α:Type}{x z:α}{i m:Nat}:iP (ay i x++ay m z) i ((ay i x).take m)=ay (i+min i m) x++ay (m-min i m) z:=by
 unfold iP;rw[List.take_replicate,bo];have e1:(ay i x++ay m z).take i=ay i x:=by rw[List.take_append_of_le_length (by simp)];simp
 have e2:(ay i x++ay m z).drop (i+min m i)=ay (m-min m i) z:=by
  rw[List.drop_append,List.drop_replicate,List.drop_replicate,bo];have:i-(i+min m i)=0:=by omega
  rw[this];simp
 rw[e1,e2,<-List.replicate_append_replicate,Nat.min_comm m i]
theorem Ig{α:Type}{f:(Int×Sl α)->Option ((Int×Sl α)⊕(Sl α))}(hf:∀i7 s8,f (i7,s8)=bif decide (i7<(s8.l.length:Int))then((ou s8.l i7 s8.l.length).bind fun l9=>
 (ou s8.l 0 i7).bind fun l10=>
 some (.inl (wr .i64 (i7+((min ((s8.to l10).l).length ((s8.to l9).l).length:Nat):Int)),(s8.to (CI s8.l i7.toNat ((s8.to l9).l).length ((s8.to l10).l))))))else
 (some (.inr s8))) (x z:α) (n:Nat) (hn:n<=8):∀(k i:Nat),n-i<=k->1<=i->i<=n->aU f ((i:Int),Sl.mk (ay i x++ay (n-i) z))=some (Sl.mk (ay n x)):=by
 intro k;induction k with
 |zero=>
  intro i hk h1 hi;obtain rfl:i=n:=by omega
  refine cQ ?_;rw[hf,ma,decide_eq_false (by simp)];simp
 |succ k ih=>
  intro i hk h1 hi;by_cases he:i=n
  .exact ih i (by omega) h1 hi
  .have hlen:(ay i x++ay (n-i) z).length=n:=by simp;omega
   have c1:ou (ay i x++ay (n-i) z) (i:Int) ((ay i x++ay (n-i) z).length:Int)=some (ay (n-i) z):=by
    unfold ou;rw[if_pos ⟨by omega,by rw[hlen];omega,Int.le_refl _⟩,hlen];congr 1;have e1:((i:Nat):Int).toNat=i:=by omega
    have e2:((n:Nat):Int).toNat=n:=by omega
    rw[e1,e2,List.drop_append,List.drop_replicate,bo,Nat.sub_self];simp
   have c2:ou (ay i x++ay (n-i) z) 0 (i:Int)=some (ay i x):=by
    unfold ou;rw[if_pos ⟨by omega,by omega,by rw[hlen];omega⟩];congr 1;have e1:((i:Nat):Int).toNat=i:=by omega
    rw[e1];simp
   refine(fA (a':=(((i+min i (n-i):Nat):Int),Sl.mk (ay (i+min i (n-i)) x++ay (n-(i+min i (n-i))) z))) ?_).trans (ih _ (by omega) (by omega) (by omega));rw[hf,ma,decide_eq_true (by rw[hlen];omega),cond_true,c1,af,c2,af];show some (Sum.inl (wr .i64 ((i:Int)+((min (ay i x).length (ay (n-i) z).length:Nat):Int)),Sl.mk (iP (ay i x++ay (n-i) z) ((i:Nat):Int).toNat ((ay i x).take (ay (n-i) z).length))))=_;have e1:((i:Nat):Int).toNat=i:=by omega
   rw[e1,bo,bo,Kc,iY (by omega) (by omega)];have e3:n-i-min i (n-i)=n-(i+min i (n-i)):=by omega
   rw[e3];congr 3
theorem Mj{n:Nat}(h0:1<=n)(h:n<=8):ja (wr .u64 (((1:Nat):Int))) (wr .u64 (n:Int))=some (0,(n:Int)):=by
 have:∀k:Fin 8,ja (wr .u64 (((1:Nat):Int))) (wr .u64 ((k.val:Int)+1))=some (0,(k.val:Int)+1):=by unfold ja mc;rw[o_];decide+kernel
 have h2:=this ⟨n-1,by omega⟩;have e:(((n-1:Nat):Int))+1=(n:Int):=by omega
 simp only[e]at h2;exact h2
theorem Qm{x:Nat}{n:Nat}(h0:1<=n)(h:n<=8):dQ (Sl.mk [x]) (n:Int)=some (Sl.mk (ay n x)):=by
 unfold dQ;have e1:((Sl.mk [x]:Sl Nat).l.length:Int)=((1:Nat):Int):=rfl;have w:wr .i64 (n:Int)=(n:Int):=iY (by omega) (by omega);rw[decide_eq_false (by omega),cond_false,e1,Mj h0 h,af];simp only[];rw[decide_eq_false (by decide),decide_eq_false (by omega),oW,cond_false,w];have hm:zQ 0 (n:Int) (n:Int)=some (ay n 0):=by unfold zQ;rw[if_pos (by omega)];rfl
 rw[hm,af]
 have hs:Sl.mk (CI (ay n 0) 0 (ay n 0).length (Sl.mk [x]:Sl Nat).l)=Sl.mk (ay 1 x++ay (n-1) 0):=by
  obtain⟨m,rfl⟩:∃m,n=m+1:=⟨n-1,by omega⟩
  simp[CI,iP,eZ,Sl.l]
 have hmin:((min (Sl.mk [x]:Sl Nat).l.length (ay n 0).length:Nat):Int)=((1:Nat):Int):=by rw[bo];show((min 1 n:Nat):Int)=_;omega
 rw[hs,hmin,Ig (fun _ _=>rfl) x 0 n h (n-1) 1 (aq _) (aq _) h0];rfl
theorem Dr{x:Int}{n:Nat}(h0:1<=n)(h:n<=8):dN (Sl.mk [x]) (n:Int)=some (Sl.mk (ay n x)):=by
 unfold dN;have e1:((Sl.mk [x]:Sl Int).l.length:Int)=((1:Nat):Int):=rfl;have w:wr .i64 (n:Int)=(n:Int):=iY (by omega) (by omega);rw[decide_eq_false (by omega),cond_false,e1,Mj h0 h,af];simp only[];rw[decide_eq_false (by decide),decide_eq_false (by omega),oW,cond_false,w];have hm:zQ (0:Int) (n:Int) (n:Int)=some (ay n 0):=by unfold zQ;rw[if_pos (by omega)];rfl
 rw[hm,af]
 have hs:Sl.mk (CI (ay n 0) 0 (ay n (0:Int)).length (Sl.mk [x]:Sl Int).l)=Sl.mk (ay 1 x++ay (n-1) 0):=by
  obtain⟨m,rfl⟩:∃m,n=m+1:=⟨n-1,by omega⟩
  simp[CI,iP,eZ,Sl.l]
 have hmin:((min (Sl.mk [x]:Sl Int).l.length (ay n (0:Int)).length:Nat):Int)=((1:Nat):Int):=by rw[bo];show((min 1 n:Nat):Int)=_;omega
 rw[hs,hmin,Ig (fun _ _=>rfl) x 0 n h (n-1) 1 (aq _) (aq _) h0];rfl
def Hu(n:Nat):Bool:=decide (n<=9218868437227405312)||(n==9223372036854775808)
theorem yi{n:Nat}:Hu n=true<->nn n:=by unfold Hu nn;rw[w4,Bool.or_eq_true,decide_eq_true_eq,beq_iff_eq]
theorem Vf{n:Nat}(h:C_ n):wC n=some (Hu n):=by
 unfold wC;congr 1;by_cases hn:nn n
 .rw [UR hn,yi.2 hn]
 .have e:Hu n=false:=by rw[Bool.eq_false_iff];exact fun q=>hn (yi.1 q)
  rw[e];cases hnan:lH n with
  |true=>rw[GR (.inl hnan),MK (.inl hnan)];rfl
  |false=>
   have z:ok 0:=⟨by decide,by decide⟩
   have p0:pl 0=0:=by decide
   have hf:=Aw hnan;have hlt:pl n<0:=by unfold nn at hn;rw[w4]at hn;unfold pl;split<;>omega
   rw[zE (pM h hnan) z,D_ (pM h hnan) z,p0,decide_eq_false (by omega),decide_eq_false (by omega)];rfl
theorem Ob(n:Nat):Hu (jy n)=Hu n:=by
 cases h:lH n with
 |false=>rw[xT h]
 |true=>
  rw[F1 h];have h2:=Wi h;have:Hu n=false:=by rw[Bool.eq_false_iff];intro q;have:=yi.1 q;unfold nn at this;rw[w4]at this;omega
  rw[this];decide
def T5(t:ao)(L:List Nat):Bool:=decide (fF t)&&(L.length==t.a7.l.length&&L.all Hu)
theorem zh{α β:Type}{p:α->Bool}{g:Nat->β}:∀(l:List α)(i:Nat),(lZ (fun i x=>if p x then some (g i)else none) l i).isSome=l.any p
 |[],i=>rfl
 |x::l,i=>by simp only[lZ,List.any_cons];cases p x with|true=>rfl|false=>exact zh l (i+1)
theorem Bq{t:ao}{L:List Nat}(hw:∀x∈L,C_ x)(hb:L.length<=17592186044416):jR t (gw (L.map jy))=some (T5 t L):=by
 unfold jR T5;rw[yZ,af];by_cases hV:fF t
 .rw [decide_eq_true hV,cond_true];have hl:(gw (L.map jy)).l=L.map jy:=v6 _
  have h1:bM (gw (L.map jy))=some (match lZ (fun i x=>if !(Hu x)then some (i:Int)else none) (L.map jy) 0 with|some b=>b|none=>-1):=by
   unfold bM
   have:=yL (f:=b_ (gw (L.map jy))) (L.map jy) (fun i x=>if !(Hu x)then some (i:Int)else none) () (by rw[gq];omega) (fun i hi=>by
    simp only[b_];rw[hl,decide_eq_true (by omega),cond_true,BC hi,af];unfold uQ;rw[Vf (by obtain⟨y,hy,e⟩:=aP.1 (xJ hi);rw[<-e];exact Vn (hw y hy)),af,af];cases Hu (gt (L.map jy) i)<;>rfl) (by
    simp only[b_];rw[hl,decide_eq_false (by omega),cond_false])
   rw[this,af];cases lZ (fun i x=>if !(Hu x)then some (i:Int)else none) (L.map jy) 0<;>rfl
  have h2:bF (gw (L.map jy))=some (!(L.all Hu)):=by
   unfold bF;rw[h1,af];have h3:=zh (p:=fun x=>!(Hu x)) (g:=fun i=>(i:Int)) (L.map jy) 0;have h4:(L.map jy).any (fun x=>!(Hu x))=!(L.all Hu):=by rw[List.any_map,List.not_all_eq_any_not];congr 1;funext x;show(!(Hu (jy x)))=_;rw[Ob]
   rw[h4]at h3;rw[<-h3];congr 1;cases hsc:lZ (fun i x=>if !(Hu x)then some (i:Int)else none) (L.map jy) 0 with
   |none=>rfl
   |some b=>
    obtain⟨j,x,_,h5,_⟩:=nI hsc;split at h5
    .obtain rfl:=ac h5;simp only[Option.isSome_some];exact decide_eq_true (by omega)
    .cases h5
  unfold rQ;rw[hl,gq,h2,af,acj,Bool.true_and,Bool.not_not];cases(L.length==t.a7.l.length)<;>rfl
 .rw [decide_eq_false hV];rfl
def wt(L:List Nat)(k:Int):Nat:=ab (gt L k.toNat)
def nz(t:ao)(L:List Nat)(i:Nat):List (Nat×Nat):=(gj t (i:Int)).map fun x=>(x.To.toNat,wt L x.rF)
theorem sQ{t:ao}(hV:fF t){i:Nat}{x:aD}(h:x∈gj t (i:Int)):0<=x.To/\x.To<t.au/\x.To≠(i:Int)/\0<=x.rF/\x.rF<t.a7.l.length:=by
 obtain⟨j,l,b,h1,h2,h3⟩:=(qk hV).1 h;have hp:=hV.ic ⟨x.To,b⟩ (by rw[pL];exact bw _ (List.mem_flatMap.2 ⟨l,bl h1,h2.symm.AA⟩));have hj:=(List.getElem?_eq_some_iff.1 h1).1;have hl:=hV.Rf l (bl h1);have hp1:0<=x.To/\x.To<t.au:=hp.1;refine⟨hp1.1,hp1.2,?_,by omega,by omega⟩;rcases h2 with⟨a1,_,a3,_⟩|⟨a1,_,a3,_⟩
 .rw [a3,a1];exact fun e=>hl.1 e.symm
 .rw [a3,a1];exact fun e=>hl.1 e
theorem AN{t:ao}(hV:fF t)(L:List Nat):A7 t.au.toNat (nz t L)where
 lt:=fun i _ e he=>by obtain⟨x,hx,rfl⟩:=aP.1 he;have:=sQ hV hx;show x.To.toNat<_;omega
 ne:=fun i _ e he=>by obtain⟨x,hx,rfl⟩:=aP.1 he;have:=sQ hV hx;show x.To.toNat≠i;omega
 VW:=fun i _ e he=>by
  obtain⟨x,hx,rfl⟩:=aP.1 he;have hk:=sQ hV hx;obtain⟨j,l,b,h1,h2,h3⟩:=(qk hV).1 hx;have hto:((x.To.toNat:Nat):Int)=x.To:=by omega
  refine aP.2 ⟨(b,(i:Int),x.rF),(qk hV).2 ⟨j,l,x.gk,h1,?_,h3⟩,rfl⟩;show CJ l ((x.To.toNat:Nat):Int) b (i:Int) x.gk;rw[hto];exact h2.symm
theorem Im{a b:Nat}(ha:nn a)(hb:b<=w7):rA a b=some (P (ab a) b):=by
 unfold rA;obtain⟨h1,h2⟩:=Yr ha (vG hb);rw[wY hb]at h2;rw[F0 (zt h1),xT (rm h1),af];have z:ok 0:=⟨by decide,by decide⟩
 have p0:pl 0=0:=by decide
 rw[D_ (pM (zt h1) (rm h1)) z,p0,B5 h1];unfold P;rw[<-h2];by_cases h0:ab (GS .f64 a b)=0
 .rw [h0];rfl
 .rw [decide_eq_false (by omega),cond_false];congr 1;unfold ab at h0|-;split
  .rename_i h;rw[if_pos h]at h0;exact absurd rfl h0
  .rfl
theorem Ur{a b:Nat}(ha:a<=w7)(hb:b<=w7):BH .f64 a b=min a b:=by
 have oa:=pM (zt (vG ha)) (rm (vG ha));have ob:=pM (zt (vG hb)) (rm (vG hb));have h:FloatKind.f64.format.order a b=some (compare (pl a) (pl b)):=As oa ob;unfold BH;rw[h,B5 (vG ha),B5 (vG hb),wY ha,wY hb];rcases Nat.lt_trichotomy a b with e|e|e
 .rw [Int.compare_eq_lt.2 (by omega)];show a=_;omega
 .rw [Int.compare_eq_eq.2 (by omega)];subst e;show(if _ then a else a)=_;rw[ite_self];omega
 .rw [Int.compare_eq_gt.2 (by omega)];show b=_;omega
end Go.Proofs.YtoekkpmeeclpeaaGreat.S
