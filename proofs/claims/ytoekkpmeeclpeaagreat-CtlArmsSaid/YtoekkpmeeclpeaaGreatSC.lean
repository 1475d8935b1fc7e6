/- Costs of ways, by relaxing: round by round, and one switch after the other; steps. Plain. Conditions: as stated. -/
import Derived.Test.YtoekkpmeeclpeaaGreatFz
import Derived.Test.YtoekkpmeeclpeaaGreatSN
open Bool renaming or_false->oj
open List renaming append_nil->bo,getElem_map->iZ,length_append->aA,length_map->fJ,length_range->dD,length_replicate->bp,mem_append->aF,mem_append_left->bw,mem_cons->aI,mem_cons_of_mem->bd,mem_cons_self->aG,mem_map->aL,mem_of_getElem?->bj,mem_range->cI,mem_singleton->az,range->aK,replicate->ay,replicate_succ->eW
open Nat renaming le_refl->aq,le_trans->bg
open Option renaming bind_some->ad
open Option.some renaming inj->ac
noncomputable section
namespace Go.Ways
open Ieee Go.Fl
abbrev wx:Nat:=double.infRung
def P(a b:Nat):Nat:=plus double a b
theorem Sb{a b a' b':Nat}(h1:a<=a')(h2:b<=b'):P a b<=P a' b':=Na h1 h2
theorem GH{a b:Nat}(h:b<=wx):b<=P a b:=JN h
theorem XY{a b:Nat}:P a b<=wx:=Ck
structure Ap(n:Nat)(E:Nat->List (Nat×Nat)):Prop where
 lt:∀i,i<n->∀e∈E i,e.1<n
 ne:∀i,i<n->∀e∈E i,e.1≠i
 Vm:∀i,i<n->∀e∈E i,(i,e.2)∈E e.1
def Lk(E:Nat->List (Nat×Nat))(c:Nat->Nat)(i:Nat):Nat:=(E i).foldl (fun b e=>min b (P e.2 (c e.1))) (c i)
def B(E:Nat->List (Nat×Nat))(g:Nat):Nat->Nat->Nat
 |0=>fun i=>if i=g then 0 else wx
 |k+1=>Lk E (B E g k)
theorem LZ{c:Nat->Nat}:∀(l:List (Nat×Nat))(b:Nat),l.foldl (fun b e=>min b (P e.2 (c e.1))) b<=b/\∀e∈l,l.foldl (fun b e=>min b (P e.2 (c e.1))) b<=P e.2 (c e.1)
 |[],b=>⟨aq _,by simp⟩
 |e::l,b=>by
  obtain⟨h1,h2⟩:=LZ (c:=c) l (min b (P e.2 (c e.1)));simp only[List.foldl_cons];refine⟨by omega,fun f hf=>?_⟩;rcases aI.1 hf with hf|hf
  .rw [hf];omega
  .exact h2 f hf
theorem L1{c:Nat->Nat}{m:Nat}:∀(l:List (Nat×Nat))(b:Nat),m<=b->(∀e∈l,m<=P e.2 (c e.1))->m<=l.foldl (fun b e=>min b (P e.2 (c e.1))) b
 |[],_,h,_=>h
 |e::l,b,h,h2=>L1 l (min b (P e.2 (c e.1))) (by have:=h2 e aG;omega) fun f hf=>h2 f (bd _ hf)
theorem Hn{E:Nat->List (Nat×Nat)}{c:Nat->Nat}{i:Nat}:Lk E c i<=c i/\∀e∈E i,Lk E c i<=P e.2 (c e.1):=LZ (E i) (c i)
theorem PK{E:Nat->List (Nat×Nat)}{c:Nat->Nat}{i m:Nat}(h:m<=c i)(h2:∀e∈E i,m<=P e.2 (c e.1)):m<=Lk E c i:=L1 (E i) (c i) h h2
section
variable{n g:Nat}{E:Nat->List (Nat×Nat)}
theorem V9(k i:Nat):B E g (k+1) i<=B E g k i:=Hn.1
theorem afa(k i:Nat):B E g k i<=wx:=by induction k with|zero=>unfold B;split<;>omega|succ k ih=>exact bg (V9 k i) ih
theorem CF(hE:Ap n E){c:Nat->Nat}(h0:c g=0)(hI:∀i,i<n->c i<=wx)(hs:∀i,i<n->∀e∈E i,c i<=P e.2 (c e.1)):∀k i,i<n->c i<=B E g k i
 |0,i,hi=>by
  unfold B;split
  .rename_i h;rw[h,h0];exact aq _
  .exact hI i hi
 |k+1,i,hi=>PK (CF hE h0 hI hs k i hi) fun e he=>bg (hs i hi e he) (Sb (aq _) (CF hE h0 hI hs k e.1 (hE.lt i hi e he)))
inductive Tp(E:Nat->List (Nat×Nat))(g:Nat)(out:Nat->Nat)(yO:List Nat):Nat->Prop
 |gN:Tp E g out yO g
 |gM {i c w:Nat}:c∈yO->(c,w)∈E i->P w (out c)=out i->Tp E g out yO c->Tp E g out yO i
theorem Tp.uu{out out':Nat->Nat}{cl cl':List Nat}(hc:∀c∈cl,out' c=out c)(hm:∀c∈cl,c∈cl'){i:Nat}(h:Tp E g out cl i)(hi:out' i=out i):Tp E g out' cl' i:=by induction h with|gN=>exact .gN|@gM i c w h1 h2 h3 _ ih=>exact .gM (hm c h1) h2 (by rw[hc c h1,h3,hi]) (ih (hc c h1))
structure Oy(n g:Nat)(E:Nat->List (Nat×Nat))(cl op:List Nat)(out:Nat->Nat):Prop where
 JR:(cl++op).Perm (aK n)
 tn:∀i,i<n->out i<=wx
 g0:out g=0
 OC:∀i,i<n->B E g cl.length i<=out i
 sub:∀c∈cl,∀e∈E c,out e.1<=P e.2 (out c)
 Vu:∀c∈cl,∀o∈op,out c<=out o
 GU:∀i,i<n->out i<wx->Tp E g out cl i
theorem Oy.ER(hg:g<n):Oy n g E [] (aK n) (fun i=>if i=g then 0 else wx)where
 JR:=by rw[List.nil_append]
 tn:=fun i _=>by split<;>omega
 g0:=if_pos rfl
 OC:=fun i _=>aq _
 sub:=fun c hc=>nomatch hc
 Vu:=fun c hc=>nomatch hc
 GU:=fun i _ h=>by
  by_cases e:i=g
  .rw [e];exact .gN
  .rw [if_neg e]at h;omega
def tz(E:Nat->List (Nat×Nat))(out:Nat->Nat)(cw:Nat):List (Nat×Nat)->Nat->Nat
 |[]=>out
 |e::l=>fun j=>if j=e.1 then min (tz E out cw l j) (P e.2 (out cw))else tz E out cw l j
theorem vk{out:Nat->Nat}{cw:Nat}:∀(l:List (Nat×Nat))(j:Nat),tz E out cw l j<=out j/\(∀e∈l,e.1=j->tz E out cw l j<=P e.2 (out cw))
 |[],j=>⟨aq _,by simp⟩
 |e::l,j=>by
  obtain⟨h1,h2⟩:=vk (out:=out) (cw:=cw) l j;simp only[tz];split
  .rename_i h;refine⟨by omega,fun f hf hj=>?_⟩;rcases aI.1 hf with hf|hf
   .rw [hf];omega
   .have:=h2 f hf hj;omega
  .rename_i h;refine⟨h1,fun f hf hj=>?_⟩;rcases aI.1 hf with hf|hf
   .rw [hf]at hj;exact absurd hj.symm h
   .exact h2 f hf hj
theorem tL{out:Nat->Nat}{cw:Nat}:∀(l:List (Nat×Nat))(j:Nat),tz E out cw l j=out j\/∃e∈l,e.1=j/\tz E out cw l j=P e.2 (out cw)
 |[],j=>.inl rfl
 |e::l,j=>by
  simp only[tz];split
  .rename_i h;rcases Nat.le_total (tz E out cw l j) (P e.2 (out cw))with h1|h1
   .rw [Nat.min_eq_left h1];exact(tL l j).imp id fun⟨f,hf,h2⟩=>⟨f,bd _ hf,h2⟩
   .rw [Nat.min_eq_right h1];exact .inr ⟨e,aG,h.symm,rfl⟩
  .exact (tL l j).imp id fun⟨f,hf,h2⟩=>⟨f,bd _ hf,h2⟩
theorem Oy.gM(hE:Ap n E){cl op:List Nat}{cw:Nat}{out:Nat->Nat}(h:Oy n g E cl (cw::op) out)(hmin:∀o∈op,out cw<=out o){l:List (Nat×Nat)}(hl:∀e,e∈l<->e∈E cw):Oy n g E (cl++[cw]) op (tz E out cw l):=by
 have hmem:∀x,x∈cl\/x=cw\/x∈op->x<n:=fun x hx=>cI.1 (h.JR.mem_iff.1 (by
  rcases hx with hx|hx|hx
  .exact bw _ hx
  .rw [hx];simp
  .simp [hx]))
 have hat:cw<n:=hmem cw (.inr (.inl rfl));have hout:=h.tn cw hat
 have keepAt:tz E out cw l cw=out cw:=by
  rcases tL (E:=E) (out:=out) (cw:=cw) l cw with h1|⟨e,he,h2,_⟩
  .exact h1
  .exact absurd h2 (hE.ne cw hat e ((hl e).1 he))
 have keepC:∀c∈cl,tz E out cw l c=out c:=fun c hc=>by
  rcases tL (E:=E) (out:=out) (cw:=cw) l c with h1|⟨e,he,h2,h3⟩
  .exact h1
  .have h4:=h.Vu c hc cw aG;have h5:=GH (a:=e.2) hout;have h6:=(vk (E:=E) (out:=out) (cw:=cw) l c).1;omega
 refine⟨by rw[List.append_assoc];exact h.JR,fun i hi=>bg (vk _ i).1 (h.tn i hi),?_,fun i hi=>?_,fun c hc e he=>?_,fun c hc o ho=>?_,fun i hi hlt=>?_⟩
 .have:=(vk (E:=E) (out:=out) (cw:=cw) l g).1;rw[h.g0]at this;omega
 .rw [aA];show B E g (cl.length+1) i<=_;rcases tL (E:=E) (out:=out) (cw:=cw) l i with h1|⟨e,he,h2,h3⟩
  .rw [h1];exact bg (V9 _ _) (h.OC i hi)
  .rw [h3];have hsym:=hE.Vm cw hat e ((hl e).1 he);rw[h2]at hsym;exact bg (Hn.2 _ hsym) (Sb (aq _) (h.OC cw hat))
 .rcases aF.1 hc with hc|hc
  .rw [keepC c hc];exact bg (vk _ _).1 (h.sub c hc e he)
  .obtain rfl:=az.1 hc;rw[keepAt];exact(vk _ _).2 e ((hl e).2 he) rfl
 .have ho':out cw<=tz E out cw l o:=by
   rcases tL (E:=E) (out:=out) (cw:=cw) l o with h1|⟨e,he,h2,h3⟩
   .rw [h1];exact hmin o ho
   .rw [h3];exact GH hout
  rcases aF.1 hc with hc|hc
  .rw [keepC c hc];exact bg (h.Vu c hc cw aG) ho'
  .obtain rfl:=az.1 hc;rw[keepAt];exact ho'
 .rcases tL (E:=E) (out:=out) (cw:=cw) l i with h1|⟨e,he,h2,h3⟩
  .exact (h.GU i hi (by omega)).uu keepC (fun c hc=>bw _ hc) h1
  .have hlt2:out cw<wx:=by have:=GH (a:=e.2) hout;omega
   have hsym:=hE.Vm cw hat e ((hl e).1 he);rw[h2]at hsym;exact .gM (List.mem_append_right _ aG) hsym (by rw[keepAt,h3]) ((h.GU cw hat hlt2).uu keepC (fun c hc=>bw _ hc) keepAt)
theorem Oy.wu(hE:Ap n E){cl:List Nat}{out:Nat->Nat}(h:Oy n g E cl [] out):(∀i,i<n->out i=B E g n i)/\(∀i,i<n->out i<wx->Tp E g out cl i):=by
 have hp:=h.JR;rw[bo]at hp;have hlen:=hp.length_eq;rw[dD]at hlen;refine⟨fun i hi=>Nat.le_antisymm (CF hE h.g0 h.tn (fun i hi e he=>?_) n i hi) ?_,h.GU⟩
 .exact h.sub e.1 (hp.mem_iff.2 (cI.2 (hE.lt i hi e he))) (i,e.2) (hE.Vm i hi e he)
 .have:=h.OC i hi;rwa[hlen]at this
def pp(E:Nat->List (Nat×Nat))(c:Nat->Nat)(i:Nat)(e:Nat×Nat):Bool:=decide (c i<wx)&&decide (e.2<wx)&&(P e.2 (c e.1)==c i)
def mi(E:Nat->List (Nat×Nat))(c:Nat->Nat)(g:Nat):Nat->Nat->Int
 |0=>fun i=>if i=g then 0 else-1
 |k+1=>fun i=>if mi E c g k i=-1/\(E i).any (fun e=>pp E c i e&&(mi E c g k e.1==(k:Int)))=true then(k:Int)+1 else mi E c g k i
variable{c:Nat->Nat}
theorem vJ:∀k i,-1<=mi E c g k i/\mi E c g k i<=k
 |0,i=>by simp only[mi];split<;>omega
 |k+1,i=>by have:=vJ k i;simp only[mi];split<;>omega
theorem zN{k i:Nat}(h:mi E c g k i≠-1):mi E c g (k+1) i=mi E c g k i:=by simp only[mi];rw[if_neg fun q=>h q.1]
theorem Im:∀(k i:Nat)(m:Nat),mi E c g k i=(m:Int)+1->∃e∈E i,pp E c i e=true/\mi E c g k e.1=(m:Int)
 |0,i,m,h=>by simp only[mi]at h;split at h<;>omega
 |k+1,i,m,h=>by
  have hk:=h;simp only[mi]at h;split at h
  .rename_i hc;obtain⟨e,he,h2⟩:=List.any_eq_true.1 hc.2;have h2:=Bool.and_eq_true_iff.1 h2;have h3:mi E c g k e.1=(k:Int):=beq_iff_eq.1 h2.2;refine⟨e,he,h2.1,?_⟩;rw[zN (by omega),h3];omega
  .obtain ⟨e,he,h2,h3⟩:=Im k i m h;exact⟨e,he,h2,by rw[zN (by omega),h3]⟩
theorem Fb(hE:Ap n E)(k:Nat):∀(m i:Nat),i<n->mi E c g k i=(m:Int)->∃l:List Nat,l.length=m+1/\(∀x∈l,x<n/\mi E c g k x<=(m:Int))/\l.Nodup
 |0,i,hi,h=>⟨[i],rfl,by intro x hx;rw[az.1 hx];exact⟨hi,by omega⟩,List.pairwise_singleton _ _⟩
 |m+1,i,hi,h=>by
  obtain⟨e,he,_,h3⟩:=Im k i m (by rw[h];rfl);obtain⟨l,h4,h5,h6⟩:=Fb hE k m e.1 (hE.lt i hi e he) h3;refine⟨i::l,by rw[List.length_cons,h4],fun x hx=>?_,List.nodup_cons.2 ⟨fun hx=>?_,h6⟩⟩
  .rcases aI.1 hx with hx|hx
   .rw [hx];exact⟨hi,by omega⟩
   .have:=h5 x hx;exact⟨this.1,by omega⟩
  .have:=h5 i hx;omega
theorem QB(hE:Ap n E)(k:Nat){i:Nat}(hi:i<n):mi E c g k i<(n:Int):=by
 rcases Int.lt_or_le (mi E c g k i) n with h|h
 .exact h
 .obtain ⟨m,hm⟩:∃m:Nat,mi E c g k i=(m:Int):=⟨(mi E c g k i).toNat,by omega⟩
  obtain⟨l,h1,h2,h3⟩:=Fb hE k m i hi hm;have:=h3.length_le_of_subset (l₂:=aK n) fun x hx=>cI.2 (h2 x hx).1;rw[dD,h1]at this;omega
theorem Il(hE:Ap n E):∀(d i:Nat),i<n->mi E c g (n-1+d) i=mi E c g (n-1) i
 |0,i,_=>rfl
 |d+1,i,hi=>by
  have h1:=Il hE d i hi;have h2:=QB (c:=c) (g:=g) hE (n-1+(d+1)) hi;rw[<-h1];have e:n-1+(d+1)=(n-1+d)+1:=by omega
  rw[e]at h2|-;simp only[mi]at h2|-;split
  .rename_i hc;rw[if_pos hc]at h2;omega
  .rfl
theorem Ik{k:Nat}(hE:Ap n E)(h:∀i,i<n->mi E c g k i≠(k:Int)):∀(d i:Nat),i<n->mi E c g (k+d) i=mi E c g k i
 |0,_,_=>rfl
 |d+1,i,hi=>by
  have h1:=Ik hE h d;have e:k+(d+1)=(k+d)+1:=by omega
  rw[e];simp only[mi];rw[if_neg,h1 i hi];intro hc;obtain⟨e',he,h2⟩:=List.any_eq_true.1 hc.2;have h3:mi E c g (k+d) e'.1=((k+d:Nat):Int):=beq_iff_eq.1 (Bool.and_eq_true_iff.1 h2).2;have he2:=hE.lt i hi e' he;rw[h1 e'.1 he2]at h3;have h4:=vJ (E:=E) (c:=c) (g:=g) k e'.1;have h5:d=0:=by omega
  subst h5;exact h e'.1 he2 h3
theorem QC(hE:Ap n E){k:Nat}(h:∀i,i<n->mi E c g k i≠(k:Int)){i:Nat}(hi:i<n):mi E c g k i=mi E c g (n-1) i:=by
 rcases Nat.le_total k (n-1)with h1|h1
 .obtain ⟨d,hd⟩:=Nat.exists_eq_add_of_le h1;rw[hd];exact(Ik hE h d i hi).symm
 .obtain ⟨d,hd⟩:=Nat.exists_eq_add_of_le h1;rw[hd];exact Il hE d i hi
end
end Go.Ways
open Go.Ev Go Go.Fl Go.Ways
namespace Go.Proofs.YtoekkpmeeclpeaaGreat.S
theorem lH{α:Type}(l:List α):(Sl.mk l).l=l:=rfl
theorem K6{n:Nat}(h:n<9223372036854775807):wr .i64 ((n:Int)+1)=((n+1:Nat):Int):=yV h
def gk{α:Type}:List α->Sl α
 |[]=>.nil
 |x::l=>.mk (x::l)
theorem vm{α:Type}(l:List α):(gk l).l=l:=by cases l<;>rfl
theorem Ld{α:Type}{l:List α}(h:l≠[]):gk l=.mk l:=by cases l with|nil=>exact absurd rfl h|cons=>rfl
theorem NF{α β:Type}[Inhabited α]{f:Int×Sl β->Option ((Int×Sl β)⊕Sl β)}(l:List α)(g:α->β)
  (h1:∀(i:Nat)(s:Sl β),i<l.length->s.l.length=i->f ((i:Int),s)=some (.inl (((i+1:Nat):Int),Sl.mk (s.l++[g (gt l i)]))))
  (h2:∀s:Sl β,f ((l.length:Int),s)=some (.inr s)):aU f (0,Sl.nil)=some (gk (l.map g)):=by
 have key:∀(R O:List α)(s:Sl β),l=O++R->s=gk (O.map g)->aU f ((O.length:Int),s)=some (gk (l.map g)):=by
  intro R;induction R with
  |nil=>
   intro O s e hs;have e:l=O:=by rw[e,bo]
   subst e;rw[hs];exact cM (h2 _)
  |cons x R ih=>
   intro O s e hs;have hx:gt l O.length=x:=by rw[e];exact Fk
   have h:=h1 O.length s (by rw[e];simp) (by rw[hs,vm,fJ]);rw[hx]at h;refine(fu h).trans ?_;have:=ih (O++[x]) (Sl.mk (s.l++[g x])) (by rw[e];simp) (by rw[hs,vm,List.map_append,Ld (by simp)];rfl);rw[aA]at this;exact this
 exact key l [] Sl.nil rfl rfl
theorem SS{S β:Type}{f:S->Option (S⊕β)}(st:Nat->S)(k:Nat){b:β}(h1:∀i,i<k->f (st i)=some (.inl (st (i+1))))(h2:f (st k)=some (.inr b)):aU f (st 0)=some b:=by
 have:∀(d i:Nat),i+d=k->aU f (st i)=some b:=by
  intro d;induction d with
  |zero=>
   intro i hi;obtain rfl:i=k:=by omega
   exact cM h2
  |succ d ih=>intro i hi;exact(fu (h1 i (by omega))).trans (ih (i+1) (by omega))
 exact this k 0 (by omega)
abbrev nX(l:List Nat):List Int:=l.map (fun n:Nat=>(n:Int))
theorem LY{l:List Nat}{i:Nat}(h:i<l.length):gt (nX l) i=((gt l i:Nat):Int):=by rw[cU (by rw[fJ];exact h),cU h,iZ]
theorem Xm{α β:Type}[Inhabited α][Inhabited β]{l:List α}{g:α->β}{i:Nat}(h:i<l.length):gt (l.map g) i=g (gt l i):=by rw[cU (by rw[fJ];exact h),cU h,iZ]
abbrev eO{α:Type}(n:Nat)(f:Nat->α):List α:=(aK n).map f
theorem f_{α:Type}(n:Nat)(f:Nat->α):(eO n f).length=n:=by simp[eO]
theorem mK{α:Type}[Inhabited α]{n i:Nat}{f:Nat->α}(h:i<n):gt (eO n f) i=f i:=by rw[cU (by rw[f_];exact h)];simp[eO]
theorem tO{α:Type}{n i:Nat}{f:Nat->α}{v:α}(h:i<n):(eO n f).set i v=eO n (fun j=>if j=i then v else f j):=by
 refine List.ext_getElem (by simp[eO]) fun j h1 h2=>?_;rw[List.getElem_set];simp only[eO,iZ,List.getElem_range];by_cases e:i=j
 .rw [if_pos e,if_pos e.symm]
 .rw [if_neg e,if_neg fun q=>e q.symm]
theorem ii{α:Type}{n:Nat}{f g:Nat->α}(h:∀i,i<n->f i=g i):eO n f=eO n g:=List.map_congr_left fun i hi=>h i (cI.1 hi)
theorem Jy{α:Type}{x z:α}{i m:Nat}:iF (ay i x++ay m z) i ((ay i x).take m)=ay (i+min i m) x++ay (m-min i m) z:=by
 unfold iF;rw[List.take_replicate,bp];have e1:(ay i x++ay m z).take i=ay i x:=by rw[List.take_append_of_le_length (by simp)];simp
 have e2:(ay i x++ay m z).drop (i+min m i)=ay (m-min m i) z:=by
  rw[List.drop_append,List.drop_replicate,List.drop_replicate,bp];have:i-(i+min m i)=0:=by omega
  rw[this];simp
 rw[e1,e2,<-List.replicate_append_replicate,Nat.min_comm m i]
theorem Hm{α:Type}{f:(Int×Sl α)->Option ((Int×Sl α)⊕(Sl α))}(hf:∀i7 s8,f (i7,s8)=bif decide (i7<(s8.l.length:Int))then((nD s8.l i7 s8.l.length).bind fun l9=>
 (nD s8.l 0 i7).bind fun l10=>
 some (.inl (wr .i64 (i7+((min ((s8.to l10).l).length ((s8.to l9).l).length:Nat):Int)),(s8.to (B_ s8.l i7.toNat ((s8.to l9).l).length ((s8.to l10).l))))))else
 (some (.inr s8))) (x z:α) (n:Nat) (hn:n<=8):∀(k i:Nat),n-i<=k->1<=i->i<=n->aU f ((i:Int),Sl.mk (ay i x++ay (n-i) z))=some (Sl.mk (ay n x)):=by
 intro k;induction k with
 |zero=>
  intro i hk h1 hi;obtain rfl:i=n:=by omega
  refine cM ?_;rw[hf,lH,decide_eq_false (by simp)];simp
 |succ k ih=>
  intro i hk h1 hi;by_cases he:i=n
  .exact ih i (by omega) h1 hi
  .have hlen:(ay i x++ay (n-i) z).length=n:=by simp;omega
   have c1:nD (ay i x++ay (n-i) z) (i:Int) ((ay i x++ay (n-i) z).length:Int)=some (ay (n-i) z):=by
    unfold nD;rw[if_pos ⟨by omega,by rw[hlen];omega,Int.le_refl _⟩,hlen];congr 1;have e1:((i:Nat):Int).toNat=i:=by omega
    have e2:((n:Nat):Int).toNat=n:=by omega
    rw[e1,e2,List.drop_append,List.drop_replicate,bp,Nat.sub_self];simp
   have c2:nD (ay i x++ay (n-i) z) 0 (i:Int)=some (ay i x):=by
    unfold nD;rw[if_pos ⟨by omega,by omega,by rw[hlen];omega⟩];congr 1;have e1:((i:Nat):Int).toNat=i:=by omega
    rw[e1];simp
   refine(fu (a':=(((i+min i (n-i):Nat):Int),Sl.mk (ay (i+min i (n-i)) x++ay (n-(i+min i (n-i))) z))) ?_).trans (ih _ (by omega) (by omega) (by omega));rw[hf,lH,decide_eq_true (by rw[hlen];omega),cond_true,c1,ad,c2,ad];show some (Sum.inl (wr .i64 ((i:Int)+((min (ay i x).length (ay (n-i) z).length:Nat):Int)),Sl.mk (iF (ay i x++ay (n-i) z) ((i:Nat):Int).toNat ((ay i x).take (ay (n-i) z).length))))=_;have e1:((i:Nat):Int).toNat=i:=by omega
   rw[e1,bp,bp,Jy,iQ (by omega) (by omega)];have e3:n-i-min i (n-i)=n-(i+min i (n-i)):=by omega
   rw[e3];congr 3
theorem LG{n:Nat}(h0:1<=n)(h:n<=8):iT (wr .u64 (((1:Nat):Int))) (wr .u64 (n:Int))=some (0,(n:Int)):=by
 have:∀k:Fin 8,iT (wr .u64 (((1:Nat):Int))) (wr .u64 ((k.val:Int)+1))=some (0,(k.val:Int)+1):=by unfold iT lI;rw[se];decide+kernel
 have h2:=this ⟨n-1,by omega⟩;have e:(((n-1:Nat):Int))+1=(n:Int):=by omega
 simp only[e]at h2;exact h2
theorem PI{x:Nat}{n:Nat}(h0:1<=n)(h:n<=8):dN (Sl.mk [x]) (n:Int)=some (Sl.mk (ay n x)):=by
 unfold dN;have e1:((Sl.mk [x]:Sl Nat).l.length:Int)=((1:Nat):Int):=rfl;have w:wr .i64 (n:Int)=(n:Int):=iQ (by omega) (by omega);rw[decide_eq_false (by omega),cond_false,e1,LG h0 h,ad];simp only[];rw[decide_eq_false (by decide),decide_eq_false (by omega),oj,cond_false,w];have hm:yT 0 (n:Int) (n:Int)=some (ay n 0):=by unfold yT;rw[if_pos (by omega)];rfl
 rw[hm,ad]
 have hs:Sl.mk (B_ (ay n 0) 0 (ay n 0).length (Sl.mk [x]:Sl Nat).l)=Sl.mk (ay 1 x++ay (n-1) 0):=by
  obtain⟨m,rfl⟩:∃m,n=m+1:=⟨n-1,by omega⟩
  simp[B_,iF,eW,Sl.l]
 have hmin:((min (Sl.mk [x]:Sl Nat).l.length (ay n 0).length:Nat):Int)=((1:Nat):Int):=by rw[bp];show((min 1 n:Nat):Int)=_;omega
 rw[hs,hmin,Hm (fun _ _=>rfl) x 0 n h (n-1) 1 (aq _) (aq _) h0];rfl
theorem CT{x:Int}{n:Nat}(h0:1<=n)(h:n<=8):dK (Sl.mk [x]) (n:Int)=some (Sl.mk (ay n x)):=by
 unfold dK;have e1:((Sl.mk [x]:Sl Int).l.length:Int)=((1:Nat):Int):=rfl;have w:wr .i64 (n:Int)=(n:Int):=iQ (by omega) (by omega);rw[decide_eq_false (by omega),cond_false,e1,LG h0 h,ad];simp only[];rw[decide_eq_false (by decide),decide_eq_false (by omega),oj,cond_false,w];have hm:yT (0:Int) (n:Int) (n:Int)=some (ay n 0):=by unfold yT;rw[if_pos (by omega)];rfl
 rw[hm,ad]
 have hs:Sl.mk (B_ (ay n 0) 0 (ay n (0:Int)).length (Sl.mk [x]:Sl Int).l)=Sl.mk (ay 1 x++ay (n-1) 0):=by
  obtain⟨m,rfl⟩:∃m,n=m+1:=⟨n-1,by omega⟩
  simp[B_,iF,eW,Sl.l]
 have hmin:((min (Sl.mk [x]:Sl Int).l.length (ay n (0:Int)).length:Nat):Int)=((1:Nat):Int):=by rw[bp];show((min 1 n:Nat):Int)=_;omega
 rw[hs,hmin,Hm (fun _ _=>rfl) x 0 n h (n-1) 1 (aq _) (aq _) h0];rfl
def GM(n:Nat):Bool:=decide (n<=9218868437227405312)||(n==9223372036854775808)
theorem xB{n:Nat}:GM n=true<->nn n:=by unfold GM nn;rw[wn,Bool.or_eq_true,decide_eq_true_eq,beq_iff_eq]
theorem UE{n:Nat}(h:CA n):vL n=some (GM n):=by
 unfold vL;congr 1;by_cases hn:nn n
 .rw [Ue hn,xB.2 hn]
 .have e:GM n=false:=by rw[Bool.eq_false_iff];exact fun q=>hn (xB.1 q)
  rw[e];cases hnan:ld n with
  |true=>rw[Gd (.inl hnan),L6 (.inl hnan)];rfl
  |false=>
   have z:ok 0:=⟨by decide,by decide⟩
   have p0:pl 0=0:=by decide
   have hf:=zF hnan;have hlt:pl n<0:=by unfold nn at hn;rw[wn]at hn;unfold pl;split<;>omega
   rw[yK (oX h hnan) z,Dz (oX h hnan) z,p0,decide_eq_false (by omega),decide_eq_false (by omega)];rfl
theorem Ny(n:Nat):GM (jf n)=GM n:=by
 cases h:ld n with
 |false=>rw[xi h]
 |true=>
  rw[Fq h];have h2:=VH h;have:GM n=false:=by rw[Bool.eq_false_iff];intro q;have:=xB.1 q;unfold nn at this;rw[wn]at this;omega
  rw[this];decide
def Ti(t:ao)(L:List Nat):Bool:=decide (fB t)&&(L.length==t.aZ.l.length&&L.all GM)
theorem yq{α β:Type}{p:α->Bool}{g:Nat->β}:∀(l:List α)(i:Nat),(lF (fun i x=>if p x then some (g i)else none) l i).isSome=l.any p
 |[],i=>rfl
 |x::l,i=>by simp only[lF,List.any_cons];cases p x with|true=>rfl|false=>exact yq l (i+1)
theorem AL{t:ao}{L:List Nat}(hw:∀x∈L,CA x)(hb:L.length<=17592186044416):jH t (gk (L.map jf))=some (Ti t L):=by
 unfold jH Ti;rw[yl,ad];by_cases hV:fB t
 .rw [decide_eq_true hV,cond_true];have hl:(gk (L.map jf)).l=L.map jf:=vm _
  have h1:bM (gk (L.map jf))=some (match lF (fun i x=>if !(GM x)then some (i:Int)else none) (L.map jf) 0 with|some b=>b|none=>-1):=by
   unfold bM
   have:=x5 (f:=b_ (gk (L.map jf))) (L.map jf) (fun i x=>if !(GM x)then some (i:Int)else none) () (by rw[fJ];omega) (fun i hi=>by
    simp only[b_];rw[hl,decide_eq_true (by omega),cond_true,AX hi,ad];unfold uc;rw[UE (by obtain⟨y,hy,e⟩:=aL.1 (w9 hi);rw[<-e];exact UM (hw y hy)),ad,ad];cases GM (gt (L.map jf) i)<;>rfl) (by
    simp only[b_];rw[hl,decide_eq_false (by omega),cond_false])
   rw[this,ad];cases lF (fun i x=>if !(GM x)then some (i:Int)else none) (L.map jf) 0<;>rfl
  have h2:bF (gk (L.map jf))=some (!(L.all GM)):=by
   unfold bF;rw[h1,ad];have h3:=yq (p:=fun x=>!(GM x)) (g:=fun i=>(i:Int)) (L.map jf) 0;have h4:(L.map jf).any (fun x=>!(GM x))=!(L.all GM):=by rw[List.any_map,List.not_all_eq_any_not];congr 1;funext x;show(!(GM (jf x)))=_;rw[Ny]
   rw[h4]at h3;rw[<-h3];congr 1;cases hsc:lF (fun i x=>if !(GM x)then some (i:Int)else none) (L.map jf) 0 with
   |none=>rfl
   |some b=>
    obtain⟨j,x,_,h5,_⟩:=m7 hsc;split at h5
    .obtain rfl:=ac h5;simp only[Option.isSome_some];exact decide_eq_true (by omega)
    .cases h5
  unfold qS;rw[hl,fJ,h2,ad,abL,Bool.true_and,Bool.not_not];cases(L.length==t.aZ.l.length)<;>rfl
 .rw [decide_eq_false hV];rfl
def wt(L:List Nat)(k:Int):Nat:=ab (gt L k.toNat)
def mQ(t:ao)(L:List Nat)(i:Nat):List (Nat×Nat):=(f9 t (i:Int)).map fun x=>(x.To.toNat,wt L x.qH)
theorem rQ{t:ao}(hV:fB t){i:Nat}{x:aD}(h:x∈f9 t (i:Int)):0<=x.To/\x.To<t.au/\x.To≠(i:Int)/\0<=x.qH/\x.qH<t.aZ.l.length:=by
 obtain⟨j,l,b,h1,h2,h3⟩:=(pA hV).1 h;have hp:=hV.gU ⟨x.To,b⟩ (by rw[oW];exact bw _ (List.mem_flatMap.2 ⟨l,bj h1,h2.symm.zJ⟩));have hj:=(List.getElem?_eq_some_iff.1 h1).1;have hl:=hV.QA l (bj h1);have hp1:0<=x.To/\x.To<t.au:=hp.1;refine⟨hp1.1,hp1.2,?_,by omega,by omega⟩;rcases h2 with⟨a1,_,a3,_⟩|⟨a1,_,a3,_⟩
 .rw [a3,a1];exact fun e=>hl.1 e.symm
 .rw [a3,a1];exact fun e=>hl.1 e
theorem zU{t:ao}(hV:fB t)(L:List Nat):Ap t.au.toNat (mQ t L)where
 lt:=fun i _ e he=>by obtain⟨x,hx,rfl⟩:=aL.1 he;have:=rQ hV hx;show x.To.toNat<_;omega
 ne:=fun i _ e he=>by obtain⟨x,hx,rfl⟩:=aL.1 he;have:=rQ hV hx;show x.To.toNat≠i;omega
 Vm:=fun i _ e he=>by
  obtain⟨x,hx,rfl⟩:=aL.1 he;have hk:=rQ hV hx;obtain⟨j,l,b,h1,h2,h3⟩:=(pA hV).1 hx;have hto:((x.To.toNat:Nat):Int)=x.To:=by omega
  refine aL.2 ⟨(b,(i:Int),x.qH),(pA hV).2 ⟨j,l,x.gi,h1,?_,h3⟩,rfl⟩;show Cb l ((x.To.toNat:Nat):Int) b (i:Int) x.gi;rw[hto];exact h2.symm
theorem Ht{a b:Nat}(ha:nn a)(hb:b<=wx):qB a b=some (P (ab a) b):=by
 unfold qB;obtain⟨h1,h2⟩:=XV ha (uU hb);rw[wl hb]at h2;rw[Fp (yB h1),xi (qt h1),ad];have z:ok 0:=⟨by decide,by decide⟩
 have p0:pl 0=0:=by decide
 rw[Dz (oX (yB h1) (qt h1)) z,p0,Bw h1];unfold P;rw[<-h2];by_cases h0:ab (Ge .f64 a b)=0
 .rw [h0];rfl
 .rw [decide_eq_false (by omega),cond_false];congr 1;unfold ab at h0|-;split
  .rename_i h;rw[if_pos h]at h0;exact absurd rfl h0
  .rfl
theorem TN{a b:Nat}(ha:a<=wx)(hb:b<=wx):A2 .f64 a b=min a b:=by
 have oa:=oX (yB (uU ha)) (qt (uU ha));have ob:=oX (yB (uU hb)) (qt (uU hb));have h:FloatKind.f64.format.order a b=some (compare (pl a) (pl b)):=zC oa ob;unfold A2;rw[h,Bw (uU ha),Bw (uU hb),wl ha,wl hb];rcases Nat.lt_trichotomy a b with e|e|e
 .rw [Int.compare_eq_lt.2 (by omega)];show a=_;omega
 .rw [Int.compare_eq_eq.2 (by omega)];subst e;show(if _ then a else a)=_;rw[ite_self];omega
 .rw [Int.compare_eq_gt.2 (by omega)];show b=_;omega
end Go.Proofs.YtoekkpmeeclpeaaGreat.S
