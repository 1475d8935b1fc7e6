/- Loops over lists, and topologies: what Right and Peer answer. Conditions: as stated. -/
import Derived.Test.YtoekkpmeeclpeaaGreatS
import Derived.Test.YtoekkpmeeclpeaaGreatFz
open Bool renaming or_eq_false_iff->cN,or_eq_true->dI,or_false->oW
open List renaming drop_eq_getElem_cons->jI,getElem?_eq_some_iff->aW,getElem_of_mem->ga,length_append->aA,length_take->bU,mem_append_left->bw,mem_flatMap->cA,mem_of_getElem?->bl,mem_singleton->az,nodup_append->bD,take_append_getElem->il,take_length->eF
open Nat renaming sub_zero->nY,zero_le->cp
open Option renaming bind_some->af,map_eq_some_iff->cg,map_some->fJ
open Option.some renaming inj->ac
open Prod.mk renaming inj->ap
open Go.Ev Go
noncomputable section
namespace Go.Proofs.YtoekkpmeeclpeaaGreat.S
theorem iY{n:Int}(h0:-9223372036854775808<=n)(h1:n<9223372036854775808):wr .i64 n=n:=by simp[wr,IntKind.wrap,IntKind.bits,IntKind.signed];omega
theorem WQ{S β:Type}{f:S->Option (Sum S β)}(m:S->Nat)(I:S->Prop)(R:β->Prop)
  (hstep:∀s,I s->(∃s',f s=some (.inl s')/\I s'/\m s'<m s)\/(∃b,f s=some (.inr b)/\R b)):∀s,I s->∃b,aU f s=some b/\R b:=by
 have:∀(n:Nat)(s:S),m s<=n->I s->∃b,aU f s=some b/\R b:=by
  intro n;induction n with
  |zero=>
   intro s hn hI;rcases hstep s hI with⟨s',_,_,h⟩|⟨b,h1,h2⟩
   .omega
   .exact ⟨b,cQ h1,h2⟩
  |succ n ih=>
   intro s hn hI;rcases hstep s hI with⟨s',h1,h2,h3⟩|⟨b,h1,h2⟩
   .obtain ⟨b,h4,h5⟩:=ih s' (by omega) h2;exact⟨b,(fA h1).trans h4,h5⟩
   .exact ⟨b,cQ h1,h2⟩
 exact fun s=>this (m s) s (Nat.le_refl _)
theorem K8{S σ β:Type}{f:S->Option (Sum S β)}(st:Nat->σ->S)(n:Nat)(I:Nat->σ->Prop)(R:β->Prop)
  (hstep:∀i s,i<n->I i s->(∃s',f (st i s)=some (.inl (st (i+1) s'))/\I (i+1) s')\/(∃b,f (st i s)=some (.inr b)/\R b))
  (hend:∀s,I n s->∃b,f (st n s)=some (.inr b)/\R b):∀i s,i<=n->I i s->∃b,aU f (st i s)=some b/\R b:=by
 have:∀(k i:Nat)(s:σ),i+k=n->I i s->∃b,aU f (st i s)=some b/\R b:=by
  intro k;induction k with
  |zero=>
   intro i s hi hI;obtain rfl:i=n:=by omega
   obtain⟨b,h1,h2⟩:=hend s hI;exact⟨b,cQ h1,h2⟩
  |succ k ih=>
   intro i s hi hI;rcases hstep i s (by omega) hI with⟨s',h1,h2⟩|⟨b,h1,h2⟩
   .obtain ⟨b,h4,h5⟩:=ih (i+1) s' (by omega) h2;exact⟨b,(fA h1).trans h4,h5⟩
   .exact ⟨b,cQ h1,h2⟩
 exact fun i s hi=>this (n-i) i s (by omega)
theorem XV{S σ β:Type}{goal:Prop}{f:S->Option (Sum S β)}(st:Nat->σ->S)(n:Nat)(I:Nat->σ->Prop)(R:β->Prop)
  (hstep:∀i s,i<n->I i s->(∃s',f (st i s)=some (.inl (st (i+1) s'))/\I (i+1) s')\/(∃b,f (st i s)=some (.inr b)/\R b))
  (hend:∀s,I n s->∃b,f (st n s)=some (.inr b)/\R b) (i:Nat) (s:σ) (hi:i<=n) (hI:I i s) (k:∀b,aU f (st i s)=some b->R b->goal):goal:=
 let⟨b,h1,h2⟩:=K8 st n I R hstep hend i s hi hI
 k b h1 h2
theorem WR{S β:Type}{goal:Prop}{f:S->Option (Sum S β)}(m:S->Nat)(I:S->Prop)(R:β->Prop)
  (hstep:∀s,I s->(∃s',f s=some (.inl s')/\I s'/\m s'<m s)\/(∃b,f s=some (.inr b)/\R b)) (s:S) (hI:I s) (k:∀b,aU f s=some b->R b->goal):goal:=
 let⟨b,h1,h2⟩:=WQ m I R hstep s hI
 k b h1 h2
theorem nM{i n:Nat}(h:i<n):decide ((i:Int)<(n:Int))=true:=by rw[decide_eq_true_eq];omega
theorem sS{n:Nat}:decide ((n:Int)<(n:Int))=false:=by rw[decide_eq_false_iff_not];omega
theorem zS{i:Nat}(h:i<9223372036854775807):wr .i64 ((i:Int)+1)=((i+1:Nat):Int):=by rw[iY (by omega) (by omega)];omega
def lZ{α β:Type}(P:Nat->α->Option β):List α->Nat->Option β
 |[],_=>none
 |x::r,i=>match P i x with|some b=>some b|none=>lZ P r (i+1)
theorem yL{α β γ:Type}[Inhabited α]{f:Int->Option (Sum Int (Sum β γ))}(l:List α)(P:Nat->α->Option β)(c:γ)(hb:l.length<9223372036854775808)
  (hstep:∀i:Nat,i<l.length->f (i:Int)=some (match P i (gt l i)with|some b=>.inr (.inl b)|none=>.inl (wr .i64 ((i:Int)+1)))) (hend:f (l.length:Int)=some (.inr (.inr c))):
  aU f 0=some (match lZ P l 0 with|some b=>.inl b|none=>.inr c):=by
 have main:∀(n i:Nat),i+n=l.length->aU f (i:Int)=some (match lZ P (l.drop i) i with|some b=>.inl b|none=>.inr c):=by
  intro n;induction n with
  |zero=>
   intro i hi;obtain rfl:i=l.length:=by omega
   rw[cQ hend,List.drop_length];rfl
  |succ n ih=>
   intro i hi;have hlt:i<l.length:=by omega
   have hs:=hstep i hlt;rw[jI hlt,<-dc hlt];simp only[lZ];cases hP:P i (gt l i)with|some b=>rw[hP]at hs;rw[cQ hs]|none=>rw[hP]at hs;simp only at hs;rw[zS (by omega)]at hs;rw[fA hs,ih (i+1) (by omega)]
 have:=main l.length 0 (by omega);simpa using this
theorem qY{α β:Type}{P:Nat->α->Option β}:∀{l:List α}{i:Nat},lZ P l i=none<->∀j(x:α),l[j]?=some x->P (i+j) x=none:=by
 intro l;induction l with
 |nil=>intro i;simp[lZ]
 |cons y l ih=>
  intro i;simp only[lZ];constructor
  .intro h j x hj;split at h
   .simp at h
   .rename_i hP;cases j with
    |zero=>
     obtain rfl:y=x:=by simpa using hj
     exact hP
    |succ j=>have:=ih.1 h j x (by simpa using hj);rw[show i+(j+1)=i+1+j by omega];exact this
  .intro h;have h0:=h 0 y rfl;rw[Nat.add_zero]at h0;rw[h0];exact ih.2 fun j x hj=>by have:=h (j+1) x (by simpa using hj);rw[show i+(j+1)=i+1+j by omega]at this;exact this
theorem nI{α β:Type}{P:Nat->α->Option β}:∀{l:List α}{i:Nat}{b:β},lZ P l i=some b->∃j x,l[j]?=some x/\P (i+j) x=some b/\∀k,k<j->∀y,l[k]?=some y->P (i+k) y=none:=by
 intro l;induction l with
 |nil=>intro i b h;simp[lZ]at h
 |cons y l ih=>
  intro i b h;simp only[lZ]at h;split at h
  .rename_i b' hP;obtain rfl:=ac h;exact⟨0,y,rfl,hP,fun k hk=>by omega⟩
  .rename_i hP;obtain⟨j,x,h1,h2,h3⟩:=ih h;refine⟨j+1,x,by simpa using h1,by rw[show i+(j+1)=i+1+j by omega];exact h2,fun k hk z hz=>?_⟩;cases k with
   |zero=>
    obtain rfl:y=z:=by simpa using hz
    exact hP
   |succ k=>rw[show i+(k+1)=i+1+k by omega];exact h3 k (by omega) z (by simpa using hz)
theorem HT{α:Type}{p:α->Bool}{l:List α}{i:Nat}:lZ (fun _ x=>if p x then some false else none) l i=none<->∀x∈l,p x=false:=by
 rw[qY];constructor
 .intro h x hx;obtain⟨j,hj,rfl⟩:=ga hx;have:=h j l[j] (by simp[hj]);cases hp:p l[j]
  .rfl
  .rw [hp]at this;simp at this
 .intro h j x hj;rw[h x (bl hj)];rfl
theorem acp{α:Type}[Inhabited α]{f:Int->Option (Sum Int (Sum Bool Unit))}(l:List α)(p:α->Bool)(hb:l.length<9223372036854775808)
  (hstep:∀i:Nat,i<l.length->f (i:Int)=some (bif p (gt l i)then .inr (.inl false)else .inl (wr .i64 ((i:Int)+1)))) (hend:f (l.length:Int)=some (.inr (.inr ()))):
  aU f 0=some (if∀x∈l,p x=false then .inr ()else .inl false):=by
 rw[yL l (fun _ x=>if p x then some false else none) () hb (fun i hi=>by rw[hstep i hi];cases p (gt l i)<;>rfl) hend];cases h:lZ (fun _ x=>if p x then some false else none) l 0 with
 |none=>rw[if_pos (HT.1 h)]
 |some u=>
  obtain⟨j,x,_,h2,_⟩:=nI h;split at h2
  .obtain rfl:=ac h2;rw[if_neg];intro hn;rw[HT.2 hn]at h;simp at h
  .simp at h2
theorem abS{α β:Type}[Inhabited α]{f:(Int×Sl β)->Option (Sum (Int×Sl β) (Sl β))}(l:List α)(g:Nat->α->List β)(s0:Sl β)(hb:l.length<9223372036854775808)
  (hstep:∀(i:Nat)(s:Sl β),i<l.length->s.l=s0.l++((l.take i).zipIdx.flatMap fun p=>g p.2 p.1)->∃s',f ((i:Int),s)=some (.inl (wr .i64 ((i:Int)+1),s'))/\s'.l=s.l++g i (gt l i))
  (hend:∀s,f ((l.length:Int),s)=some (.inr s)):∃s,aU f (0,s0)=some s/\s.l=s0.l++(l.zipIdx.flatMap fun p=>g p.2 p.1):=by
 have e0:((0:Nat):Int)=0:=rfl;refine XV (f:=f) (fun i(s:Sl β)=>((i:Int),s)) l.length (fun i s=>s.l=s0.l++((l.take i).zipIdx.flatMap fun p=>g p.2 p.1)) (fun s=>s.l=s0.l++(l.zipIdx.flatMap fun p=>g p.2 p.1)) ?_ ?_ 0 s0 (cp _) (by simp) (fun b q1 q2=>?_)
 .intro i s hi hI;obtain⟨s',h1,h2⟩:=hstep i s hi hI;refine .inl ⟨s',by rw[h1,zS (by omega)],?_⟩;have et:l.take (i+1)=l.take i++[gt l i]:=by rw[dc hi,il hi]
  rw[h2,hI,et,List.zipIdx_append,List.flatMap_append,List.append_assoc];simp[Nat.min_eq_left (Nat.le_of_lt hi)]
 .intro s hI;refine⟨s,hend s,?_⟩;rw[eF]at hI;exact hI
 .rw [e0]at q1;exact⟨b,q1,q2⟩
theorem FR{α β:Type}[Inhabited α]{f:(Int×Sl β)->Option (Sum (Int×Sl β) (Sl β))}(l:List α)(g:α->List β)(s0:Sl β)(hb:l.length<9223372036854775808)
  (hstep:∀(i:Nat)(s:Sl β),i<l.length->s.l=s0.l++(l.take i).flatMap g->∃s',f ((i:Int),s)=some (.inl (wr .i64 ((i:Int)+1),s'))/\s'.l=s.l++g (gt l i))
  (hend:∀s,f ((l.length:Int),s)=some (.inr s)):∃s,aU f (0,s0)=some s/\s.l=s0.l++l.flatMap g:=by
 have key:∀(l:List α)(k:Nat),((l.zipIdx k).flatMap fun p=>g p.1)=l.flatMap g:=fun l=>by induction l with|nil=>intro k;rfl|cons x l ih=>intro k;simp[List.zipIdx_cons,ih]
 obtain⟨s,h1,h2⟩:=abS l (fun _ x=>g x) s0 hb (fun i s hi hs=>hstep i s hi (by rw[hs,key])) hend;exact⟨s,h1,by rw[h2,key]⟩
section
variable{κ ν:Type}
theorem xB[DecidableEq κ]{k:κ}:∀{l:List (κ×ν×Nat)}{i:Nat},dA k l i=none<->∀e∈l,k≠e.1:=by
 intro l;induction l with
 |nil=>intro i;simp[dA]
 |cons x l ih=>
  intro i;simp only[dA];by_cases h:k=x.1
  .simp [h]
  .simp [h,ih]
theorem KS[DecidableEq κ]{k:κ}{v:ν}:∀{l:List (κ×ν×Nat)}{i j:Nat}{e:κ×ν×Nat},dA k l i=some (j,e)->dA k (nk l (j-i) v) i=some (j,(e.1,v,e.2.2)):=by
 intro l;induction l with
 |nil=>intro i j e h;simp[dA]at h
 |cons x l ih=>
  intro i j e h;simp only[dA]at h;split at h
  .rename_i hk;obtain⟨rfl,rfl⟩:i=j/\x=e:=by simpa using h
   simp[nk,dA,hk]
  .rename_i hk;obtain⟨h1,_,_⟩:=lr h;have e1:j-i=(j-(i+1))+1:=by omega
   rw[e1];simp only[nk,dA,hk,if_false];exact ih h
theorem KR{v:ν}{e:κ×ν×Nat}:∀{l:List (κ×ν×Nat)},nk (l++[e]) l.length v=l++[(e.1,v,e.2.2)]:=by intro l;induction l with|nil=>rfl|cons x l ih=>simp only[List.cons_append,List.length_cons,nk,ih]
theorem Dg{l:List (κ×ν×Nat)}(h:∀(i:Nat)(e:κ×ν×Nat),l[i]?=some e->e.2.2=i){j:Nat}(hj:j<l.length):l.findIdx? (fun e=>decide ((e.2.2:Int)=(j:Int)))=some j:=by
 rw[List.findIdx?_eq_some_iff_getElem];refine⟨hj,?_,fun k hk=>?_⟩
 .have:=h j l[j] (by simp);simp[this]
 .have:=h k (l[k]'(by omega)) (by simp);simp only[this,decide_eq_true_eq];omega
end
def nL{κ:Type}(l:List κ):Mp κ Int:=⟨l.zipIdx.map fun q=>(q.1,1,q.2),l.length⟩
theorem Az{κ:Type}{l:List κ}{i:Nat}{e:κ×Int×Nat}(h:(nL l).es[i]?=some e):l[i]?=some e.1/\e.2.1=1/\e.2.2=i:=by simp only[nL,List.getElem?_map,cg]at h;obtain⟨q,hq,rfl⟩:=h;rw[List.getElem?_zipIdx]at hq;obtain⟨x,hx,rfl⟩:=cg.1 hq;exact⟨hx,rfl,by simp⟩
theorem IS{κ:Type}{l:List κ}{e:κ×Int×Nat}(h:e∈(nL l).es):e.1∈l:=by obtain⟨i,hi,rfl⟩:=ga h;exact bl (Az (i:=i) (by simp[hi])).1
theorem Ay{κ:Type}[DecidableEq κ]{l:List κ}{k:κ}:kF (nL l) 0 k=if k∈l then 1 else 0:=by
 unfold kF;by_cases hk:k∈l
 .rw [if_pos hk];cases h:dA k (nL l).es 0 with|none=>exfalso;rw[xB]at h;obtain⟨i,hi,rfl⟩:=ga hk;refine h (l[i],1,i) ?_ rfl;simp only[nL,List.mem_map];exact⟨(l[i],i),by rw[List.mem_zipIdx_iff_getElem?];simp[hi],rfl⟩|some p=>obtain⟨j,e⟩:=p;obtain⟨_,h2,_⟩:=lr h;exact(Az h2).2.1
 .rw [if_neg hk,xB.2 fun e he hke=>hk (by rw[hke];exact IS he)]
theorem Q3{κ:Type}[DecidableEq κ]{l:List κ}{k:κ}(hk:k∉l):DM (l_ (nL l) 0 k).1 (l_ (nL l) 0 k).2.2 1=some (nL (l++[k])):=by
 have hf:dA k (nL l).es 0=none:=xB.2 fun e he hke=>hk (by rw[hke];exact IS he);have he:l_ (nL l) 0 k=(⟨(nL l).es++[(k,0,l.length)],l.length+1⟩,0,(l.length:Int)):=by simp only[l_,hf];rfl
 have hlen:(nL l).es.length=l.length:=by simp[nL]
 have fh:((nL l).es++[(k,(0:Int),l.length)]).findIdx? (fun e=>decide ((e.2.2:Int)=(l.length:Int)))=some l.length:=by
  refine Dg (fun i e hi=>?_) (by simp[hlen]);rcases Nat.lt_or_ge i (nL l).es.length with h|h
  .rw [List.getElem?_append_left h]at hi;exact(Az hi).2.2
  .rw [List.getElem?_append_right h]at hi;have h0:i-(nL l).es.length=0:=by have:=(aW.1 hi).1;simp at this;omega
   rw[h0]at hi;obtain rfl:(k,(0:Int),l.length)=e:=by simpa using hi
   simp only;omega
 rw[he];simp only[DM,fh,fJ];have hp:=KR (v:=(1:Int)) (e:=(k,(0:Int),l.length)) (l:=(nL l).es);rw[hlen]at hp;rw[hp];simp[nL,List.zipIdx_append]
theorem Q2{κ:Type}[DecidableEq κ]{l:List κ}{k:κ}(hk:k∈l)(v:Int):∃m,DM (l_ (nL l) 0 k).1 (l_ (nL l) 0 k).2.2 v=some m/\kF m 0 k=v:=by
 cases h:dA k (nL l).es 0 with
 |none=>have:=@Ay κ _ l k;rw[if_pos hk]at this;unfold kF at this;rw[h]at this;simp at this
 |some p=>
  obtain⟨j,e⟩:=p;obtain⟨_,h2,_⟩:=lr h;rw[nY]at h2;obtain⟨_,_,h5⟩:=Az h2;have he:l_ (nL l) 0 k=(nL l,e.2.1,(e.2.2:Int)):=by simp only[l_,h]
  have hj:j<(nL l).es.length:=(aW.1 h2).1;have fh:=Dg (l:=(nL l).es) (fun i e hi=>(Az hi).2.2) hj;refine⟨⟨nk (nL l).es j v,(nL l).ce⟩,by rw[he];simp only[DM,h5,fh,fJ],?_⟩;have:=KS (v:=v) h;rw[nY]at this;simp only[kF,this]
def kW(t:ao):List bp:=(t.a7.l.flatMap fun l=>[⟨l.A,l.mq⟩,⟨l.B,l.mo⟩])++t.bn.l.flatMap fun h=>[⟨h.At,h.gk⟩]
def zO(l:a_):Prop:=l.A≠l.B/\1<=l.Ci/\l.Ci<=l.uw/\l.uw<=1000
def pc(t:ao)(p:bp):Prop:=(0<=p.sw/\p.sw<t.au)/\0<=p.EZ/\p.EZ<8
structure fF(t:ao):Prop where
 sw:1<=t.au/\t.au<=8
 FN:t.a7.l.length<=24
 AM:t.bn.l.length<=8
 Rf:∀l∈t.a7.l,zO l
 nodup:(kW t).Nodup
 ic:∀p∈kW t,pc t p
instance(t:ao):Decidable (fF t):=Classical.propDecidable _
theorem Kt{t:ao}(h1:t.a7.l.length<=24)(h2:t.bn.l.length<=8):(kW t).length<=56:=by
 have e:∀l:List a_,(l.flatMap fun l=>[(⟨l.A,l.mq⟩:bp),⟨l.B,l.mo⟩]).length=2*l.length:=fun l=>by induction l with|nil=>rfl|cons x l ih=>simp[ih];omega
 have e2:∀l:List fZ,(l.flatMap fun h=>[(⟨h.At,h.gk⟩:bp)]).length=l.length:=fun l=>by induction l with|nil=>rfl|cons x l ih=>simp[ih]
 rw[kW,aA,e,e2];omega
theorem Is{t:ao}(h1:t.a7.l.length<=24)(h2:t.bn.l.length<=8):∃s,pH t=some s/\s.l=kW t:=by
 have e2:∀l:List a_,(l.flatMap fun l=>[(⟨l.A,l.mq⟩:bp),⟨l.B,l.mo⟩]).length=2*l.length:=fun l=>by induction l with|nil=>rfl|cons x l ih=>simp[ih];omega
 have e1:∀l:List fZ,(l.flatMap fun h=>[(⟨h.At,h.gk⟩:bp)]).length=l.length:=fun l=>by induction l with|nil=>rfl|cons x l ih=>simp[ih]
 obtain⟨s,k1,k2⟩:=FR (f:=m_ t) t.a7.l (fun l=>[⟨l.A,l.mq⟩,⟨l.B,l.mo⟩]) .nil (by omega) (fun i s hi hs=>by have hcap:g_ (s.l++[(⟨(gt t.a7.l i).A,(gt t.a7.l i).mq⟩:bp),⟨(gt t.a7.l i).B,(gt t.a7.l i).mo⟩])=some (s.l++[⟨(gt t.a7.l i).A,(gt t.a7.l i).mq⟩,⟨(gt t.a7.l i).B,(gt t.a7.l i).mo⟩]):=nX (by rw[hs,aA,aA,e2,bU];simp;omega);exact⟨.mk (s.l++[⟨(gt t.a7.l i).A,(gt t.a7.l i).mq⟩,⟨(gt t.a7.l i).B,(gt t.a7.l i).mo⟩]),by simp only[m_,nM hi,cond_true,bV hi,af,hcap],rfl⟩) (fun s=>by simp only[m_,sS,cond_false]);obtain⟨s2,k3,k4⟩:=FR (f:=m9 t) t.bn.l (fun h=>[⟨h.At,h.gk⟩]) s (by omega) (fun i s' hi hs=>by have hcap:g_ (s'.l++[(⟨(gt t.bn.l i).At,(gt t.bn.l i).gk⟩:bp)])=some (s'.l++[⟨(gt t.bn.l i).At,(gt t.bn.l i).gk⟩]):=nX (by rw[hs,k2,aA,aA,aA,e2,e1,bU];simp;omega);exact⟨.mk (s'.l++[⟨(gt t.bn.l i).At,(gt t.bn.l i).gk⟩]),by simp only[m9,nM hi,cond_true,bV hi,af,hcap],rfl⟩) (fun s=>by simp only[m9,sS,cond_false]);exact⟨s2,by simp only[pH,k1,af,k3],by rw[k4,k2];rfl⟩
theorem Lj{t:ao}{r:Sl bp}(hb:r.l.length<9223372036854775808):
  ∃b,aU (iZ t r) (0,(Mp.none:Mp bp Int))=some b/\match b with|.inl v=>v=false/\¬(r.l.Nodup/\∀p∈r.l,pc t p)|.inr _=>r.l.Nodup/\∀p∈r.l,pc t p:=by
 have e0:((0:Nat):Int)=0:=rfl
 refine XV (f:=iZ t r) (fun i(m:Mp bp Int)=>((i:Int),m)) r.l.length (fun i m=>m=nL (r.l.take i)/\(r.l.take i).Nodup/\∀p∈r.l.take i,pc t p)
  (fun b=>match b with|.inl v=>v=false/\¬(r.l.Nodup/\∀p∈r.l,pc t p)|.inr _=>r.l.Nodup/\∀p∈r.l,pc t p) ?_ ?_ 0 Mp.none (cp _) ⟨by simp[nL,Mp.none],by simp,by simp⟩ (fun b q1 q2=>?_)
 .rintro i m hi ⟨rfl,hnd,hok⟩;have hgm:gt r.l i∈r.l:=by rw[dc hi];exact List.getElem_mem _
  have et:r.l.take (i+1)=r.l.take i++[gt r.l i]:=by rw[dc hi,il hi]
  have hsplit:r.l=r.l.take i++gt r.l i::r.l.drop (i+1):=by rw[dc hi,<-jI hi,List.take_append_drop]
  by_cases hm:gt r.l i∈r.l.take i
  .right;obtain⟨m2,h1,h2⟩:=Q2 hm 2;have hw:wr .i64 (kF (nL (r.l.take i)) 0 (gt r.l i)+1)=2:=by rw[Ay,if_pos hm];rfl
   have hd:decide ((2:Int)>1)=true:=rfl;refine⟨.inl false,by simp only[iZ,nM hi,cond_true,bV hi,af,hw,h1,h2,hd,Bool.or_true],rfl,fun hh=>?_⟩;have h3:=hh.1;rw[hsplit]at h3;exact(bD.1 h3).2.2 _ hm _ (List.mem_cons_self ..) rfl
  .have h1:=Q3 hm;have hw:wr .i64 (kF (nL (r.l.take i)) 0 (gt r.l i)+1)=1:=by rw[Ay,if_neg hm];rfl
   have h2:kF (nL (r.l.take i++[gt r.l i])) 0 (gt r.l i)=1:=by rw[Ay,if_pos (by simp)]
   have hd:decide ((1:Int)>1)=false:=rfl;have hc:((((decide (((gt r.l i).sw)<0))||(decide (((gt r.l i).sw)>=t.au)))||(decide (((gt r.l i).EZ)<0)))||(decide (((gt r.l i).EZ)>=8)))=true<->¬pc t (gt r.l i):=by simp only[dI,decide_eq_true_eq,pc];omega
   by_cases hp:pc t (gt r.l i)
   .left;have hc2:((((decide (((gt r.l i).sw)<0))||(decide (((gt r.l i).sw)>=t.au)))||(decide (((gt r.l i).EZ)<0)))||(decide (((gt r.l i).EZ)>=8)))=false:=by rw[<-Bool.not_eq_true];exact fun h=>hc.1 h hp
    refine⟨nL (r.l.take (i+1)),by simp only[iZ,nM hi,cond_true,bV hi,af,hw,h1,h2,hd,oW,hc2,cond_false,zS (show i<9223372036854775807 by omega),et],rfl,?_,?_⟩
    .rw [et];exact bD.2 ⟨hnd,by simp,fun a ha b hb=>by rw[az]at hb;subst hb;exact fun e=>hm (e▸ha)⟩
    .intro p hpm;rw[et]at hpm;rcases List.mem_append.1 hpm with h|h
     .exact hok p h
     .rw [az]at h;subst h;exact hp
   .right;exact⟨.inl false,by simp only[iZ,nM hi,cond_true,bV hi,af,hw,h1,h2,hd,oW,hc.2 hp],rfl,fun hh=>hp (hh.2 _ hgm)⟩
 .rintro m ⟨_,hnd,hok⟩;rw[eF]at hnd hok;exact⟨.inr (),by simp only[iZ,sS,cond_false],hnd,hok⟩
 .rw [e0]at q1;exact⟨b,q1,q2⟩
theorem yZ{t:ao}:nc t=some (decide (fF t)):=by
 unfold nc;by_cases hs:(1<=t.au/\t.au<=8)/\t.a7.l.length<=24/\t.bn.l.length<=8
 .have hc:((((decide (t.au<1))||(decide (t.au>8)))||(decide ((t.a7.l.length:Int)>24)))||(decide ((t.bn.l.length:Int)>8)))=false:=by simp only[cN,decide_eq_false_iff_not];omega
  have hl:=acp (f:=oF t) t.a7.l (fun l=>((((l.A==l.B)||(decide (l.Ci<1)))||(decide (l.Ci>l.uw)))||(decide (l.uw>1000)))) (by omega) (fun i hi=>by simp only[oF,nM hi,cond_true,bV hi,af];generalize((((gt t.a7.l i).A==(gt t.a7.l i).B)||_)||_||_)=c;cases c<;>rfl) (by simp only[oF,sS,cond_false]);have hlk:∀l:a_,((((l.A==l.B)||(decide (l.Ci<1)))||(decide (l.Ci>l.uw)))||(decide (l.uw>1000)))=false<->zO l:=fun l=>by simp only[cN,beq_eq_false_iff_ne,decide_eq_false_iff_not,zO];omega
  rw[hc,cond_false,hl];by_cases hlo:∀l∈t.a7.l,zO l
  .rw [if_pos (fun l hm=>(hlk l).2 (hlo l hm))];simp only[af];obtain⟨s,p1,p2⟩:=Is hs.2.1 hs.2.2;have hpl:=Kt hs.2.1 hs.2.2;obtain⟨b,q1,q2⟩:=Lj (t:=t) (r:=s) (by rw[p2];omega);simp only[p1,af,q1];rw[p2]at q2;cases b with|inl v=>obtain⟨rfl,q2⟩:=q2;exact congrArg some (decide_eq_false fun h:fF t=>q2 ⟨h.nodup,h.ic⟩).symm|inr _=>exact congrArg some (decide_eq_true ⟨hs.1,hs.2.1,hs.2.2,hlo,q2.1,q2.2⟩).symm
  .rw [if_neg (fun h=>hlo fun l hm=>(hlk l).1 (h l hm))];exact congrArg some (decide_eq_false fun h=>hlo h.Rf).symm
 .have hc:((((decide (t.au<1))||(decide (t.au>8)))||(decide ((t.a7.l.length:Int)>24)))||(decide ((t.bn.l.length:Int)>8)))=true:=by simp only[dI,decide_eq_true_eq];omega
  rw[hc,cond_true];exact congrArg some (decide_eq_false fun h=>hs ⟨h.sw,h.FN,h.AM⟩).symm
def tP(sw p:Int)(i:Nat)(l:a_):Option (Int×Int×Int):=if sw=l.A/\p=l.mq then some (l.B,l.mo,(i:Int))else if sw=l.B/\p=l.mo then some (l.A,l.mq,(i:Int))else none
theorem P6{α β γ:Type}{P:Nat->α->Option β}(g:β->γ):∀{l:List α}{i:Nat},lZ (fun i x=>(P i x).map g) l i=(lZ P l i).map g:=by
 intro l;induction l with
 |nil=>intro i;rfl
 |cons x l ih=>intro i;simp only[lZ];cases P i x with|none=>exact ih|some b=>rfl
def q4(q:Int×Int×Int):Int×Int×Int×Bool:=(q.1,q.2.1,q.2.2,true)
def Dz(t:ao)(sw p:Int):Int×Int×Int×Bool:=match lZ (tP sw p) t.a7.l 0 with|some (a,b,c)=>(a,b,c,true)|none=>(0,0,0,false)
theorem NT(a b sw p:Int):decide ((⟨sw,p⟩:bp)=⟨a,b⟩)=decide (sw=a/\p=b):=by rw[Bool.eq_iff_iff];simp
theorem NU{t:ao}(sw p:Int)(hb:t.a7.l.length<9223372036854775808):tf t sw p=some (Dz t sw p):=by
 have h:=yL (f:=qd t sw p) t.a7.l (fun i l=>(tP sw p i l).map q4) () hb (fun i hi=>by
  simp only[qd,nM hi,cond_true,bV hi,af,NT,tP];by_cases h1:sw=(gt t.a7.l i).A/\p=(gt t.a7.l i).mq
  .rw [if_pos h1,decide_eq_true h1];rfl
  .by_cases h2:sw=(gt t.a7.l i).B/\p=(gt t.a7.l i).mo
   .rw [if_neg h1,if_pos h2,decide_eq_false h1,decide_eq_true h2];rfl
   .rw [if_neg h1,if_neg h2,decide_eq_false h1,decide_eq_false h2];rfl) (by simp only[qd,sS,cond_false])
 simp only[tf,h,af,P6,Dz];cases lZ (tP sw p) t.a7.l 0 with|none=>rfl|some q=>obtain⟨a,b,c⟩:=q;rfl
theorem TY{t:ao}(hV:fF t){sw p a b c:Int}(h:lZ (tP sw p) t.a7.l 0=some (a,b,c)):0<=a/\a<t.au:=by
 obtain⟨j,l,h1,h2,_⟩:=nI h;have hm:l∈t.a7.l:=bl h1;have hA:pc t ⟨l.A,l.mq⟩:=hV.ic _ (bw _ (cA.2 ⟨l,hm,by simp⟩));have hB:pc t ⟨l.B,l.mo⟩:=hV.ic _ (bw _ (cA.2 ⟨l,hm,by simp⟩));unfold tP at h2;split at h2
 .obtain ⟨rfl,_⟩:=ap (ac h2);exact hB.1
 .split at h2
  .obtain ⟨rfl,_⟩:=ap (ac h2);exact hA.1
  .simp at h2
instance(t:ao)(p:bp):Decidable (pc t p):=inferInstanceAs (Decidable ((0<=p.sw/\p.sw<t.au)/\0<=p.EZ/\p.EZ<8))
def zF(l:a_):List bp:=[⟨l.A,l.mq⟩,⟨l.B,l.mo⟩]
def Wo(h:fZ):List bp:=[⟨h.At,h.gk⟩]
theorem pL(t:ao):kW t=t.a7.l.flatMap zF++t.bn.l.flatMap Wo:=rfl
theorem B_{t:ao}(hV:fF t){i j:Nat}{l m:a_}(hi:t.a7.l[i]?=some l)(hj:t.a7.l[j]?=some m){p:bp}(hp:p∈zF l)(hq:p∈zF m):i=j:=by
 have h:=(bD.1 (pL t▸hV.nodup)).1;have h2:=(List.pairwise_flatMap.1 h).2;rw[List.pairwise_iff_getElem]at h2;obtain⟨hil,rfl⟩:=aW.1 hi;obtain⟨hjl,rfl⟩:=aW.1 hj;rcases Nat.lt_trichotomy i j with h3|h3|h3
 .exact absurd rfl (h2 i j hil hjl h3 p hp p hq)
 .exact h3
 .exact absurd rfl (h2 j i hjl hil h3 p hq p hp)
def CJ(l:a_)(sw p a b:Int):Prop:=(sw=l.A/\p=l.mq/\a=l.B/\b=l.mo)\/(sw=l.B/\p=l.mo/\a=l.A/\b=l.mq)
theorem CJ.symm{l:a_}{sw p a b:Int}(h:CJ l sw p a b):CJ l a b sw p:=by
 rcases h with⟨rfl,rfl,rfl,rfl⟩|⟨rfl,rfl,rfl,rfl⟩
 .exact .inr ⟨rfl,rfl,rfl,rfl⟩
 .exact .inl ⟨rfl,rfl,rfl,rfl⟩
theorem CJ.AA{l:a_}{sw p a b:Int}(h:CJ l sw p a b):(⟨sw,p⟩:bp)∈zF l:=by rcases h with⟨rfl,rfl,_,_⟩|⟨rfl,rfl,_,_⟩<;>simp[zF]
theorem DB{sw p:Int}{i:Nat}{l:a_}{a b c:Int}(h:tP sw p i l=some (a,b,c)):CJ l sw p a b/\c=i:=by
 unfold tP at h;split at h
 .rename_i h1;obtain⟨rfl,rfl,rfl⟩:l.B=a/\l.mo=b/\(i:Int)=c:=by simpa using h
  exact⟨.inl ⟨h1.1,h1.2,rfl,rfl⟩,rfl⟩
 .split at h
  .rename_i h1;obtain⟨rfl,rfl,rfl⟩:l.A=a/\l.mq=b/\(i:Int)=c:=by simpa using h
   exact⟨.inr ⟨h1.1,h1.2,rfl,rfl⟩,rfl⟩
  .simp at h
theorem DA{l:a_}(hl:l.A≠l.B){sw p a b:Int}(h:CJ l sw p a b)(i:Nat):tP sw p i l=some (a,b,(i:Int)):=by
 unfold tP;rcases h with⟨rfl,rfl,rfl,rfl⟩|⟨rfl,rfl,rfl,rfl⟩
 .rw [if_pos ⟨rfl,rfl⟩]
 .rw [if_neg fun h=>hl h.1.symm,if_pos ⟨rfl,rfl⟩]
theorem Dy{t:ao}(hV:fF t){sw p a b c:Int}:lZ (tP sw p) t.a7.l 0=some (a,b,c)<->∃(j:Nat)(l:a_),t.a7.l[j]?=some l/\CJ l sw p a b/\c=j:=by
 constructor
 .intro h;obtain⟨j,l,h1,h2,_⟩:=nI h;obtain⟨h3,h4⟩:=DB h2;exact⟨j,l,h1,h3,by simpa using h4⟩
 .rintro ⟨j,l,h1,h2,rfl⟩;have hlk:=hV.Rf l (bl h1);cases h:lZ (tP sw p) t.a7.l 0 with
  |none=>have:=qY.1 h j l h1;rw[DA hlk.1 h2]at this;simp at this
  |some q=>
   obtain⟨a',b',c'⟩:=q;obtain⟨k,m,h3,h4,_⟩:=nI h;obtain⟨h5,h6⟩:=DB h4;obtain rfl:=B_ hV h1 h3 h2.AA h5.AA;obtain rfl:l=m:=ac (h1.symm.trans h3);have e:=DA hlk.1 h2 (0+j);rw[DA hlk.1 h5]at e;obtain⟨rfl,rfl⟩:a'=a/\b'=b:=by simpa using e
   rw[h6];simp
end Go.Proofs.YtoekkpmeeclpeaaGreat.S
