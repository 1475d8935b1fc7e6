/- Loops over lists, and topologies: what Right and Peer answer. Conditions: as stated. -/
import Derived.Test.YtoekkpmeeclpeaaGreatS
open Bool renaming and_eq_true->ak,eq_iff_iff->kI,or_eq_false_iff->fr,or_eq_true->iq,or_false->mI
open List renaming append_nil->aV,drop_eq_getElem_cons->mi,flatMap_append->fF,flatMap_cons->bL,getElem?_eq_some_iff->aB,getElem_of_mem->b_,length_append->ap,length_take->cD,mem_append->aC,mem_flatMap->cm,mem_of_getElem?->aF,mem_singleton->aq,nodup_append->da,take_append_getElem->fQ,take_length->iS
open Nat renaming add_zero->fy,le_refl->am,zero_le->cY
open Option renaming bind_some->ae,map_eq_some_iff->aH,map_some->gF
open Option.some renaming inj->aa
open Go.Ev Go
noncomputable section
namespace Go.Proofs.YtoekkpmeeclpeaaGreat.S
theorem tK{n:Int}(h0:-9223372036854775808<=n)(h1:n<9223372036854775808):wr .i64 n=n:=by simp[wr,IntKind.wrap,IntKind.bits,IntKind.signed];omega
theorem RN{S β:Type}{f:S->Option (Sum S β)}(m:S->Nat)(I:S->Prop)(R:β->Prop)
  (hstep:∀s,I s->(∃s',f s=some (.inl s')/\I s'/\m s'<m s)\/(∃b,f s=some (.inr b)/\R b)):∀s,I s->∃b,aP f s=some b/\R b:=by
 have:∀(n:Nat)(s:S),m s<=n->I s->∃b,aP f s=some b/\R b:=by
  intro n;induction n with
  |zero=>
   intro s hn hI;rcases hstep s hI with⟨s',_,_,h⟩|⟨b,h1,h2⟩
   .omega
   .exact ⟨b,bt h1,h2⟩
  |succ n ih=>
   intro s hn hI;rcases hstep s hI with⟨s',h1,h2,h3⟩|⟨b,h1,h2⟩
   .obtain ⟨b,h4,h5⟩:=ih s' (by omega) h2;exact⟨b,(bX h1).trans h4,h5⟩
   .exact ⟨b,bt h1,h2⟩
 exact fun s=>this (m s) s (am _)
theorem YB{S σ β:Type}{f:S->Option (Sum S β)}(st:Nat->σ->S)(n:Nat)(I:Nat->σ->Prop)(R:β->Prop)
  (hstep:∀i s,i<n->I i s->(∃s',f (st i s)=some (.inl (st (i+1) s'))/\I (i+1) s')\/(∃b,f (st i s)=some (.inr b)/\R b))
  (hend:∀s,I n s->∃b,f (st n s)=some (.inr b)/\R b):∀i s,i<=n->I i s->∃b,aP f (st i s)=some b/\R b:=by
 have:∀(k i:Nat)(s:σ),i+k=n->I i s->∃b,aP f (st i s)=some b/\R b:=by
  intro k;induction k with
  |zero=>
   intro i s hi hI;obtain rfl:i=n:=by omega
   obtain⟨b,h1,h2⟩:=hend s hI;exact⟨b,bt h1,h2⟩
  |succ k ih=>
   intro i s hi hI;rcases hstep i s (by omega) hI with⟨s',h1,h2⟩|⟨b,h1,h2⟩
   .obtain ⟨b,h4,h5⟩:=ih (i+1) s' (by omega) h2;exact⟨b,(bX h1).trans h4,h5⟩
   .exact ⟨b,bt h1,h2⟩
 exact fun i s hi=>this (n-i) i s (by omega)
theorem FQ{S σ β:Type}{goal:Prop}{f:S->Option (Sum S β)}(st:Nat->σ->S)(n:Nat)(I:Nat->σ->Prop)(R:β->Prop)
  (hstep:∀i s,i<n->I i s->(∃s',f (st i s)=some (.inl (st (i+1) s'))/\I (i+1) s')\/(∃b,f (st i s)=some (.inr b)/\R b))
  (hend:∀s,I n s->∃b,f (st n s)=some (.inr b)/\R b) (i:Nat) (s:σ) (hi:i<=n) (hI:I i s) (k:∀b,aP f (st i s)=some b->R b->goal):goal:=
 let⟨b,h1,h2⟩:=YB st n I R hstep hend i s hi hI
 k b h1 h2
theorem RP{S β:Type}{goal:Prop}{f:S->Option (Sum S β)}(m:S->Nat)(I:S->Prop)(R:β->Prop)
  (hstep:∀s,I s->(∃s',f s=some (.inl s')/\I s'/\m s'<m s)\/(∃b,f s=some (.inr b)/\R b)) (s:S) (hI:I s) (k:∀b,aP f s=some b->R b->goal):goal:=
 let⟨b,h1,h2⟩:=RN m I R hstep s hI
 k b h1 h2
theorem nm{i n:Nat}(h:i<n):decide ((i:Int)<(n:Int))=true:=by rw[decide_eq_true_eq];omega
theorem qw{n:Nat}:decide ((n:Int)<(n:Int))=false:=by rw[decide_eq_false_iff_not];omega
theorem u_{i:Nat}(h:i<9223372036854775807):wr .i64 ((i:Int)+1)=((i+1:Nat):Int):=by rw[tK (by omega) (by omega)];omega
def j9{α β:Type}(P:Nat->α->Option β):List α->Nat->Option β
 |[],_=>none
 |x::r,i=>match P i x with|some b=>some b|none=>j9 P r (i+1)
theorem tU{α β γ:Type}[Inhabited α]{f:Int->Option (Sum Int (Sum β γ))}(l:List α)(P:Nat->α->Option β)(c:γ)(hb:l.length<9223372036854775808)
  (hstep:∀i:Nat,i<l.length->f (i:Int)=some (match P i (gt l i)with|some b=>.inr (.inl b)|none=>.inl (wr .i64 ((i:Int)+1)))) (hend:f (l.length:Int)=some (.inr (.inr c))):
  aP f 0=some (match j9 P l 0 with|some b=>.inl b|none=>.inr c):=by
 have main:∀(n i:Nat),i+n=l.length->aP f (i:Int)=some (match j9 P (l.drop i) i with|some b=>.inl b|none=>.inr c):=by
  intro n;induction n with
  |zero=>
   intro i hi;obtain rfl:i=l.length:=by omega
   rw[bt hend,List.drop_length];rfl
  |succ n ih=>
   intro i hi;have hlt:i<l.length:=by omega
   have hs:=hstep i hlt;rw[mi hlt,<-ju hlt];simp only[j9];cases hP:P i (gt l i)with|some b=>rw[hP]at hs;rw[bt hs]|none=>rw[hP]at hs;simp only at hs;rw[u_ (by omega)]at hs;rw[bX hs,ih (i+1) (by omega)]
 have:=main l.length 0 (by omega);simpa using this
theorem ou{α β:Type}{P:Nat->α->Option β}:∀{l:List α}{i:Nat},j9 P l i=none<->∀j(x:α),l[j]?=some x->P (i+j) x=none:=by
 intro l;induction l with
 |nil=>intro i;simp[j9]
 |cons y l ih=>
  intro i;simp only[j9];constructor
  .intro h j x hj;split at h
   .simp at h
   .rename_i hP;cases j with
    |zero=>
     obtain rfl:y=x:=by simpa using hj
     exact hP
    |succ j=>have:=ih.1 h j x (by simpa using hj);rw[show i+(j+1)=i+1+j by omega];exact this
  .intro h;have h0:=h 0 y rfl;rw[fy]at h0;rw[h0];exact ih.2 fun j x hj=>by have:=h (j+1) x (by simpa using hj);rw[show i+(j+1)=i+1+j by omega]at this;exact this
theorem jP{α β:Type}{P:Nat->α->Option β}:∀{l:List α}{i:Nat}{b:β},j9 P l i=some b->∃j x,l[j]?=some x/\P (i+j) x=some b/\∀k,k<j->∀y,l[k]?=some y->P (i+k) y=none:=by
 intro l;induction l with
 |nil=>intro i b h;simp[j9]at h
 |cons y l ih=>
  intro i b h;simp only[j9]at h;split at h
  .rename_i b' hP;obtain rfl:=aa h;exact⟨0,y,rfl,hP,fun k hk=>by omega⟩
  .rename_i hP;obtain⟨j,x,h1,h2,h3⟩:=ih h;refine⟨j+1,x,by simpa using h1,by rw[show i+(j+1)=i+1+j by omega];exact h2,fun k hk z hz=>?_⟩;cases k with
   |zero=>
    obtain rfl:y=z:=by simpa using hz
    exact hP
   |succ k=>rw[show i+(k+1)=i+1+k by omega];exact h3 k (by omega) z (by simpa using hz)
theorem Eu{α:Type}{p:α->Bool}{l:List α}{i:Nat}:j9 (fun _ x=>if p x then some false else none) l i=none<->∀x∈l,p x=false:=by
 rw[ou];constructor
 .intro h x hx;obtain⟨j,hj,rfl⟩:=b_ hx;have:=h j l[j] (by simp[hj]);cases hp:p l[j]
  .rfl
  .rw [hp]at this;simp at this
 .intro h j x hj;rw[h x (aF hj)];rfl
theorem TS{α:Type}[Inhabited α]{f:Int->Option (Sum Int (Sum Bool Unit))}(l:List α)(p:α->Bool)(hb:l.length<9223372036854775808)
  (hstep:∀i:Nat,i<l.length->f (i:Int)=some (bif p (gt l i)then .inr (.inl false)else .inl (wr .i64 ((i:Int)+1)))) (hend:f (l.length:Int)=some (.inr (.inr ()))):
  aP f 0=some (if∀x∈l,p x=false then .inr ()else .inl false):=by
 rw[tU l (fun _ x=>if p x then some false else none) () hb (fun i hi=>by rw[hstep i hi];cases p (gt l i)<;>rfl) hend];cases h:j9 (fun _ x=>if p x then some false else none) l 0 with
 |none=>rw[if_pos (Eu.1 h)]
 |some u=>
  obtain⟨j,x,_,h2,_⟩:=jP h;split at h2
  .obtain rfl:=aa h2;rw[if_neg];intro hn;rw[Eu.2 hn]at h;simp at h
  .simp at h2
theorem UR{α β:Type}[Inhabited α]{f:(Int×Sl β)->Option (Sum (Int×Sl β) (Sl β))}(l:List α)(g:Nat->α->List β)(s0:Sl β)(hb:l.length<9223372036854775808)
  (hstep:∀(i:Nat)(s:Sl β),i<l.length->s.l=s0.l++((l.take i).zipIdx.flatMap fun p=>g p.2 p.1)->∃s',f ((i:Int),s)=some (.inl (wr .i64 ((i:Int)+1),s'))/\s'.l=s.l++g i (gt l i))
  (hend:∀s,f ((l.length:Int),s)=some (.inr s)):∃s,aP f (0,s0)=some s/\s.l=s0.l++(l.zipIdx.flatMap fun p=>g p.2 p.1):=by
 have e0:((0:Nat):Int)=0:=rfl;refine FQ (f:=f) (fun i(s:Sl β)=>((i:Int),s)) l.length (fun i s=>s.l=s0.l++((l.take i).zipIdx.flatMap fun p=>g p.2 p.1)) (fun s=>s.l=s0.l++(l.zipIdx.flatMap fun p=>g p.2 p.1)) ?_ ?_ 0 s0 (cY _) (by simp) (fun b q1 q2=>?_)
 .intro i s hi hI;obtain⟨s',h1,h2⟩:=hstep i s hi hI;refine .inl ⟨s',by rw[h1,u_ (by omega)],?_⟩;have et:l.take (i+1)=l.take i++[gt l i]:=by rw[ju hi,fQ hi]
  rw[h2,hI,et,List.zipIdx_append,fF,List.append_assoc];simp[Nat.min_eq_left (Nat.le_of_lt hi)]
 .intro s hI;refine⟨s,hend s,?_⟩;rw[iS]at hI;exact hI
 .rw [e0]at q1;exact⟨b,q1,q2⟩
theorem Rn{α β:Type}[Inhabited α]{f:(Int×Sl β)->Option (Sum (Int×Sl β) (Sl β))}(l:List α)(g:α->List β)(s0:Sl β)(hb:l.length<9223372036854775808)
  (hstep:∀(i:Nat)(s:Sl β),i<l.length->s.l=s0.l++(l.take i).flatMap g->∃s',f ((i:Int),s)=some (.inl (wr .i64 ((i:Int)+1),s'))/\s'.l=s.l++g (gt l i))
  (hend:∀s,f ((l.length:Int),s)=some (.inr s)):∃s,aP f (0,s0)=some s/\s.l=s0.l++l.flatMap g:=by
 have key:∀(l:List α)(k:Nat),((l.zipIdx k).flatMap fun p=>g p.1)=l.flatMap g:=fun l=>by induction l with|nil=>intro k;rfl|cons x l ih=>intro k;simp[List.zipIdx_cons,ih]
 obtain⟨s,h1,h2⟩:=UR l (fun _ x=>g x) s0 hb (fun i s hi hs=>hstep i s hi (by rw[hs,key])) hend;exact⟨s,h1,by rw[h2,key]⟩
section
variable{κ ν:Type}
theorem t_[DecidableEq κ]{k:κ}:∀{l:List (κ×ν×Nat)}{i:Nat},gL k l i=none<->∀e∈l,k≠e.1:=by
 intro l;induction l with
 |nil=>intro i;simp[gL]
 |cons x l ih=>
  intro i;simp only[gL];by_cases h:k=x.1
  .simp [h]
  .simp [h,ih]
theorem HC[DecidableEq κ]{k:κ}{v:ν}:∀{l:List (κ×ν×Nat)}{i j:Nat}{e:κ×ν×Nat},gL k l i=some (j,e)->gL k (tn l (j-i) v) i=some (j,(e.1,v,e.2.2)):=by
 intro l;induction l with
 |nil=>intro i j e h;simp[gL]at h
 |cons x l ih=>
  intro i j e h;simp only[gL]at h;split at h
  .rename_i hk;obtain⟨rfl,rfl⟩:i=j/\x=e:=by simpa using h
   simp[tn,gL,hk]
  .rename_i hk;obtain⟨h1,_,_⟩:=lI h;have e1:j-i=(j-(i+1))+1:=by omega
   rw[e1];simp only[tn,gL,hk,if_false];exact ih h
theorem HB{v:ν}{e:κ×ν×Nat}:∀{l:List (κ×ν×Nat)},tn (l++[e]) l.length v=l++[(e.1,v,e.2.2)]:=by intro l;induction l with|nil=>rfl|cons x l ih=>simp only[List.cons_append,List.length_cons,tn,ih]
theorem zO{l:List (κ×ν×Nat)}(h:∀(i:Nat)(e:κ×ν×Nat),l[i]?=some e->e.2.2=i){j:Nat}(hj:j<l.length):l.findIdx? (fun e=>decide ((e.2.2:Int)=(j:Int)))=some j:=by
 rw[List.findIdx?_eq_some_iff_getElem];refine⟨hj,?_,fun k hk=>?_⟩
 .have:=h j l[j] (by simp);simp[this]
 .have:=h k (l[k]'(by omega)) (by simp);simp only[this,decide_eq_true_eq];omega
end
def lU{κ:Type}(l:List κ):Mp κ Int:=⟨l.zipIdx.map fun q=>(q.1,1,q.2),l.length⟩
theorem wQ{κ:Type}{l:List κ}{i:Nat}{e:κ×Int×Nat}(h:(lU l).es[i]?=some e):l[i]?=some e.1/\e.2.1=1/\e.2.2=i:=by simp only[lU,List.getElem?_map,aH]at h;obtain⟨q,hq,rfl⟩:=h;rw[List.getElem?_zipIdx]at hq;obtain⟨x,hx,rfl⟩:=aH.1 hq;exact⟨hx,rfl,by simp⟩
theorem Fk{κ:Type}{l:List κ}{e:κ×Int×Nat}(h:e∈(lU l).es):e.1∈l:=by obtain⟨i,hi,rfl⟩:=b_ h;exact aF (wQ (i:=i) (by simp[hi])).1
theorem wP{κ:Type}[DecidableEq κ]{l:List κ}{k:κ}:pu (lU l) 0 k=if k∈l then 1 else 0:=by
 unfold pu;by_cases hk:k∈l
 .rw [if_pos hk];cases h:gL k (lU l).es 0 with|none=>exfalso;rw[t_]at h;obtain⟨i,hi,rfl⟩:=b_ hk;refine h (l[i],1,i) ?_ rfl;simp only[lU,List.mem_map];exact⟨(l[i],i),by rw[List.mem_zipIdx_iff_getElem?];simp[hi],rfl⟩|some p=>obtain⟨j,e⟩:=p;obtain⟨_,h2,_⟩:=lI h;exact(wQ h2).2.1
 .rw [if_neg hk,t_.2 fun e he hke=>hk (by rw[hke];exact Fk he)]
theorem Nb{κ:Type}[DecidableEq κ]{l:List κ}{k:κ}(hk:k∉l):yF (mB (lU l) 0 k).1 (mB (lU l) 0 k).2.2 1=some (lU (l++[k])):=by
 have hf:gL k (lU l).es 0=none:=t_.2 fun e he hke=>hk (by rw[hke];exact Fk he);have he:mB (lU l) 0 k=(⟨(lU l).es++[(k,0,l.length)],l.length+1⟩,0,(l.length:Int)):=by simp only[mB,hf];rfl
 have hlen:(lU l).es.length=l.length:=by simp[lU]
 have dR:((lU l).es++[(k,(0:Int),l.length)]).findIdx? (fun e=>decide ((e.2.2:Int)=(l.length:Int)))=some l.length:=by
  refine zO (fun i e hi=>?_) (by simp[hlen]);rcases Nat.lt_or_ge i (lU l).es.length with h|h
  .rw [List.getElem?_append_left h]at hi;exact(wQ hi).2.2
  .rw [List.getElem?_append_right h]at hi;have h0:i-(lU l).es.length=0:=by have:=(aB.1 hi).1;simp at this;omega
   rw[h0]at hi;obtain rfl:(k,(0:Int),l.length)=e:=by simpa using hi
   simp only;omega
 rw[he];simp only[yF,dR,gF];have hp:=HB (v:=(1:Int)) (e:=(k,(0:Int),l.length)) (l:=(lU l).es);rw[hlen]at hp;rw[hp];simp[lU,List.zipIdx_append]
theorem Na{κ:Type}[DecidableEq κ]{l:List κ}{k:κ}(hk:k∈l)(v:Int):∃m,yF (mB (lU l) 0 k).1 (mB (lU l) 0 k).2.2 v=some m/\pu m 0 k=v:=by
 cases h:gL k (lU l).es 0 with
 |none=>have:=@wP κ _ l k;rw[if_pos hk]at this;unfold pu at this;rw[h]at this;simp at this
 |some p=>
  obtain⟨j,e⟩:=p;obtain⟨_,h2,_⟩:=lI h;rw[Nat.sub_zero]at h2;obtain⟨_,_,h5⟩:=wQ h2;have he:mB (lU l) 0 k=(lU l,e.2.1,(e.2.2:Int)):=by simp only[mB,h]
  have hj:j<(lU l).es.length:=(aB.1 h2).1;have dR:=zO (l:=(lU l).es) (fun i e hi=>(wQ hi).2.2) hj;refine⟨⟨tn (lU l).es j v,(lU l).bE⟩,by rw[he];simp only[yF,h5,dR,gF],?_⟩;have:=HC (v:=v) h;rw[Nat.sub_zero]at this;simp only[pu,this]
def dN(t:ai):List bd:=(t.aE.l.flatMap fun l=>[⟨l.A,l.iB⟩,⟨l.B,l.iA⟩])++t.bc.l.flatMap fun h=>[⟨h.At,h.fB⟩]
def uA(l:aS):Prop:=l.A≠l.B/\1<=l.pz/\l.pz<=l.vj/\l.vj<=1000
def i_(t:ai)(p:bd):Prop:=(0<=p.sw/\p.sw<t.ah)/\0<=p.Bt/\p.Bt<8
structure gi(t:ai):Prop where
 sw:1<=t.ah/\t.ah<=8
 wS:t.aE.l.length<=24
 wZ:t.bc.l.length<=8
 Ns:∀l∈t.aE.l,uA l
 nodup:(dN t).Nodup
 gZ:∀p∈dN t,i_ t p
instance(t:ai):Decidable (gi t):=Classical.propDecidable _
theorem Hh{t:ai}(h1:t.aE.l.length<=24)(h2:t.bc.l.length<=8):(dN t).length<=56:=by
 have e:∀l:List aS,(l.flatMap fun l=>[(⟨l.A,l.iB⟩:bd),⟨l.B,l.iA⟩]).length=2*l.length:=fun l=>by induction l with|nil=>rfl|cons x l ih=>simp[ih];omega
 have e2:∀l:List eX,(l.flatMap fun h=>[(⟨h.At,h.fB⟩:bd)]).length=l.length:=fun l=>by induction l with|nil=>rfl|cons x l ih=>simp[ih]
 rw[dN,ap,e,e2];omega
theorem ES{t:ai}(h1:t.aE.l.length<=24)(h2:t.bc.l.length<=8):∃s,qG t=some s/\s.l=dN t:=by
 have e2:∀l:List aS,(l.flatMap fun l=>[(⟨l.A,l.iB⟩:bd),⟨l.B,l.iA⟩]).length=2*l.length:=fun l=>by induction l with|nil=>rfl|cons x l ih=>simp[ih];omega
 have e1:∀l:List eX,(l.flatMap fun h=>[(⟨h.At,h.fB⟩:bd)]).length=l.length:=fun l=>by induction l with|nil=>rfl|cons x l ih=>simp[ih]
 obtain⟨s,k1,k2⟩:=Rn (f:=nv t) t.aE.l (fun l=>[⟨l.A,l.iB⟩,⟨l.B,l.iA⟩]) .nil (by omega) (fun i s hi hs=>by have hcap:kc (s.l++[(⟨(gt t.aE.l i).A,(gt t.aE.l i).iB⟩:bd),⟨(gt t.aE.l i).B,(gt t.aE.l i).iA⟩])=some (s.l++[⟨(gt t.aE.l i).A,(gt t.aE.l i).iB⟩,⟨(gt t.aE.l i).B,(gt t.aE.l i).iA⟩]):=u4 (by rw[hs,ap,ap,e2,cD];simp;omega);exact⟨.mk (s.l++[⟨(gt t.aE.l i).A,(gt t.aE.l i).iB⟩,⟨(gt t.aE.l i).B,(gt t.aE.l i).iA⟩]),by simp only[nv,nm hi,cond_true,dA hi,ae,hcap],rfl⟩) (fun s=>by simp only[nv,qw,cond_false]);obtain⟨s2,k3,k4⟩:=Rn (f:=nu t) t.bc.l (fun h=>[⟨h.At,h.fB⟩]) s (by omega) (fun i s' hi hs=>by have hcap:kc (s'.l++[(⟨(gt t.bc.l i).At,(gt t.bc.l i).fB⟩:bd)])=some (s'.l++[⟨(gt t.bc.l i).At,(gt t.bc.l i).fB⟩]):=u4 (by rw[hs,k2,ap,ap,ap,e2,e1,cD];simp;omega);exact⟨.mk (s'.l++[⟨(gt t.bc.l i).At,(gt t.bc.l i).fB⟩]),by simp only[nu,nm hi,cond_true,dA hi,ae,hcap],rfl⟩) (fun s=>by simp only[nu,qw,cond_false]);exact⟨s2,by simp only[qG,k1,ae,k3],by rw[k4,k2];rfl⟩
theorem H7{t:ai}{r:Sl bd}(hb:r.l.length<9223372036854775808):
  ∃b,aP (jF t r) (0,(Mp.none:Mp bd Int))=some b/\match b with|.inl v=>v=false/\¬(r.l.Nodup/\∀p∈r.l,i_ t p)|.inr _=>r.l.Nodup/\∀p∈r.l,i_ t p:=by
 have e0:((0:Nat):Int)=0:=rfl
 refine FQ (f:=jF t r) (fun i(m:Mp bd Int)=>((i:Int),m)) r.l.length (fun i m=>m=lU (r.l.take i)/\(r.l.take i).Nodup/\∀p∈r.l.take i,i_ t p)
  (fun b=>match b with|.inl v=>v=false/\¬(r.l.Nodup/\∀p∈r.l,i_ t p)|.inr _=>r.l.Nodup/\∀p∈r.l,i_ t p) ?_ ?_ 0 Mp.none (cY _) ⟨by simp[lU,Mp.none],by simp,by simp⟩ (fun b q1 q2=>?_)
 .rintro i m hi ⟨rfl,hnd,hok⟩;have hgm:gt r.l i∈r.l:=by rw[ju hi];exact List.getElem_mem _
  have et:r.l.take (i+1)=r.l.take i++[gt r.l i]:=by rw[ju hi,fQ hi]
  have hsplit:r.l=r.l.take i++gt r.l i::r.l.drop (i+1):=by rw[ju hi,<-mi hi,List.take_append_drop]
  by_cases hm:gt r.l i∈r.l.take i
  .right;obtain⟨m2,h1,h2⟩:=Na hm 2;have hw:wr .i64 (pu (lU (r.l.take i)) 0 (gt r.l i)+1)=2:=by rw[wP,if_pos hm];rfl
   have hd:decide ((2:Int)>1)=true:=rfl;refine⟨.inl false,by simp only[jF,nm hi,cond_true,dA hi,ae,hw,h1,h2,hd,Bool.or_true],rfl,fun hh=>?_⟩;have h3:=hh.1;rw[hsplit]at h3;exact(da.1 h3).2.2 _ hm _ (List.mem_cons_self ..) rfl
  .have h1:=Nb hm;have hw:wr .i64 (pu (lU (r.l.take i)) 0 (gt r.l i)+1)=1:=by rw[wP,if_neg hm];rfl
   have h2:pu (lU (r.l.take i++[gt r.l i])) 0 (gt r.l i)=1:=by rw[wP,if_pos (by simp)]
   have hd:decide ((1:Int)>1)=false:=rfl;have hc:((((decide (((gt r.l i).sw)<0))||(decide (((gt r.l i).sw)>=t.ah)))||(decide (((gt r.l i).Bt)<0)))||(decide (((gt r.l i).Bt)>=8)))=true<->¬i_ t (gt r.l i):=by simp only[iq,decide_eq_true_eq,i_];omega
   by_cases hp:i_ t (gt r.l i)
   .left;have hc2:((((decide (((gt r.l i).sw)<0))||(decide (((gt r.l i).sw)>=t.ah)))||(decide (((gt r.l i).Bt)<0)))||(decide (((gt r.l i).Bt)>=8)))=false:=by rw[<-Bool.not_eq_true];exact fun h=>hc.1 h hp
    refine⟨lU (r.l.take (i+1)),by simp only[jF,nm hi,cond_true,dA hi,ae,hw,h1,h2,hd,mI,hc2,cond_false,u_ (show i<9223372036854775807 by omega),et],rfl,?_,?_⟩
    .rw [et];exact da.2 ⟨hnd,by simp,fun a ha b hb=>by rw[aq]at hb;subst hb;exact fun e=>hm (e▸ha)⟩
    .intro p hpm;rw[et]at hpm;rcases aC.1 hpm with h|h
     .exact hok p h
     .rw [aq]at h;subst h;exact hp
   .right;exact⟨.inl false,by simp only[jF,nm hi,cond_true,dA hi,ae,hw,h1,h2,hd,mI,hc.2 hp],rfl,fun hh=>hp (hh.2 _ hgm)⟩
 .rintro m ⟨_,hnd,hok⟩;rw[iS]at hnd hok;exact⟨.inr (),by simp only[jF,qw,cond_false],hnd,hok⟩
 .rw [e0]at q1;exact⟨b,q1,q2⟩
theorem vG{t:ai}:mT t=some (decide (gi t)):=by
 unfold mT;by_cases hs:(1<=t.ah/\t.ah<=8)/\t.aE.l.length<=24/\t.bc.l.length<=8
 .have hc:((((decide (t.ah<1))||(decide (t.ah>8)))||(decide ((t.aE.l.length:Int)>24)))||(decide ((t.bc.l.length:Int)>8)))=false:=by simp only[fr,decide_eq_false_iff_not];omega
  have hl:=TS (f:=oL t) t.aE.l (fun l=>((((l.A==l.B)||(decide (l.pz<1)))||(decide (l.pz>l.vj)))||(decide (l.vj>1000)))) (by omega) (fun i hi=>by simp only[oL,nm hi,cond_true,dA hi,ae];generalize((((gt t.aE.l i).A==(gt t.aE.l i).B)||_)||_||_)=c;cases c<;>rfl) (by simp only[oL,qw,cond_false]);have hlk:∀l:aS,((((l.A==l.B)||(decide (l.pz<1)))||(decide (l.pz>l.vj)))||(decide (l.vj>1000)))=false<->uA l:=fun l=>by simp only[fr,beq_eq_false_iff_ne,decide_eq_false_iff_not,uA];omega
  rw[hc,cond_false,hl];by_cases hlo:∀l∈t.aE.l,uA l
  .rw [if_pos (fun l hm=>(hlk l).2 (hlo l hm))];simp only[ae];obtain⟨s,p1,p2⟩:=ES hs.2.1 hs.2.2;have hpl:=Hh hs.2.1 hs.2.2;obtain⟨b,q1,q2⟩:=H7 (t:=t) (r:=s) (by rw[p2];omega);simp only[p1,ae,q1];rw[p2]at q2;cases b with|inl v=>obtain⟨rfl,q2⟩:=q2;exact congrArg some (decide_eq_false fun h:gi t=>q2 ⟨h.nodup,h.gZ⟩).symm|inr _=>exact congrArg some (decide_eq_true ⟨hs.1,hs.2.1,hs.2.2,hlo,q2.1,q2.2⟩).symm
  .rw [if_neg (fun h=>hlo fun l hm=>(hlk l).1 (h l hm))];exact congrArg some (decide_eq_false fun h=>hlo h.Ns).symm
 .have hc:((((decide (t.ah<1))||(decide (t.ah>8)))||(decide ((t.aE.l.length:Int)>24)))||(decide ((t.bc.l.length:Int)>8)))=true:=by simp only[iq,decide_eq_true_eq];omega
  rw[hc,cond_true];exact congrArg some (decide_eq_false fun h=>hs ⟨h.sw,h.wS,h.wZ⟩).symm
def qf(sw p:Int)(i:Nat)(l:aS):Option (Int×Int×Int):=if sw=l.A/\p=l.iB then some (l.B,l.iA,(i:Int))else if sw=l.B/\p=l.iA then some (l.A,l.iB,(i:Int))else none
theorem Ml{α β γ:Type}{P:Nat->α->Option β}(g:β->γ):∀{l:List α}{i:Nat},j9 (fun i x=>(P i x).map g) l i=(j9 P l i).map g:=by
 intro l;induction l with
 |nil=>intro i;rfl
 |cons x l ih=>intro i;simp only[j9];cases P i x with|none=>exact ih|some b=>rfl
def q4(q:Int×Int×Int):Int×Int×Int×Bool:=(q.1,q.2.1,q.2.2,true)
def MK(t:ai)(sw p:Int):Int×Int×Int×Bool:=match j9 (qf sw p) t.aE.l 0 with|some (a,b,c)=>(a,b,c,true)|none=>(0,0,0,false)
theorem C6{t:ai}(sw p:Int)(hb:t.aE.l.length<9223372036854775808):sH t sw p=some (MK t sw p):=by
 have h:=tU (f:=oN t sw p) t.aE.l (fun i l=>(qf sw p i l).map q4) () hb (fun i hi=>by
  have c1:(((gt t.aE.l i).A==sw)&&((gt t.aE.l i).iB==p))=decide (sw=(gt t.aE.l i).A/\p=(gt t.aE.l i).iB):=by rw[kI];simp only[ak,beq_iff_eq,decide_eq_true_eq];omega
  have c2:(((gt t.aE.l i).B==sw)&&((gt t.aE.l i).iA==p))=decide (sw=(gt t.aE.l i).B/\p=(gt t.aE.l i).iA):=by rw[kI];simp only[ak,beq_iff_eq,decide_eq_true_eq];omega
  simp only[oN,nm hi,cond_true,dA hi,ae,c1,c2,qf];by_cases h1:sw=(gt t.aE.l i).A/\p=(gt t.aE.l i).iB
  .rw [if_pos h1,decide_eq_true h1];rfl
  .by_cases h2:sw=(gt t.aE.l i).B/\p=(gt t.aE.l i).iA
   .rw [if_neg h1,if_pos h2,decide_eq_false h1,decide_eq_true h2];rfl
   .rw [if_neg h1,if_neg h2,decide_eq_false h1,decide_eq_false h2];rfl) (by simp only[oN,qw,cond_false])
 simp only[sH,h,ae,Ml,MK];cases j9 (qf sw p) t.aE.l 0 with|none=>rfl|some q=>obtain⟨a,b,c⟩:=q;rfl
instance(t:ai)(p:bd):Decidable (i_ t p):=inferInstanceAs (Decidable ((0<=p.sw/\p.sw<t.ah)/\0<=p.Bt/\p.Bt<8))
def kw(l:aS):List bd:=[⟨l.A,l.iB⟩,⟨l.B,l.iA⟩]
def xd(h:eX):List bd:=[⟨h.At,h.fB⟩]
theorem jS(t:ai):dN t=t.aE.l.flatMap kw++t.bc.l.flatMap xd:=rfl
theorem Lo(a b q:bd):[a,b].count q=(if a=q then 1 else 0)+(if b=q then 1 else 0):=by by_cases h1:a=q<;>by_cases h2:b=q<;>simp[h1,h2]
theorem B9(a b sw p:Int):((a==sw)&&(b==p))=decide ((⟨a,b⟩:bd)=⟨sw,p⟩):=by rw[kI];simp
theorem JJ(a b:Bool):(bif a then some b else some false)=some (a&&b):=by cases a<;>rfl
def xR(t:ai)(sw p:Int):Bool:=decide (i_ t ⟨sw,p⟩/\(dN t).count ⟨sw,p⟩=1)
theorem B7{t:ai}(hl:t.aE.l.length<=30)(hh:t.bc.l.length<=12)(sw p:Int):oz t sw p=some (xR t sw p):=by
 have e0:((0:Nat):Int)=0:=rfl
 have h1:∃b,aP (mu t sw p) (0,0)=some b/\b=((t.aE.l.flatMap kw).count ⟨sw,p⟩:Nat)/\(t.aE.l.flatMap kw).count ⟨sw,p⟩<=60:=by
  refine FQ (f:=mu t sw p) (fun i(n:Nat)=>((n:Int),(i:Int))) t.aE.l.length (fun i n=>n=((t.aE.l.take i).flatMap kw).count ⟨sw,p⟩/\n<=2*i)
   (fun b=>b=((t.aE.l.flatMap kw).count ⟨sw,p⟩:Nat)/\(t.aE.l.flatMap kw).count ⟨sw,p⟩<=60) ?_ ?_ 0 0 (cY _) ⟨by simp,by omega⟩ (fun b q1 q2=>⟨b,by rw[e0]at q1;exact q1,q2⟩)
  .rintro i n hi ⟨hn,hle⟩;left;have et:t.aE.l.take (i+1)=t.aE.l.take i++[gt t.aE.l i]:=by rw[ju hi,fQ hi]
   have hc:((t.aE.l.take (i+1)).flatMap kw).count ⟨sw,p⟩=n+((if(⟨(gt t.aE.l i).A,(gt t.aE.l i).iB⟩:bd)=⟨sw,p⟩then 1 else 0)+(if(⟨(gt t.aE.l i).B,(gt t.aE.l i).iA⟩:bd)=⟨sw,p⟩then 1 else 0)):=by rw[et,fF,List.count_append,<-hn];simp only[bL,List.flatMap_nil,aV,kw,Lo]
   have w1:wr .i64 ((n:Int)+1)=((n+1:Nat):Int):=u_ (by omega);have w2:wr .i64 (((n+1:Nat):Int)+1)=((n+1+1:Nat):Int):=u_ (by omega);have w3:=u_ (show i<9223372036854775807 by omega);refine⟨n+((if(⟨(gt t.aE.l i).A,(gt t.aE.l i).iB⟩:bd)=⟨sw,p⟩then 1 else 0)+(if(⟨(gt t.aE.l i).B,(gt t.aE.l i).iA⟩:bd)=⟨sw,p⟩then 1 else 0)),?_,hc.symm,?_⟩
   .simp only[mu,nm hi,cond_true,dA hi,ae,B9,w3];split<;>rename_i c1<;>split<;>rename_i c2
    .rw [decide_eq_true c1,decide_eq_true c2];simp only[cond_true,ae,w1,w2]
    .rw [decide_eq_true c1,decide_eq_false c2];simp only[cond_true,cond_false,ae,w1]
    .rw [decide_eq_false c1,decide_eq_true c2];simp only[cond_true,cond_false,ae,w1,Nat.zero_add]
    .rw [decide_eq_false c1,decide_eq_false c2];simp only[cond_false,ae,fy]
   .split<;>split<;>omega
  .rintro n ⟨hn,hle⟩;rw[iS]at hn;exact⟨(n:Int),by simp only[mu,qw,cond_false],by rw[hn],by rw[<-hn];omega⟩
 obtain⟨b1,h1,rfl,hb1⟩:=h1;generalize hk:(t.aE.l.flatMap kw).count ⟨sw,p⟩=k at*
 have h2:∃b,aP (mr t sw p) ((k:Int),0)=some b/\b=((dN t).count ⟨sw,p⟩:Nat):=by
  refine FQ (f:=mr t sw p) (fun i(n:Nat)=>((n:Int),(i:Int))) t.bc.l.length (fun i n=>n=k+((t.bc.l.take i).flatMap xd).count ⟨sw,p⟩/\n<=k+i)
   (fun b=>b=((dN t).count ⟨sw,p⟩:Nat)) ?_ ?_ 0 k (cY _) ⟨by simp,by omega⟩ (fun b q1 q2=>⟨b,by rw[e0]at q1;exact q1,q2⟩)
  .rintro i n hi ⟨hn,hle⟩;left;have et:t.bc.l.take (i+1)=t.bc.l.take i++[gt t.bc.l i]:=by rw[ju hi,fQ hi]
   have hc:k+((t.bc.l.take (i+1)).flatMap xd).count ⟨sw,p⟩=n+(if(⟨(gt t.bc.l i).At,(gt t.bc.l i).fB⟩:bd)=⟨sw,p⟩then 1 else 0):=by rw[et,fF,List.count_append,hn];simp only[bL,List.flatMap_nil,aV,xd];by_cases h:(⟨(gt t.bc.l i).At,(gt t.bc.l i).fB⟩:bd)=⟨sw,p⟩<;>simp[h]<;>omega
   have w1:wr .i64 ((n:Int)+1)=((n+1:Nat):Int):=u_ (by omega);have w3:=u_ (show i<9223372036854775807 by omega);refine⟨n+(if(⟨(gt t.bc.l i).At,(gt t.bc.l i).fB⟩:bd)=⟨sw,p⟩then 1 else 0),?_,hc.symm,?_⟩
   .simp only[mr,nm hi,cond_true,dA hi,ae,JJ,B9,w3];split<;>rename_i c1
    .rw [decide_eq_true c1];simp only[cond_true,ae,w1]
    .rw [decide_eq_false c1];simp only[cond_false,ae,fy]
   .split<;>omega
  .rintro n ⟨hn,hle⟩;rw[iS]at hn;exact⟨(n:Int),by simp only[mr,qw,cond_false],by rw[jS,List.count_append,hk,<-hn]⟩
 obtain⟨b2,h2,rfl⟩:=h2;simp only[oz,h1,ae,h2];congr 1;rw[kI,xR];generalize(dN t).count ⟨sw,p⟩=m;constructor
 .intro h;simp only[ak,decide_eq_true_eq,beq_iff_eq]at h;obtain⟨⟨⟨⟨a,b⟩,c⟩,d⟩,e⟩:=h;exact decide_eq_true ⟨⟨⟨a,b⟩,c,(by omega:p<8)⟩,by omega⟩
 .intro h;obtain⟨⟨⟨a,b⟩,c,d⟩,e⟩:=of_decide_eq_true h;have a:0<=sw:=a;have b:sw<t.ah:=b;have c:0<=p:=c;have d:p<8:=d;simp only[ak,decide_eq_true_eq,beq_iff_eq];exact⟨⟨⟨⟨a,b⟩,c⟩,by omega⟩,by omega⟩
theorem yD{l:List bd}:l.Nodup<->∀p∈l,l.count p=1:=by
 rw[List.nodup_iff_count];constructor
 .intro h p hp;have h1:=h p;have h2:=List.count_pos_iff.2 hp;omega
 .intro h p;by_cases hp:p∈l
  .rw [h p hp];exact am _
  .rw [List.count_eq_zero_of_not_mem hp];omega
theorem xN{t:ai}(hl:t.aE.l.length<=30)(hh:t.bc.l.length<=12):lG t=some (decide (gi t)):=by
 unfold lG;by_cases hs:(1<=t.ah/\t.ah<=8)/\t.aE.l.length<=24/\t.bc.l.length<=8
 .have hc:((((decide (t.ah<1))||(decide (t.ah>8)))||(decide ((t.aE.l.length:Int)>24)))||(decide ((t.bc.l.length:Int)>8)))=false:=by simp only[fr,decide_eq_false_iff_not];omega
  have h1:=TS (f:=nH t) t.aE.l (fun l=>((l.A==l.B)||(decide (l.pz<1)||(decide (l.pz>l.vj)||(decide (l.vj>1000)||
    (!(xR t l.A l.iB)||!(xR t l.B l.iA))))))) (by omega) (fun i hi=>by
   simp only[nH,nm hi,cond_true,dA hi,ae,B7 hl hh];generalize((gt t.aE.l i).A==(gt t.aE.l i).B)=b1;generalize decide ((gt t.aE.l i).pz<1)=b2;generalize decide ((gt t.aE.l i).pz>(gt t.aE.l i).vj)=b3;generalize decide ((gt t.aE.l i).vj>1000)=b4;generalize xR t (gt t.aE.l i).A (gt t.aE.l i).iB=b5;generalize xR t (gt t.aE.l i).B (gt t.aE.l i).iA=b6;cases b1<;>cases b2<;>cases b3<;>cases b4<;>cases b5<;>cases b6<;>rfl) (by simp only[nH,qw,cond_false])
  have h2:=TS (f:=nG t) t.bc.l (fun h=>!(xR t h.At h.fB)) (by omega) (fun i hi=>by simp only[nG,nm hi,cond_true,dA hi,ae,B7 hl hh];generalize xR t (gt t.bc.l i).At (gt t.bc.l i).fB=b;cases b<;>rfl) (by simp only[nG,qw,cond_false])
  have hlk:∀l:aS,((l.A==l.B)||(decide (l.pz<1)||(decide (l.pz>l.vj)||(decide (l.vj>1000)||
    (!(xR t l.A l.iB)||!(xR t l.B l.iA))))))=false<->
    uA l/\∀p∈kw l,i_ t p/\(dN t).count p=1:=fun l=>by
   simp only[xR,fr,beq_eq_false_iff_ne,decide_eq_false_iff_not,uA,Bool.not_eq_false',decide_eq_true_eq,kw,List.mem_cons,List.not_mem_nil,or_false,forall_eq_or_imp,forall_eq];constructor
   .rintro ⟨a,b,c,d,e,f⟩;exact⟨⟨a,by omega,by omega,by omega⟩,e,f⟩
   .rintro ⟨⟨a,b,c,d⟩,e,f⟩;exact⟨a,by omega,by omega,by omega,e,f⟩
  have hho:∀h:eX,(!(xR t h.At h.fB))=false<->∀p∈xd h,i_ t p/\(dN t).count p=1:=fun h=>by simp only[xR,Bool.not_eq_false',decide_eq_true_eq,xd,aq,forall_eq]
  have hV:gi t<->(∀l∈t.aE.l,uA l/\∀p∈kw l,i_ t p/\(dN t).count p=1)/\∀h∈t.bc.l,∀p∈xd h,i_ t p/\(dN t).count p=1:=by
   constructor
   .intro hV;have hc:=yD.1 hV.nodup;refine⟨fun l hl=>⟨hV.Ns l hl,fun p hp=>?_⟩,fun h hh p hp=>?_⟩
    .have hm:p∈dN t:=by rw[jS];exact List.mem_append_left _ (cm.2 ⟨l,hl,hp⟩)
     exact⟨hV.gZ p hm,hc p hm⟩
    .have hm:p∈dN t:=by rw[jS];exact List.mem_append_right _ (cm.2 ⟨h,hh,hp⟩)
     exact⟨hV.gZ p hm,hc p hm⟩
   .rintro ⟨ha,hb⟩
    have all:∀p∈dN t,i_ t p/\(dN t).count p=1:=by
     intro p hp;rw[jS]at hp;rcases aC.1 hp with h|h
     .obtain ⟨l,hl,hp⟩:=cm.1 h;exact(ha l hl).2 p hp
     .obtain ⟨x,hx,hp⟩:=cm.1 h;exact hb x hx p hp
    exact⟨hs.1,hs.2.1,hs.2.2,fun l hl=>(ha l hl).1,yD.2 fun p hp=>(all p hp).2,fun p hp=>(all p hp).1⟩
  rw[hc,cond_false,h1];by_cases c1:∀l∈t.aE.l,uA l/\∀p∈kw l,i_ t p/\(dN t).count p=1
  .rw [if_pos (fun l hm=>(hlk l).2 (c1 l hm))];simp only[ae,h2];by_cases c2:∀h∈t.bc.l,∀p∈xd h,i_ t p/\(dN t).count p=1
   .rw [if_pos (fun h hm=>(hho h).2 (c2 h hm))];exact congrArg some (decide_eq_true (hV.2 ⟨c1,c2⟩)).symm
   .rw [if_neg (fun h=>c2 fun x hm=>(hho x).1 (h x hm))];exact congrArg some (decide_eq_false fun h=>c2 (hV.1 h).2).symm
  .rw [if_neg (fun h=>c1 fun l hm=>(hlk l).1 (h l hm))];exact congrArg some (decide_eq_false fun h=>c1 (hV.1 h).1).symm
 .have hc:((((decide (t.ah<1))||(decide (t.ah>8)))||(decide ((t.aE.l.length:Int)>24)))||(decide ((t.bc.l.length:Int)>8)))=true:=by simp only[iq,decide_eq_true_eq];omega
  rw[hc,cond_true];exact congrArg some (decide_eq_false fun h=>hs ⟨h.sw,h.wS,h.wZ⟩).symm
theorem yG{t:ai}(hV:gi t){i j:Nat}{l m:aS}(hi:t.aE.l[i]?=some l)(hj:t.aE.l[j]?=some m){p:bd}(hp:p∈kw l)(hq:p∈kw m):i=j:=by
 have h:=(da.1 (jS t▸hV.nodup)).1;have h2:=(List.pairwise_flatMap.1 h).2;rw[List.pairwise_iff_getElem]at h2;obtain⟨hil,rfl⟩:=aB.1 hi;obtain⟨hjl,rfl⟩:=aB.1 hj;rcases Nat.lt_trichotomy i j with h3|h3|h3
 .exact absurd rfl (h2 i j hil hjl h3 p hp p hq)
 .exact h3
 .exact absurd rfl (h2 j i hjl hil h3 p hq p hp)
def zd(l:aS)(sw p a b:Int):Prop:=(sw=l.A/\p=l.iB/\a=l.B/\b=l.iA)\/(sw=l.B/\p=l.iA/\a=l.A/\b=l.iB)
theorem zd.symm{l:aS}{sw p a b:Int}(h:zd l sw p a b):zd l a b sw p:=by
 rcases h with⟨rfl,rfl,rfl,rfl⟩|⟨rfl,rfl,rfl,rfl⟩
 .exact .inr ⟨rfl,rfl,rfl,rfl⟩
 .exact .inl ⟨rfl,rfl,rfl,rfl⟩
theorem zd.xW{l:aS}{sw p a b:Int}(h:zd l sw p a b):(⟨sw,p⟩:bd)∈kw l:=by rcases h with⟨rfl,rfl,_,_⟩|⟨rfl,rfl,_,_⟩<;>simp[kw]
theorem Ae{sw p:Int}{i:Nat}{l:aS}{a b c:Int}(h:qf sw p i l=some (a,b,c)):zd l sw p a b/\c=i:=by
 unfold qf at h;split at h
 .rename_i h1;obtain⟨rfl,rfl,rfl⟩:l.B=a/\l.iA=b/\(i:Int)=c:=by simpa using h
  exact⟨.inl ⟨h1.1,h1.2,rfl,rfl⟩,rfl⟩
 .split at h
  .rename_i h1;obtain⟨rfl,rfl,rfl⟩:l.A=a/\l.iB=b/\(i:Int)=c:=by simpa using h
   exact⟨.inr ⟨h1.1,h1.2,rfl,rfl⟩,rfl⟩
  .simp at h
theorem Ad{l:aS}(hl:l.A≠l.B){sw p a b:Int}(h:zd l sw p a b)(i:Nat):qf sw p i l=some (a,b,(i:Int)):=by
 unfold qf;rcases h with⟨rfl,rfl,rfl,rfl⟩|⟨rfl,rfl,rfl,rfl⟩
 .rw [if_pos ⟨rfl,rfl⟩]
 .rw [if_neg fun h=>hl h.1.symm,if_pos ⟨rfl,rfl⟩]
theorem EU{t:ai}(hV:gi t){sw p a b c:Int}:j9 (qf sw p) t.aE.l 0=some (a,b,c)<->∃(j:Nat)(l:aS),t.aE.l[j]?=some l/\zd l sw p a b/\c=j:=by
 constructor
 .intro h;obtain⟨j,l,h1,h2,_⟩:=jP h;obtain⟨h3,h4⟩:=Ae h2;exact⟨j,l,h1,h3,by simpa using h4⟩
 .rintro ⟨j,l,h1,h2,rfl⟩;have hlk:=hV.Ns l (aF h1);cases h:j9 (qf sw p) t.aE.l 0 with
  |none=>have:=ou.1 h j l h1;rw[Ad hlk.1 h2]at this;simp at this
  |some q=>
   obtain⟨a',b',c'⟩:=q;obtain⟨k,m,h3,h4,_⟩:=jP h;obtain⟨h5,h6⟩:=Ae h4;obtain rfl:=yG hV h1 h3 h2.xW h5.xW;obtain rfl:l=m:=aa (h1.symm.trans h3);have e:=Ad hlk.1 h2 (0+j);rw[Ad hlk.1 h5]at e;obtain⟨rfl,rfl⟩:a'=a/\b'=b:=by simpa using e
   rw[h6];simp
end Go.Proofs.YtoekkpmeeclpeaaGreat.S
