/- Loops over lists, and topologies: what Right and Peer answer. Conditions: as stated. -/
import Derived.Test.YtoekkpmeeclpeaaGreatFz
open Bool renaming and_eq_true->ax,eq_iff_iff->cF,not_eq_false'->o8,or_eq_false_iff->bV,or_eq_true->cE,or_false->j7
open List renaming append_nil->bO,count_append->vv,drop_eq_getElem_cons->mi,flatMap_append->jk,flatMap_cons->eC,getElem?_eq_some_iff->bG,getElem_of_mem->fD,length_append->au,length_take->bw,mem_append->aK,mem_append_left->bM,mem_flatMap->bL,mem_of_getElem?->bA,mem_singleton->aB,nodup_append->cm,take_append_getElem->dZ,take_length->dM
open Nat renaming add_zero->gr,le_refl->aw,sub_zero->oY,zero_le->cG
open Option renaming bind_some->aa,map_eq_some_iff->dh,map_some->gC
open Option.some renaming inj->af
open Prod.mk renaming inj->aq
open Go.Ev Go
noncomputable section
namespace Go.Proofs.YtoekkpmeeclpeaaGreat.S
theorem gZ{n:Int}(h0:-9223372036854775808<=n)(h1:n<9223372036854775808):wr .i64 n=n:=by simp[wr,IntKind.wrap,IntKind.bits,IntKind.signed];omega
theorem ae2{S β:Type}{f:S->Option (Sum S β)}(m:S->Nat)(I:S->Prop)(R:β->Prop)
  (hstep:∀s,I s->(∃s',f s=some (.inl s')/\I s'/\m s'<m s)\/(∃b,f s=some (.inr b)/\R b)):∀s,I s->∃b,aJ f s=some b/\R b:=by
 have:∀(n:Nat)(s:S),m s<=n->I s->∃b,aJ f s=some b/\R b:=by
  intro n;induction n with
  |zero=>
   intro s hn hI;rcases hstep s hI with⟨s',_,_,h⟩|⟨b,h1,h2⟩
   .omega
   .exact ⟨b,bW h1,h2⟩
  |succ n ih=>
   intro s hn hI;rcases hstep s hI with⟨s',h1,h2,h3⟩|⟨b,h1,h2⟩
   .obtain ⟨b,h4,h5⟩:=ih s' (by omega) h2;exact⟨b,(dD h1).trans h4,h5⟩
   .exact ⟨b,bW h1,h2⟩
 exact fun s=>this (m s) s (aw _)
theorem Kg{S σ β:Type}{f:S->Option (Sum S β)}(st:Nat->σ->S)(n:Nat)(I:Nat->σ->Prop)(R:β->Prop)
  (hstep:∀i s,i<n->I i s->(∃s',f (st i s)=some (.inl (st (i+1) s'))/\I (i+1) s')\/(∃b,f (st i s)=some (.inr b)/\R b))
  (hend:∀s,I n s->∃b,f (st n s)=some (.inr b)/\R b):∀i s,i<=n->I i s->∃b,aJ f (st i s)=some b/\R b:=by
 have:∀(k i:Nat)(s:σ),i+k=n->I i s->∃b,aJ f (st i s)=some b/\R b:=by
  intro k;induction k with
  |zero=>
   intro i s hi hI;obtain rfl:i=n:=by omega
   obtain⟨b,h1,h2⟩:=hend s hI;exact⟨b,bW h1,h2⟩
  |succ k ih=>
   intro i s hi hI;rcases hstep i s (by omega) hI with⟨s',h1,h2⟩|⟨b,h1,h2⟩
   .obtain ⟨b,h4,h5⟩:=ih (i+1) s' (by omega) h2;exact⟨b,(dD h1).trans h4,h5⟩
   .exact ⟨b,bW h1,h2⟩
 exact fun i s hi=>this (n-i) i s (by omega)
theorem PX{S σ β:Type}{goal:Prop}{f:S->Option (Sum S β)}(st:Nat->σ->S)(n:Nat)(I:Nat->σ->Prop)(R:β->Prop)
  (hstep:∀i s,i<n->I i s->(∃s',f (st i s)=some (.inl (st (i+1) s'))/\I (i+1) s')\/(∃b,f (st i s)=some (.inr b)/\R b))
  (hend:∀s,I n s->∃b,f (st n s)=some (.inr b)/\R b) (i:Nat) (s:σ) (hi:i<=n) (hI:I i s) (k:∀b,aJ f (st i s)=some b->R b->goal):goal:=
 let⟨b,h1,h2⟩:=Kg st n I R hstep hend i s hi hI
 k b h1 h2
theorem ae3{S β:Type}{goal:Prop}{f:S->Option (Sum S β)}(m:S->Nat)(I:S->Prop)(R:β->Prop)
  (hstep:∀s,I s->(∃s',f s=some (.inl s')/\I s'/\m s'<m s)\/(∃b,f s=some (.inr b)/\R b)) (s:S) (hI:I s) (k:∀b,aJ f s=some b->R b->goal):goal:=
 let⟨b,h1,h2⟩:=ae2 m I R hstep s hI
 k b h1 h2
theorem fT{i n:Nat}(h:i<n):decide ((i:Int)<(n:Int))=true:=by rw[decide_eq_true_eq];omega
theorem ij{n:Nat}:decide ((n:Int)<(n:Int))=false:=by rw[decide_eq_false_iff_not];omega
theorem pN{i:Nat}(h:i<9223372036854775807):wr .i64 ((i:Int)+1)=((i+1:Nat):Int):=by rw[gZ (by omega) (by omega)];omega
def lE{α β:Type}(P:Nat->α->Option β):List α->Nat->Option β
 |[],_=>none
 |x::r,i=>match P i x with|some b=>some b|none=>lE P r (i+1)
theorem xO{α β γ:Type}[Inhabited α]{f:Int->Option (Sum Int (Sum β γ))}(l:List α)(P:Nat->α->Option β)(c:γ)(hb:l.length<9223372036854775808)
  (hstep:∀i:Nat,i<l.length->f (i:Int)=some (match P i (gt l i)with|some b=>.inr (.inl b)|none=>.inl (wr .i64 ((i:Int)+1)))) (hend:f (l.length:Int)=some (.inr (.inr c))):
  aJ f 0=some (match lE P l 0 with|some b=>.inl b|none=>.inr c):=by
 have main:∀(n i:Nat),i+n=l.length->aJ f (i:Int)=some (match lE P (l.drop i) i with|some b=>.inl b|none=>.inr c):=by
  intro n;induction n with
  |zero=>
   intro i hi;obtain rfl:i=l.length:=by omega
   rw[bW hend,List.drop_length];rfl
  |succ n ih=>
   intro i hi;have hlt:i<l.length:=by omega
   have hs:=hstep i hlt;rw[mi hlt,<-dx hlt];simp only[lE];cases hP:P i (gt l i)with|some b=>rw[hP]at hs;rw[bW hs]|none=>rw[hP]at hs;simp only at hs;rw[pN (by omega)]at hs;rw[dD hs,ih (i+1) (by omega)]
 have:=main l.length 0 (by omega);simpa using this
theorem nP{α β:Type}{P:Nat->α->Option β}:∀{l:List α}{i:Nat},lE P l i=none<->∀j(x:α),l[j]?=some x->P (i+j) x=none:=by
 intro l;induction l with
 |nil=>intro i;simp[lE]
 |cons y l ih=>
  intro i;simp only[lE];constructor
  .intro h j x hj;split at h
   .simp at h
   .rename_i hP;cases j with
    |zero=>
     obtain rfl:y=x:=by simpa using hj
     exact hP
    |succ j=>have:=ih.1 h j x (by simpa using hj);rw[show i+(j+1)=i+1+j by omega];exact this
  .intro h;have h0:=h 0 y rfl;rw[gr]at h0;rw[h0];exact ih.2 fun j x hj=>by have:=h (j+1) x (by simpa using hj);rw[show i+(j+1)=i+1+j by omega]at this;exact this
theorem kw{α β:Type}{P:Nat->α->Option β}:∀{l:List α}{i:Nat}{b:β},lE P l i=some b->∃j x,l[j]?=some x/\P (i+j) x=some b/\∀k,k<j->∀y,l[k]?=some y->P (i+k) y=none:=by
 intro l;induction l with
 |nil=>intro i b h;simp[lE]at h
 |cons y l ih=>
  intro i b h;simp only[lE]at h;split at h
  .rename_i b' hP;obtain rfl:=af h;exact⟨0,y,rfl,hP,fun k hk=>by omega⟩
  .rename_i hP;obtain⟨j,x,h1,h2,h3⟩:=ih h;refine⟨j+1,x,by simpa using h1,by rw[show i+(j+1)=i+1+j by omega];exact h2,fun k hk z hz=>?_⟩;cases k with
   |zero=>
    obtain rfl:y=z:=by simpa using hz
    exact hP
   |succ k=>rw[show i+(k+1)=i+1+k by omega];exact h3 k (by omega) z (by simpa using hz)
theorem Ot{α:Type}{p:α->Bool}{l:List α}{i:Nat}:lE (fun _ x=>if p x then some false else none) l i=none<->∀x∈l,p x=false:=by
 rw[nP];constructor
 .intro h x hx;obtain⟨j,hj,rfl⟩:=fD hx;have:=h j l[j] (by simp[hj]);cases hp:p l[j]
  .rfl
  .rw [hp]at this;simp at this
 .intro h j x hj;rw[h x (bA hj)];rfl
theorem wm{α:Type}[Inhabited α]{f:Int->Option (Sum Int (Sum Bool Unit))}(l:List α)(p:α->Bool)(hb:l.length<9223372036854775808)
  (hstep:∀i:Nat,i<l.length->f (i:Int)=some (bif p (gt l i)then .inr (.inl false)else .inl (wr .i64 ((i:Int)+1)))) (hend:f (l.length:Int)=some (.inr (.inr ()))):
  aJ f 0=some (if∀x∈l,p x=false then .inr ()else .inl false):=by
 rw[xO l (fun _ x=>if p x then some false else none) () hb (fun i hi=>by rw[hstep i hi];cases p (gt l i)<;>rfl) hend];cases h:lE (fun _ x=>if p x then some false else none) l 0 with
 |none=>rw[if_pos (Ot.1 h)]
 |some u=>
  obtain⟨j,x,_,h2,_⟩:=kw h;split at h2
  .obtain rfl:=af h2;rw[if_neg];intro hn;rw[Ot.2 hn]at h;simp at h
  .simp at h2
theorem anb{α β:Type}[Inhabited α]{f:(Int×Sl β)->Option (Sum (Int×Sl β) (Sl β))}(l:List α)(g:Nat->α->List β)(s0:Sl β)(hb:l.length<9223372036854775808)
  (hstep:∀(i:Nat)(s:Sl β),i<l.length->s.l=s0.l++((l.take i).zipIdx.flatMap fun p=>g p.2 p.1)->∃s',f ((i:Int),s)=some (.inl (wr .i64 ((i:Int)+1),s'))/\s'.l=s.l++g i (gt l i))
  (hend:∀s,f ((l.length:Int),s)=some (.inr s)):∃s,aJ f (0,s0)=some s/\s.l=s0.l++(l.zipIdx.flatMap fun p=>g p.2 p.1):=by
 have e0:((0:Nat):Int)=0:=rfl;refine PX (f:=f) (fun i(s:Sl β)=>((i:Int),s)) l.length (fun i s=>s.l=s0.l++((l.take i).zipIdx.flatMap fun p=>g p.2 p.1)) (fun s=>s.l=s0.l++(l.zipIdx.flatMap fun p=>g p.2 p.1)) ?_ ?_ 0 s0 (cG _) (by simp) (fun b q1 q2=>?_)
 .intro i s hi hI;obtain⟨s',h1,h2⟩:=hstep i s hi hI;refine .inl ⟨s',by rw[h1,pN (by omega)],?_⟩;have et:l.take (i+1)=l.take i++[gt l i]:=by rw[dx hi,dZ hi]
  rw[h2,hI,et,List.zipIdx_append,jk,List.append_assoc];simp[Nat.min_eq_left (Nat.le_of_lt hi)]
 .intro s hI;refine⟨s,hend s,?_⟩;rw[dM]at hI;exact hI
 .rw [e0]at q1;exact⟨b,q1,q2⟩
theorem xR{α β:Type}[Inhabited α]{f:(Int×Sl β)->Option (Sum (Int×Sl β) (Sl β))}(l:List α)(g:α->List β)(s0:Sl β)(hb:l.length<9223372036854775808)
  (hstep:∀(i:Nat)(s:Sl β),i<l.length->s.l=s0.l++(l.take i).flatMap g->∃s',f ((i:Int),s)=some (.inl (wr .i64 ((i:Int)+1),s'))/\s'.l=s.l++g (gt l i))
  (hend:∀s,f ((l.length:Int),s)=some (.inr s)):∃s,aJ f (0,s0)=some s/\s.l=s0.l++l.flatMap g:=by
 have key:∀(l:List α)(k:Nat),((l.zipIdx k).flatMap fun p=>g p.1)=l.flatMap g:=fun l=>by induction l with|nil=>intro k;rfl|cons x l ih=>intro k;simp[List.zipIdx_cons,ih]
 obtain⟨s,h1,h2⟩:=anb l (fun _ x=>g x) s0 hb (fun i s hi hs=>hstep i s hi (by rw[hs,key])) hend;exact⟨s,h1,by rw[h2,key]⟩
section
variable{κ ν:Type}
theorem Dc[DecidableEq κ]{k:κ}:∀{l:List (κ×ν×Nat)}{i:Nat},d_ k l i=none<->∀e∈l,k≠e.1:=by
 intro l;induction l with
 |nil=>intro i;simp[d_]
 |cons x l ih=>
  intro i;simp only[d_];by_cases h:k=x.1
  .simp [h]
  .simp [h,ih]
theorem RL[DecidableEq κ]{k:κ}{v:ν}:∀{l:List (κ×ν×Nat)}{i j:Nat}{e:κ×ν×Nat},d_ k l i=some (j,e)->d_ k (qJ l (j-i) v) i=some (j,(e.1,v,e.2.2)):=by
 intro l;induction l with
 |nil=>intro i j e h;simp[d_]at h
 |cons x l ih=>
  intro i j e h;simp only[d_]at h;split at h
  .rename_i hk;obtain⟨rfl,rfl⟩:i=j/\x=e:=by simpa using h
   simp[qJ,d_,hk]
  .rename_i hk;obtain⟨h1,_,_⟩:=kg h;have e1:j-i=(j-(i+1))+1:=by omega
   rw[e1];simp only[qJ,d_,hk,if_false];exact ih h
theorem RK{v:ν}{e:κ×ν×Nat}:∀{l:List (κ×ν×Nat)},qJ (l++[e]) l.length v=l++[(e.1,v,e.2.2)]:=by intro l;induction l with|nil=>rfl|cons x l ih=>simp only[List.cons_append,List.length_cons,qJ,ih]
theorem Jl{l:List (κ×ν×Nat)}(h:∀(i:Nat)(e:κ×ν×Nat),l[i]?=some e->e.2.2=i){j:Nat}(hj:j<l.length):l.findIdx? (fun e=>decide ((e.2.2:Int)=(j:Int)))=some j:=by
 rw[List.findIdx?_eq_some_iff_getElem];refine⟨hj,?_,fun k hk=>?_⟩
 .have:=h j l[j] (by simp);simp[this]
 .have:=h k (l[k]'(by omega)) (by simp);simp only[this,decide_eq_true_eq];omega
end
def qZ{κ:Type}(l:List κ):Mp κ Int:=⟨l.zipIdx.map fun q=>(q.1,1,q.2),l.length⟩
theorem F0{κ:Type}{l:List κ}{i:Nat}{e:κ×Int×Nat}(h:(qZ l).es[i]?=some e):l[i]?=some e.1/\e.2.1=1/\e.2.2=i:=by simp only[qZ,List.getElem?_map,dh]at h;obtain⟨q,hq,rfl⟩:=h;rw[List.getElem?_zipIdx]at hq;obtain⟨x,hx,rfl⟩:=dh.1 hq;exact⟨hx,rfl,by simp⟩
theorem Px{κ:Type}{l:List κ}{e:κ×Int×Nat}(h:e∈(qZ l).es):e.1∈l:=by obtain⟨i,hi,rfl⟩:=fD h;exact bA (F0 (i:=i) (by simp[hi])).1
theorem FZ{κ:Type}[DecidableEq κ]{l:List κ}{k:κ}:lS (qZ l) 0 k=if k∈l then 1 else 0:=by
 unfold lS;by_cases hk:k∈l
 .rw [if_pos hk];cases h:d_ k (qZ l).es 0 with|none=>exfalso;rw[Dc]at h;obtain⟨i,hi,rfl⟩:=fD hk;refine h (l[i],1,i) ?_ rfl;simp only[qZ,List.mem_map];exact⟨(l[i],i),by rw[List.mem_zipIdx_iff_getElem?];simp[hi],rfl⟩|some p=>obtain⟨j,e⟩:=p;obtain⟨_,h2,_⟩:=kg h;exact(F0 h2).2.1
 .rw [if_neg hk,Dc.2 fun e he hke=>hk (by rw[hke];exact Px he)]
theorem Y4{κ:Type}[DecidableEq κ]{l:List κ}{k:κ}(hk:k∉l):JW (pp (qZ l) 0 k).1 (pp (qZ l) 0 k).2.2 1=some (qZ (l++[k])):=by
 have hf:d_ k (qZ l).es 0=none:=Dc.2 fun e he hke=>hk (by rw[hke];exact Px he);have he:pp (qZ l) 0 k=(⟨(qZ l).es++[(k,0,l.length)],l.length+1⟩,0,(l.length:Int)):=by simp only[pp,hf];rfl
 have hlen:(qZ l).es.length=l.length:=by simp[qZ]
 have gj:((qZ l).es++[(k,(0:Int),l.length)]).findIdx? (fun e=>decide ((e.2.2:Int)=(l.length:Int)))=some l.length:=by
  refine Jl (fun i e hi=>?_) (by simp[hlen]);rcases Nat.lt_or_ge i (qZ l).es.length with h|h
  .rw [List.getElem?_append_left h]at hi;exact(F0 hi).2.2
  .rw [List.getElem?_append_right h]at hi;have h0:i-(qZ l).es.length=0:=by have:=(bG.1 hi).1;simp at this;omega
   rw[h0]at hi;obtain rfl:(k,(0:Int),l.length)=e:=by simpa using hi
   simp only;omega
 rw[he];simp only[JW,gj,gC];have hp:=RK (v:=(1:Int)) (e:=(k,(0:Int),l.length)) (l:=(qZ l).es);rw[hlen]at hp;rw[hp];simp[qZ,List.zipIdx_append]
theorem Y3{κ:Type}[DecidableEq κ]{l:List κ}{k:κ}(hk:k∈l)(v:Int):∃m,JW (pp (qZ l) 0 k).1 (pp (qZ l) 0 k).2.2 v=some m/\lS m 0 k=v:=by
 cases h:d_ k (qZ l).es 0 with
 |none=>have:=@FZ κ _ l k;rw[if_pos hk]at this;unfold lS at this;rw[h]at this;simp at this
 |some p=>
  obtain⟨j,e⟩:=p;obtain⟨_,h2,_⟩:=kg h;rw[oY]at h2;obtain⟨_,_,h5⟩:=F0 h2;have he:pp (qZ l) 0 k=(qZ l,e.2.1,(e.2.2:Int)):=by simp only[pp,h]
  have hj:j<(qZ l).es.length:=(bG.1 h2).1;have gj:=Jl (l:=(qZ l).es) (fun i e hi=>(F0 hi).2.2) hj;refine⟨⟨qJ (qZ l).es j v,(qZ l).c_⟩,by rw[he];simp only[JW,h5,gj,gC],?_⟩;have:=RL (v:=v) h;rw[oY]at this;simp only[lS,this]
def gb(t:am):List bJ:=(t.aS.l.flatMap fun l=>[⟨l.A,l.jD⟩,⟨l.B,l.jC⟩])++t.aU.l.flatMap fun h=>[⟨h.At,h.fU⟩]
def zC(l:bd):Prop:=l.A≠l.B/\1<=l.xT/\l.xT<=l.rI/\l.rI<=1000
def kA(t:am)(p:bJ):Prop:=(0<=p.sw/\p.sw<t.ao)/\0<=p.Lb/\p.Lb<8
structure gB(t:am):Prop where
 sw:1<=t.ao/\t.ao<=8
 xQ:t.aS.l.length<=24
 sq:t.aU.l.length<=8
 VL:∀l∈t.aS.l,zC l
 nodup:(gb t).Nodup
 jq:∀p∈gb t,kA t p
instance(t:am):Decidable (gB t):=Classical.propDecidable _
theorem Rk{t:am}(h1:t.aS.l.length<=24)(h2:t.aU.l.length<=8):(gb t).length<=56:=by
 have e:∀l:List bd,(l.flatMap fun l=>[(⟨l.A,l.jD⟩:bJ),⟨l.B,l.jC⟩]).length=2*l.length:=fun l=>by induction l with|nil=>rfl|cons x l ih=>simp[ih];omega
 have e2:∀l:List dY,(l.flatMap fun h=>[(⟨h.At,h.fU⟩:bJ)]).length=l.length:=fun l=>by induction l with|nil=>rfl|cons x l ih=>simp[ih]
 rw[gb,au,e,e2];omega
theorem O3{t:am}(h1:t.aS.l.length<=24)(h2:t.aU.l.length<=8):∃s,tS t=some s/\s.l=gb t:=by
 have e2:∀l:List bd,(l.flatMap fun l=>[(⟨l.A,l.jD⟩:bJ),⟨l.B,l.jC⟩]).length=2*l.length:=fun l=>by induction l with|nil=>rfl|cons x l ih=>simp[ih];omega
 have e1:∀l:List dY,(l.flatMap fun h=>[(⟨h.At,h.fU⟩:bJ)]).length=l.length:=fun l=>by induction l with|nil=>rfl|cons x l ih=>simp[ih]
 obtain⟨s,k1,k2⟩:=xR (f:=qi t) t.aS.l (fun l=>[⟨l.A,l.jD⟩,⟨l.B,l.jC⟩]) .nil (by omega) (fun i s hi hs=>by have hcap:fA (s.l++[(⟨(gt t.aS.l i).A,(gt t.aS.l i).jD⟩:bJ),⟨(gt t.aS.l i).B,(gt t.aS.l i).jC⟩])=some (s.l++[⟨(gt t.aS.l i).A,(gt t.aS.l i).jD⟩,⟨(gt t.aS.l i).B,(gt t.aS.l i).jC⟩]):=kz (by rw[hs,au,au,e2,bw];simp;omega);exact⟨.mk (s.l++[⟨(gt t.aS.l i).A,(gt t.aS.l i).jD⟩,⟨(gt t.aS.l i).B,(gt t.aS.l i).jC⟩]),by simp only[qi,fT hi,cond_true,aY hi,aa,hcap],rfl⟩) (fun s=>by simp only[qi,ij,cond_false]);obtain⟨s2,k3,k4⟩:=xR (f:=qh t) t.aU.l (fun h=>[⟨h.At,h.fU⟩]) s (by omega) (fun i s' hi hs=>by have hcap:fA (s'.l++[(⟨(gt t.aU.l i).At,(gt t.aU.l i).fU⟩:bJ)])=some (s'.l++[⟨(gt t.aU.l i).At,(gt t.aU.l i).fU⟩]):=kz (by rw[hs,k2,au,au,au,e2,e1,bw];simp;omega);exact⟨.mk (s'.l++[⟨(gt t.aU.l i).At,(gt t.aU.l i).fU⟩]),by simp only[qh,fT hi,cond_true,aY hi,aa,hcap],rfl⟩) (fun s=>by simp only[qh,ij,cond_false]);exact⟨s2,by simp only[tS,k1,aa,k3],by rw[k4,k2];rfl⟩
theorem Sm{t:am}{r:Sl bJ}(hb:r.l.length<9223372036854775808):
  ∃b,aJ (lr t r) (0,(Mp.none:Mp bJ Int))=some b/\match b with|.inl v=>v=false/\¬(r.l.Nodup/\∀p∈r.l,kA t p)|.inr _=>r.l.Nodup/\∀p∈r.l,kA t p:=by
 have e0:((0:Nat):Int)=0:=rfl
 refine PX (f:=lr t r) (fun i(m:Mp bJ Int)=>((i:Int),m)) r.l.length (fun i m=>m=qZ (r.l.take i)/\(r.l.take i).Nodup/\∀p∈r.l.take i,kA t p)
  (fun b=>match b with|.inl v=>v=false/\¬(r.l.Nodup/\∀p∈r.l,kA t p)|.inr _=>r.l.Nodup/\∀p∈r.l,kA t p) ?_ ?_ 0 Mp.none (cG _) ⟨by simp[qZ,Mp.none],by simp,by simp⟩ (fun b q1 q2=>?_)
 .rintro i m hi ⟨rfl,hnd,hok⟩;have hgm:gt r.l i∈r.l:=by rw[dx hi];exact List.getElem_mem _
  have et:r.l.take (i+1)=r.l.take i++[gt r.l i]:=by rw[dx hi,dZ hi]
  have hsplit:r.l=r.l.take i++gt r.l i::r.l.drop (i+1):=by rw[dx hi,<-mi hi,List.take_append_drop]
  by_cases hm:gt r.l i∈r.l.take i
  .right;obtain⟨m2,h1,h2⟩:=Y3 hm 2;have hw:wr .i64 (lS (qZ (r.l.take i)) 0 (gt r.l i)+1)=2:=by rw[FZ,if_pos hm];rfl
   have hd:decide ((2:Int)>1)=true:=rfl;refine⟨.inl false,by simp only[lr,fT hi,cond_true,aY hi,aa,hw,h1,h2,hd,Bool.or_true],rfl,fun hh=>?_⟩;have h3:=hh.1;rw[hsplit]at h3;exact(cm.1 h3).2.2 _ hm _ (List.mem_cons_self ..) rfl
  .have h1:=Y4 hm;have hw:wr .i64 (lS (qZ (r.l.take i)) 0 (gt r.l i)+1)=1:=by rw[FZ,if_neg hm];rfl
   have h2:lS (qZ (r.l.take i++[gt r.l i])) 0 (gt r.l i)=1:=by rw[FZ,if_pos (by simp)]
   have hd:decide ((1:Int)>1)=false:=rfl;have hc:((((decide (((gt r.l i).sw)<0))||(decide (((gt r.l i).sw)>=t.ao)))||(decide (((gt r.l i).Lb)<0)))||(decide (((gt r.l i).Lb)>=8)))=true<->¬kA t (gt r.l i):=by simp only[cE,decide_eq_true_eq,kA];omega
   by_cases hp:kA t (gt r.l i)
   .left;have hc2:((((decide (((gt r.l i).sw)<0))||(decide (((gt r.l i).sw)>=t.ao)))||(decide (((gt r.l i).Lb)<0)))||(decide (((gt r.l i).Lb)>=8)))=false:=by rw[<-Bool.not_eq_true];exact fun h=>hc.1 h hp
    refine⟨qZ (r.l.take (i+1)),by simp only[lr,fT hi,cond_true,aY hi,aa,hw,h1,h2,hd,j7,hc2,cond_false,pN (show i<9223372036854775807 by omega),et],rfl,?_,?_⟩
    .rw [et];exact cm.2 ⟨hnd,by simp,fun a ha b hb=>by rw[aB]at hb;subst hb;exact fun e=>hm (e▸ha)⟩
    .intro p hpm;rw[et]at hpm;rcases aK.1 hpm with h|h
     .exact hok p h
     .rw [aB]at h;subst h;exact hp
   .right;exact⟨.inl false,by simp only[lr,fT hi,cond_true,aY hi,aa,hw,h1,h2,hd,j7,hc.2 hp],rfl,fun hh=>hp (hh.2 _ hgm)⟩
 .rintro m ⟨_,hnd,hok⟩;rw[dM]at hnd hok;exact⟨.inr (),by simp only[lr,ij,cond_false],hnd,hok⟩
 .rw [e0]at q1;exact⟨b,q1,q2⟩
theorem BJ{t:am}:mW t=some (decide (gB t)):=by
 unfold mW;by_cases hs:(1<=t.ao/\t.ao<=8)/\t.aS.l.length<=24/\t.aU.l.length<=8
 .have hc:((((decide (t.ao<1))||(decide (t.ao>8)))||(decide ((t.aS.l.length:Int)>24)))||(decide ((t.aU.l.length:Int)>8)))=false:=by simp only[bV,decide_eq_false_iff_not];omega
  have hl:=wm (f:=rR t) t.aS.l (fun l=>((((l.A==l.B)||(decide (l.xT<1)))||(decide (l.xT>l.rI)))||(decide (l.rI>1000)))) (by omega) (fun i hi=>by simp only[rR,fT hi,cond_true,aY hi,aa];generalize((((gt t.aS.l i).A==(gt t.aS.l i).B)||_)||_||_)=c;cases c<;>rfl) (by simp only[rR,ij,cond_false]);have hlk:∀l:bd,((((l.A==l.B)||(decide (l.xT<1)))||(decide (l.xT>l.rI)))||(decide (l.rI>1000)))=false<->zC l:=fun l=>by simp only[bV,beq_eq_false_iff_ne,decide_eq_false_iff_not,zC];omega
  rw[hc,cond_false,hl];by_cases hlo:∀l∈t.aS.l,zC l
  .rw [if_pos (fun l hm=>(hlk l).2 (hlo l hm))];simp only[aa];obtain⟨s,p1,p2⟩:=O3 hs.2.1 hs.2.2;have hpl:=Rk hs.2.1 hs.2.2;obtain⟨b,q1,q2⟩:=Sm (t:=t) (r:=s) (by rw[p2];omega);simp only[p1,aa,q1];rw[p2]at q2;cases b with|inl v=>obtain⟨rfl,q2⟩:=q2;exact congrArg some (decide_eq_false fun h:gB t=>q2 ⟨h.nodup,h.jq⟩).symm|inr _=>exact congrArg some (decide_eq_true ⟨hs.1,hs.2.1,hs.2.2,hlo,q2.1,q2.2⟩).symm
  .rw [if_neg (fun h=>hlo fun l hm=>(hlk l).1 (h l hm))];exact congrArg some (decide_eq_false fun h=>hlo h.VL).symm
 .have hc:((((decide (t.ao<1))||(decide (t.ao>8)))||(decide ((t.aS.l.length:Int)>24)))||(decide ((t.aU.l.length:Int)>8)))=true:=by simp only[cE,decide_eq_true_eq];omega
  rw[hc,cond_true];exact congrArg some (decide_eq_false fun h=>hs ⟨h.sw,h.xQ,h.sq⟩).symm
def rm(sw p:Int)(i:Nat)(l:bd):Option (Int×Int×Int):=if sw=l.A/\p=l.jD then some (l.B,l.jC,(i:Int))else if sw=l.B/\p=l.jC then some (l.A,l.jD,(i:Int))else none
theorem Oq{α β γ:Type}{P:Nat->α->Option β}(g:β->γ):∀{l:List α}{i:Nat},lE (fun i x=>(P i x).map g) l i=(lE P l i).map g:=by
 intro l;induction l with
 |nil=>intro i;rfl
 |cons x l ih=>intro i;simp only[lE];cases P i x with|none=>exact ih|some b=>rfl
def q4(q:Int×Int×Int):Int×Int×Int×Bool:=(q.1,q.2.1,q.2.2,true)
def Cv(t:am)(sw p:Int):Int×Int×Int×Bool:=match lE (rm sw p) t.aS.l 0 with|some (a,b,c)=>(a,b,c,true)|none=>(0,0,0,false)
theorem Ve(a b sw p:Int):decide ((⟨sw,p⟩:bJ)=⟨a,b⟩)=decide (sw=a/\p=b):=by rw[cF];simp
theorem Vf{t:am}(sw p:Int)(hb:t.aS.l.length<9223372036854775808):ym t sw p=some (Cv t sw p):=by
 have h:=xO (f:=us t sw p) t.aS.l (fun i l=>(rm sw p i l).map q4) () hb (fun i hi=>by
  simp only[us,fT hi,cond_true,aY hi,aa,Ve,rm];by_cases h1:sw=(gt t.aS.l i).A/\p=(gt t.aS.l i).jD
  .rw [if_pos h1,decide_eq_true h1];rfl
  .by_cases h2:sw=(gt t.aS.l i).B/\p=(gt t.aS.l i).jC
   .rw [if_neg h1,if_pos h2,decide_eq_false h1,decide_eq_true h2];rfl
   .rw [if_neg h1,if_neg h2,decide_eq_false h1,decide_eq_false h2];rfl) (by simp only[us,ij,cond_false])
 simp only[ym,h,aa,Oq,Cv];cases lE (rm sw p) t.aS.l 0 with|none=>rfl|some q=>obtain⟨a,b,c⟩:=q;rfl
theorem FO{t:am}(sw p:Int)(hb:t.aS.l.length<9223372036854775808):yR t sw p=some (Cv t sw p):=by
 have h:=xO (f:=wD t sw p) t.aS.l (fun i l=>(rm sw p i l).map q4) () hb (fun i hi=>by
  have c1:(((gt t.aS.l i).A==sw)&&((gt t.aS.l i).jD==p))=decide (sw=(gt t.aS.l i).A/\p=(gt t.aS.l i).jD):=by rw[cF];simp only[ax,beq_iff_eq,decide_eq_true_eq];omega
  have c2:(((gt t.aS.l i).B==sw)&&((gt t.aS.l i).jC==p))=decide (sw=(gt t.aS.l i).B/\p=(gt t.aS.l i).jC):=by rw[cF];simp only[ax,beq_iff_eq,decide_eq_true_eq];omega
  simp only[wD,fT hi,cond_true,aY hi,aa,c1,c2,rm];by_cases h1:sw=(gt t.aS.l i).A/\p=(gt t.aS.l i).jD
  .rw [if_pos h1,decide_eq_true h1];rfl
  .by_cases h2:sw=(gt t.aS.l i).B/\p=(gt t.aS.l i).jC
   .rw [if_neg h1,if_pos h2,decide_eq_false h1,decide_eq_true h2];rfl
   .rw [if_neg h1,if_neg h2,decide_eq_false h1,decide_eq_false h2];rfl) (by simp only[wD,ij,cond_false])
 simp only[yR,h,aa,Oq,Cv];cases lE (rm sw p) t.aS.l 0 with|none=>rfl|some q=>obtain⟨a,b,c⟩:=q;rfl
theorem abM{t:am}(hV:gB t){sw p a b c:Int}(h:lE (rm sw p) t.aS.l 0=some (a,b,c)):0<=a/\a<t.ao:=by
 obtain⟨j,l,h1,h2,_⟩:=kw h;have hm:l∈t.aS.l:=bA h1;have hA:kA t ⟨l.A,l.jD⟩:=hV.jq _ (bM _ (bL.2 ⟨l,hm,by simp⟩));have hB:kA t ⟨l.B,l.jC⟩:=hV.jq _ (bM _ (bL.2 ⟨l,hm,by simp⟩));unfold rm at h2;split at h2
 .obtain ⟨rfl,_⟩:=aq (af h2);exact hB.1
 .split at h2
  .obtain ⟨rfl,_⟩:=aq (af h2);exact hA.1
  .simp at h2
instance(t:am)(p:bJ):Decidable (kA t p):=inferInstanceAs (Decidable ((0<=p.sw/\p.sw<t.ao)/\0<=p.Lb/\p.Lb<8))
def oT(l:bd):List bJ:=[⟨l.A,l.jD⟩,⟨l.B,l.jC⟩]
def Gk(h:dY):List bJ:=[⟨h.At,h.fU⟩]
theorem mr(t:am):gb t=t.aS.l.flatMap oT++t.aU.l.flatMap Gk:=rfl
theorem Wj(a b q:bJ):[a,b].count q=(if a=q then 1 else 0)+(if b=q then 1 else 0):=by by_cases h1:a=q<;>by_cases h2:b=q<;>simp[h1,h2]
theorem L2(a b sw p:Int):((a==sw)&&(b==p))=decide ((⟨a,b⟩:bJ)=⟨sw,p⟩):=by rw[cF];simp
theorem NP(a b:Bool):(bif a then some b else some false)=some (a&&b):=by cases a<;>rfl
def G0(t:am)(sw p:Int):Bool:=decide (kA t ⟨sw,p⟩/\(gb t).count ⟨sw,p⟩=1)
theorem LZ{t:am}(hl:t.aS.l.length<=30)(hh:t.aU.l.length<=12)(sw p:Int):vZ t sw p=some (G0 t sw p):=by
 have e0:((0:Nat):Int)=0:=rfl
 have h1:∃b,aJ (sc t sw p) (0,0)=some b/\b=((t.aS.l.flatMap oT).count ⟨sw,p⟩:Nat)/\(t.aS.l.flatMap oT).count ⟨sw,p⟩<=60:=by
  refine PX (f:=sc t sw p) (fun i(n:Nat)=>((n:Int),(i:Int))) t.aS.l.length (fun i n=>n=((t.aS.l.take i).flatMap oT).count ⟨sw,p⟩/\n<=2*i)
   (fun b=>b=((t.aS.l.flatMap oT).count ⟨sw,p⟩:Nat)/\(t.aS.l.flatMap oT).count ⟨sw,p⟩<=60) ?_ ?_ 0 0 (cG _) ⟨by simp,by omega⟩ (fun b q1 q2=>⟨b,by rw[e0]at q1;exact q1,q2⟩)
  .rintro i n hi ⟨hn,hle⟩;left;have et:t.aS.l.take (i+1)=t.aS.l.take i++[gt t.aS.l i]:=by rw[dx hi,dZ hi]
   have hc:((t.aS.l.take (i+1)).flatMap oT).count ⟨sw,p⟩=n+((if(⟨(gt t.aS.l i).A,(gt t.aS.l i).jD⟩:bJ)=⟨sw,p⟩then 1 else 0)+(if(⟨(gt t.aS.l i).B,(gt t.aS.l i).jC⟩:bJ)=⟨sw,p⟩then 1 else 0)):=by rw[et,jk,vv,<-hn];simp only[eC,List.flatMap_nil,bO,oT,Wj]
   have w1:wr .i64 ((n:Int)+1)=((n+1:Nat):Int):=pN (by omega);have w2:wr .i64 (((n+1:Nat):Int)+1)=((n+1+1:Nat):Int):=pN (by omega);have w3:=pN (show i<9223372036854775807 by omega);refine⟨n+((if(⟨(gt t.aS.l i).A,(gt t.aS.l i).jD⟩:bJ)=⟨sw,p⟩then 1 else 0)+(if(⟨(gt t.aS.l i).B,(gt t.aS.l i).jC⟩:bJ)=⟨sw,p⟩then 1 else 0)),?_,hc.symm,?_⟩
   .simp only[sc,fT hi,cond_true,aY hi,aa,L2,w3];split<;>rename_i c1<;>split<;>rename_i c2
    .rw [decide_eq_true c1,decide_eq_true c2];simp only[cond_true,aa,w1,w2]
    .rw [decide_eq_true c1,decide_eq_false c2];simp only[cond_true,cond_false,aa,w1]
    .rw [decide_eq_false c1,decide_eq_true c2];simp only[cond_true,cond_false,aa,w1,Nat.zero_add]
    .rw [decide_eq_false c1,decide_eq_false c2];simp only[cond_false,aa,gr]
   .split<;>split<;>omega
  .rintro n ⟨hn,hle⟩;rw[dM]at hn;exact⟨(n:Int),by simp only[sc,ij,cond_false],by rw[hn],by rw[<-hn];omega⟩
 obtain⟨b1,h1,rfl,hb1⟩:=h1;generalize hk:(t.aS.l.flatMap oT).count ⟨sw,p⟩=k at*
 have h2:∃b,aJ (r_ t sw p) ((k:Int),0)=some b/\b=((gb t).count ⟨sw,p⟩:Nat):=by
  refine PX (f:=r_ t sw p) (fun i(n:Nat)=>((n:Int),(i:Int))) t.aU.l.length (fun i n=>n=k+((t.aU.l.take i).flatMap Gk).count ⟨sw,p⟩/\n<=k+i)
   (fun b=>b=((gb t).count ⟨sw,p⟩:Nat)) ?_ ?_ 0 k (cG _) ⟨by simp,by omega⟩ (fun b q1 q2=>⟨b,by rw[e0]at q1;exact q1,q2⟩)
  .rintro i n hi ⟨hn,hle⟩;left;have et:t.aU.l.take (i+1)=t.aU.l.take i++[gt t.aU.l i]:=by rw[dx hi,dZ hi]
   have hc:k+((t.aU.l.take (i+1)).flatMap Gk).count ⟨sw,p⟩=n+(if(⟨(gt t.aU.l i).At,(gt t.aU.l i).fU⟩:bJ)=⟨sw,p⟩then 1 else 0):=by rw[et,jk,vv,hn];simp only[eC,List.flatMap_nil,bO,Gk];by_cases h:(⟨(gt t.aU.l i).At,(gt t.aU.l i).fU⟩:bJ)=⟨sw,p⟩<;>simp[h]<;>omega
   have w1:wr .i64 ((n:Int)+1)=((n+1:Nat):Int):=pN (by omega);have w3:=pN (show i<9223372036854775807 by omega);refine⟨n+(if(⟨(gt t.aU.l i).At,(gt t.aU.l i).fU⟩:bJ)=⟨sw,p⟩then 1 else 0),?_,hc.symm,?_⟩
   .simp only[r_,fT hi,cond_true,aY hi,aa,NP,L2,w3];split<;>rename_i c1
    .rw [decide_eq_true c1];simp only[cond_true,aa,w1]
    .rw [decide_eq_false c1];simp only[cond_false,aa,gr]
   .split<;>omega
  .rintro n ⟨hn,hle⟩;rw[dM]at hn;exact⟨(n:Int),by simp only[r_,ij,cond_false],by rw[mr,vv,hk,<-hn]⟩
 obtain⟨b2,h2,rfl⟩:=h2;simp only[vZ,h1,aa,h2];congr 1;rw[cF,G0];generalize(gb t).count ⟨sw,p⟩=m;constructor
 .intro h;simp only[ax,decide_eq_true_eq,beq_iff_eq]at h;obtain⟨⟨⟨⟨a,b⟩,c⟩,d⟩,e⟩:=h;exact decide_eq_true ⟨⟨⟨a,b⟩,c,(by omega:p<8)⟩,by omega⟩
 .intro h;obtain⟨⟨⟨a,b⟩,c,d⟩,e⟩:=of_decide_eq_true h;have a:0<=sw:=a;have b:sw<t.ao:=b;have c:0<=p:=c;have d:p<8:=d;simp only[ax,decide_eq_true_eq,beq_iff_eq];exact⟨⟨⟨⟨a,b⟩,c⟩,by omega⟩,by omega⟩
theorem H5{l:List bJ}:l.Nodup<->∀p∈l,l.count p=1:=by
 rw[List.nodup_iff_count];constructor
 .intro h p hp;have h1:=h p;have h2:=List.count_pos_iff.2 hp;omega
 .intro h p;by_cases hp:p∈l
  .rw [h p hp];exact aw _
  .rw [List.count_eq_zero_of_not_mem hp];omega
theorem DL{t:am}(hl:t.aS.l.length<=30)(hh:t.aU.l.length<=12):oy t=some (decide (gB t)):=by
 unfold oy;by_cases hs:(1<=t.ao/\t.ao<=8)/\t.aS.l.length<=24/\t.aU.l.length<=8
 .have hc:((((decide (t.ao<1))||(decide (t.ao>8)))||(decide ((t.aS.l.length:Int)>24)))||(decide ((t.aU.l.length:Int)>8)))=false:=by simp only[bV,decide_eq_false_iff_not];omega
  have h1:=wm (f:=uK t) t.aS.l (fun l=>((l.A==l.B)||(decide (l.xT<1)||(decide (l.xT>l.rI)||(decide (l.rI>1000)||
    (!(G0 t l.A l.jD)||!(G0 t l.B l.jC))))))) (by omega) (fun i hi=>by
   simp only[uK,fT hi,cond_true,aY hi,aa,LZ hl hh];generalize((gt t.aS.l i).A==(gt t.aS.l i).B)=b1;generalize decide ((gt t.aS.l i).xT<1)=b2;generalize decide ((gt t.aS.l i).xT>(gt t.aS.l i).rI)=b3;generalize decide ((gt t.aS.l i).rI>1000)=b4;generalize G0 t (gt t.aS.l i).A (gt t.aS.l i).jD=b5;generalize G0 t (gt t.aS.l i).B (gt t.aS.l i).jC=b6;cases b1<;>cases b2<;>cases b3<;>cases b4<;>cases b5<;>cases b6<;>rfl) (by simp only[uK,ij,cond_false])
  have h2:=wm (f:=uJ t) t.aU.l (fun h=>!(G0 t h.At h.fU)) (by omega) (fun i hi=>by simp only[uJ,fT hi,cond_true,aY hi,aa,LZ hl hh];generalize G0 t (gt t.aU.l i).At (gt t.aU.l i).fU=b;cases b<;>rfl) (by simp only[uJ,ij,cond_false])
  have hlk:∀l:bd,((l.A==l.B)||(decide (l.xT<1)||(decide (l.xT>l.rI)||(decide (l.rI>1000)||
    (!(G0 t l.A l.jD)||!(G0 t l.B l.jC))))))=false<->
    zC l/\∀p∈oT l,kA t p/\(gb t).count p=1:=fun l=>by
   simp only[G0,bV,beq_eq_false_iff_ne,decide_eq_false_iff_not,zC,o8,decide_eq_true_eq,oT,List.mem_cons,List.not_mem_nil,or_false,forall_eq_or_imp,forall_eq];constructor
   .rintro ⟨a,b,c,d,e,f⟩;exact⟨⟨a,by omega,by omega,by omega⟩,e,f⟩
   .rintro ⟨⟨a,b,c,d⟩,e,f⟩;exact⟨a,by omega,by omega,by omega,e,f⟩
  have hho:∀h:dY,(!(G0 t h.At h.fU))=false<->∀p∈Gk h,kA t p/\(gb t).count p=1:=fun h=>by simp only[G0,o8,decide_eq_true_eq,Gk,aB,forall_eq]
  have hV:gB t<->(∀l∈t.aS.l,zC l/\∀p∈oT l,kA t p/\(gb t).count p=1)/\∀h∈t.aU.l,∀p∈Gk h,kA t p/\(gb t).count p=1:=by
   constructor
   .intro hV;have hc:=H5.1 hV.nodup;refine⟨fun l hl=>⟨hV.VL l hl,fun p hp=>?_⟩,fun h hh p hp=>?_⟩
    .have hm:p∈gb t:=by rw[mr];exact bM _ (bL.2 ⟨l,hl,hp⟩)
     exact⟨hV.jq p hm,hc p hm⟩
    .have hm:p∈gb t:=by rw[mr];exact List.mem_append_right _ (bL.2 ⟨h,hh,hp⟩)
     exact⟨hV.jq p hm,hc p hm⟩
   .rintro ⟨ha,hb⟩
    have all:∀p∈gb t,kA t p/\(gb t).count p=1:=by
     intro p hp;rw[mr]at hp;rcases aK.1 hp with h|h
     .obtain ⟨l,hl,hp⟩:=bL.1 h;exact(ha l hl).2 p hp
     .obtain ⟨x,hx,hp⟩:=bL.1 h;exact hb x hx p hp
    exact⟨hs.1,hs.2.1,hs.2.2,fun l hl=>(ha l hl).1,H5.2 fun p hp=>(all p hp).2,fun p hp=>(all p hp).1⟩
  rw[hc,cond_false,h1];by_cases c1:∀l∈t.aS.l,zC l/\∀p∈oT l,kA t p/\(gb t).count p=1
  .rw [if_pos (fun l hm=>(hlk l).2 (c1 l hm))];simp only[aa,h2];by_cases c2:∀h∈t.aU.l,∀p∈Gk h,kA t p/\(gb t).count p=1
   .rw [if_pos (fun h hm=>(hho h).2 (c2 h hm))];exact congrArg some (decide_eq_true (hV.2 ⟨c1,c2⟩)).symm
   .rw [if_neg (fun h=>c2 fun x hm=>(hho x).1 (h x hm))];exact congrArg some (decide_eq_false fun h=>c2 (hV.1 h).2).symm
  .rw [if_neg (fun h=>c1 fun l hm=>(hlk l).1 (h l hm))];exact congrArg some (decide_eq_false fun h=>c1 (hV.1 h).1).symm
 .have hc:((((decide (t.ao<1))||(decide (t.ao>8)))||(decide ((t.aS.l.length:Int)>24)))||(decide ((t.aU.l.length:Int)>8)))=true:=by simp only[cE,decide_eq_true_eq];omega
  rw[hc,cond_true];exact congrArg some (decide_eq_false fun h=>hs ⟨h.sw,h.xQ,h.sq⟩).symm
theorem H8{t:am}(hV:gB t){i j:Nat}{l m:bd}(hi:t.aS.l[i]?=some l)(hj:t.aS.l[j]?=some m){p:bJ}(hp:p∈oT l)(hq:p∈oT m):i=j:=by
 have h:=(cm.1 (mr t▸hV.nodup)).1;have h2:=(List.pairwise_flatMap.1 h).2;rw[List.pairwise_iff_getElem]at h2;obtain⟨hil,rfl⟩:=bG.1 hi;obtain⟨hjl,rfl⟩:=bG.1 hj;rcases Nat.lt_trichotomy i j with h3|h3|h3
 .exact absurd rfl (h2 i j hil hjl h3 p hp p hq)
 .exact h3
 .exact absurd rfl (h2 j i hjl hil h3 p hq p hp)
def IK(l:bd)(sw p a b:Int):Prop:=(sw=l.A/\p=l.jD/\a=l.B/\b=l.jC)\/(sw=l.B/\p=l.jC/\a=l.A/\b=l.jD)
theorem IK.symm{l:bd}{sw p a b:Int}(h:IK l sw p a b):IK l a b sw p:=by
 rcases h with⟨rfl,rfl,rfl,rfl⟩|⟨rfl,rfl,rfl,rfl⟩
 .exact .inr ⟨rfl,rfl,rfl,rfl⟩
 .exact .inl ⟨rfl,rfl,rfl,rfl⟩
theorem IK.yq{l:bd}{sw p a b:Int}(h:IK l sw p a b):(⟨sw,p⟩:bJ)∈oT l:=by rcases h with⟨rfl,rfl,_,_⟩|⟨rfl,rfl,_,_⟩<;>simp[oT]
theorem JJ{sw p:Int}{i:Nat}{l:bd}{a b c:Int}(h:rm sw p i l=some (a,b,c)):IK l sw p a b/\c=i:=by
 unfold rm at h;split at h
 .rename_i h1;obtain⟨rfl,rfl,rfl⟩:l.B=a/\l.jC=b/\(i:Int)=c:=by simpa using h
  exact⟨.inl ⟨h1.1,h1.2,rfl,rfl⟩,rfl⟩
 .split at h
  .rename_i h1;obtain⟨rfl,rfl,rfl⟩:l.A=a/\l.jD=b/\(i:Int)=c:=by simpa using h
   exact⟨.inr ⟨h1.1,h1.2,rfl,rfl⟩,rfl⟩
  .simp at h
theorem JI{l:bd}(hl:l.A≠l.B){sw p a b:Int}(h:IK l sw p a b)(i:Nat):rm sw p i l=some (a,b,(i:Int)):=by
 unfold rm;rcases h with⟨rfl,rfl,rfl,rfl⟩|⟨rfl,rfl,rfl,rfl⟩
 .rw [if_pos ⟨rfl,rfl⟩]
 .rw [if_neg fun h=>hl h.1.symm,if_pos ⟨rfl,rfl⟩]
theorem JH{t:am}(hV:gB t){sw p a b c:Int}:lE (rm sw p) t.aS.l 0=some (a,b,c)<->∃(j:Nat)(l:bd),t.aS.l[j]?=some l/\IK l sw p a b/\c=j:=by
 constructor
 .intro h;obtain⟨j,l,h1,h2,_⟩:=kw h;obtain⟨h3,h4⟩:=JJ h2;exact⟨j,l,h1,h3,by simpa using h4⟩
 .rintro ⟨j,l,h1,h2,rfl⟩;have hlk:=hV.VL l (bA h1);cases h:lE (rm sw p) t.aS.l 0 with
  |none=>have:=nP.1 h j l h1;rw[JI hlk.1 h2]at this;simp at this
  |some q=>
   obtain⟨a',b',c'⟩:=q;obtain⟨k,m,h3,h4,_⟩:=kw h;obtain⟨h5,h6⟩:=JJ h4;obtain rfl:=H8 hV h1 h3 h2.yq h5.yq;obtain rfl:l=m:=af (h1.symm.trans h3);have e:=JI hlk.1 h2 (0+j);rw[JI hlk.1 h5]at e;obtain⟨rfl,rfl⟩:a'=a/\b'=b:=by simpa using e
   rw[h6];simp
end Go.Proofs.YtoekkpmeeclpeaaGreat.S
