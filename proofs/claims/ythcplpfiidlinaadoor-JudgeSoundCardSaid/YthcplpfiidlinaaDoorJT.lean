/- Loops over lists, and topologies: what Right and Peer answer. Conditions: as stated. -/
import Derived.Test.YthcplpfiidlinaaDoorJ
open Go.Ev Go
noncomputable section
open Bool renaming or_eq_false_iff->ja,or_eq_true->cu
open List renaming drop_eq_getElem_cons->cX,getElem?_eq_some_iff->ak,getElem_of_mem->bV,length_append->aF,length_take->dM,mem_append_left->aC,mem_flatMap->da,mem_of_getElem?->aW,mem_singleton->aq,nodup_append->bZ,take_append_getElem->dD,take_length->ir
open Nat renaming sub_zero->kY,zero_le->cI
open Option renaming bind_some->ae,map_eq_some_iff->aH,map_some->bN
open Option.some renaming inj->aa
open Prod.mk renaming inj->ad
namespace Go.Proofs.YthcplpfiidlinaaDoor.J
theorem nT{n:Int}(h0:-9223372036854775808<=n)(h1:n<9223372036854775808):wr .i64 n=n:=by simp[wr,IntKind.wrap,IntKind.bits,IntKind.signed];omega
theorem MY{S β:Type}{f:S->Option (Sum S β)}(m:S->Nat)(I:S->Prop)(R:β->Prop)
  (hstep:∀s,I s->(∃s',f s=some (.inl s')/\I s'/\m s'<m s)\/(∃b,f s=some (.inr b)/\R b)):∀s,I s->∃b,br f s=some b/\R b:=by
 have:∀(n:Nat)(s:S),m s<=n->I s->∃b,br f s=some b/\R b:=by
  intro n;induction n with
  |zero=>
   intro s hn hI;rcases hstep s hI with⟨s',_,_,h⟩|⟨b,h1,h2⟩
   .omega
   .exact ⟨b,ci h1,h2⟩
  |succ n ih=>
   intro s hn hI;rcases hstep s hI with⟨s',h1,h2,h3⟩|⟨b,h1,h2⟩
   .obtain ⟨b,h4,h5⟩:=ih s' (by omega) h2;exact⟨b,(cG h1).trans h4,h5⟩
   .exact ⟨b,ci h1,h2⟩
 exact fun s=>this (m s) s (Nat.le_refl _)
theorem Ph{S σ β:Type}{f:S->Option (Sum S β)}(st:Nat->σ->S)(n:Nat)(I:Nat->σ->Prop)(R:β->Prop)
  (hstep:∀i s,i<n->I i s->(∃s',f (st i s)=some (.inl (st (i+1) s'))/\I (i+1) s')\/(∃b,f (st i s)=some (.inr b)/\R b))
  (hend:∀s,I n s->∃b,f (st n s)=some (.inr b)/\R b):∀i s,i<=n->I i s->∃b,br f (st i s)=some b/\R b:=by
 have:∀(k i:Nat)(s:σ),i+k=n->I i s->∃b,br f (st i s)=some b/\R b:=by
  intro k;induction k with
  |zero=>
   intro i s hi hI;obtain rfl:i=n:=by omega
   obtain⟨b,h1,h2⟩:=hend s hI;exact⟨b,ci h1,h2⟩
  |succ k ih=>
   intro i s hi hI;rcases hstep i s (by omega) hI with⟨s',h1,h2⟩|⟨b,h1,h2⟩
   .obtain ⟨b,h4,h5⟩:=ih (i+1) s' (by omega) h2;exact⟨b,(cG h1).trans h4,h5⟩
   .exact ⟨b,ci h1,h2⟩
 exact fun i s hi=>this (n-i) i s (by omega)
theorem JN{S σ β:Type}{goal:Prop}{f:S->Option (Sum S β)}(st:Nat->σ->S)(n:Nat)(I:Nat->σ->Prop)(R:β->Prop)
  (hstep:∀i s,i<n->I i s->(∃s',f (st i s)=some (.inl (st (i+1) s'))/\I (i+1) s')\/(∃b,f (st i s)=some (.inr b)/\R b))
  (hend:∀s,I n s->∃b,f (st n s)=some (.inr b)/\R b) (i:Nat) (s:σ) (hi:i<=n) (hI:I i s) (k:∀b,br f (st i s)=some b->R b->goal):goal:=
 let⟨b,h1,h2⟩:=Ph st n I R hstep hend i s hi hI
 k b h1 h2
theorem MZ{S β:Type}{goal:Prop}{f:S->Option (Sum S β)}(m:S->Nat)(I:S->Prop)(R:β->Prop)
  (hstep:∀s,I s->(∃s',f s=some (.inl s')/\I s'/\m s'<m s)\/(∃b,f s=some (.inr b)/\R b)) (s:S) (hI:I s) (k:∀b,br f s=some b->R b->goal):goal:=
 let⟨b,h1,h2⟩:=MY m I R hstep s hI
 k b h1 h2
theorem jm{i n:Nat}(h:i<n):decide ((i:Int)<(n:Int))=true:=by rw[decide_eq_true_eq];omega
theorem j4{n:Nat}:decide ((n:Int)<(n:Int))=false:=by rw[decide_eq_false_iff_not];omega
theorem kz{i:Nat}(h:i<9223372036854775807):wr .i64 ((i:Int)+1)=((i+1:Nat):Int):=by rw[nT (by omega) (by omega)];omega
def kw{α β:Type}(P:Nat->α->Option β):List α->Nat->Option β
 |[],_=>none
 |x::r,i=>match P i x with|some b=>some b|none=>kw P r (i+1)
theorem sQ{α β γ:Type}[Inhabited α]{f:Int->Option (Sum Int (Sum β γ))}(l:List α)(P:Nat->α->Option β)(c:γ)(hb:l.length<9223372036854775808)
  (hstep:∀i:Nat,i<l.length->f (i:Int)=some (match P i (gt l i)with|some b=>.inr (.inl b)|none=>.inl (wr .i64 ((i:Int)+1)))) (hend:f (l.length:Int)=some (.inr (.inr c))):
  br f 0=some (match kw P l 0 with|some b=>.inl b|none=>.inr c):=by
 have main:∀(n i:Nat),i+n=l.length->br f (i:Int)=some (match kw P (l.drop i) i with|some b=>.inl b|none=>.inr c):=by
  intro n;induction n with
  |zero=>
   intro i hi;obtain rfl:i=l.length:=by omega
   rw[ci hend,List.drop_length];rfl
  |succ n ih=>
   intro i hi;have hlt:i<l.length:=by omega
   have hs:=hstep i hlt;rw[cX hlt,<-eA hlt];simp only[kw];cases hP:P i (gt l i)with|some b=>rw[hP]at hs;rw[ci hs]|none=>rw[hP]at hs;simp only at hs;rw[kz (by omega)]at hs;rw[cG hs,ih (i+1) (by omega)]
 have:=main l.length 0 (by omega);simpa using this
theorem lM{α β:Type}{P:Nat->α->Option β}:∀{l:List α}{i:Nat},kw P l i=none<->∀j(x:α),l[j]?=some x->P (i+j) x=none:=by
 intro l;induction l with
 |nil=>intro i;simp[kw]
 |cons y l ih=>
  intro i;simp only[kw];constructor
  .intro h j x hj;split at h
   .simp at h
   .rename_i hP;cases j with
    |zero=>
     obtain rfl:y=x:=by simpa using hj
     exact hP
    |succ j=>have:=ih.1 h j x (by simpa using hj);rw[show i+(j+1)=i+1+j by omega];exact this
  .intro h;have h0:=h 0 y rfl;rw[Nat.add_zero]at h0;rw[h0];exact ih.2 fun j x hj=>by have:=h (j+1) x (by simpa using hj);rw[show i+(j+1)=i+1+j by omega]at this;exact this
theorem mI{α β:Type}{P:Nat->α->Option β}:∀{l:List α}{i:Nat}{b:β},kw P l i=some b->∃j x,l[j]?=some x/\P (i+j) x=some b/\∀k,k<j->∀y,l[k]?=some y->P (i+k) y=none:=by
 intro l;induction l with
 |nil=>intro i b h;simp[kw]at h
 |cons y l ih=>
  intro i b h;simp only[kw]at h;split at h
  .rename_i b' hP;obtain rfl:=aa h;exact⟨0,y,rfl,hP,fun k hk=>by omega⟩
  .rename_i hP;obtain⟨j,x,h1,h2,h3⟩:=ih h;refine⟨j+1,x,by simpa using h1,by rw[show i+(j+1)=i+1+j by omega];exact h2,fun k hk z hz=>?_⟩;cases k with
   |zero=>
    obtain rfl:y=z:=by simpa using hz
    exact hP
   |succ k=>rw[show i+(k+1)=i+1+k by omega];exact h3 k (by omega) z (by simpa using hz)
theorem BA{α:Type}{p:α->Bool}{l:List α}{i:Nat}:kw (fun _ x=>if p x then some false else none) l i=none<->∀x∈l,p x=false:=by
 rw[lM];constructor
 .intro h x hx;obtain⟨j,hj,rfl⟩:=bV hx;have:=h j l[j] (by simp[hj]);cases hp:p l[j]
  .rfl
  .rw [hp]at this;simp at this
 .intro h j x hj;rw[h x (aW hj)];rfl
theorem Ml{α:Type}[Inhabited α]{f:Int->Option (Sum Int (Sum Bool Unit))}(l:List α)(p:α->Bool)(hb:l.length<9223372036854775808)
  (hstep:∀i:Nat,i<l.length->f (i:Int)=some (bif p (gt l i)then .inr (.inl false)else .inl (wr .i64 ((i:Int)+1)))) (hend:f (l.length:Int)=some (.inr (.inr ()))):
  br f 0=some (if∀x∈l,p x=false then .inr ()else .inl false):=by
 rw[sQ l (fun _ x=>if p x then some false else none) () hb (fun i hi=>by rw[hstep i hi];cases p (gt l i)<;>rfl) hend];cases h:kw (fun _ x=>if p x then some false else none) l 0 with
 |none=>rw[if_pos (BA.1 h)]
 |some u=>
  obtain⟨j,x,_,h2,_⟩:=mI h;split at h2
  .obtain rfl:=aa h2;rw[if_neg];intro hn;rw[BA.2 hn]at h;simp at h
  .simp at h2
theorem Rc{α β:Type}[Inhabited α]{f:(Int×Sl β)->Option (Sum (Int×Sl β) (Sl β))}(l:List α)(g:Nat->α->List β)(s0:Sl β)(hb:l.length<9223372036854775808)
  (hstep:∀(i:Nat)(s:Sl β),i<l.length->s.l=s0.l++((l.take i).zipIdx.flatMap fun p=>g p.2 p.1)->∃s',f ((i:Int),s)=some (.inl (wr .i64 ((i:Int)+1),s'))/\s'.l=s.l++g i (gt l i))
  (hend:∀s,f ((l.length:Int),s)=some (.inr s)):∃s,br f (0,s0)=some s/\s.l=s0.l++(l.zipIdx.flatMap fun p=>g p.2 p.1):=by
 have e0:((0:Nat):Int)=0:=rfl;refine JN (f:=f) (fun i(s:Sl β)=>((i:Int),s)) l.length (fun i s=>s.l=s0.l++((l.take i).zipIdx.flatMap fun p=>g p.2 p.1)) (fun s=>s.l=s0.l++(l.zipIdx.flatMap fun p=>g p.2 p.1)) ?_ ?_ 0 s0 (cI _) (by simp) (fun b q1 q2=>?_)
 .intro i s hi hI;obtain⟨s',h1,h2⟩:=hstep i s hi hI;refine .inl ⟨s',by rw[h1,kz (by omega)],?_⟩;have et:l.take (i+1)=l.take i++[gt l i]:=by rw[eA hi,dD hi]
  rw[h2,hI,et,List.zipIdx_append,List.flatMap_append,List.append_assoc];simp[Nat.min_eq_left (Nat.le_of_lt hi)]
 .intro s hI;refine⟨s,hend s,?_⟩;rw[ir]at hI;exact hI
 .rw [e0]at q1;exact⟨b,q1,q2⟩
theorem Jd{α β:Type}[Inhabited α]{f:(Int×Sl β)->Option (Sum (Int×Sl β) (Sl β))}(l:List α)(g:α->List β)(s0:Sl β)(hb:l.length<9223372036854775808)
  (hstep:∀(i:Nat)(s:Sl β),i<l.length->s.l=s0.l++(l.take i).flatMap g->∃s',f ((i:Int),s)=some (.inl (wr .i64 ((i:Int)+1),s'))/\s'.l=s.l++g (gt l i))
  (hend:∀s,f ((l.length:Int),s)=some (.inr s)):∃s,br f (0,s0)=some s/\s.l=s0.l++l.flatMap g:=by
 have key:∀(l:List α)(k:Nat),((l.zipIdx k).flatMap fun p=>g p.1)=l.flatMap g:=fun l=>by induction l with|nil=>intro k;rfl|cons x l ih=>intro k;simp[List.zipIdx_cons,ih]
 obtain⟨s,h1,h2⟩:=Rc l (fun _ x=>g x) s0 hb (fun i s hi hs=>hstep i s hi (by rw[hs,key])) hend;exact⟨s,h1,by rw[h2,key]⟩
section
variable{κ ν:Type}
theorem rI[DecidableEq κ]{k:κ}:∀{l:List (κ×ν×Nat)}{i:Nat},hZ k l i=none<->∀e∈l,k≠e.1:=by
 intro l;induction l with
 |nil=>intro i;simp[hZ]
 |cons x l ih=>
  intro i;simp only[hZ];by_cases h:k=x.1
  .simp [h]
  .simp [h,ih]
theorem D_[DecidableEq κ]{k:κ}{v:ν}:∀{l:List (κ×ν×Nat)}{i j:Nat}{e:κ×ν×Nat},hZ k l i=some (j,e)->hZ k (rH l (j-i) v) i=some (j,(e.1,v,e.2.2)):=by
 intro l;induction l with
 |nil=>intro i j e h;simp[hZ]at h
 |cons x l ih=>
  intro i j e h;simp only[hZ]at h;split at h
  .rename_i hk;obtain⟨rfl,rfl⟩:i=j/\x=e:=by simpa using h
   simp[rH,hZ,hk]
  .rename_i hk;obtain⟨h1,_,_⟩:=lO h;have e1:j-i=(j-(i+1))+1:=by omega
   rw[e1];simp only[rH,hZ,hk,if_false];exact ih h
theorem D9{v:ν}{e:κ×ν×Nat}:∀{l:List (κ×ν×Nat)},rH (l++[e]) l.length v=l++[(e.1,v,e.2.2)]:=by intro l;induction l with|nil=>rfl|cons x l ih=>simp only[List.cons_append,List.length_cons,rH,ih]
theorem wV{l:List (κ×ν×Nat)}(h:∀(i:Nat)(e:κ×ν×Nat),l[i]?=some e->e.2.2=i){j:Nat}(hj:j<l.length):l.findIdx? (fun e=>decide ((e.2.2:Int)=(j:Int)))=some j:=by
 rw[List.findIdx?_eq_some_iff_getElem];refine⟨hj,?_,fun k hk=>?_⟩
 .have:=h j l[j] (by simp);simp[this]
 .have:=h k (l[k]'(by omega)) (by simp);simp only[this,decide_eq_true_eq];omega
end
def kS{κ:Type}(l:List κ):Mp κ Int:=⟨l.zipIdx.map fun q=>(q.1,1,q.2),l.length⟩
theorem uq{κ:Type}{l:List κ}{i:Nat}{e:κ×Int×Nat}(h:(kS l).es[i]?=some e):l[i]?=some e.1/\e.2.1=1/\e.2.2=i:=by simp only[kS,List.getElem?_map,aH]at h;obtain⟨q,hq,rfl⟩:=h;rw[List.getElem?_zipIdx]at hq;obtain⟨x,hx,rfl⟩:=aH.1 hq;exact⟨hx,rfl,by simp⟩
theorem Cf{κ:Type}{l:List κ}{e:κ×Int×Nat}(h:e∈(kS l).es):e.1∈l:=by obtain⟨i,hi,rfl⟩:=bV h;exact aW (uq (i:=i) (by simp[hi])).1
theorem up{κ:Type}[DecidableEq κ]{l:List κ}{k:κ}:nX (kS l) 0 k=if k∈l then 1 else 0:=by
 unfold nX;by_cases hk:k∈l
 .rw [if_pos hk];cases h:hZ k (kS l).es 0 with|none=>exfalso;rw[rI]at h;obtain⟨i,hi,rfl⟩:=bV hk;refine h (l[i],1,i) ?_ rfl;simp only[kS,List.mem_map];exact⟨(l[i],i),by rw[List.mem_zipIdx_iff_getElem?];simp[hi],rfl⟩|some p=>obtain⟨j,e⟩:=p;obtain⟨_,h2,_⟩:=lO h;exact(uq h2).2.1
 .rw [if_neg hk,rI.2 fun e he hke=>hk (by rw[hke];exact Cf he)]
theorem IV{κ:Type}[DecidableEq κ]{l:List κ}{k:κ}(hk:k∉l):uo (li (kS l) 0 k).1 (li (kS l) 0 k).2.2 1=some (kS (l++[k])):=by
 have hf:hZ k (kS l).es 0=none:=rI.2 fun e he hke=>hk (by rw[hke];exact Cf he);have he:li (kS l) 0 k=(⟨(kS l).es++[(k,0,l.length)],l.length+1⟩,0,(l.length:Int)):=by simp only[li,hf];rfl
 have hlen:(kS l).es.length=l.length:=by simp[kS]
 have eC:((kS l).es++[(k,(0:Int),l.length)]).findIdx? (fun e=>decide ((e.2.2:Int)=(l.length:Int)))=some l.length:=by
  refine wV (fun i e hi=>?_) (by simp[hlen]);rcases Nat.lt_or_ge i (kS l).es.length with h|h
  .rw [List.getElem?_append_left h]at hi;exact(uq hi).2.2
  .rw [List.getElem?_append_right h]at hi;have h0:i-(kS l).es.length=0:=by have:=(ak.1 hi).1;simp at this;omega
   rw[h0]at hi;obtain rfl:(k,(0:Int),l.length)=e:=by simpa using hi
   simp only;omega
 rw[he];simp only[uo,eC,bN];have hp:=D9 (v:=(1:Int)) (e:=(k,(0:Int),l.length)) (l:=(kS l).es);rw[hlen]at hp;rw[hp];simp[kS,List.zipIdx_append]
theorem IU{κ:Type}[DecidableEq κ]{l:List κ}{k:κ}(hk:k∈l)(v:Int):∃m,uo (li (kS l) 0 k).1 (li (kS l) 0 k).2.2 v=some m/\nX m 0 k=v:=by
 cases h:hZ k (kS l).es 0 with
 |none=>have:=@up κ _ l k;rw[if_pos hk]at this;unfold nX at this;rw[h]at this;simp at this
 |some p=>
  obtain⟨j,e⟩:=p;obtain⟨_,h2,_⟩:=lO h;rw[kY]at h2;obtain⟨_,_,h5⟩:=uq h2;have he:li (kS l) 0 k=(kS l,e.2.1,(e.2.2:Int)):=by simp only[li,h]
  have hj:j<(kS l).es.length:=(ak.1 h2).1;have eC:=wV (l:=(kS l).es) (fun i e hi=>(uq hi).2.2) hj;refine⟨⟨rH (kS l).es j v,(kS l).eW⟩,by rw[he];simp only[uo,h5,eC,bN],?_⟩;have:=D_ (v:=v) h;rw[kY]at this;simp only[nX,this]
def iE(t:ah):List bo:=(t.bT.l.flatMap fun l=>[⟨l.A,l.mD⟩,⟨l.B,l.mC⟩])++t.a_.l.flatMap fun h=>[⟨h.At,h.mq⟩]
def t4(l:bA):Prop:=l.A≠l.B/\1<=l.wa/\l.wa<=l.pk/\l.pk<=1000
def lA(t:ah)(p:bo):Prop:=(0<=p.sw/\p.sw<t.bh)/\0<=p.yM/\p.yM<8
structure mn(t:ah):Prop where
 sw:1<=t.bh/\t.bh<=8
 FD:t.bT.l.length<=24
 rM:t.a_.l.length<=8
 NJ:∀l∈t.bT.l,t4 l
 nodup:(iE t).Nodup
 p9:∀p∈iE t,lA t p
instance(t:ah):Decidable (mn t):=Classical.propDecidable _
theorem DV{t:ah}(h1:t.bT.l.length<=24)(h2:t.a_.l.length<=8):(iE t).length<=56:=by
 have e:∀l:List bA,(l.flatMap fun l=>[(⟨l.A,l.mD⟩:bo),⟨l.B,l.mC⟩]).length=2*l.length:=fun l=>by induction l with|nil=>rfl|cons x l ih=>simp[ih];omega
 have e2:∀l:List fH,(l.flatMap fun h=>[(⟨h.At,h.mq⟩:bo)]).length=l.length:=fun l=>by induction l with|nil=>rfl|cons x l ih=>simp[ih]
 rw[iE,aF,e,e2];omega
theorem BS{t:ah}(h1:t.bT.l.length<=24)(h2:t.a_.l.length<=8):∃s,lK t=some s/\s.l=iE t:=by
 have e2:∀l:List bA,(l.flatMap fun l=>[(⟨l.A,l.mD⟩:bo),⟨l.B,l.mC⟩]).length=2*l.length:=fun l=>by induction l with|nil=>rfl|cons x l ih=>simp[ih];omega
 have e1:∀l:List fH,(l.flatMap fun h=>[(⟨h.At,h.mq⟩:bo)]).length=l.length:=fun l=>by induction l with|nil=>rfl|cons x l ih=>simp[ih]
 obtain⟨s,k1,k2⟩:=Jd (f:=kC t) t.bT.l (fun l=>[⟨l.A,l.mD⟩,⟨l.B,l.mC⟩]) .nil (by omega) (fun i s hi hs=>by have hcap:h_ (s.l++[(⟨(gt t.bT.l i).A,(gt t.bT.l i).mD⟩:bo),⟨(gt t.bT.l i).B,(gt t.bT.l i).mC⟩])=some (s.l++[⟨(gt t.bT.l i).A,(gt t.bT.l i).mD⟩,⟨(gt t.bT.l i).B,(gt t.bT.l i).mC⟩]):=js (by rw[hs,aF,aF,e2,dM];simp;omega);exact⟨.mk (s.l++[⟨(gt t.bT.l i).A,(gt t.bT.l i).mD⟩,⟨(gt t.bT.l i).B,(gt t.bT.l i).mC⟩]),by simp only[kC,jm hi,cond_true,bI hi,ae,hcap],rfl⟩) (fun s=>by simp only[kC,j4,cond_false]);obtain⟨s2,k3,k4⟩:=Jd (f:=kA t) t.a_.l (fun h=>[⟨h.At,h.mq⟩]) s (by omega) (fun i s' hi hs=>by have hcap:h_ (s'.l++[(⟨(gt t.a_.l i).At,(gt t.a_.l i).mq⟩:bo)])=some (s'.l++[⟨(gt t.a_.l i).At,(gt t.a_.l i).mq⟩]):=js (by rw[hs,k2,aF,aF,aF,e2,e1,dM];simp;omega);exact⟨.mk (s'.l++[⟨(gt t.a_.l i).At,(gt t.a_.l i).mq⟩]),by simp only[kA,jm hi,cond_true,bI hi,ae,hcap],rfl⟩) (fun s=>by simp only[kA,j4,cond_false]);exact⟨s2,by simp only[lK,k1,ae,k3],by rw[k4,k2];rfl⟩
theorem EM{t:ah}{r:Sl bo}(hb:r.l.length<9223372036854775808):
  ∃b,br (ia t r) (0,(Mp.none:Mp bo Int))=some b/\match b with|.inl v=>v=false/\¬(r.l.Nodup/\∀p∈r.l,lA t p)|.inr _=>r.l.Nodup/\∀p∈r.l,lA t p:=by
 have e0:((0:Nat):Int)=0:=rfl
 refine JN (f:=ia t r) (fun i(m:Mp bo Int)=>((i:Int),m)) r.l.length (fun i m=>m=kS (r.l.take i)/\(r.l.take i).Nodup/\∀p∈r.l.take i,lA t p)
  (fun b=>match b with|.inl v=>v=false/\¬(r.l.Nodup/\∀p∈r.l,lA t p)|.inr _=>r.l.Nodup/\∀p∈r.l,lA t p) ?_ ?_ 0 Mp.none (cI _) ⟨by simp[kS,Mp.none],by simp,by simp⟩ (fun b q1 q2=>?_)
 .rintro i m hi ⟨rfl,hnd,hok⟩;have hgm:gt r.l i∈r.l:=by rw[eA hi];exact List.getElem_mem _
  have et:r.l.take (i+1)=r.l.take i++[gt r.l i]:=by rw[eA hi,dD hi]
  have hsplit:r.l=r.l.take i++gt r.l i::r.l.drop (i+1):=by rw[eA hi,<-cX hi,List.take_append_drop]
  by_cases hm:gt r.l i∈r.l.take i
  .right;obtain⟨m2,h1,h2⟩:=IU hm 2;have hw:wr .i64 (nX (kS (r.l.take i)) 0 (gt r.l i)+1)=2:=by rw[up,if_pos hm];rfl
   have hd:decide ((2:Int)>1)=true:=rfl;refine⟨.inl false,by simp only[ia,jm hi,cond_true,bI hi,ae,hw,h1,h2,hd,Bool.or_true],rfl,fun hh=>?_⟩;have h3:=hh.1;rw[hsplit]at h3;exact(bZ.1 h3).2.2 _ hm _ (List.mem_cons_self ..) rfl
  .have h1:=IV hm;have hw:wr .i64 (nX (kS (r.l.take i)) 0 (gt r.l i)+1)=1:=by rw[up,if_neg hm];rfl
   have h2:nX (kS (r.l.take i++[gt r.l i])) 0 (gt r.l i)=1:=by rw[up,if_pos (by simp)]
   have hd:decide ((1:Int)>1)=false:=rfl;have hc:((((decide (((gt r.l i).sw)<0))||(decide (((gt r.l i).sw)>=t.bh)))||(decide (((gt r.l i).yM)<0)))||(decide (((gt r.l i).yM)>=8)))=true<->¬lA t (gt r.l i):=by simp only[cu,decide_eq_true_eq,lA];omega
   by_cases hp:lA t (gt r.l i)
   .left;have hc2:((((decide (((gt r.l i).sw)<0))||(decide (((gt r.l i).sw)>=t.bh)))||(decide (((gt r.l i).yM)<0)))||(decide (((gt r.l i).yM)>=8)))=false:=by rw[<-Bool.not_eq_true];exact fun h=>hc.1 h hp
    refine⟨kS (r.l.take (i+1)),by simp only[ia,jm hi,cond_true,bI hi,ae,hw,h1,h2,hd,Bool.or_false,hc2,cond_false,kz (show i<9223372036854775807 by omega),et],rfl,?_,?_⟩
    .rw [et];exact bZ.2 ⟨hnd,by simp,fun a ha b hb=>by rw[aq]at hb;subst hb;exact fun e=>hm (e▸ha)⟩
    .intro p hpm;rw[et]at hpm;rcases List.mem_append.1 hpm with h|h
     .exact hok p h
     .rw [aq]at h;subst h;exact hp
   .right;exact⟨.inl false,by simp only[ia,jm hi,cond_true,bI hi,ae,hw,h1,h2,hd,Bool.or_false,hc.2 hp],rfl,fun hh=>hp (hh.2 _ hgm)⟩
 .rintro m ⟨_,hnd,hok⟩;rw[ir]at hnd hok;exact⟨.inr (),by simp only[ia,j4,cond_false],hnd,hok⟩
 .rw [e0]at q1;exact⟨b,q1,q2⟩
theorem Dr{t:ah}:mG t=some (decide (mn t)):=by
 unfold mG;by_cases hs:(1<=t.bh/\t.bh<=8)/\t.bT.l.length<=24/\t.a_.l.length<=8
 .have hc:((((decide (t.bh<1))||(decide (t.bh>8)))||(decide ((t.bT.l.length:Int)>24)))||(decide ((t.a_.l.length:Int)>8)))=false:=by simp only[ja,decide_eq_false_iff_not];omega
  have hl:=Ml (f:=lg t) t.bT.l (fun l=>((((l.A==l.B)||(decide (l.wa<1)))||(decide (l.wa>l.pk)))||(decide (l.pk>1000)))) (by omega) (fun i hi=>by simp only[lg,jm hi,cond_true,bI hi,ae];generalize((((gt t.bT.l i).A==(gt t.bT.l i).B)||_)||_||_)=c;cases c<;>rfl) (by simp only[lg,j4,cond_false]);have hlk:∀l:bA,((((l.A==l.B)||(decide (l.wa<1)))||(decide (l.wa>l.pk)))||(decide (l.pk>1000)))=false<->t4 l:=fun l=>by simp only[ja,beq_eq_false_iff_ne,decide_eq_false_iff_not,t4];omega
  rw[hc,cond_false,hl];by_cases hlo:∀l∈t.bT.l,t4 l
  .rw [if_pos (fun l hm=>(hlk l).2 (hlo l hm))];simp only[ae];obtain⟨s,p1,p2⟩:=BS hs.2.1 hs.2.2;have hpl:=DV hs.2.1 hs.2.2;obtain⟨b,q1,q2⟩:=EM (t:=t) (r:=s) (by rw[p2];omega);simp only[p1,ae,q1];rw[p2]at q2;cases b with|inl v=>obtain⟨rfl,q2⟩:=q2;exact congrArg some (decide_eq_false fun h:mn t=>q2 ⟨h.nodup,h.p9⟩).symm|inr _=>exact congrArg some (decide_eq_true ⟨hs.1,hs.2.1,hs.2.2,hlo,q2.1,q2.2⟩).symm
  .rw [if_neg (fun h=>hlo fun l hm=>(hlk l).1 (h l hm))];exact congrArg some (decide_eq_false fun h=>hlo h.NJ).symm
 .have hc:((((decide (t.bh<1))||(decide (t.bh>8)))||(decide ((t.bT.l.length:Int)>24)))||(decide ((t.a_.l.length:Int)>8)))=true:=by simp only[cu,decide_eq_true_eq];omega
  rw[hc,cond_true];exact congrArg some (decide_eq_false fun h=>hs ⟨h.sw,h.FD,h.rM⟩).symm
def nh(sw p:Int)(i:Nat)(l:bA):Option (Int×Int×Int):=if sw=l.A/\p=l.mD then some (l.B,l.mC,(i:Int))else if sw=l.B/\p=l.mC then some (l.A,l.mD,(i:Int))else none
theorem Ii{α β γ:Type}{P:Nat->α->Option β}(g:β->γ):∀{l:List α}{i:Nat},kw (fun i x=>(P i x).map g) l i=(kw P l i).map g:=by
 intro l;induction l with
 |nil=>intro i;rfl
 |cons x l ih=>intro i;simp only[kw];cases P i x with|none=>exact ih|some b=>rfl
def q4(q:Int×Int×Int):Int×Int×Int×Bool:=(q.1,q.2.1,q.2.2,true)
def jA(t:ah)(sw p:Int):Int×Int×Int×Bool:=match kw (nh sw p) t.bT.l 0 with|some (a,b,c)=>(a,b,c,true)|none=>(0,0,0,false)
theorem Gv(a b sw p:Int):decide ((⟨sw,p⟩:bo)=⟨a,b⟩)=decide (sw=a/\p=b):=by rw[Bool.eq_iff_iff];simp
theorem zw{t:ah}(sw p:Int)(hb:t.bT.l.length<9223372036854775808):mH t sw p=some (jA t sw p):=by
 have h:=sQ (f:=lY t sw p) t.bT.l (fun i l=>(nh sw p i l).map q4) () hb (fun i hi=>by
  simp only[lY,jm hi,cond_true,bI hi,ae,Gv,nh];by_cases h1:sw=(gt t.bT.l i).A/\p=(gt t.bT.l i).mD
  .rw [if_pos h1,decide_eq_true h1];rfl
  .by_cases h2:sw=(gt t.bT.l i).B/\p=(gt t.bT.l i).mC
   .rw [if_neg h1,if_pos h2,decide_eq_false h1,decide_eq_true h2];rfl
   .rw [if_neg h1,if_neg h2,decide_eq_false h1,decide_eq_false h2];rfl) (by simp only[lY,j4,cond_false])
 simp only[mH,h,ae,Ii,jA];cases kw (nh sw p) t.bT.l 0 with|none=>rfl|some q=>obtain⟨a,b,c⟩:=q;rfl
theorem Fo{t:ah}(hV:mn t){sw p a b c:Int}(h:kw (nh sw p) t.bT.l 0=some (a,b,c)):0<=a/\a<t.bh:=by
 obtain⟨j,l,h1,h2,_⟩:=mI h;have hm:l∈t.bT.l:=aW h1;have hA:lA t ⟨l.A,l.mD⟩:=hV.p9 _ (aC _ (da.2 ⟨l,hm,by simp⟩));have hB:lA t ⟨l.B,l.mC⟩:=hV.p9 _ (aC _ (da.2 ⟨l,hm,by simp⟩));unfold nh at h2;split at h2
 .obtain ⟨rfl,_⟩:=ad (aa h2);exact hB.1
 .split at h2
  .obtain ⟨rfl,_⟩:=ad (aa h2);exact hA.1
  .simp at h2
instance(t:ah)(p:bo):Decidable (lA t p):=inferInstanceAs (Decidable ((0<=p.sw/\p.sw<t.bh)/\0<=p.yM/\p.yM<8))
def yb(l:bA):List bo:=[⟨l.A,l.mD⟩,⟨l.B,l.mC⟩]
def Pq(h:fH):List bo:=[⟨h.At,h.mq⟩]
theorem vg(t:ah):iE t=t.bT.l.flatMap yb++t.a_.l.flatMap Pq:=rfl
theorem Cn{t:ah}(hV:mn t){i j:Nat}{l m:bA}(hi:t.bT.l[i]?=some l)(hj:t.bT.l[j]?=some m){p:bo}(hp:p∈yb l)(hq:p∈yb m):i=j:=by
 have h:=(bZ.1 (vg t▸hV.nodup)).1;have h2:=(List.pairwise_flatMap.1 h).2;rw[List.pairwise_iff_getElem]at h2;obtain⟨hil,rfl⟩:=ak.1 hi;obtain⟨hjl,rfl⟩:=ak.1 hj;rcases Nat.lt_trichotomy i j with h3|h3|h3
 .exact absurd rfl (h2 i j hil hjl h3 p hp p hq)
 .exact h3
 .exact absurd rfl (h2 j i hjl hil h3 p hq p hp)
def KD(l:bA)(sw p a b:Int):Prop:=(sw=l.A/\p=l.mD/\a=l.B/\b=l.mC)\/(sw=l.B/\p=l.mC/\a=l.A/\b=l.mD)
theorem KD.OO{l:bA}{sw p a b:Int}(h:KD l sw p a b):(⟨sw,p⟩:bo)∈yb l:=by rcases h with⟨rfl,rfl,_,_⟩|⟨rfl,rfl,_,_⟩<;>simp[yb]
theorem xq{sw p:Int}{i:Nat}{l:bA}{a b c:Int}(h:nh sw p i l=some (a,b,c)):KD l sw p a b/\c=i:=by
 unfold nh at h;split at h
 .rename_i h1;obtain⟨rfl,rfl,rfl⟩:l.B=a/\l.mC=b/\(i:Int)=c:=by simpa using h
  exact⟨.inl ⟨h1.1,h1.2,rfl,rfl⟩,rfl⟩
 .split at h
  .rename_i h1;obtain⟨rfl,rfl,rfl⟩:l.A=a/\l.mD=b/\(i:Int)=c:=by simpa using h
   exact⟨.inr ⟨h1.1,h1.2,rfl,rfl⟩,rfl⟩
  .simp at h
theorem xp{l:bA}(hl:l.A≠l.B){sw p a b:Int}(h:KD l sw p a b)(i:Nat):nh sw p i l=some (a,b,(i:Int)):=by
 unfold nh;rcases h with⟨rfl,rfl,rfl,rfl⟩|⟨rfl,rfl,rfl,rfl⟩
 .rw [if_pos ⟨rfl,rfl⟩]
 .rw [if_neg fun h=>hl h.1.symm,if_pos ⟨rfl,rfl⟩]
theorem Ix{t:ah}(hV:mn t){sw p a b c:Int}:kw (nh sw p) t.bT.l 0=some (a,b,c)<->∃(j:Nat)(l:bA),t.bT.l[j]?=some l/\KD l sw p a b/\c=j:=by
 constructor
 .intro h;obtain⟨j,l,h1,h2,_⟩:=mI h;obtain⟨h3,h4⟩:=xq h2;exact⟨j,l,h1,h3,by simpa using h4⟩
 .rintro ⟨j,l,h1,h2,rfl⟩;have hlk:=hV.NJ l (aW h1);cases h:kw (nh sw p) t.bT.l 0 with
  |none=>have:=lM.1 h j l h1;rw[xp hlk.1 h2]at this;simp at this
  |some q=>
   obtain⟨a',b',c'⟩:=q;obtain⟨k,m,h3,h4,_⟩:=mI h;obtain⟨h5,h6⟩:=xq h4;obtain rfl:=Cn hV h1 h3 h2.OO h5.OO;obtain rfl:l=m:=aa (h1.symm.trans h3);have e:=xp hlk.1 h2 (0+j);rw[xp hlk.1 h5]at e;obtain⟨rfl,rfl⟩:a'=a/\b'=b:=by simpa using e
   rw[h6];simp
end Go.Proofs.YthcplpfiidlinaaDoor.J
