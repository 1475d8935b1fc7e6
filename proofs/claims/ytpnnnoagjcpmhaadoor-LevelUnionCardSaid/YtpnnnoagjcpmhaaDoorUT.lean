/- Loops over lists, and topologies: what Right and Peer answer. Conditions: as stated. -/
import Derived.Test.YtpnnnoagjcpmhaaDoorU
open Bool renaming and_eq_true->af,eq_iff_iff->cH,or_eq_false_iff->dT,or_eq_true->bY
open List renaming append_nil->bi,drop_eq_getElem_cons->eT,flatMap_append->gB,flatMap_cons->bf,getElem?_eq_some_iff->ai,getElem_of_mem->cG,length_append->aG,length_take->cM,mem_append->ak,mem_append_left->aE,mem_flatMap->bT,mem_of_getElem?->aQ,mem_singleton->am,nodup_append->bR,take_append_getElem->eZ,take_length->er
open Nat renaming add_zero->cu,le_refl->ao,sub_zero->iq,zero_le->dQ
open Option renaming bind_some->ae,map_eq_some_iff->aB,map_some->bB
open Option.some renaming inj->aa
open Prod.mk renaming inj->ad
open Go.Ev Go
noncomputable section
namespace Go.Proofs.YtpnnnoagjcpmhaaDoor.U
theorem uH{n:Int}(h0:-9223372036854775808<=n)(h1:n<9223372036854775808):wr .i64 n=n:=by simp[wr,IntKind.wrap,IntKind.bits,IntKind.signed];omega
theorem Ni{S β:Type}{f:S->Option (Sum S β)}(m:S->Nat)(I:S->Prop)(R:β->Prop)
  (hstep:∀s,I s->(∃s',f s=some (.inl s')/\I s'/\m s'<m s)\/(∃b,f s=some (.inr b)/\R b)):∀s,I s->∃b,bL f s=some b/\R b:=by
 have:∀(n:Nat)(s:S),m s<=n->I s->∃b,bL f s=some b/\R b:=by
  intro n;induction n with
  |zero=>
   intro s hn hI;rcases hstep s hI with⟨s',_,_,h⟩|⟨b,h1,h2⟩
   .omega
   .exact ⟨b,cS h1,h2⟩
  |succ n ih=>
   intro s hn hI;rcases hstep s hI with⟨s',h1,h2,h3⟩|⟨b,h1,h2⟩
   .obtain ⟨b,h4,h5⟩:=ih s' (by omega) h2;exact⟨b,(dV h1).trans h4,h5⟩
   .exact ⟨b,cS h1,h2⟩
 exact fun s=>this (m s) s (ao _)
theorem Ry{S σ β:Type}{f:S->Option (Sum S β)}(st:Nat->σ->S)(n:Nat)(I:Nat->σ->Prop)(R:β->Prop)
  (hstep:∀i s,i<n->I i s->(∃s',f (st i s)=some (.inl (st (i+1) s'))/\I (i+1) s')\/(∃b,f (st i s)=some (.inr b)/\R b))
  (hend:∀s,I n s->∃b,f (st n s)=some (.inr b)/\R b):∀i s,i<=n->I i s->∃b,bL f (st i s)=some b/\R b:=by
 have:∀(k i:Nat)(s:σ),i+k=n->I i s->∃b,bL f (st i s)=some b/\R b:=by
  intro k;induction k with
  |zero=>
   intro i s hi hI;obtain rfl:i=n:=by omega
   obtain⟨b,h1,h2⟩:=hend s hI;exact⟨b,cS h1,h2⟩
  |succ k ih=>
   intro i s hi hI;rcases hstep i s (by omega) hI with⟨s',h1,h2⟩|⟨b,h1,h2⟩
   .obtain ⟨b,h4,h5⟩:=ih (i+1) s' (by omega) h2;exact⟨b,(dV h1).trans h4,h5⟩
   .exact ⟨b,cS h1,h2⟩
 exact fun i s hi=>this (n-i) i s (by omega)
theorem DX{S σ β:Type}{goal:Prop}{f:S->Option (Sum S β)}(st:Nat->σ->S)(n:Nat)(I:Nat->σ->Prop)(R:β->Prop)
  (hstep:∀i s,i<n->I i s->(∃s',f (st i s)=some (.inl (st (i+1) s'))/\I (i+1) s')\/(∃b,f (st i s)=some (.inr b)/\R b))
  (hend:∀s,I n s->∃b,f (st n s)=some (.inr b)/\R b) (i:Nat) (s:σ) (hi:i<=n) (hI:I i s) (k:∀b,bL f (st i s)=some b->R b->goal):goal:=
 let⟨b,h1,h2⟩:=Ry st n I R hstep hend i s hi hI
 k b h1 h2
theorem Nj{S β:Type}{goal:Prop}{f:S->Option (Sum S β)}(m:S->Nat)(I:S->Prop)(R:β->Prop)
  (hstep:∀s,I s->(∃s',f s=some (.inl s')/\I s'/\m s'<m s)\/(∃b,f s=some (.inr b)/\R b)) (s:S) (hI:I s) (k:∀b,bL f s=some b->R b->goal):goal:=
 let⟨b,h1,h2⟩:=Ni m I R hstep s hI
 k b h1 h2
theorem j4{i n:Nat}(h:i<n):decide ((i:Int)<(n:Int))=true:=by rw[decide_eq_true_eq];omega
theorem lI{n:Nat}:decide ((n:Int)<(n:Int))=false:=by rw[decide_eq_false_iff_not];omega
theorem oE{i:Nat}(h:i<9223372036854775807):wr .i64 ((i:Int)+1)=((i+1:Nat):Int):=by rw[uH (by omega) (by omega)];omega
def lg{α β:Type}(P:Nat->α->Option β):List α->Nat->Option β
 |[],_=>none
 |x::r,i=>match P i x with|some b=>some b|none=>lg P r (i+1)
theorem uM{α β γ:Type}[Inhabited α]{f:Int->Option (Sum Int (Sum β γ))}(l:List α)(P:Nat->α->Option β)(c:γ)(hb:l.length<9223372036854775808)
  (hstep:∀i:Nat,i<l.length->f (i:Int)=some (match P i (gt l i)with|some b=>.inr (.inl b)|none=>.inl (wr .i64 ((i:Int)+1)))) (hend:f (l.length:Int)=some (.inr (.inr c))):
  bL f 0=some (match lg P l 0 with|some b=>.inl b|none=>.inr c):=by
 have main:∀(n i:Nat),i+n=l.length->bL f (i:Int)=some (match lg P (l.drop i) i with|some b=>.inl b|none=>.inr c):=by
  intro n;induction n with
  |zero=>
   intro i hi;obtain rfl:i=l.length:=by omega
   rw[cS hend,List.drop_length];rfl
  |succ n ih=>
   intro i hi;have hlt:i<l.length:=by omega
   have hs:=hstep i hlt;rw[eT hlt,<-eu hlt];simp only[lg];cases hP:P i (gt l i)with|some b=>rw[hP]at hs;rw[cS hs]|none=>rw[hP]at hs;simp only at hs;rw[oE (by omega)]at hs;rw[dV hs,ih (i+1) (by omega)]
 have:=main l.length 0 (by omega);simpa using this
theorem lP{α β:Type}{P:Nat->α->Option β}:∀{l:List α}{i:Nat},lg P l i=none<->∀j(x:α),l[j]?=some x->P (i+j) x=none:=by
 intro l;induction l with
 |nil=>intro i;simp[lg]
 |cons y l ih=>
  intro i;simp only[lg];constructor
  .intro h j x hj;split at h
   .simp at h
   .rename_i hP;cases j with
    |zero=>
     obtain rfl:y=x:=by simpa using hj
     exact hP
    |succ j=>have:=ih.1 h j x (by simpa using hj);rw[show i+(j+1)=i+1+j by omega];exact this
  .intro h;have h0:=h 0 y rfl;rw[cu]at h0;rw[h0];exact ih.2 fun j x hj=>by have:=h (j+1) x (by simpa using hj);rw[show i+(j+1)=i+1+j by omega]at this;exact this
theorem kT{α β:Type}{P:Nat->α->Option β}:∀{l:List α}{i:Nat}{b:β},lg P l i=some b->∃j x,l[j]?=some x/\P (i+j) x=some b/\∀k,k<j->∀y,l[k]?=some y->P (i+k) y=none:=by
 intro l;induction l with
 |nil=>intro i b h;simp[lg]at h
 |cons y l ih=>
  intro i b h;simp only[lg]at h;split at h
  .rename_i b' hP;obtain rfl:=aa h;exact⟨0,y,rfl,hP,fun k hk=>by omega⟩
  .rename_i hP;obtain⟨j,x,h1,h2,h3⟩:=ih h;refine⟨j+1,x,by simpa using h1,by rw[show i+(j+1)=i+1+j by omega];exact h2,fun k hk z hz=>?_⟩;cases k with
   |zero=>
    obtain rfl:y=z:=by simpa using hz
    exact hP
   |succ k=>rw[show i+(k+1)=i+1+k by omega];exact h3 k (by omega) z (by simpa using hz)
theorem AX{α:Type}{p:α->Bool}{l:List α}{i:Nat}:lg (fun _ x=>if p x then some false else none) l i=none<->∀x∈l,p x=false:=by
 rw[lP];constructor
 .intro h x hx;obtain⟨j,hj,rfl⟩:=cG hx;have:=h j l[j] (by simp[hj]);cases hp:p l[j]
  .rfl
  .rw [hp]at this;simp at this
 .intro h j x hj;rw[h x (aQ hj)];rfl
theorem Es{α:Type}[Inhabited α]{f:Int->Option (Sum Int (Sum Bool Unit))}(l:List α)(p:α->Bool)(hb:l.length<9223372036854775808)
  (hstep:∀i:Nat,i<l.length->f (i:Int)=some (bif p (gt l i)then .inr (.inl false)else .inl (wr .i64 ((i:Int)+1)))) (hend:f (l.length:Int)=some (.inr (.inr ()))):
  bL f 0=some (if∀x∈l,p x=false then .inr ()else .inl false):=by
 rw[uM l (fun _ x=>if p x then some false else none) () hb (fun i hi=>by rw[hstep i hi];cases p (gt l i)<;>rfl) hend];cases h:lg (fun _ x=>if p x then some false else none) l 0 with
 |none=>rw[if_pos (AX.1 h)]
 |some u=>
  obtain⟨j,x,_,h2,_⟩:=kT h;split at h2
  .obtain rfl:=aa h2;rw[if_neg];intro hn;rw[AX.2 hn]at h;simp at h
  .simp at h2
theorem Rs{α β:Type}[Inhabited α]{f:(Int×Sl β)->Option (Sum (Int×Sl β) (Sl β))}(l:List α)(g:Nat->α->List β)(s0:Sl β)(hb:l.length<9223372036854775808)
  (hstep:∀(i:Nat)(s:Sl β),i<l.length->s.l=s0.l++((l.take i).zipIdx.flatMap fun p=>g p.2 p.1)->∃s',f ((i:Int),s)=some (.inl (wr .i64 ((i:Int)+1),s'))/\s'.l=s.l++g i (gt l i))
  (hend:∀s,f ((l.length:Int),s)=some (.inr s)):∃s,bL f (0,s0)=some s/\s.l=s0.l++(l.zipIdx.flatMap fun p=>g p.2 p.1):=by
 have e0:((0:Nat):Int)=0:=rfl;refine DX (f:=f) (fun i(s:Sl β)=>((i:Int),s)) l.length (fun i s=>s.l=s0.l++((l.take i).zipIdx.flatMap fun p=>g p.2 p.1)) (fun s=>s.l=s0.l++(l.zipIdx.flatMap fun p=>g p.2 p.1)) ?_ ?_ 0 s0 (dQ _) (by simp) (fun b q1 q2=>?_)
 .intro i s hi hI;obtain⟨s',h1,h2⟩:=hstep i s hi hI;refine .inl ⟨s',by rw[h1,oE (by omega)],?_⟩;have et:l.take (i+1)=l.take i++[gt l i]:=by rw[eu hi,eZ hi]
  rw[h2,hI,et,List.zipIdx_append,gB,List.append_assoc];simp[Nat.min_eq_left (Nat.le_of_lt hi)]
 .intro s hI;refine⟨s,hend s,?_⟩;rw[er]at hI;exact hI
 .rw [e0]at q1;exact⟨b,q1,q2⟩
theorem E8{α β:Type}[Inhabited α]{f:(Int×Sl β)->Option (Sum (Int×Sl β) (Sl β))}(l:List α)(g:α->List β)(s0:Sl β)(hb:l.length<9223372036854775808)
  (hstep:∀(i:Nat)(s:Sl β),i<l.length->s.l=s0.l++(l.take i).flatMap g->∃s',f ((i:Int),s)=some (.inl (wr .i64 ((i:Int)+1),s'))/\s'.l=s.l++g (gt l i))
  (hend:∀s,f ((l.length:Int),s)=some (.inr s)):∃s,bL f (0,s0)=some s/\s.l=s0.l++l.flatMap g:=by
 have key:∀(l:List α)(k:Nat),((l.zipIdx k).flatMap fun p=>g p.1)=l.flatMap g:=fun l=>by induction l with|nil=>intro k;rfl|cons x l ih=>intro k;simp[List.zipIdx_cons,ih]
 obtain⟨s,h1,h2⟩:=Rs l (fun _ x=>g x) s0 hb (fun i s hi hs=>hstep i s hi (by rw[hs,key])) hend;exact⟨s,h1,by rw[h2,key]⟩
section
variable{κ ν:Type}
theorem qF[DecidableEq κ]{k:κ}:∀{l:List (κ×ν×Nat)}{i:Nat},gF k l i=none<->∀e∈l,k≠e.1:=by
 intro l;induction l with
 |nil=>intro i;simp[gF]
 |cons x l ih=>
  intro i;simp only[gF];by_cases h:k=x.1
  .simp [h]
  .simp [h,ih]
theorem DH[DecidableEq κ]{k:κ}{v:ν}:∀{l:List (κ×ν×Nat)}{i j:Nat}{e:κ×ν×Nat},gF k l i=some (j,e)->gF k (qE l (j-i) v) i=some (j,(e.1,v,e.2.2)):=by
 intro l;induction l with
 |nil=>intro i j e h;simp[gF]at h
 |cons x l ih=>
  intro i j e h;simp only[gF]at h;split at h
  .rename_i hk;obtain⟨rfl,rfl⟩:i=j/\x=e:=by simpa using h
   simp[qE,gF,hk]
  .rename_i hk;obtain⟨h1,_,_⟩:=kW h;have e1:j-i=(j-(i+1))+1:=by omega
   rw[e1];simp only[qE,gF,hk,if_false];exact ih h
theorem DG{v:ν}{e:κ×ν×Nat}:∀{l:List (κ×ν×Nat)},qE (l++[e]) l.length v=l++[(e.1,v,e.2.2)]:=by intro l;induction l with|nil=>rfl|cons x l ih=>simp only[List.cons_append,List.length_cons,qE,ih]
theorem vP{l:List (κ×ν×Nat)}(h:∀(i:Nat)(e:κ×ν×Nat),l[i]?=some e->e.2.2=i){j:Nat}(hj:j<l.length):l.findIdx? (fun e=>decide ((e.2.2:Int)=(j:Int)))=some j:=by
 rw[List.findIdx?_eq_some_iff_getElem];refine⟨hj,?_,fun k hk=>?_⟩
 .have:=h j l[j] (by simp);simp[this]
 .have:=h k (l[k]'(by omega)) (by simp);simp only[this,decide_eq_true_eq];omega
end
def j3{κ:Type}(l:List κ):Mp κ Int:=⟨l.zipIdx.map fun q=>(q.1,1,q.2),l.length⟩
theorem tf{κ:Type}{l:List κ}{i:Nat}{e:κ×Int×Nat}(h:(j3 l).es[i]?=some e):l[i]?=some e.1/\e.2.1=1/\e.2.2=i:=by simp only[j3,List.getElem?_map,aB]at h;obtain⟨q,hq,rfl⟩:=h;rw[List.getElem?_zipIdx]at hq;obtain⟨x,hx,rfl⟩:=aB.1 hq;exact⟨hx,rfl,by simp⟩
theorem BC{κ:Type}{l:List κ}{e:κ×Int×Nat}(h:e∈(j3 l).es):e.1∈l:=by obtain⟨i,hi,rfl⟩:=cG h;exact aQ (tf (i:=i) (by simp[hi])).1
theorem te{κ:Type}[DecidableEq κ]{l:List κ}{k:κ}:mQ (j3 l) 0 k=if k∈l then 1 else 0:=by
 unfold mQ;by_cases hk:k∈l
 .rw [if_pos hk];cases h:gF k (j3 l).es 0 with|none=>exfalso;rw[qF]at h;obtain⟨i,hi,rfl⟩:=cG hk;refine h (l[i],1,i) ?_ rfl;simp only[j3,List.mem_map];exact⟨(l[i],i),by rw[List.mem_zipIdx_iff_getElem?];simp[hi],rfl⟩|some p=>obtain⟨j,e⟩:=p;obtain⟨_,h2,_⟩:=kW h;exact(tf h2).2.1
 .rw [if_neg hk,qF.2 fun e he hke=>hk (by rw[hke];exact BC he)]
theorem IQ{κ:Type}[DecidableEq κ]{l:List κ}{k:κ}(hk:k∉l):s_ (ky (j3 l) 0 k).1 (ky (j3 l) 0 k).2.2 1=some (j3 (l++[k])):=by
 have hf:gF k (j3 l).es 0=none:=qF.2 fun e he hke=>hk (by rw[hke];exact BC he);have he:ky (j3 l) 0 k=(⟨(j3 l).es++[(k,0,l.length)],l.length+1⟩,0,(l.length:Int)):=by simp only[ky,hf];rfl
 have hlen:(j3 l).es.length=l.length:=by simp[j3]
 have dA:((j3 l).es++[(k,(0:Int),l.length)]).findIdx? (fun e=>decide ((e.2.2:Int)=(l.length:Int)))=some l.length:=by
  refine vP (fun i e hi=>?_) (by simp[hlen]);rcases Nat.lt_or_ge i (j3 l).es.length with h|h
  .rw [List.getElem?_append_left h]at hi;exact(tf hi).2.2
  .rw [List.getElem?_append_right h]at hi;have h0:i-(j3 l).es.length=0:=by have:=(ai.1 hi).1;simp at this;omega
   rw[h0]at hi;obtain rfl:(k,(0:Int),l.length)=e:=by simpa using hi
   simp only;omega
 rw[he];simp only[s_,dA,bB];have hp:=DG (v:=(1:Int)) (e:=(k,(0:Int),l.length)) (l:=(j3 l).es);rw[hlen]at hp;rw[hp];simp[j3,List.zipIdx_append]
theorem IP{κ:Type}[DecidableEq κ]{l:List κ}{k:κ}(hk:k∈l)(v:Int):∃m,s_ (ky (j3 l) 0 k).1 (ky (j3 l) 0 k).2.2 v=some m/\mQ m 0 k=v:=by
 cases h:gF k (j3 l).es 0 with
 |none=>have:=@te κ _ l k;rw[if_pos hk]at this;unfold mQ at this;rw[h]at this;simp at this
 |some p=>
  obtain⟨j,e⟩:=p;obtain⟨_,h2,_⟩:=kW h;rw[iq]at h2;obtain⟨_,_,h5⟩:=tf h2;have he:ky (j3 l) 0 k=(j3 l,e.2.1,(e.2.2:Int)):=by simp only[ky,h]
  have hj:j<(j3 l).es.length:=(ai.1 h2).1;have dA:=vP (l:=(j3 l).es) (fun i e hi=>(tf hi).2.2) hj;refine⟨⟨qE (j3 l).es j v,(j3 l).eH⟩,by rw[he];simp only[s_,h5,dA,bB],?_⟩;have:=DH (v:=v) h;rw[iq]at this;simp only[mQ,this]
def dF(t:ah):List a_:=(t.aW.l.flatMap fun l=>[⟨l.A,l.h_⟩,⟨l.B,l.hZ⟩])++t.aR.l.flatMap fun h=>[⟨h.At,h.mN⟩]
def qU(l:aZ):Prop:=l.A≠l.B/\1<=l.mU/\l.mU<=l.rG/\l.rG<=1000
def gj(t:ah)(p:a_):Prop:=(0<=p.sw/\p.sw<t.bF)/\0<=p.xS/\p.xS<8
structure py(t:ah):Prop where
 sw:1<=t.bF/\t.bF<=8
 BK:t.aW.l.length<=24
 rM:t.aR.l.length<=8
 N3:∀l∈t.aW.l,qU l
 nodup:(dF t).Nodup
 o9:∀p∈dF t,gj t p
instance(t:ah):Decidable (py t):=Classical.propDecidable _
theorem Dn{t:ah}(h1:t.aW.l.length<=24)(h2:t.aR.l.length<=8):(dF t).length<=56:=by
 have e:∀l:List aZ,(l.flatMap fun l=>[(⟨l.A,l.h_⟩:a_),⟨l.B,l.hZ⟩]).length=2*l.length:=fun l=>by induction l with|nil=>rfl|cons x l ih=>simp[ih];omega
 have e2:∀l:List dl,(l.flatMap fun h=>[(⟨h.At,h.mN⟩:a_)]).length=l.length:=fun l=>by induction l with|nil=>rfl|cons x l ih=>simp[ih]
 rw[dF,aG,e,e2];omega
theorem Bc{t:ah}(h1:t.aW.l.length<=24)(h2:t.aR.l.length<=8):∃s,kR t=some s/\s.l=dF t:=by
 have e2:∀l:List aZ,(l.flatMap fun l=>[(⟨l.A,l.h_⟩:a_),⟨l.B,l.hZ⟩]).length=2*l.length:=fun l=>by induction l with|nil=>rfl|cons x l ih=>simp[ih];omega
 have e1:∀l:List dl,(l.flatMap fun h=>[(⟨h.At,h.mN⟩:a_)]).length=l.length:=fun l=>by induction l with|nil=>rfl|cons x l ih=>simp[ih]
 obtain⟨s,k1,k2⟩:=E8 (f:=jD t) t.aW.l (fun l=>[⟨l.A,l.h_⟩,⟨l.B,l.hZ⟩]) .nil (by omega) (fun i s hi hs=>by have hcap:jT (s.l++[(⟨(gt t.aW.l i).A,(gt t.aW.l i).h_⟩:a_),⟨(gt t.aW.l i).B,(gt t.aW.l i).hZ⟩])=some (s.l++[⟨(gt t.aW.l i).A,(gt t.aW.l i).h_⟩,⟨(gt t.aW.l i).B,(gt t.aW.l i).hZ⟩]):=jt (by rw[hs,aG,aG,e2,cM];simp;omega);exact⟨.mk (s.l++[⟨(gt t.aW.l i).A,(gt t.aW.l i).h_⟩,⟨(gt t.aW.l i).B,(gt t.aW.l i).hZ⟩]),by simp only[jD,j4 hi,cond_true,bP hi,ae,hcap],rfl⟩) (fun s=>by simp only[jD,lI,cond_false]);obtain⟨s2,k3,k4⟩:=E8 (f:=jC t) t.aR.l (fun h=>[⟨h.At,h.mN⟩]) s (by omega) (fun i s' hi hs=>by have hcap:jT (s'.l++[(⟨(gt t.aR.l i).At,(gt t.aR.l i).mN⟩:a_)])=some (s'.l++[⟨(gt t.aR.l i).At,(gt t.aR.l i).mN⟩]):=jt (by rw[hs,k2,aG,aG,aG,e2,e1,cM];simp;omega);exact⟨.mk (s'.l++[⟨(gt t.aR.l i).At,(gt t.aR.l i).mN⟩]),by simp only[jC,j4 hi,cond_true,bP hi,ae,hcap],rfl⟩) (fun s=>by simp only[jC,lI,cond_false]);exact⟨s2,by simp only[kR,k1,ae,k3],by rw[k4,k2];rfl⟩
theorem D8{t:ah}{r:Sl a_}(hb:r.l.length<9223372036854775808):
  ∃b,bL (gK t r) (0,(Mp.none:Mp a_ Int))=some b/\match b with|.inl v=>v=false/\¬(r.l.Nodup/\∀p∈r.l,gj t p)|.inr _=>r.l.Nodup/\∀p∈r.l,gj t p:=by
 have e0:((0:Nat):Int)=0:=rfl
 refine DX (f:=gK t r) (fun i(m:Mp a_ Int)=>((i:Int),m)) r.l.length (fun i m=>m=j3 (r.l.take i)/\(r.l.take i).Nodup/\∀p∈r.l.take i,gj t p)
  (fun b=>match b with|.inl v=>v=false/\¬(r.l.Nodup/\∀p∈r.l,gj t p)|.inr _=>r.l.Nodup/\∀p∈r.l,gj t p) ?_ ?_ 0 Mp.none (dQ _) ⟨by simp[j3,Mp.none],by simp,by simp⟩ (fun b q1 q2=>?_)
 .rintro i m hi ⟨rfl,hnd,hok⟩;have hgm:gt r.l i∈r.l:=by rw[eu hi];exact List.getElem_mem _
  have et:r.l.take (i+1)=r.l.take i++[gt r.l i]:=by rw[eu hi,eZ hi]
  have hsplit:r.l=r.l.take i++gt r.l i::r.l.drop (i+1):=by rw[eu hi,<-eT hi,List.take_append_drop]
  by_cases hm:gt r.l i∈r.l.take i
  .right;obtain⟨m2,h1,h2⟩:=IP hm 2;have hw:wr .i64 (mQ (j3 (r.l.take i)) 0 (gt r.l i)+1)=2:=by rw[te,if_pos hm];rfl
   have hd:decide ((2:Int)>1)=true:=rfl;refine⟨.inl false,by simp only[gK,j4 hi,cond_true,bP hi,ae,hw,h1,h2,hd,Bool.or_true],rfl,fun hh=>?_⟩;have h3:=hh.1;rw[hsplit]at h3;exact(bR.1 h3).2.2 _ hm _ (List.mem_cons_self ..) rfl
  .have h1:=IQ hm;have hw:wr .i64 (mQ (j3 (r.l.take i)) 0 (gt r.l i)+1)=1:=by rw[te,if_neg hm];rfl
   have h2:mQ (j3 (r.l.take i++[gt r.l i])) 0 (gt r.l i)=1:=by rw[te,if_pos (by simp)]
   have hd:decide ((1:Int)>1)=false:=rfl;have hc:((((decide (((gt r.l i).sw)<0))||(decide (((gt r.l i).sw)>=t.bF)))||(decide (((gt r.l i).xS)<0)))||(decide (((gt r.l i).xS)>=8)))=true<->¬gj t (gt r.l i):=by simp only[bY,decide_eq_true_eq,gj];omega
   by_cases hp:gj t (gt r.l i)
   .left;have hc2:((((decide (((gt r.l i).sw)<0))||(decide (((gt r.l i).sw)>=t.bF)))||(decide (((gt r.l i).xS)<0)))||(decide (((gt r.l i).xS)>=8)))=false:=by rw[<-Bool.not_eq_true];exact fun h=>hc.1 h hp
    refine⟨j3 (r.l.take (i+1)),by simp only[gK,j4 hi,cond_true,bP hi,ae,hw,h1,h2,hd,Bool.or_false,hc2,cond_false,oE (show i<9223372036854775807 by omega),et],rfl,?_,?_⟩
    .rw [et];exact bR.2 ⟨hnd,by simp,fun a ha b hb=>by rw[am]at hb;subst hb;exact fun e=>hm (e▸ha)⟩
    .intro p hpm;rw[et]at hpm;rcases ak.1 hpm with h|h
     .exact hok p h
     .rw [am]at h;subst h;exact hp
   .right;exact⟨.inl false,by simp only[gK,j4 hi,cond_true,bP hi,ae,hw,h1,h2,hd,Bool.or_false,hc.2 hp],rfl,fun hh=>hp (hh.2 _ hgm)⟩
 .rintro m ⟨_,hnd,hok⟩;rw[er]at hnd hok;exact⟨.inr (),by simp only[gK,lI,cond_false],hnd,hok⟩
 .rw [e0]at q1;exact⟨b,q1,q2⟩
theorem CS{t:ah}:lO t=some (decide (py t)):=by
 unfold lO;by_cases hs:(1<=t.bF/\t.bF<=8)/\t.aW.l.length<=24/\t.aR.l.length<=8
 .have hc:((((decide (t.bF<1))||(decide (t.bF>8)))||(decide ((t.aW.l.length:Int)>24)))||(decide ((t.aR.l.length:Int)>8)))=false:=by simp only[dT,decide_eq_false_iff_not];omega
  have hl:=Es (f:=kp t) t.aW.l (fun l=>((((l.A==l.B)||(decide (l.mU<1)))||(decide (l.mU>l.rG)))||(decide (l.rG>1000)))) (by omega) (fun i hi=>by simp only[kp,j4 hi,cond_true,bP hi,ae];generalize((((gt t.aW.l i).A==(gt t.aW.l i).B)||_)||_||_)=c;cases c<;>rfl) (by simp only[kp,lI,cond_false]);have hlk:∀l:aZ,((((l.A==l.B)||(decide (l.mU<1)))||(decide (l.mU>l.rG)))||(decide (l.rG>1000)))=false<->qU l:=fun l=>by simp only[dT,beq_eq_false_iff_ne,decide_eq_false_iff_not,qU];omega
  rw[hc,cond_false,hl];by_cases hlo:∀l∈t.aW.l,qU l
  .rw [if_pos (fun l hm=>(hlk l).2 (hlo l hm))];simp only[ae];obtain⟨s,p1,p2⟩:=Bc hs.2.1 hs.2.2;have hpl:=Dn hs.2.1 hs.2.2;obtain⟨b,q1,q2⟩:=D8 (t:=t) (r:=s) (by rw[p2];omega);simp only[p1,ae,q1];rw[p2]at q2;cases b with|inl v=>obtain⟨rfl,q2⟩:=q2;exact congrArg some (decide_eq_false fun h:py t=>q2 ⟨h.nodup,h.o9⟩).symm|inr _=>exact congrArg some (decide_eq_true ⟨hs.1,hs.2.1,hs.2.2,hlo,q2.1,q2.2⟩).symm
  .rw [if_neg (fun h=>hlo fun l hm=>(hlk l).1 (h l hm))];exact congrArg some (decide_eq_false fun h=>hlo h.N3).symm
 .have hc:((((decide (t.bF<1))||(decide (t.bF>8)))||(decide ((t.aW.l.length:Int)>24)))||(decide ((t.aR.l.length:Int)>8)))=true:=by simp only[bY,decide_eq_true_eq];omega
  rw[hc,cond_true];exact congrArg some (decide_eq_false fun h=>hs ⟨h.sw,h.BK,h.rM⟩).symm
def lL(sw p:Int)(i:Nat)(l:aZ):Option (Int×Int×Int):=if sw=l.A/\p=l.h_ then some (l.B,l.hZ,(i:Int))else if sw=l.B/\p=l.hZ then some (l.A,l.h_,(i:Int))else none
theorem AW{α β γ:Type}{P:Nat->α->Option β}(g:β->γ):∀{l:List α}{i:Nat},lg (fun i x=>(P i x).map g) l i=(lg P l i).map g:=by
 intro l;induction l with
 |nil=>intro i;rfl
 |cons x l ih=>intro i;simp only[lg];cases P i x with|none=>exact ih|some b=>rfl
def q4(q:Int×Int×Int):Int×Int×Int×Bool:=(q.1,q.2.1,q.2.2,true)
def kV(t:ah)(sw p:Int):Int×Int×Int×Bool:=match lg (lL sw p) t.aW.l 0 with|some (a,b,c)=>(a,b,c,true)|none=>(0,0,0,false)
theorem F_(a b sw p:Int):decide ((⟨sw,p⟩:a_)=⟨a,b⟩)=decide (sw=a/\p=b):=by rw[cH];simp
theorem Gb{t:ah}(sw p:Int)(hb:t.aW.l.length<9223372036854775808):ng t sw p=some (kV t sw p):=by
 have h:=uM (f:=ld t sw p) t.aW.l (fun i l=>(lL sw p i l).map q4) () hb (fun i hi=>by
  simp only[ld,j4 hi,cond_true,bP hi,ae,F_,lL];by_cases h1:sw=(gt t.aW.l i).A/\p=(gt t.aW.l i).h_
  .rw [if_pos h1,decide_eq_true h1];rfl
  .by_cases h2:sw=(gt t.aW.l i).B/\p=(gt t.aW.l i).hZ
   .rw [if_neg h1,if_pos h2,decide_eq_false h1,decide_eq_true h2];rfl
   .rw [if_neg h1,if_neg h2,decide_eq_false h1,decide_eq_false h2];rfl) (by simp only[ld,lI,cond_false])
 simp only[ng,h,ae,AW,kV];cases lg (lL sw p) t.aW.l 0 with|none=>rfl|some q=>obtain⟨a,b,c⟩:=q;rfl
theorem sN{t:ah}(sw p:Int)(hb:t.aW.l.length<9223372036854775808):nE t sw p=some (kV t sw p):=by
 have h:=uM (f:=ma t sw p) t.aW.l (fun i l=>(lL sw p i l).map q4) () hb (fun i hi=>by
  have c1:(((gt t.aW.l i).A==sw)&&((gt t.aW.l i).h_==p))=decide (sw=(gt t.aW.l i).A/\p=(gt t.aW.l i).h_):=by rw[cH];simp only[af,beq_iff_eq,decide_eq_true_eq];omega
  have c2:(((gt t.aW.l i).B==sw)&&((gt t.aW.l i).hZ==p))=decide (sw=(gt t.aW.l i).B/\p=(gt t.aW.l i).hZ):=by rw[cH];simp only[af,beq_iff_eq,decide_eq_true_eq];omega
  simp only[ma,j4 hi,cond_true,bP hi,ae,c1,c2,lL];by_cases h1:sw=(gt t.aW.l i).A/\p=(gt t.aW.l i).h_
  .rw [if_pos h1,decide_eq_true h1];rfl
  .by_cases h2:sw=(gt t.aW.l i).B/\p=(gt t.aW.l i).hZ
   .rw [if_neg h1,if_pos h2,decide_eq_false h1,decide_eq_true h2];rfl
   .rw [if_neg h1,if_neg h2,decide_eq_false h1,decide_eq_false h2];rfl) (by simp only[ma,lI,cond_false])
 simp only[nE,h,ae,AW,kV];cases lg (lL sw p) t.aW.l 0 with|none=>rfl|some q=>obtain⟨a,b,c⟩:=q;rfl
theorem Lz{t:ah}(hV:py t){sw p a b c:Int}(h:lg (lL sw p) t.aW.l 0=some (a,b,c)):0<=a/\a<t.bF:=by
 obtain⟨j,l,h1,h2,_⟩:=kT h;have hm:l∈t.aW.l:=aQ h1;have hA:gj t ⟨l.A,l.h_⟩:=hV.o9 _ (aE _ (bT.2 ⟨l,hm,by simp⟩));have hB:gj t ⟨l.B,l.hZ⟩:=hV.o9 _ (aE _ (bT.2 ⟨l,hm,by simp⟩));unfold lL at h2;split at h2
 .obtain ⟨rfl,_⟩:=ad (aa h2);exact hB.1
 .split at h2
  .obtain ⟨rfl,_⟩:=ad (aa h2);exact hA.1
  .simp at h2
instance(t:ah)(p:a_):Decidable (gj t p):=inferInstanceAs (Decidable ((0<=p.sw/\p.sw<t.bF)/\0<=p.xS/\p.xS<8))
def jp(l:aZ):List a_:=[⟨l.A,l.h_⟩,⟨l.B,l.hZ⟩]
def rP(h:dl):List a_:=[⟨h.At,h.mN⟩]
theorem nk(t:ah):dF t=t.aW.l.flatMap jp++t.aR.l.flatMap rP:=rfl
theorem G_(a b q:a_):[a,b].count q=(if a=q then 1 else 0)+(if b=q then 1 else 0):=by by_cases h1:a=q<;>by_cases h2:b=q<;>simp[h1,h2]
theorem yy(a b sw p:Int):((a==sw)&&(b==p))=decide ((⟨a,b⟩:a_)=⟨sw,p⟩):=by rw[cH];simp
theorem FA(a b:Bool):(bif a then some b else some false)=some (a&&b):=by cases a<;>rfl
def ua(t:ah)(sw p:Int):Bool:=decide (gj t ⟨sw,p⟩/\(dF t).count ⟨sw,p⟩=1)
theorem yv{t:ah}(hl:t.aW.l.length<=30)(hh:t.aR.l.length<=12)(sw p:Int):lV t sw p=some (ua t sw p):=by
 have e0:((0:Nat):Int)=0:=rfl
 have h1:∃b,bL (kx t sw p) (0,0)=some b/\b=((t.aW.l.flatMap jp).count ⟨sw,p⟩:Nat)/\(t.aW.l.flatMap jp).count ⟨sw,p⟩<=60:=by
  refine DX (f:=kx t sw p) (fun i(n:Nat)=>((n:Int),(i:Int))) t.aW.l.length (fun i n=>n=((t.aW.l.take i).flatMap jp).count ⟨sw,p⟩/\n<=2*i)
   (fun b=>b=((t.aW.l.flatMap jp).count ⟨sw,p⟩:Nat)/\(t.aW.l.flatMap jp).count ⟨sw,p⟩<=60) ?_ ?_ 0 0 (dQ _) ⟨by simp,by omega⟩ (fun b q1 q2=>⟨b,by rw[e0]at q1;exact q1,q2⟩)
  .rintro i n hi ⟨hn,hle⟩;left;have et:t.aW.l.take (i+1)=t.aW.l.take i++[gt t.aW.l i]:=by rw[eu hi,eZ hi]
   have hc:((t.aW.l.take (i+1)).flatMap jp).count ⟨sw,p⟩=n+((if(⟨(gt t.aW.l i).A,(gt t.aW.l i).h_⟩:a_)=⟨sw,p⟩then 1 else 0)+(if(⟨(gt t.aW.l i).B,(gt t.aW.l i).hZ⟩:a_)=⟨sw,p⟩then 1 else 0)):=by rw[et,gB,List.count_append,<-hn];simp only[bf,List.flatMap_nil,bi,jp,G_]
   have w1:wr .i64 ((n:Int)+1)=((n+1:Nat):Int):=oE (by omega);have w2:wr .i64 (((n+1:Nat):Int)+1)=((n+1+1:Nat):Int):=oE (by omega);have w3:=oE (show i<9223372036854775807 by omega);refine⟨n+((if(⟨(gt t.aW.l i).A,(gt t.aW.l i).h_⟩:a_)=⟨sw,p⟩then 1 else 0)+(if(⟨(gt t.aW.l i).B,(gt t.aW.l i).hZ⟩:a_)=⟨sw,p⟩then 1 else 0)),?_,hc.symm,?_⟩
   .simp only[kx,j4 hi,cond_true,bP hi,ae,yy,w3];split<;>rename_i c1<;>split<;>rename_i c2
    .rw [decide_eq_true c1,decide_eq_true c2];simp only[cond_true,ae,w1,w2]
    .rw [decide_eq_true c1,decide_eq_false c2];simp only[cond_true,cond_false,ae,w1]
    .rw [decide_eq_false c1,decide_eq_true c2];simp only[cond_true,cond_false,ae,w1,Nat.zero_add]
    .rw [decide_eq_false c1,decide_eq_false c2];simp only[cond_false,ae,cu]
   .split<;>split<;>omega
  .rintro n ⟨hn,hle⟩;rw[er]at hn;exact⟨(n:Int),by simp only[kx,lI,cond_false],by rw[hn],by rw[<-hn];omega⟩
 obtain⟨b1,h1,rfl,hb1⟩:=h1;generalize hk:(t.aW.l.flatMap jp).count ⟨sw,p⟩=k at*
 have h2:∃b,bL (kw t sw p) ((k:Int),0)=some b/\b=((dF t).count ⟨sw,p⟩:Nat):=by
  refine DX (f:=kw t sw p) (fun i(n:Nat)=>((n:Int),(i:Int))) t.aR.l.length (fun i n=>n=k+((t.aR.l.take i).flatMap rP).count ⟨sw,p⟩/\n<=k+i)
   (fun b=>b=((dF t).count ⟨sw,p⟩:Nat)) ?_ ?_ 0 k (dQ _) ⟨by simp,by omega⟩ (fun b q1 q2=>⟨b,by rw[e0]at q1;exact q1,q2⟩)
  .rintro i n hi ⟨hn,hle⟩;left;have et:t.aR.l.take (i+1)=t.aR.l.take i++[gt t.aR.l i]:=by rw[eu hi,eZ hi]
   have hc:k+((t.aR.l.take (i+1)).flatMap rP).count ⟨sw,p⟩=n+(if(⟨(gt t.aR.l i).At,(gt t.aR.l i).mN⟩:a_)=⟨sw,p⟩then 1 else 0):=by rw[et,gB,List.count_append,hn];simp only[bf,List.flatMap_nil,bi,rP];by_cases h:(⟨(gt t.aR.l i).At,(gt t.aR.l i).mN⟩:a_)=⟨sw,p⟩<;>simp[h]<;>omega
   have w1:wr .i64 ((n:Int)+1)=((n+1:Nat):Int):=oE (by omega);have w3:=oE (show i<9223372036854775807 by omega);refine⟨n+(if(⟨(gt t.aR.l i).At,(gt t.aR.l i).mN⟩:a_)=⟨sw,p⟩then 1 else 0),?_,hc.symm,?_⟩
   .simp only[kw,j4 hi,cond_true,bP hi,ae,FA,yy,w3];split<;>rename_i c1
    .rw [decide_eq_true c1];simp only[cond_true,ae,w1]
    .rw [decide_eq_false c1];simp only[cond_false,ae,cu]
   .split<;>omega
  .rintro n ⟨hn,hle⟩;rw[er]at hn;exact⟨(n:Int),by simp only[kw,lI,cond_false],by rw[nk,List.count_append,hk,<-hn]⟩
 obtain⟨b2,h2,rfl⟩:=h2;simp only[lV,h1,ae,h2];congr 1;rw[cH,ua];generalize(dF t).count ⟨sw,p⟩=m;constructor
 .intro h;simp only[af,decide_eq_true_eq,beq_iff_eq]at h;obtain⟨⟨⟨⟨a,b⟩,c⟩,d⟩,e⟩:=h;exact decide_eq_true ⟨⟨⟨a,b⟩,c,(by omega:p<8)⟩,by omega⟩
 .intro h;obtain⟨⟨⟨a,b⟩,c,d⟩,e⟩:=of_decide_eq_true h;have a:0<=sw:=a;have b:sw<t.bF:=b;have c:0<=p:=c;have d:p<8:=d;simp only[af,decide_eq_true_eq,beq_iff_eq];exact⟨⟨⟨⟨a,b⟩,c⟩,by omega⟩,by omega⟩
theorem uR{l:List a_}:l.Nodup<->∀p∈l,l.count p=1:=by
 rw[List.nodup_iff_count];constructor
 .intro h p hp;have h1:=h p;have h2:=List.count_pos_iff.2 hp;omega
 .intro h p;by_cases hp:p∈l
  .rw [h p hp];exact ao _
  .rw [List.count_eq_zero_of_not_mem hp];omega
theorem F8{t:ah}(hl:t.aW.l.length<=30)(hh:t.aR.l.length<=12):ot t=some (decide (py t)):=by
 unfold ot;by_cases hs:(1<=t.bF/\t.bF<=8)/\t.aW.l.length<=24/\t.aR.l.length<=8
 .have hc:((((decide (t.bF<1))||(decide (t.bF>8)))||(decide ((t.aW.l.length:Int)>24)))||(decide ((t.aR.l.length:Int)>8)))=false:=by simp only[dT,decide_eq_false_iff_not];omega
  have h1:=Es (f:=ll t) t.aW.l (fun l=>((l.A==l.B)||(decide (l.mU<1)||(decide (l.mU>l.rG)||(decide (l.rG>1000)||
    (!(ua t l.A l.h_)||!(ua t l.B l.hZ))))))) (by omega) (fun i hi=>by
   simp only[ll,j4 hi,cond_true,bP hi,ae,yv hl hh];generalize((gt t.aW.l i).A==(gt t.aW.l i).B)=b1;generalize decide ((gt t.aW.l i).mU<1)=b2;generalize decide ((gt t.aW.l i).mU>(gt t.aW.l i).rG)=b3;generalize decide ((gt t.aW.l i).rG>1000)=b4;generalize ua t (gt t.aW.l i).A (gt t.aW.l i).h_=b5;generalize ua t (gt t.aW.l i).B (gt t.aW.l i).hZ=b6;cases b1<;>cases b2<;>cases b3<;>cases b4<;>cases b5<;>cases b6<;>rfl) (by simp only[ll,lI,cond_false])
  have h2:=Es (f:=lk t) t.aR.l (fun h=>!(ua t h.At h.mN)) (by omega) (fun i hi=>by simp only[lk,j4 hi,cond_true,bP hi,ae,yv hl hh];generalize ua t (gt t.aR.l i).At (gt t.aR.l i).mN=b;cases b<;>rfl) (by simp only[lk,lI,cond_false])
  have hlk:∀l:aZ,((l.A==l.B)||(decide (l.mU<1)||(decide (l.mU>l.rG)||(decide (l.rG>1000)||
    (!(ua t l.A l.h_)||!(ua t l.B l.hZ))))))=false<->
    qU l/\∀p∈jp l,gj t p/\(dF t).count p=1:=fun l=>by
   simp only[ua,dT,beq_eq_false_iff_ne,decide_eq_false_iff_not,qU,Bool.not_eq_false',decide_eq_true_eq,jp,List.mem_cons,List.not_mem_nil,or_false,forall_eq_or_imp,forall_eq];constructor
   .rintro ⟨a,b,c,d,e,f⟩;exact⟨⟨a,by omega,by omega,by omega⟩,e,f⟩
   .rintro ⟨⟨a,b,c,d⟩,e,f⟩;exact⟨a,by omega,by omega,by omega,e,f⟩
  have hho:∀h:dl,(!(ua t h.At h.mN))=false<->∀p∈rP h,gj t p/\(dF t).count p=1:=fun h=>by simp only[ua,Bool.not_eq_false',decide_eq_true_eq,rP,am,forall_eq]
  have hV:py t<->(∀l∈t.aW.l,qU l/\∀p∈jp l,gj t p/\(dF t).count p=1)/\∀h∈t.aR.l,∀p∈rP h,gj t p/\(dF t).count p=1:=by
   constructor
   .intro hV;have hc:=uR.1 hV.nodup;refine⟨fun l hl=>⟨hV.N3 l hl,fun p hp=>?_⟩,fun h hh p hp=>?_⟩
    .have hm:p∈dF t:=by rw[nk];exact aE _ (bT.2 ⟨l,hl,hp⟩)
     exact⟨hV.o9 p hm,hc p hm⟩
    .have hm:p∈dF t:=by rw[nk];exact List.mem_append_right _ (bT.2 ⟨h,hh,hp⟩)
     exact⟨hV.o9 p hm,hc p hm⟩
   .rintro ⟨ha,hb⟩
    have all:∀p∈dF t,gj t p/\(dF t).count p=1:=by
     intro p hp;rw[nk]at hp;rcases ak.1 hp with h|h
     .obtain ⟨l,hl,hp⟩:=bT.1 h;exact(ha l hl).2 p hp
     .obtain ⟨x,hx,hp⟩:=bT.1 h;exact hb x hx p hp
    exact⟨hs.1,hs.2.1,hs.2.2,fun l hl=>(ha l hl).1,uR.2 fun p hp=>(all p hp).2,fun p hp=>(all p hp).1⟩
  rw[hc,cond_false,h1];by_cases c1:∀l∈t.aW.l,qU l/\∀p∈jp l,gj t p/\(dF t).count p=1
  .rw [if_pos (fun l hm=>(hlk l).2 (c1 l hm))];simp only[ae,h2];by_cases c2:∀h∈t.aR.l,∀p∈rP h,gj t p/\(dF t).count p=1
   .rw [if_pos (fun h hm=>(hho h).2 (c2 h hm))];exact congrArg some (decide_eq_true (hV.2 ⟨c1,c2⟩)).symm
   .rw [if_neg (fun h=>c2 fun x hm=>(hho x).1 (h x hm))];exact congrArg some (decide_eq_false fun h=>c2 (hV.1 h).2).symm
  .rw [if_neg (fun h=>c1 fun l hm=>(hlk l).1 (h l hm))];exact congrArg some (decide_eq_false fun h=>c1 (hV.1 h).1).symm
 .have hc:((((decide (t.bF<1))||(decide (t.bF>8)))||(decide ((t.aW.l.length:Int)>24)))||(decide ((t.aR.l.length:Int)>8)))=true:=by simp only[bY,decide_eq_true_eq];omega
  rw[hc,cond_true];exact congrArg some (decide_eq_false fun h=>hs ⟨h.sw,h.BK,h.rM⟩).symm
theorem BJ{t:ah}(hV:py t){i j:Nat}{l m:aZ}(hi:t.aW.l[i]?=some l)(hj:t.aW.l[j]?=some m){p:a_}(hp:p∈jp l)(hq:p∈jp m):i=j:=by
 have h:=(bR.1 (nk t▸hV.nodup)).1;have h2:=(List.pairwise_flatMap.1 h).2;rw[List.pairwise_iff_getElem]at h2;obtain⟨hil,rfl⟩:=ai.1 hi;obtain⟨hjl,rfl⟩:=ai.1 hj;rcases Nat.lt_trichotomy i j with h3|h3|h3
 .exact absurd rfl (h2 i j hil hjl h3 p hp p hq)
 .exact h3
 .exact absurd rfl (h2 j i hjl hil h3 p hq p hp)
theorem DT{t:ah}(hV:py t){l:aZ}{h:dl}(hl:l∈t.aW.l)(hh:h∈t.aR.l){p:a_}(hp:p∈jp l):p∉rP h:=by intro hq;exact(bR.1 (nk t▸hV.nodup)).2.2 p (bT.2 ⟨l,hl,hp⟩) p (bT.2 ⟨h,hh,hq⟩) rfl
def KM(l:aZ)(sw p a b:Int):Prop:=(sw=l.A/\p=l.h_/\a=l.B/\b=l.hZ)\/(sw=l.B/\p=l.hZ/\a=l.A/\b=l.h_)
theorem KM.O_{l:aZ}{sw p a b:Int}(h:KM l sw p a b):(⟨sw,p⟩:a_)∈jp l:=by rcases h with⟨rfl,rfl,_,_⟩|⟨rfl,rfl,_,_⟩<;>simp[jp]
theorem wt{sw p:Int}{i:Nat}{l:aZ}{a b c:Int}(h:lL sw p i l=some (a,b,c)):KM l sw p a b/\c=i:=by
 unfold lL at h;split at h
 .rename_i h1;obtain⟨rfl,rfl,rfl⟩:l.B=a/\l.hZ=b/\(i:Int)=c:=by simpa using h
  exact⟨.inl ⟨h1.1,h1.2,rfl,rfl⟩,rfl⟩
 .split at h
  .rename_i h1;obtain⟨rfl,rfl,rfl⟩:l.A=a/\l.h_=b/\(i:Int)=c:=by simpa using h
   exact⟨.inr ⟨h1.1,h1.2,rfl,rfl⟩,rfl⟩
  .simp at h
theorem wq{l:aZ}(hl:l.A≠l.B){sw p a b:Int}(h:KM l sw p a b)(i:Nat):lL sw p i l=some (a,b,(i:Int)):=by
 unfold lL;rcases h with⟨rfl,rfl,rfl,rfl⟩|⟨rfl,rfl,rfl,rfl⟩
 .rw [if_pos ⟨rfl,rfl⟩]
 .rw [if_neg fun h=>hl h.1.symm,if_pos ⟨rfl,rfl⟩]
theorem Il{t:ah}(hV:py t){sw p a b c:Int}:lg (lL sw p) t.aW.l 0=some (a,b,c)<->∃(j:Nat)(l:aZ),t.aW.l[j]?=some l/\KM l sw p a b/\c=j:=by
 constructor
 .intro h;obtain⟨j,l,h1,h2,_⟩:=kT h;obtain⟨h3,h4⟩:=wt h2;exact⟨j,l,h1,h3,by simpa using h4⟩
 .rintro ⟨j,l,h1,h2,rfl⟩;have hlk:=hV.N3 l (aQ h1);cases h:lg (lL sw p) t.aW.l 0 with
  |none=>have:=lP.1 h j l h1;rw[wq hlk.1 h2]at this;simp at this
  |some q=>
   obtain⟨a',b',c'⟩:=q;obtain⟨k,m,h3,h4,_⟩:=kT h;obtain⟨h5,h6⟩:=wt h4;obtain rfl:=BJ hV h1 h3 h2.O_ h5.O_;obtain rfl:l=m:=aa (h1.symm.trans h3);have e:=wq hlk.1 h2 (0+j);rw[wq hlk.1 h5]at e;obtain⟨rfl,rfl⟩:a'=a/\b'=b:=by simpa using e
   rw[h6];simp
end Go.Proofs.YtpnnnoagjcpmhaaDoor.U
