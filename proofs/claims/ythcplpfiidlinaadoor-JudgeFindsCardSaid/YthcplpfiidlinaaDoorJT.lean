/- Loops over lists, and topologies: what Right and Peer answer. Conditions: as stated. -/
import Derived.Test.YthcplpfiidlinaaDoorJ
open Bool renaming or_eq_false_iff->gp,or_eq_true->cM,or_false->mo
open List renaming drop_eq_getElem_cons->dL,getElem?_eq_some_iff->ak,getElem_of_mem->cu,length_append->av,length_take->b_,mem_append_left->aE,mem_flatMap->bU,mem_of_getElem?->aX,mem_singleton->ao,nodup_append->bZ,take_append_getElem->cZ,take_length->gi
open Nat renaming sub_zero->ku,zero_le->cG
open Option renaming bind_some->af,map_eq_some_iff->aF,map_some->bN
open Option.some renaming inj->aa
open Prod.mk renaming inj->ad
open Go.Ev Go
noncomputable section
namespace Go.Proofs.YthcplpfiidlinaaDoor.J
theorem ii{n:Int}(h0:-9223372036854775808<=n)(h1:n<9223372036854775808):wr .i64 n=n:=by simp[wr,IntKind.wrap,IntKind.bits,IntKind.signed];omega
theorem PV{S β:Type}{f:S->Option (Sum S β)}(m:S->Nat)(I:S->Prop)(R:β->Prop)
  (hstep:∀s,I s->(∃s',f s=some (.inl s')/\I s'/\m s'<m s)\/(∃b,f s=some (.inr b)/\R b)):∀s,I s->∃b,bE f s=some b/\R b:=by
 have:∀(n:Nat)(s:S),m s<=n->I s->∃b,bE f s=some b/\R b:=by
  intro n;induction n with
  |zero=>
   intro s hn hI;rcases hstep s hI with⟨s',_,_,h⟩|⟨b,h1,h2⟩
   .omega
   .exact ⟨b,cB h1,h2⟩
  |succ n ih=>
   intro s hn hI;rcases hstep s hI with⟨s',h1,h2,h3⟩|⟨b,h1,h2⟩
   .obtain ⟨b,h4,h5⟩:=ih s' (by omega) h2;exact⟨b,(dm h1).trans h4,h5⟩
   .exact ⟨b,cB h1,h2⟩
 exact fun s=>this (m s) s (Nat.le_refl _)
theorem Gt{S σ β:Type}{f:S->Option (Sum S β)}(st:Nat->σ->S)(n:Nat)(I:Nat->σ->Prop)(R:β->Prop)
  (hstep:∀i s,i<n->I i s->(∃s',f (st i s)=some (.inl (st (i+1) s'))/\I (i+1) s')\/(∃b,f (st i s)=some (.inr b)/\R b))
  (hend:∀s,I n s->∃b,f (st n s)=some (.inr b)/\R b):∀i s,i<=n->I i s->∃b,bE f (st i s)=some b/\R b:=by
 have:∀(k i:Nat)(s:σ),i+k=n->I i s->∃b,bE f (st i s)=some b/\R b:=by
  intro k;induction k with
  |zero=>
   intro i s hi hI;obtain rfl:i=n:=by omega
   obtain⟨b,h1,h2⟩:=hend s hI;exact⟨b,cB h1,h2⟩
  |succ k ih=>
   intro i s hi hI;rcases hstep i s (by omega) hI with⟨s',h1,h2⟩|⟨b,h1,h2⟩
   .obtain ⟨b,h4,h5⟩:=ih (i+1) s' (by omega) h2;exact⟨b,(dm h1).trans h4,h5⟩
   .exact ⟨b,cB h1,h2⟩
 exact fun i s hi=>this (n-i) i s (by omega)
theorem Me{S σ β:Type}{goal:Prop}{f:S->Option (Sum S β)}(st:Nat->σ->S)(n:Nat)(I:Nat->σ->Prop)(R:β->Prop)
  (hstep:∀i s,i<n->I i s->(∃s',f (st i s)=some (.inl (st (i+1) s'))/\I (i+1) s')\/(∃b,f (st i s)=some (.inr b)/\R b))
  (hend:∀s,I n s->∃b,f (st n s)=some (.inr b)/\R b) (i:Nat) (s:σ) (hi:i<=n) (hI:I i s) (k:∀b,bE f (st i s)=some b->R b->goal):goal:=
 let⟨b,h1,h2⟩:=Gt st n I R hstep hend i s hi hI
 k b h1 h2
theorem PW{S β:Type}{goal:Prop}{f:S->Option (Sum S β)}(m:S->Nat)(I:S->Prop)(R:β->Prop)
  (hstep:∀s,I s->(∃s',f s=some (.inl s')/\I s'/\m s'<m s)\/(∃b,f s=some (.inr b)/\R b)) (s:S) (hI:I s) (k:∀b,bE f s=some b->R b->goal):goal:=
 let⟨b,h1,h2⟩:=PV m I R hstep s hI
 k b h1 h2
theorem jw{i n:Nat}(h:i<n):decide ((i:Int)<(n:Int))=true:=by rw[decide_eq_true_eq];omega
theorem kO{n:Nat}:decide ((n:Int)<(n:Int))=false:=by rw[decide_eq_false_iff_not];omega
theorem k_{i:Nat}(h:i<9223372036854775807):wr .i64 ((i:Int)+1)=((i+1:Nat):Int):=by rw[ii (by omega) (by omega)];omega
def lZ{α β:Type}(P:Nat->α->Option β):List α->Nat->Option β
 |[],_=>none
 |x::r,i=>match P i x with|some b=>some b|none=>lZ P r (i+1)
theorem w8{α β γ:Type}[Inhabited α]{f:Int->Option (Sum Int (Sum β γ))}(l:List α)(P:Nat->α->Option β)(c:γ)(hb:l.length<9223372036854775808)
  (hstep:∀i:Nat,i<l.length->f (i:Int)=some (match P i (gt l i)with|some b=>.inr (.inl b)|none=>.inl (wr .i64 ((i:Int)+1)))) (hend:f (l.length:Int)=some (.inr (.inr c))):
  bE f 0=some (match lZ P l 0 with|some b=>.inl b|none=>.inr c):=by
 have main:∀(n i:Nat),i+n=l.length->bE f (i:Int)=some (match lZ P (l.drop i) i with|some b=>.inl b|none=>.inr c):=by
  intro n;induction n with
  |zero=>
   intro i hi;obtain rfl:i=l.length:=by omega
   rw[cB hend,List.drop_length];rfl
  |succ n ih=>
   intro i hi;have hlt:i<l.length:=by omega
   have hs:=hstep i hlt;rw[dL hlt,<-cR hlt];simp only[lZ];cases hP:P i (gt l i)with|some b=>rw[hP]at hs;rw[cB hs]|none=>rw[hP]at hs;simp only at hs;rw[k_ (by omega)]at hs;rw[dm hs,ih (i+1) (by omega)]
 have:=main l.length 0 (by omega);simpa using this
theorem nL{α β:Type}{P:Nat->α->Option β}:∀{l:List α}{i:Nat},lZ P l i=none<->∀j(x:α),l[j]?=some x->P (i+j) x=none:=by
 intro l;induction l with
 |nil=>intro i;simp[lZ]
 |cons y l ih=>
  intro i;simp only[lZ];constructor
  .intro h j x hj;split at h
   .simp at h
   .rename_i hP;cases j with
    |zero=>
     obtain rfl:y=x:=by simpa using hj
     exact hP
    |succ j=>have:=ih.1 h j x (by simpa using hj);rw[show i+(j+1)=i+1+j by omega];exact this
  .intro h;have h0:=h 0 y rfl;rw[Nat.add_zero]at h0;rw[h0];exact ih.2 fun j x hj=>by have:=h (j+1) x (by simpa using hj);rw[show i+(j+1)=i+1+j by omega]at this;exact this
theorem nJ{α β:Type}{P:Nat->α->Option β}:∀{l:List α}{i:Nat}{b:β},lZ P l i=some b->∃j x,l[j]?=some x/\P (i+j) x=some b/\∀k,k<j->∀y,l[k]?=some y->P (i+k) y=none:=by
 intro l;induction l with
 |nil=>intro i b h;simp[lZ]at h
 |cons y l ih=>
  intro i b h;simp only[lZ]at h;split at h
  .rename_i b' hP;obtain rfl:=aa h;exact⟨0,y,rfl,hP,fun k hk=>by omega⟩
  .rename_i hP;obtain⟨j,x,h1,h2,h3⟩:=ih h;refine⟨j+1,x,by simpa using h1,by rw[show i+(j+1)=i+1+j by omega];exact h2,fun k hk z hz=>?_⟩;cases k with
   |zero=>
    obtain rfl:y=z:=by simpa using hz
    exact hP
   |succ k=>rw[show i+(k+1)=i+1+k by omega];exact h3 k (by omega) z (by simpa using hz)
theorem C_{α:Type}{p:α->Bool}{l:List α}{i:Nat}:lZ (fun _ x=>if p x then some false else none) l i=none<->∀x∈l,p x=false:=by
 rw[nL];constructor
 .intro h x hx;obtain⟨j,hj,rfl⟩:=cu hx;have:=h j l[j] (by simp[hj]);cases hp:p l[j]
  .rfl
  .rw [hp]at this;simp at this
 .intro h j x hj;rw[h x (aX hj)];rfl
theorem Ru{α:Type}[Inhabited α]{f:Int->Option (Sum Int (Sum Bool Unit))}(l:List α)(p:α->Bool)(hb:l.length<9223372036854775808)
  (hstep:∀i:Nat,i<l.length->f (i:Int)=some (bif p (gt l i)then .inr (.inl false)else .inl (wr .i64 ((i:Int)+1)))) (hend:f (l.length:Int)=some (.inr (.inr ()))):
  bE f 0=some (if∀x∈l,p x=false then .inr ()else .inl false):=by
 rw[w8 l (fun _ x=>if p x then some false else none) () hb (fun i hi=>by rw[hstep i hi];cases p (gt l i)<;>rfl) hend];cases h:lZ (fun _ x=>if p x then some false else none) l 0 with
 |none=>rw[if_pos (C_.1 h)]
 |some u=>
  obtain⟨j,x,_,h2,_⟩:=nJ h;split at h2
  .obtain rfl:=aa h2;rw[if_neg];intro hn;rw[C_.2 hn]at h;simp at h
  .simp at h2
theorem UQ{α β:Type}[Inhabited α]{f:(Int×Sl β)->Option (Sum (Int×Sl β) (Sl β))}(l:List α)(g:Nat->α->List β)(s0:Sl β)(hb:l.length<9223372036854775808)
  (hstep:∀(i:Nat)(s:Sl β),i<l.length->s.l=s0.l++((l.take i).zipIdx.flatMap fun p=>g p.2 p.1)->∃s',f ((i:Int),s)=some (.inl (wr .i64 ((i:Int)+1),s'))/\s'.l=s.l++g i (gt l i))
  (hend:∀s,f ((l.length:Int),s)=some (.inr s)):∃s,bE f (0,s0)=some s/\s.l=s0.l++(l.zipIdx.flatMap fun p=>g p.2 p.1):=by
 have e0:((0:Nat):Int)=0:=rfl;refine Me (f:=f) (fun i(s:Sl β)=>((i:Int),s)) l.length (fun i s=>s.l=s0.l++((l.take i).zipIdx.flatMap fun p=>g p.2 p.1)) (fun s=>s.l=s0.l++(l.zipIdx.flatMap fun p=>g p.2 p.1)) ?_ ?_ 0 s0 (cG _) (by simp) (fun b q1 q2=>?_)
 .intro i s hi hI;obtain⟨s',h1,h2⟩:=hstep i s hi hI;refine .inl ⟨s',by rw[h1,k_ (by omega)],?_⟩;have et:l.take (i+1)=l.take i++[gt l i]:=by rw[cR hi,cZ hi]
  rw[h2,hI,et,List.zipIdx_append,List.flatMap_append,List.append_assoc];simp[Nat.min_eq_left (Nat.le_of_lt hi)]
 .intro s hI;refine⟨s,hend s,?_⟩;rw[gi]at hI;exact hI
 .rw [e0]at q1;exact⟨b,q1,q2⟩
theorem D6{α β:Type}[Inhabited α]{f:(Int×Sl β)->Option (Sum (Int×Sl β) (Sl β))}(l:List α)(g:α->List β)(s0:Sl β)(hb:l.length<9223372036854775808)
  (hstep:∀(i:Nat)(s:Sl β),i<l.length->s.l=s0.l++(l.take i).flatMap g->∃s',f ((i:Int),s)=some (.inl (wr .i64 ((i:Int)+1),s'))/\s'.l=s.l++g (gt l i))
  (hend:∀s,f ((l.length:Int),s)=some (.inr s)):∃s,bE f (0,s0)=some s/\s.l=s0.l++l.flatMap g:=by
 have key:∀(l:List α)(k:Nat),((l.zipIdx k).flatMap fun p=>g p.1)=l.flatMap g:=fun l=>by induction l with|nil=>intro k;rfl|cons x l ih=>intro k;simp[List.zipIdx_cons,ih]
 obtain⟨s,h1,h2⟩:=UQ l (fun _ x=>g x) s0 hb (fun i s hi hs=>hstep i s hi (by rw[hs,key])) hend;exact⟨s,h1,by rw[h2,key]⟩
section
variable{κ ν:Type}
theorem sT[DecidableEq κ]{k:κ}:∀{l:List (κ×ν×Nat)}{i:Nat},iG k l i=none<->∀e∈l,k≠e.1:=by
 intro l;induction l with
 |nil=>intro i;simp[iG]
 |cons x l ih=>
  intro i;simp only[iG];by_cases h:k=x.1
  .simp [h]
  .simp [h,ih]
theorem F3[DecidableEq κ]{k:κ}{v:ν}:∀{l:List (κ×ν×Nat)}{i j:Nat}{e:κ×ν×Nat},iG k l i=some (j,e)->iG k (sS l (j-i) v) i=some (j,(e.1,v,e.2.2)):=by
 intro l;induction l with
 |nil=>intro i j e h;simp[iG]at h
 |cons x l ih=>
  intro i j e h;simp only[iG]at h;split at h
  .rename_i hk;obtain⟨rfl,rfl⟩:i=j/\x=e:=by simpa using h
   simp[sS,iG,hk]
  .rename_i hk;obtain⟨h1,_,_⟩:=mN h;have e1:j-i=(j-(i+1))+1:=by omega
   rw[e1];simp only[sS,iG,hk,if_false];exact ih h
theorem F1{v:ν}{e:κ×ν×Nat}:∀{l:List (κ×ν×Nat)},sS (l++[e]) l.length v=l++[(e.1,v,e.2.2)]:=by intro l;induction l with|nil=>rfl|cons x l ih=>simp only[List.cons_append,List.length_cons,sS,ih]
theorem yi{l:List (κ×ν×Nat)}(h:∀(i:Nat)(e:κ×ν×Nat),l[i]?=some e->e.2.2=i){j:Nat}(hj:j<l.length):l.findIdx? (fun e=>decide ((e.2.2:Int)=(j:Int)))=some j:=by
 rw[List.findIdx?_eq_some_iff_getElem];refine⟨hj,?_,fun k hk=>?_⟩
 .have:=h j l[j] (by simp);simp[this]
 .have:=h k (l[k]'(by omega)) (by simp);simp only[this,decide_eq_true_eq];omega
end
def lG{κ:Type}(l:List κ):Mp κ Int:=⟨l.zipIdx.map fun q=>(q.1,1,q.2),l.length⟩
theorem vx{κ:Type}{l:List κ}{i:Nat}{e:κ×Int×Nat}(h:(lG l).es[i]?=some e):l[i]?=some e.1/\e.2.1=1/\e.2.2=i:=by simp only[lG,List.getElem?_map,aF]at h;obtain⟨q,hq,rfl⟩:=h;rw[List.getElem?_zipIdx]at hq;obtain⟨x,hx,rfl⟩:=aF.1 hq;exact⟨hx,rfl,by simp⟩
theorem DS{κ:Type}{l:List κ}{e:κ×Int×Nat}(h:e∈(lG l).es):e.1∈l:=by obtain⟨i,hi,rfl⟩:=cu h;exact aX (vx (i:=i) (by simp[hi])).1
theorem vw{κ:Type}[DecidableEq κ]{l:List κ}{k:κ}:o6 (lG l) 0 k=if k∈l then 1 else 0:=by
 unfold o6;by_cases hk:k∈l
 .rw [if_pos hk];cases h:iG k (lG l).es 0 with|none=>exfalso;rw[sT]at h;obtain⟨i,hi,rfl⟩:=cu hk;refine h (l[i],1,i) ?_ rfl;simp only[lG,List.mem_map];exact⟨(l[i],i),by rw[List.mem_zipIdx_iff_getElem?];simp[hi],rfl⟩|some p=>obtain⟨j,e⟩:=p;obtain⟨_,h2,_⟩:=mN h;exact(vx h2).2.1
 .rw [if_neg hk,sT.2 fun e he hke=>hk (by rw[hke];exact DS he)]
theorem Ll{κ:Type}[DecidableEq κ]{l:List κ}{k:κ}(hk:k∉l):vv (mb (lG l) 0 k).1 (mb (lG l) 0 k).2.2 1=some (lG (l++[k])):=by
 have hf:iG k (lG l).es 0=none:=sT.2 fun e he hke=>hk (by rw[hke];exact DS he);have he:mb (lG l) 0 k=(⟨(lG l).es++[(k,0,l.length)],l.length+1⟩,0,(l.length:Int)):=by simp only[mb,hf];rfl
 have hlen:(lG l).es.length=l.length:=by simp[lG]
 have eQ:((lG l).es++[(k,(0:Int),l.length)]).findIdx? (fun e=>decide ((e.2.2:Int)=(l.length:Int)))=some l.length:=by
  refine yi (fun i e hi=>?_) (by simp[hlen]);rcases Nat.lt_or_ge i (lG l).es.length with h|h
  .rw [List.getElem?_append_left h]at hi;exact(vx hi).2.2
  .rw [List.getElem?_append_right h]at hi;have h0:i-(lG l).es.length=0:=by have:=(ak.1 hi).1;simp at this;omega
   rw[h0]at hi;obtain rfl:(k,(0:Int),l.length)=e:=by simpa using hi
   simp only;omega
 rw[he];simp only[vv,eQ,bN];have hp:=F1 (v:=(1:Int)) (e:=(k,(0:Int),l.length)) (l:=(lG l).es);rw[hlen]at hp;rw[hp];simp[lG,List.zipIdx_append]
theorem Lk{κ:Type}[DecidableEq κ]{l:List κ}{k:κ}(hk:k∈l)(v:Int):∃m,vv (mb (lG l) 0 k).1 (mb (lG l) 0 k).2.2 v=some m/\o6 m 0 k=v:=by
 cases h:iG k (lG l).es 0 with
 |none=>have:=@vw κ _ l k;rw[if_pos hk]at this;unfold o6 at this;rw[h]at this;simp at this
 |some p=>
  obtain⟨j,e⟩:=p;obtain⟨_,h2,_⟩:=mN h;rw[ku]at h2;obtain⟨_,_,h5⟩:=vx h2;have he:mb (lG l) 0 k=(lG l,e.2.1,(e.2.2:Int)):=by simp only[mb,h]
  have hj:j<(lG l).es.length:=(ak.1 h2).1;have eQ:=yi (l:=(lG l).es) (fun i e hi=>(vx hi).2.2) hj;refine⟨⟨sS (lG l).es j v,(lG l).ft⟩,by rw[he];simp only[vv,h5,eQ,bN],?_⟩;have:=F3 (v:=v) h;rw[ku]at this;simp only[o6,this]
def j4(t:ah):List bo:=(t.bW.l.flatMap fun l=>[⟨l.A,l.nF⟩,⟨l.B,l.nE⟩])++t.bf.l.flatMap fun h=>[⟨h.At,h.oe⟩]
def uZ(l:bz):Prop:=l.A≠l.B/\1<=l.xr/\l.xr<=l.p9/\l.p9<=1000
def mw(t:ah)(p:bo):Prop:=(0<=p.sw/\p.sw<t.br)/\0<=p.Ag/\p.Ag<8
structure lw(t:ah):Prop where
 sw:1<=t.br/\t.br<=8
 HD:t.bW.l.length<=24
 se:t.bf.l.length<=8
 QF:∀l∈t.bW.l,uZ l
 nodup:(j4 t).Nodup
 sP:∀p∈j4 t,mw t p
instance(t:ah):Decidable (lw t):=Classical.propDecidable _
theorem FL{t:ah}(h1:t.bW.l.length<=24)(h2:t.bf.l.length<=8):(j4 t).length<=56:=by
 have e:∀l:List bz,(l.flatMap fun l=>[(⟨l.A,l.nF⟩:bo),⟨l.B,l.nE⟩]).length=2*l.length:=fun l=>by induction l with|nil=>rfl|cons x l ih=>simp[ih];omega
 have e2:∀l:List fU,(l.flatMap fun h=>[(⟨h.At,h.oe⟩:bo)]).length=l.length:=fun l=>by induction l with|nil=>rfl|cons x l ih=>simp[ih]
 rw[j4,av,e,e2];omega
theorem Dr{t:ah}(h1:t.bW.l.length<=24)(h2:t.bf.l.length<=8):∃s,mK t=some s/\s.l=j4 t:=by
 have e2:∀l:List bz,(l.flatMap fun l=>[(⟨l.A,l.nF⟩:bo),⟨l.B,l.nE⟩]).length=2*l.length:=fun l=>by induction l with|nil=>rfl|cons x l ih=>simp[ih];omega
 have e1:∀l:List fU,(l.flatMap fun h=>[(⟨h.At,h.oe⟩:bo)]).length=l.length:=fun l=>by induction l with|nil=>rfl|cons x l ih=>simp[ih]
 obtain⟨s,k1,k2⟩:=D6 (f:=ld t) t.bW.l (fun l=>[⟨l.A,l.nF⟩,⟨l.B,l.nE⟩]) .nil (by omega) (fun i s hi hs=>by have hcap:iI (s.l++[(⟨(gt t.bW.l i).A,(gt t.bW.l i).nF⟩:bo),⟨(gt t.bW.l i).B,(gt t.bW.l i).nE⟩])=some (s.l++[⟨(gt t.bW.l i).A,(gt t.bW.l i).nF⟩,⟨(gt t.bW.l i).B,(gt t.bW.l i).nE⟩]):=il (by rw[hs,av,av,e2,b_];simp;omega);exact⟨.mk (s.l++[⟨(gt t.bW.l i).A,(gt t.bW.l i).nF⟩,⟨(gt t.bW.l i).B,(gt t.bW.l i).nE⟩]),by simp only[ld,jw hi,cond_true,bq hi,af,hcap],rfl⟩) (fun s=>by simp only[ld,kO,cond_false]);obtain⟨s2,k3,k4⟩:=D6 (f:=lc t) t.bf.l (fun h=>[⟨h.At,h.oe⟩]) s (by omega) (fun i s' hi hs=>by have hcap:iI (s'.l++[(⟨(gt t.bf.l i).At,(gt t.bf.l i).oe⟩:bo)])=some (s'.l++[⟨(gt t.bf.l i).At,(gt t.bf.l i).oe⟩]):=il (by rw[hs,k2,av,av,av,e2,e1,b_];simp;omega);exact⟨.mk (s'.l++[⟨(gt t.bf.l i).At,(gt t.bf.l i).oe⟩]),by simp only[lc,jw hi,cond_true,bq hi,af,hcap],rfl⟩) (fun s=>by simp only[lc,kO,cond_false]);exact⟨s2,by simp only[mK,k1,af,k3],by rw[k4,k2];rfl⟩
theorem GF{t:ah}{r:Sl bo}(hb:r.l.length<9223372036854775808):
  ∃b,bE (iJ t r) (0,(Mp.none:Mp bo Int))=some b/\match b with|.inl v=>v=false/\¬(r.l.Nodup/\∀p∈r.l,mw t p)|.inr _=>r.l.Nodup/\∀p∈r.l,mw t p:=by
 have e0:((0:Nat):Int)=0:=rfl
 refine Me (f:=iJ t r) (fun i(m:Mp bo Int)=>((i:Int),m)) r.l.length (fun i m=>m=lG (r.l.take i)/\(r.l.take i).Nodup/\∀p∈r.l.take i,mw t p)
  (fun b=>match b with|.inl v=>v=false/\¬(r.l.Nodup/\∀p∈r.l,mw t p)|.inr _=>r.l.Nodup/\∀p∈r.l,mw t p) ?_ ?_ 0 Mp.none (cG _) ⟨by simp[lG,Mp.none],by simp,by simp⟩ (fun b q1 q2=>?_)
 .rintro i m hi ⟨rfl,hnd,hok⟩;have hgm:gt r.l i∈r.l:=by rw[cR hi];exact List.getElem_mem _
  have et:r.l.take (i+1)=r.l.take i++[gt r.l i]:=by rw[cR hi,cZ hi]
  have hsplit:r.l=r.l.take i++gt r.l i::r.l.drop (i+1):=by rw[cR hi,<-dL hi,List.take_append_drop]
  by_cases hm:gt r.l i∈r.l.take i
  .right;obtain⟨m2,h1,h2⟩:=Lk hm 2;have hw:wr .i64 (o6 (lG (r.l.take i)) 0 (gt r.l i)+1)=2:=by rw[vw,if_pos hm];rfl
   have hd:decide ((2:Int)>1)=true:=rfl;refine⟨.inl false,by simp only[iJ,jw hi,cond_true,bq hi,af,hw,h1,h2,hd,Bool.or_true],rfl,fun hh=>?_⟩;have h3:=hh.1;rw[hsplit]at h3;exact(bZ.1 h3).2.2 _ hm _ (List.mem_cons_self ..) rfl
  .have h1:=Ll hm;have hw:wr .i64 (o6 (lG (r.l.take i)) 0 (gt r.l i)+1)=1:=by rw[vw,if_neg hm];rfl
   have h2:o6 (lG (r.l.take i++[gt r.l i])) 0 (gt r.l i)=1:=by rw[vw,if_pos (by simp)]
   have hd:decide ((1:Int)>1)=false:=rfl;have hc:((((decide (((gt r.l i).sw)<0))||(decide (((gt r.l i).sw)>=t.br)))||(decide (((gt r.l i).Ag)<0)))||(decide (((gt r.l i).Ag)>=8)))=true<->¬mw t (gt r.l i):=by simp only[cM,decide_eq_true_eq,mw];omega
   by_cases hp:mw t (gt r.l i)
   .left;have hc2:((((decide (((gt r.l i).sw)<0))||(decide (((gt r.l i).sw)>=t.br)))||(decide (((gt r.l i).Ag)<0)))||(decide (((gt r.l i).Ag)>=8)))=false:=by rw[<-Bool.not_eq_true];exact fun h=>hc.1 h hp
    refine⟨lG (r.l.take (i+1)),by simp only[iJ,jw hi,cond_true,bq hi,af,hw,h1,h2,hd,mo,hc2,cond_false,k_ (show i<9223372036854775807 by omega),et],rfl,?_,?_⟩
    .rw [et];exact bZ.2 ⟨hnd,by simp,fun a ha b hb=>by rw[ao]at hb;subst hb;exact fun e=>hm (e▸ha)⟩
    .intro p hpm;rw[et]at hpm;rcases List.mem_append.1 hpm with h|h
     .exact hok p h
     .rw [ao]at h;subst h;exact hp
   .right;exact⟨.inl false,by simp only[iJ,jw hi,cond_true,bq hi,af,hw,h1,h2,hd,mo,hc.2 hp],rfl,fun hh=>hp (hh.2 _ hgm)⟩
 .rintro m ⟨_,hnd,hok⟩;rw[gi]at hnd hok;exact⟨.inr (),by simp only[iJ,kO,cond_false],hnd,hok⟩
 .rw [e0]at q1;exact⟨b,q1,q2⟩
theorem Fa{t:ah}:nH t=some (decide (lw t)):=by
 unfold nH;by_cases hs:(1<=t.br/\t.br<=8)/\t.bW.l.length<=24/\t.bf.l.length<=8
 .have hc:((((decide (t.br<1))||(decide (t.br>8)))||(decide ((t.bW.l.length:Int)>24)))||(decide ((t.bf.l.length:Int)>8)))=false:=by simp only[gp,decide_eq_false_iff_not];omega
  have hl:=Ru (f:=lY t) t.bW.l (fun l=>((((l.A==l.B)||(decide (l.xr<1)))||(decide (l.xr>l.p9)))||(decide (l.p9>1000)))) (by omega) (fun i hi=>by simp only[lY,jw hi,cond_true,bq hi,af];generalize((((gt t.bW.l i).A==(gt t.bW.l i).B)||_)||_||_)=c;cases c<;>rfl) (by simp only[lY,kO,cond_false]);have hlk:∀l:bz,((((l.A==l.B)||(decide (l.xr<1)))||(decide (l.xr>l.p9)))||(decide (l.p9>1000)))=false<->uZ l:=fun l=>by simp only[gp,beq_eq_false_iff_ne,decide_eq_false_iff_not,uZ];omega
  rw[hc,cond_false,hl];by_cases hlo:∀l∈t.bW.l,uZ l
  .rw [if_pos (fun l hm=>(hlk l).2 (hlo l hm))];simp only[af];obtain⟨s,p1,p2⟩:=Dr hs.2.1 hs.2.2;have hpl:=FL hs.2.1 hs.2.2;obtain⟨b,q1,q2⟩:=GF (t:=t) (r:=s) (by rw[p2];omega);simp only[p1,af,q1];rw[p2]at q2;cases b with|inl v=>obtain⟨rfl,q2⟩:=q2;exact congrArg some (decide_eq_false fun h:lw t=>q2 ⟨h.nodup,h.sP⟩).symm|inr _=>exact congrArg some (decide_eq_true ⟨hs.1,hs.2.1,hs.2.2,hlo,q2.1,q2.2⟩).symm
  .rw [if_neg (fun h=>hlo fun l hm=>(hlk l).1 (h l hm))];exact congrArg some (decide_eq_false fun h=>hlo h.QF).symm
 .have hc:((((decide (t.br<1))||(decide (t.br>8)))||(decide ((t.bW.l.length:Int)>24)))||(decide ((t.bf.l.length:Int)>8)))=true:=by simp only[cM,decide_eq_true_eq];omega
  rw[hc,cond_true];exact congrArg some (decide_eq_false fun h=>hs ⟨h.sw,h.HD,h.se⟩).symm
def oZ(sw p:Int)(i:Nat)(l:bz):Option (Int×Int×Int):=if sw=l.A/\p=l.nF then some (l.B,l.nE,(i:Int))else if sw=l.B/\p=l.nE then some (l.A,l.nF,(i:Int))else none
theorem KD{α β γ:Type}{P:Nat->α->Option β}(g:β->γ):∀{l:List α}{i:Nat},lZ (fun i x=>(P i x).map g) l i=(lZ P l i).map g:=by
 intro l;induction l with
 |nil=>intro i;rfl
 |cons x l ih=>intro i;simp only[lZ];cases P i x with|none=>exact ih|some b=>rfl
def q4(q:Int×Int×Int):Int×Int×Int×Bool:=(q.1,q.2.1,q.2.2,true)
def kT(t:ah)(sw p:Int):Int×Int×Int×Bool:=match lZ (oZ sw p) t.bW.l 0 with|some (a,b,c)=>(a,b,c,true)|none=>(0,0,0,false)
theorem IH(a b sw p:Int):decide ((⟨sw,p⟩:bo)=⟨a,b⟩)=decide (sw=a/\p=b):=by rw[Bool.eq_iff_iff];simp
theorem AW{t:ah}(sw p:Int)(hb:t.bW.l.length<9223372036854775808):nI t sw p=some (kT t sw p):=by
 have h:=w8 (f:=mY t sw p) t.bW.l (fun i l=>(oZ sw p i l).map q4) () hb (fun i hi=>by
  simp only[mY,jw hi,cond_true,bq hi,af,IH,oZ];by_cases h1:sw=(gt t.bW.l i).A/\p=(gt t.bW.l i).nF
  .rw [if_pos h1,decide_eq_true h1];rfl
  .by_cases h2:sw=(gt t.bW.l i).B/\p=(gt t.bW.l i).nE
   .rw [if_neg h1,if_pos h2,decide_eq_false h1,decide_eq_true h2];rfl
   .rw [if_neg h1,if_neg h2,decide_eq_false h1,decide_eq_false h2];rfl) (by simp only[mY,kO,cond_false])
 simp only[nI,h,af,KD,kT];cases lZ (oZ sw p) t.bW.l 0 with|none=>rfl|some q=>obtain⟨a,b,c⟩:=q;rfl
theorem Hi{t:ah}(hV:lw t){sw p a b c:Int}(h:lZ (oZ sw p) t.bW.l 0=some (a,b,c)):0<=a/\a<t.br:=by
 obtain⟨j,l,h1,h2,_⟩:=nJ h;have hm:l∈t.bW.l:=aX h1;have hA:mw t ⟨l.A,l.nF⟩:=hV.sP _ (aE _ (bU.2 ⟨l,hm,by simp⟩));have hB:mw t ⟨l.B,l.nE⟩:=hV.sP _ (aE _ (bU.2 ⟨l,hm,by simp⟩));unfold oZ at h2;split at h2
 .obtain ⟨rfl,_⟩:=ad (aa h2);exact hB.1
 .split at h2
  .obtain ⟨rfl,_⟩:=ad (aa h2);exact hA.1
  .simp at h2
instance(t:ah)(p:bo):Decidable (mw t p):=inferInstanceAs (Decidable ((0<=p.sw/\p.sw<t.br)/\0<=p.Ag/\p.Ag<8))
def wJ(l:bz):List bo:=[⟨l.A,l.nF⟩,⟨l.B,l.nE⟩]
def Mz(h:fU):List bo:=[⟨h.At,h.oe⟩]
theorem AV(t:ah):j4 t=t.bW.l.flatMap wJ++t.bf.l.flatMap Mz:=rfl
theorem D0{t:ah}(hV:lw t){i j:Nat}{l m:bz}(hi:t.bW.l[i]?=some l)(hj:t.bW.l[j]?=some m){p:bo}(hp:p∈wJ l)(hq:p∈wJ m):i=j:=by
 have h:=(bZ.1 (AV t▸hV.nodup)).1;have h2:=(List.pairwise_flatMap.1 h).2;rw[List.pairwise_iff_getElem]at h2;obtain⟨hil,rfl⟩:=ak.1 hi;obtain⟨hjl,rfl⟩:=ak.1 hj;rcases Nat.lt_trichotomy i j with h3|h3|h3
 .exact absurd rfl (h2 i j hil hjl h3 p hp p hq)
 .exact h3
 .exact absurd rfl (h2 j i hjl hil h3 p hq p hp)
theorem Gk{t:ah}(hV:lw t){l:bz}{h:fU}(hl:l∈t.bW.l)(hh:h∈t.bf.l){p:bo}(hp:p∈wJ l):p∉Mz h:=by intro hq;exact(bZ.1 (AV t▸hV.nodup)).2.2 p (bU.2 ⟨l,hl,hp⟩) p (bU.2 ⟨h,hh,hq⟩) rfl
def Nj(l:bz)(sw p a b:Int):Prop:=(sw=l.A/\p=l.nF/\a=l.B/\b=l.nE)\/(sw=l.B/\p=l.nE/\a=l.A/\b=l.nF)
theorem Nj.A6{l:bz}{sw p a b:Int}(h:Nj l sw p a b):(⟨sw,p⟩:bo)∈wJ l:=by rcases h with⟨rfl,rfl,_,_⟩|⟨rfl,rfl,_,_⟩<;>simp[wJ]
theorem yI{sw p:Int}{i:Nat}{l:bz}{a b c:Int}(h:oZ sw p i l=some (a,b,c)):Nj l sw p a b/\c=i:=by
 unfold oZ at h;split at h
 .rename_i h1;obtain⟨rfl,rfl,rfl⟩:l.B=a/\l.nE=b/\(i:Int)=c:=by simpa using h
  exact⟨.inl ⟨h1.1,h1.2,rfl,rfl⟩,rfl⟩
 .split at h
  .rename_i h1;obtain⟨rfl,rfl,rfl⟩:l.A=a/\l.nF=b/\(i:Int)=c:=by simpa using h
   exact⟨.inr ⟨h1.1,h1.2,rfl,rfl⟩,rfl⟩
  .simp at h
theorem yH{l:bz}(hl:l.A≠l.B){sw p a b:Int}(h:Nj l sw p a b)(i:Nat):oZ sw p i l=some (a,b,(i:Int)):=by
 unfold oZ;rcases h with⟨rfl,rfl,rfl,rfl⟩|⟨rfl,rfl,rfl,rfl⟩
 .rw [if_pos ⟨rfl,rfl⟩]
 .rw [if_neg fun h=>hl h.1.symm,if_pos ⟨rfl,rfl⟩]
theorem KT{t:ah}(hV:lw t){sw p a b c:Int}:lZ (oZ sw p) t.bW.l 0=some (a,b,c)<->∃(j:Nat)(l:bz),t.bW.l[j]?=some l/\Nj l sw p a b/\c=j:=by
 constructor
 .intro h;obtain⟨j,l,h1,h2,_⟩:=nJ h;obtain⟨h3,h4⟩:=yI h2;exact⟨j,l,h1,h3,by simpa using h4⟩
 .rintro ⟨j,l,h1,h2,rfl⟩;have hlk:=hV.QF l (aX h1);cases h:lZ (oZ sw p) t.bW.l 0 with
  |none=>have:=nL.1 h j l h1;rw[yH hlk.1 h2]at this;simp at this
  |some q=>
   obtain⟨a',b',c'⟩:=q;obtain⟨k,m,h3,h4,_⟩:=nJ h;obtain⟨h5,h6⟩:=yI h4;obtain rfl:=D0 hV h1 h3 h2.A6 h5.A6;obtain rfl:l=m:=aa (h1.symm.trans h3);have e:=yH hlk.1 h2 (0+j);rw[yH hlk.1 h5]at e;obtain⟨rfl,rfl⟩:a'=a/\b'=b:=by simpa using e
   rw[h6];simp
end Go.Proofs.YthcplpfiidlinaaDoor.J
