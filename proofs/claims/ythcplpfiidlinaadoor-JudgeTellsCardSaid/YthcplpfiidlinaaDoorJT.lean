/- Loops over lists, and topologies: what Right and Peer answer. Conditions: as stated. -/
import Derived.Test.YthcplpfiidlinaaDoorJ
open Go.Ev Go
noncomputable section
open Bool renaming and_eq_true->ai,eq_iff_iff->bT,or_eq_false_iff->fw,or_eq_true->cA,or_false->mr
open List renaming append_nil->bR,drop_eq_getElem_cons->cn,flatMap_append->iB,flatMap_cons->bf,getElem?_eq_some_iff->aq,getElem_of_mem->cG,length_append->ap,length_take->d_,mem_append->au,mem_append_left->aG,mem_flatMap->dn,mem_of_getElem?->bk,mem_singleton->av,nodup_append->cE,take_append_getElem->dl,take_length->f_
open Nat renaming add_zero->di,le_refl->aw,sub_zero->lM,zero_le->cO
open Option renaming bind_some->ae,map_eq_some_iff->aK,map_some->bY
open Option.some renaming inj->aa
open Prod.mk renaming inj->ad
namespace Go.Proofs.YthcplpfiidlinaaDoor.J
theorem ku{n:Int}(h0:-9223372036854775808<=n)(h1:n<9223372036854775808):wr .i64 n=n:=by simp[wr,IntKind.wrap,IntKind.bits,IntKind.signed];omega
theorem Om{S β:Type}{f:S->Option (Sum S β)}(m:S->Nat)(I:S->Prop)(R:β->Prop)
  (hstep:∀s,I s->(∃s',f s=some (.inl s')/\I s'/\m s'<m s)\/(∃b,f s=some (.inr b)/\R b)):∀s,I s->∃b,bc f s=some b/\R b:=by
 have:∀(n:Nat)(s:S),m s<=n->I s->∃b,bc f s=some b/\R b:=by
  intro n;induction n with
  |zero=>
   intro s hn hI;rcases hstep s hI with⟨s',_,_,h⟩|⟨b,h1,h2⟩
   .omega
   .exact ⟨b,bC h1,h2⟩
  |succ n ih=>
   intro s hn hI;rcases hstep s hI with⟨s',h1,h2,h3⟩|⟨b,h1,h2⟩
   .obtain ⟨b,h4,h5⟩:=ih s' (by omega) h2;exact⟨b,(bL h1).trans h4,h5⟩
   .exact ⟨b,bC h1,h2⟩
 exact fun s=>this (m s) s (aw _)
theorem Pk{S σ β:Type}{f:S->Option (Sum S β)}(st:Nat->σ->S)(n:Nat)(I:Nat->σ->Prop)(R:β->Prop)
  (hstep:∀i s,i<n->I i s->(∃s',f (st i s)=some (.inl (st (i+1) s'))/\I (i+1) s')\/(∃b,f (st i s)=some (.inr b)/\R b))
  (hend:∀s,I n s->∃b,f (st n s)=some (.inr b)/\R b):∀i s,i<=n->I i s->∃b,bc f (st i s)=some b/\R b:=by
 have:∀(k i:Nat)(s:σ),i+k=n->I i s->∃b,bc f (st i s)=some b/\R b:=by
  intro k;induction k with
  |zero=>
   intro i s hi hI;obtain rfl:i=n:=by omega
   obtain⟨b,h1,h2⟩:=hend s hI;exact⟨b,bC h1,h2⟩
  |succ k ih=>
   intro i s hi hI;rcases hstep i s (by omega) hI with⟨s',h1,h2⟩|⟨b,h1,h2⟩
   .obtain ⟨b,h4,h5⟩:=ih (i+1) s' (by omega) h2;exact⟨b,(bL h1).trans h4,h5⟩
   .exact ⟨b,bC h1,h2⟩
 exact fun i s hi=>this (n-i) i s (by omega)
theorem zu{S σ β:Type}{goal:Prop}{f:S->Option (Sum S β)}(st:Nat->σ->S)(n:Nat)(I:Nat->σ->Prop)(R:β->Prop)
  (hstep:∀i s,i<n->I i s->(∃s',f (st i s)=some (.inl (st (i+1) s'))/\I (i+1) s')\/(∃b,f (st i s)=some (.inr b)/\R b))
  (hend:∀s,I n s->∃b,f (st n s)=some (.inr b)/\R b) (i:Nat) (s:σ) (hi:i<=n) (hI:I i s) (k:∀b,bc f (st i s)=some b->R b->goal):goal:=
 let⟨b,h1,h2⟩:=Pk st n I R hstep hend i s hi hI
 k b h1 h2
theorem On{S β:Type}{goal:Prop}{f:S->Option (Sum S β)}(m:S->Nat)(I:S->Prop)(R:β->Prop)
  (hstep:∀s,I s->(∃s',f s=some (.inl s')/\I s'/\m s'<m s)\/(∃b,f s=some (.inr b)/\R b)) (s:S) (hI:I s) (k:∀b,bc f s=some b->R b->goal):goal:=
 let⟨b,h1,h2⟩:=Om m I R hstep s hI
 k b h1 h2
theorem fz{i n:Nat}(h:i<n):decide ((i:Int)<(n:Int))=true:=by rw[decide_eq_true_eq];omega
theorem gk{n:Nat}:decide ((n:Int)<(n:Int))=false:=by rw[decide_eq_false_iff_not];omega
theorem gB{i:Nat}(h:i<9223372036854775807):wr .i64 ((i:Int)+1)=((i+1:Nat):Int):=by rw[ku (by omega) (by omega)];omega
def lP{α β:Type}(P:Nat->α->Option β):List α->Nat->Option β
 |[],_=>none
 |x::r,i=>match P i x with|some b=>some b|none=>lP P r (i+1)
theorem tn{α β γ:Type}[Inhabited α]{f:Int->Option (Sum Int (Sum β γ))}(l:List α)(P:Nat->α->Option β)(c:γ)(hb:l.length<9223372036854775808)
  (hstep:∀i:Nat,i<l.length->f (i:Int)=some (match P i (gt l i)with|some b=>.inr (.inl b)|none=>.inl (wr .i64 ((i:Int)+1)))) (hend:f (l.length:Int)=some (.inr (.inr c))):
  bc f 0=some (match lP P l 0 with|some b=>.inl b|none=>.inr c):=by
 have main:∀(n i:Nat),i+n=l.length->bc f (i:Int)=some (match lP P (l.drop i) i with|some b=>.inl b|none=>.inr c):=by
  intro n;induction n with
  |zero=>
   intro i hi;obtain rfl:i=l.length:=by omega
   rw[bC hend,List.drop_length];rfl
  |succ n ih=>
   intro i hi;have hlt:i<l.length:=by omega
   have hs:=hstep i hlt;rw[cn hlt,<-dV hlt];simp only[lP];cases hP:P i (gt l i)with|some b=>rw[hP]at hs;rw[bC hs]|none=>rw[hP]at hs;simp only at hs;rw[gB (by omega)]at hs;rw[bL hs,ih (i+1) (by omega)]
 have:=main l.length 0 (by omega);simpa using this
theorem nM{α β:Type}{P:Nat->α->Option β}:∀{l:List α}{i:Nat},lP P l i=none<->∀j(x:α),l[j]?=some x->P (i+j) x=none:=by
 intro l;induction l with
 |nil=>intro i;simp[lP]
 |cons y l ih=>
  intro i;simp only[lP];constructor
  .intro h j x hj;split at h
   .simp at h
   .rename_i hP;cases j with
    |zero=>
     obtain rfl:y=x:=by simpa using hj
     exact hP
    |succ j=>have:=ih.1 h j x (by simpa using hj);rw[show i+(j+1)=i+1+j by omega];exact this
  .intro h;have h0:=h 0 y rfl;rw[di]at h0;rw[h0];exact ih.2 fun j x hj=>by have:=h (j+1) x (by simpa using hj);rw[show i+(j+1)=i+1+j by omega]at this;exact this
theorem nL{α β:Type}{P:Nat->α->Option β}:∀{l:List α}{i:Nat}{b:β},lP P l i=some b->∃j x,l[j]?=some x/\P (i+j) x=some b/\∀k,k<j->∀y,l[k]?=some y->P (i+k) y=none:=by
 intro l;induction l with
 |nil=>intro i b h;simp[lP]at h
 |cons y l ih=>
  intro i b h;simp only[lP]at h;split at h
  .rename_i b' hP;obtain rfl:=aa h;exact⟨0,y,rfl,hP,fun k hk=>by omega⟩
  .rename_i hP;obtain⟨j,x,h1,h2,h3⟩:=ih h;refine⟨j+1,x,by simpa using h1,by rw[show i+(j+1)=i+1+j by omega];exact h2,fun k hk z hz=>?_⟩;cases k with
   |zero=>
    obtain rfl:y=z:=by simpa using hz
    exact hP
   |succ k=>rw[show i+(k+1)=i+1+k by omega];exact h3 k (by omega) z (by simpa using hz)
theorem CZ{α:Type}{p:α->Bool}{l:List α}{i:Nat}:lP (fun _ x=>if p x then some false else none) l i=none<->∀x∈l,p x=false:=by
 rw[nM];constructor
 .intro h x hx;obtain⟨j,hj,rfl⟩:=cG hx;have:=h j l[j] (by simp[hj]);cases hp:p l[j]
  .rfl
  .rw [hp]at this;simp at this
 .intro h j x hj;rw[h x (bk hj)];rfl
theorem Av{α:Type}[Inhabited α]{f:Int->Option (Sum Int (Sum Bool Unit))}(l:List α)(p:α->Bool)(hb:l.length<9223372036854775808)
  (hstep:∀i:Nat,i<l.length->f (i:Int)=some (bif p (gt l i)then .inr (.inl false)else .inl (wr .i64 ((i:Int)+1)))) (hend:f (l.length:Int)=some (.inr (.inr ()))):
  bc f 0=some (if∀x∈l,p x=false then .inr ()else .inl false):=by
 rw[tn l (fun _ x=>if p x then some false else none) () hb (fun i hi=>by rw[hstep i hi];cases p (gt l i)<;>rfl) hend];cases h:lP (fun _ x=>if p x then some false else none) l 0 with
 |none=>rw[if_pos (CZ.1 h)]
 |some u=>
  obtain⟨j,x,_,h2,_⟩:=nL h;split at h2
  .obtain rfl:=aa h2;rw[if_neg];intro hn;rw[CZ.2 hn]at h;simp at h
  .simp at h2
theorem Tw{α β:Type}[Inhabited α]{f:(Int×Sl β)->Option (Sum (Int×Sl β) (Sl β))}(l:List α)(g:Nat->α->List β)(s0:Sl β)(hb:l.length<9223372036854775808)
  (hstep:∀(i:Nat)(s:Sl β),i<l.length->s.l=s0.l++((l.take i).zipIdx.flatMap fun p=>g p.2 p.1)->∃s',f ((i:Int),s)=some (.inl (wr .i64 ((i:Int)+1),s'))/\s'.l=s.l++g i (gt l i))
  (hend:∀s,f ((l.length:Int),s)=some (.inr s)):∃s,bc f (0,s0)=some s/\s.l=s0.l++(l.zipIdx.flatMap fun p=>g p.2 p.1):=by
 have e0:((0:Nat):Int)=0:=rfl;refine zu (f:=f) (fun i(s:Sl β)=>((i:Int),s)) l.length (fun i s=>s.l=s0.l++((l.take i).zipIdx.flatMap fun p=>g p.2 p.1)) (fun s=>s.l=s0.l++(l.zipIdx.flatMap fun p=>g p.2 p.1)) ?_ ?_ 0 s0 (cO _) (by simp) (fun b q1 q2=>?_)
 .intro i s hi hI;obtain⟨s',h1,h2⟩:=hstep i s hi hI;refine .inl ⟨s',by rw[h1,gB (by omega)],?_⟩;have et:l.take (i+1)=l.take i++[gt l i]:=by rw[dV hi,dl hi]
  rw[h2,hI,et,List.zipIdx_append,iB,List.append_assoc];simp[Nat.min_eq_left (Nat.le_of_lt hi)]
 .intro s hI;refine⟨s,hend s,?_⟩;rw[f_]at hI;exact hI
 .rw [e0]at q1;exact⟨b,q1,q2⟩
theorem KG{α β:Type}[Inhabited α]{f:(Int×Sl β)->Option (Sum (Int×Sl β) (Sl β))}(l:List α)(g:α->List β)(s0:Sl β)(hb:l.length<9223372036854775808)
  (hstep:∀(i:Nat)(s:Sl β),i<l.length->s.l=s0.l++(l.take i).flatMap g->∃s',f ((i:Int),s)=some (.inl (wr .i64 ((i:Int)+1),s'))/\s'.l=s.l++g (gt l i))
  (hend:∀s,f ((l.length:Int),s)=some (.inr s)):∃s,bc f (0,s0)=some s/\s.l=s0.l++l.flatMap g:=by
 have key:∀(l:List α)(k:Nat),((l.zipIdx k).flatMap fun p=>g p.1)=l.flatMap g:=fun l=>by induction l with|nil=>intro k;rfl|cons x l ih=>intro k;simp[List.zipIdx_cons,ih]
 obtain⟨s,h1,h2⟩:=Tw l (fun _ x=>g x) s0 hb (fun i s hi hs=>hstep i s hi (by rw[hs,key])) hend;exact⟨s,h1,by rw[h2,key]⟩
section
variable{κ ν:Type}
theorem tE[DecidableEq κ]{k:κ}:∀{l:List (κ×ν×Nat)}{i:Nat},iD k l i=none<->∀e∈l,k≠e.1:=by
 intro l;induction l with
 |nil=>intro i;simp[iD]
 |cons x l ih=>
  intro i;simp only[iD];by_cases h:k=x.1
  .simp [h]
  .simp [h,ih]
theorem FQ[DecidableEq κ]{k:κ}{v:ν}:∀{l:List (κ×ν×Nat)}{i j:Nat}{e:κ×ν×Nat},iD k l i=some (j,e)->iD k (tD l (j-i) v) i=some (j,(e.1,v,e.2.2)):=by
 intro l;induction l with
 |nil=>intro i j e h;simp[iD]at h
 |cons x l ih=>
  intro i j e h;simp only[iD]at h;split at h
  .rename_i hk;obtain⟨rfl,rfl⟩:i=j/\x=e:=by simpa using h
   simp[tD,iD,hk]
  .rename_i hk;obtain⟨h1,_,_⟩:=mM h;have e1:j-i=(j-(i+1))+1:=by omega
   rw[e1];simp only[tD,iD,hk,if_false];exact ih h
theorem FP{v:ν}{e:κ×ν×Nat}:∀{l:List (κ×ν×Nat)},tD (l++[e]) l.length v=l++[(e.1,v,e.2.2)]:=by intro l;induction l with|nil=>rfl|cons x l ih=>simp only[List.cons_append,List.length_cons,tD,ih]
theorem yt{l:List (κ×ν×Nat)}(h:∀(i:Nat)(e:κ×ν×Nat),l[i]?=some e->e.2.2=i){j:Nat}(hj:j<l.length):l.findIdx? (fun e=>decide ((e.2.2:Int)=(j:Int)))=some j:=by
 rw[List.findIdx?_eq_some_iff_getElem];refine⟨hj,?_,fun k hk=>?_⟩
 .have:=h j l[j] (by simp);simp[this]
 .have:=h k (l[k]'(by omega)) (by simp);simp only[this,decide_eq_true_eq];omega
end
def lH{κ:Type}(l:List κ):Mp κ Int:=⟨l.zipIdx.map fun q=>(q.1,1,q.2),l.length⟩
theorem vN{κ:Type}{l:List κ}{i:Nat}{e:κ×Int×Nat}(h:(lH l).es[i]?=some e):l[i]?=some e.1/\e.2.1=1/\e.2.2=i:=by simp only[lH,List.getElem?_map,aK]at h;obtain⟨q,hq,rfl⟩:=h;rw[List.getElem?_zipIdx]at hq;obtain⟨x,hx,rfl⟩:=aK.1 hq;exact⟨hx,rfl,by simp⟩
theorem DK{κ:Type}{l:List κ}{e:κ×Int×Nat}(h:e∈(lH l).es):e.1∈l:=by obtain⟨i,hi,rfl⟩:=cG h;exact bk (vN (i:=i) (by simp[hi])).1
theorem vM{κ:Type}[DecidableEq κ]{l:List κ}{k:κ}:pp (lH l) 0 k=if k∈l then 1 else 0:=by
 unfold pp;by_cases hk:k∈l
 .rw [if_pos hk];cases h:iD k (lH l).es 0 with|none=>exfalso;rw[tE]at h;obtain⟨i,hi,rfl⟩:=cG hk;refine h (l[i],1,i) ?_ rfl;simp only[lH,List.mem_map];exact⟨(l[i],i),by rw[List.mem_zipIdx_iff_getElem?];simp[hi],rfl⟩|some p=>obtain⟨j,e⟩:=p;obtain⟨_,h2,_⟩:=mM h;exact(vN h2).2.1
 .rw [if_neg hk,tE.2 fun e he hke=>hk (by rw[hke];exact DK he)]
theorem Kl{κ:Type}[DecidableEq κ]{l:List κ}{k:κ}(hk:k∉l):vL (md (lH l) 0 k).1 (md (lH l) 0 k).2.2 1=some (lH (l++[k])):=by
 have hf:iD k (lH l).es 0=none:=tE.2 fun e he hke=>hk (by rw[hke];exact DK he);have he:md (lH l) 0 k=(⟨(lH l).es++[(k,0,l.length)],l.length+1⟩,0,(l.length:Int)):=by simp only[md,hf];rfl
 have hlen:(lH l).es.length=l.length:=by simp[lH]
 have eh:((lH l).es++[(k,(0:Int),l.length)]).findIdx? (fun e=>decide ((e.2.2:Int)=(l.length:Int)))=some l.length:=by
  refine yt (fun i e hi=>?_) (by simp[hlen]);rcases Nat.lt_or_ge i (lH l).es.length with h|h
  .rw [List.getElem?_append_left h]at hi;exact(vN hi).2.2
  .rw [List.getElem?_append_right h]at hi;have h0:i-(lH l).es.length=0:=by have:=(aq.1 hi).1;simp at this;omega
   rw[h0]at hi;obtain rfl:(k,(0:Int),l.length)=e:=by simpa using hi
   simp only;omega
 rw[he];simp only[vL,eh,bY];have hp:=FP (v:=(1:Int)) (e:=(k,(0:Int),l.length)) (l:=(lH l).es);rw[hlen]at hp;rw[hp];simp[lH,List.zipIdx_append]
theorem Kk{κ:Type}[DecidableEq κ]{l:List κ}{k:κ}(hk:k∈l)(v:Int):∃m,vL (md (lH l) 0 k).1 (md (lH l) 0 k).2.2 v=some m/\pp m 0 k=v:=by
 cases h:iD k (lH l).es 0 with
 |none=>have:=@vM κ _ l k;rw[if_pos hk]at this;unfold pp at this;rw[h]at this;simp at this
 |some p=>
  obtain⟨j,e⟩:=p;obtain⟨_,h2,_⟩:=mM h;rw[lM]at h2;obtain⟨_,_,h5⟩:=vN h2;have he:md (lH l) 0 k=(lH l,e.2.1,(e.2.2:Int)):=by simp only[md,h]
  have hj:j<(lH l).es.length:=(aq.1 h2).1;have eh:=yt (l:=(lH l).es) (fun i e hi=>(vN hi).2.2) hj;refine⟨⟨tD (lH l).es j v,(lH l).fc⟩,by rw[he];simp only[vL,h5,eh,bY],?_⟩;have:=FQ (v:=v) h;rw[lM]at this;simp only[pp,this]
def dY(t:af):List bp:=(t.aY.l.flatMap fun l=>[⟨l.A,l.j3⟩,⟨l.B,l.jZ⟩])++t.aN.l.flatMap fun h=>[⟨h.At,h.h_⟩]
def qo(l:bi):Prop:=l.A≠l.B/\1<=l.pw/\l.pw<=l.lS/\l.lS<=1000
def ie(t:af)(p:bp):Prop:=(0<=p.sw/\p.sw<t.aU)/\0<=p.Ae/\p.Ae<8
structure kS(t:af):Prop where
 sw:1<=t.aU/\t.aU<=8
 xx:t.aY.l.length<=24
 qd:t.aN.l.length<=8
 O8:∀l∈t.aY.l,qo l
 nodup:(dY t).Nodup
 rp:∀p∈dY t,ie t p
instance(t:af):Decidable (kS t):=Classical.propDecidable _
theorem FB{t:af}(h1:t.aY.l.length<=24)(h2:t.aN.l.length<=8):(dY t).length<=56:=by
 have e:∀l:List bi,(l.flatMap fun l=>[(⟨l.A,l.j3⟩:bp),⟨l.B,l.jZ⟩]).length=2*l.length:=fun l=>by induction l with|nil=>rfl|cons x l ih=>simp[ih];omega
 have e2:∀l:List cW,(l.flatMap fun h=>[(⟨h.At,h.h_⟩:bp)]).length=l.length:=fun l=>by induction l with|nil=>rfl|cons x l ih=>simp[ih]
 rw[dY,ap,e,e2];omega
theorem Dn{t:af}(h1:t.aY.l.length<=24)(h2:t.aN.l.length<=8):∃s,mI t=some s/\s.l=dY t:=by
 have e2:∀l:List bi,(l.flatMap fun l=>[(⟨l.A,l.j3⟩:bp),⟨l.B,l.jZ⟩]).length=2*l.length:=fun l=>by induction l with|nil=>rfl|cons x l ih=>simp[ih];omega
 have e1:∀l:List cW,(l.flatMap fun h=>[(⟨h.At,h.h_⟩:bp)]).length=l.length:=fun l=>by induction l with|nil=>rfl|cons x l ih=>simp[ih]
 obtain⟨s,k1,k2⟩:=KG (f:=k7 t) t.aY.l (fun l=>[⟨l.A,l.j3⟩,⟨l.B,l.jZ⟩]) .nil (by omega) (fun i s hi hs=>by have hcap:fF (s.l++[(⟨(gt t.aY.l i).A,(gt t.aY.l i).j3⟩:bp),⟨(gt t.aY.l i).B,(gt t.aY.l i).jZ⟩])=some (s.l++[⟨(gt t.aY.l i).A,(gt t.aY.l i).j3⟩,⟨(gt t.aY.l i).B,(gt t.aY.l i).jZ⟩]):=fR (by rw[hs,ap,ap,e2,d_];simp;omega);exact⟨.mk (s.l++[⟨(gt t.aY.l i).A,(gt t.aY.l i).j3⟩,⟨(gt t.aY.l i).B,(gt t.aY.l i).jZ⟩]),by simp only[k7,fz hi,cond_true,bm hi,ae,hcap],rfl⟩) (fun s=>by simp only[k7,gk,cond_false]);obtain⟨s2,k3,k4⟩:=KG (f:=kZ t) t.aN.l (fun h=>[⟨h.At,h.h_⟩]) s (by omega) (fun i s' hi hs=>by have hcap:fF (s'.l++[(⟨(gt t.aN.l i).At,(gt t.aN.l i).h_⟩:bp)])=some (s'.l++[⟨(gt t.aN.l i).At,(gt t.aN.l i).h_⟩]):=fR (by rw[hs,k2,ap,ap,ap,e2,e1,d_];simp;omega);exact⟨.mk (s'.l++[⟨(gt t.aN.l i).At,(gt t.aN.l i).h_⟩]),by simp only[kZ,fz hi,cond_true,bm hi,ae,hcap],rfl⟩) (fun s=>by simp only[kZ,gk,cond_false]);exact⟨s2,by simp only[mI,k1,ae,k3],by rw[k4,k2];rfl⟩
theorem Gm{t:af}{r:Sl bp}(hb:r.l.length<9223372036854775808):
  ∃b,bc (iE t r) (0,(Mp.none:Mp bp Int))=some b/\match b with|.inl v=>v=false/\¬(r.l.Nodup/\∀p∈r.l,ie t p)|.inr _=>r.l.Nodup/\∀p∈r.l,ie t p:=by
 have e0:((0:Nat):Int)=0:=rfl
 refine zu (f:=iE t r) (fun i(m:Mp bp Int)=>((i:Int),m)) r.l.length (fun i m=>m=lH (r.l.take i)/\(r.l.take i).Nodup/\∀p∈r.l.take i,ie t p)
  (fun b=>match b with|.inl v=>v=false/\¬(r.l.Nodup/\∀p∈r.l,ie t p)|.inr _=>r.l.Nodup/\∀p∈r.l,ie t p) ?_ ?_ 0 Mp.none (cO _) ⟨by simp[lH,Mp.none],by simp,by simp⟩ (fun b q1 q2=>?_)
 .rintro i m hi ⟨rfl,hnd,hok⟩;have hgm:gt r.l i∈r.l:=by rw[dV hi];exact List.getElem_mem _
  have et:r.l.take (i+1)=r.l.take i++[gt r.l i]:=by rw[dV hi,dl hi]
  have hsplit:r.l=r.l.take i++gt r.l i::r.l.drop (i+1):=by rw[dV hi,<-cn hi,List.take_append_drop]
  by_cases hm:gt r.l i∈r.l.take i
  .right;obtain⟨m2,h1,h2⟩:=Kk hm 2;have hw:wr .i64 (pp (lH (r.l.take i)) 0 (gt r.l i)+1)=2:=by rw[vM,if_pos hm];rfl
   have hd:decide ((2:Int)>1)=true:=rfl;refine⟨.inl false,by simp only[iE,fz hi,cond_true,bm hi,ae,hw,h1,h2,hd,Bool.or_true],rfl,fun hh=>?_⟩;have h3:=hh.1;rw[hsplit]at h3;exact(cE.1 h3).2.2 _ hm _ (List.mem_cons_self ..) rfl
  .have h1:=Kl hm;have hw:wr .i64 (pp (lH (r.l.take i)) 0 (gt r.l i)+1)=1:=by rw[vM,if_neg hm];rfl
   have h2:pp (lH (r.l.take i++[gt r.l i])) 0 (gt r.l i)=1:=by rw[vM,if_pos (by simp)]
   have hd:decide ((1:Int)>1)=false:=rfl;have hc:((((decide (((gt r.l i).sw)<0))||(decide (((gt r.l i).sw)>=t.aU)))||(decide (((gt r.l i).Ae)<0)))||(decide (((gt r.l i).Ae)>=8)))=true<->¬ie t (gt r.l i):=by simp only[cA,decide_eq_true_eq,ie];omega
   by_cases hp:ie t (gt r.l i)
   .left;have hc2:((((decide (((gt r.l i).sw)<0))||(decide (((gt r.l i).sw)>=t.aU)))||(decide (((gt r.l i).Ae)<0)))||(decide (((gt r.l i).Ae)>=8)))=false:=by rw[<-Bool.not_eq_true];exact fun h=>hc.1 h hp
    refine⟨lH (r.l.take (i+1)),by simp only[iE,fz hi,cond_true,bm hi,ae,hw,h1,h2,hd,mr,hc2,cond_false,gB (show i<9223372036854775807 by omega),et],rfl,?_,?_⟩
    .rw [et];exact cE.2 ⟨hnd,by simp,fun a ha b hb=>by rw[av]at hb;subst hb;exact fun e=>hm (e▸ha)⟩
    .intro p hpm;rw[et]at hpm;rcases au.1 hpm with h|h
     .exact hok p h
     .rw [av]at h;subst h;exact hp
   .right;exact⟨.inl false,by simp only[iE,fz hi,cond_true,bm hi,ae,hw,h1,h2,hd,mr,hc.2 hp],rfl,fun hh=>hp (hh.2 _ hgm)⟩
 .rintro m ⟨_,hnd,hok⟩;rw[f_]at hnd hok;exact⟨.inr (),by simp only[iE,gk,cond_false],hnd,hok⟩
 .rw [e0]at q1;exact⟨b,q1,q2⟩
theorem EY{t:af}:nI t=some (decide (kS t)):=by
 unfold nI;by_cases hs:(1<=t.aU/\t.aU<=8)/\t.aY.l.length<=24/\t.aN.l.length<=8
 .have hc:((((decide (t.aU<1))||(decide (t.aU>8)))||(decide ((t.aY.l.length:Int)>24)))||(decide ((t.aN.l.length:Int)>8)))=false:=by simp only[fw,decide_eq_false_iff_not];omega
  have hl:=Av (f:=lW t) t.aY.l (fun l=>((((l.A==l.B)||(decide (l.pw<1)))||(decide (l.pw>l.lS)))||(decide (l.lS>1000)))) (by omega) (fun i hi=>by simp only[lW,fz hi,cond_true,bm hi,ae];generalize((((gt t.aY.l i).A==(gt t.aY.l i).B)||_)||_||_)=c;cases c<;>rfl) (by simp only[lW,gk,cond_false]);have hlk:∀l:bi,((((l.A==l.B)||(decide (l.pw<1)))||(decide (l.pw>l.lS)))||(decide (l.lS>1000)))=false<->qo l:=fun l=>by simp only[fw,beq_eq_false_iff_ne,decide_eq_false_iff_not,qo];omega
  rw[hc,cond_false,hl];by_cases hlo:∀l∈t.aY.l,qo l
  .rw [if_pos (fun l hm=>(hlk l).2 (hlo l hm))];simp only[ae];obtain⟨s,p1,p2⟩:=Dn hs.2.1 hs.2.2;have hpl:=FB hs.2.1 hs.2.2;obtain⟨b,q1,q2⟩:=Gm (t:=t) (r:=s) (by rw[p2];omega);simp only[p1,ae,q1];rw[p2]at q2;cases b with|inl v=>obtain⟨rfl,q2⟩:=q2;exact congrArg some (decide_eq_false fun h:kS t=>q2 ⟨h.nodup,h.rp⟩).symm|inr _=>exact congrArg some (decide_eq_true ⟨hs.1,hs.2.1,hs.2.2,hlo,q2.1,q2.2⟩).symm
  .rw [if_neg (fun h=>hlo fun l hm=>(hlk l).1 (h l hm))];exact congrArg some (decide_eq_false fun h=>hlo h.O8).symm
 .have hc:((((decide (t.aU<1))||(decide (t.aU>8)))||(decide ((t.aY.l.length:Int)>24)))||(decide ((t.aN.l.length:Int)>8)))=true:=by simp only[cA,decide_eq_true_eq];omega
  rw[hc,cond_true];exact congrArg some (decide_eq_false fun h=>hs ⟨h.sw,h.xx,h.qd⟩).symm
def sL(sw p:Int)(i:Nat)(l:bi):Option (Int×Int×Int):=if sw=l.A/\p=l.j3 then some (l.B,l.jZ,(i:Int))else if sw=l.B/\p=l.jZ then some (l.A,l.j3,(i:Int))else none
theorem CY{α β γ:Type}{P:Nat->α->Option β}(g:β->γ):∀{l:List α}{i:Nat},lP (fun i x=>(P i x).map g) l i=(lP P l i).map g:=by
 intro l;induction l with
 |nil=>intro i;rfl
 |cons x l ih=>intro i;simp only[lP];cases P i x with|none=>exact ih|some b=>rfl
def q4(q:Int×Int×Int):Int×Int×Int×Bool:=(q.1,q.2.1,q.2.2,true)
def jb(t:af)(sw p:Int):Int×Int×Int×Bool:=match lP (sL sw p) t.aY.l 0 with|some (a,b,c)=>(a,b,c,true)|none=>(0,0,0,false)
theorem H6(a b sw p:Int):decide ((⟨sw,p⟩:bp)=⟨a,b⟩)=decide (sw=a/\p=b):=by rw[bT];simp
theorem AU{t:af}(sw p:Int)(hb:t.aY.l.length<9223372036854775808):nJ t sw p=some (jb t sw p):=by
 have h:=tn (f:=mX t sw p) t.aY.l (fun i l=>(sL sw p i l).map q4) () hb (fun i hi=>by
  simp only[mX,fz hi,cond_true,bm hi,ae,H6,sL];by_cases h1:sw=(gt t.aY.l i).A/\p=(gt t.aY.l i).j3
  .rw [if_pos h1,decide_eq_true h1];rfl
  .by_cases h2:sw=(gt t.aY.l i).B/\p=(gt t.aY.l i).jZ
   .rw [if_neg h1,if_pos h2,decide_eq_false h1,decide_eq_true h2];rfl
   .rw [if_neg h1,if_neg h2,decide_eq_false h1,decide_eq_false h2];rfl) (by simp only[mX,gk,cond_false])
 simp only[nJ,h,ae,CY,jb];cases lP (sL sw p) t.aY.l 0 with|none=>rfl|some q=>obtain⟨a,b,c⟩:=q;rfl
theorem vz{t:af}(sw p:Int)(hb:t.aY.l.length<9223372036854775808):pY t sw p=some (jb t sw p):=by
 have h:=tn (f:=ow t sw p) t.aY.l (fun i l=>(sL sw p i l).map q4) () hb (fun i hi=>by
  have c1:(((gt t.aY.l i).A==sw)&&((gt t.aY.l i).j3==p))=decide (sw=(gt t.aY.l i).A/\p=(gt t.aY.l i).j3):=by rw[bT];simp only[ai,beq_iff_eq,decide_eq_true_eq];omega
  have c2:(((gt t.aY.l i).B==sw)&&((gt t.aY.l i).jZ==p))=decide (sw=(gt t.aY.l i).B/\p=(gt t.aY.l i).jZ):=by rw[bT];simp only[ai,beq_iff_eq,decide_eq_true_eq];omega
  simp only[ow,fz hi,cond_true,bm hi,ae,c1,c2,sL];by_cases h1:sw=(gt t.aY.l i).A/\p=(gt t.aY.l i).j3
  .rw [if_pos h1,decide_eq_true h1];rfl
  .by_cases h2:sw=(gt t.aY.l i).B/\p=(gt t.aY.l i).jZ
   .rw [if_neg h1,if_pos h2,decide_eq_false h1,decide_eq_true h2];rfl
   .rw [if_neg h1,if_neg h2,decide_eq_false h1,decide_eq_false h2];rfl) (by simp only[ow,gk,cond_false])
 simp only[pY,h,ae,CY,jb];cases lP (sL sw p) t.aY.l 0 with|none=>rfl|some q=>obtain⟨a,b,c⟩:=q;rfl
theorem GY{t:af}(hV:kS t){sw p a b c:Int}(h:lP (sL sw p) t.aY.l 0=some (a,b,c)):0<=a/\a<t.aU:=by
 obtain⟨j,l,h1,h2,_⟩:=nL h;have hm:l∈t.aY.l:=bk h1;have hA:ie t ⟨l.A,l.j3⟩:=hV.rp _ (aG _ (dn.2 ⟨l,hm,by simp⟩));have hB:ie t ⟨l.B,l.jZ⟩:=hV.rp _ (aG _ (dn.2 ⟨l,hm,by simp⟩));unfold sL at h2;split at h2
 .obtain ⟨rfl,_⟩:=ad (aa h2);exact hB.1
 .split at h2
  .obtain ⟨rfl,_⟩:=ad (aa h2);exact hA.1
  .simp at h2
instance(t:af)(p:bp):Decidable (ie t p):=inferInstanceAs (Decidable ((0<=p.sw/\p.sw<t.aU)/\0<=p.Ae/\p.Ae<8))
def oe(l:bi):List bp:=[⟨l.A,l.j3⟩,⟨l.B,l.jZ⟩]
def xC(h:cW):List bp:=[⟨h.At,h.h_⟩]
theorem uc(t:af):dY t=t.aY.l.flatMap oe++t.aN.l.flatMap xC:=rfl
theorem IZ(a b q:bp):[a,b].count q=(if a=q then 1 else 0)+(if b=q then 1 else 0):=by by_cases h1:a=q<;>by_cases h2:b=q<;>simp[h1,h2]
theorem AT(a b sw p:Int):((a==sw)&&(b==p))=decide ((⟨a,b⟩:bp)=⟨sw,p⟩):=by rw[bT];simp
theorem Ht(a b:Bool):(bif a then some b else some false)=some (a&&b):=by cases a<;>rfl
def wF(t:af)(sw p:Int):Bool:=decide (ie t ⟨sw,p⟩/\(dY t).count ⟨sw,p⟩=1)
theorem AS{t:af}(hl:t.aY.l.length<=30)(hh:t.aN.l.length<=12)(sw p:Int):nV t sw p=some (wF t sw p):=by
 have e0:((0:Nat):Int)=0:=rfl
 have h1:∃b,bc (mb t sw p) (0,0)=some b/\b=((t.aY.l.flatMap oe).count ⟨sw,p⟩:Nat)/\(t.aY.l.flatMap oe).count ⟨sw,p⟩<=60:=by
  refine zu (f:=mb t sw p) (fun i(n:Nat)=>((n:Int),(i:Int))) t.aY.l.length (fun i n=>n=((t.aY.l.take i).flatMap oe).count ⟨sw,p⟩/\n<=2*i)
   (fun b=>b=((t.aY.l.flatMap oe).count ⟨sw,p⟩:Nat)/\(t.aY.l.flatMap oe).count ⟨sw,p⟩<=60) ?_ ?_ 0 0 (cO _) ⟨by simp,by omega⟩ (fun b q1 q2=>⟨b,by rw[e0]at q1;exact q1,q2⟩)
  .rintro i n hi ⟨hn,hle⟩;left;have et:t.aY.l.take (i+1)=t.aY.l.take i++[gt t.aY.l i]:=by rw[dV hi,dl hi]
   have hc:((t.aY.l.take (i+1)).flatMap oe).count ⟨sw,p⟩=n+((if(⟨(gt t.aY.l i).A,(gt t.aY.l i).j3⟩:bp)=⟨sw,p⟩then 1 else 0)+(if(⟨(gt t.aY.l i).B,(gt t.aY.l i).jZ⟩:bp)=⟨sw,p⟩then 1 else 0)):=by rw[et,iB,List.count_append,<-hn];simp only[bf,List.flatMap_nil,bR,oe,IZ]
   have w1:wr .i64 ((n:Int)+1)=((n+1:Nat):Int):=gB (by omega);have w2:wr .i64 (((n+1:Nat):Int)+1)=((n+1+1:Nat):Int):=gB (by omega);have w3:=gB (show i<9223372036854775807 by omega);refine⟨n+((if(⟨(gt t.aY.l i).A,(gt t.aY.l i).j3⟩:bp)=⟨sw,p⟩then 1 else 0)+(if(⟨(gt t.aY.l i).B,(gt t.aY.l i).jZ⟩:bp)=⟨sw,p⟩then 1 else 0)),?_,hc.symm,?_⟩
   .simp only[mb,fz hi,cond_true,bm hi,ae,AT,w3];split<;>rename_i c1<;>split<;>rename_i c2
    .rw [decide_eq_true c1,decide_eq_true c2];simp only[cond_true,ae,w1,w2]
    .rw [decide_eq_true c1,decide_eq_false c2];simp only[cond_true,cond_false,ae,w1]
    .rw [decide_eq_false c1,decide_eq_true c2];simp only[cond_true,cond_false,ae,w1,Nat.zero_add]
    .rw [decide_eq_false c1,decide_eq_false c2];simp only[cond_false,ae,di]
   .split<;>split<;>omega
  .rintro n ⟨hn,hle⟩;rw[f_]at hn;exact⟨(n:Int),by simp only[mb,gk,cond_false],by rw[hn],by rw[<-hn];omega⟩
 obtain⟨b1,h1,rfl,hb1⟩:=h1;generalize hk:(t.aY.l.flatMap oe).count ⟨sw,p⟩=k at*
 have h2:∃b,bc (ma t sw p) ((k:Int),0)=some b/\b=((dY t).count ⟨sw,p⟩:Nat):=by
  refine zu (f:=ma t sw p) (fun i(n:Nat)=>((n:Int),(i:Int))) t.aN.l.length (fun i n=>n=k+((t.aN.l.take i).flatMap xC).count ⟨sw,p⟩/\n<=k+i)
   (fun b=>b=((dY t).count ⟨sw,p⟩:Nat)) ?_ ?_ 0 k (cO _) ⟨by simp,by omega⟩ (fun b q1 q2=>⟨b,by rw[e0]at q1;exact q1,q2⟩)
  .rintro i n hi ⟨hn,hle⟩;left;have et:t.aN.l.take (i+1)=t.aN.l.take i++[gt t.aN.l i]:=by rw[dV hi,dl hi]
   have hc:k+((t.aN.l.take (i+1)).flatMap xC).count ⟨sw,p⟩=n+(if(⟨(gt t.aN.l i).At,(gt t.aN.l i).h_⟩:bp)=⟨sw,p⟩then 1 else 0):=by rw[et,iB,List.count_append,hn];simp only[bf,List.flatMap_nil,bR,xC];by_cases h:(⟨(gt t.aN.l i).At,(gt t.aN.l i).h_⟩:bp)=⟨sw,p⟩<;>simp[h]<;>omega
   have w1:wr .i64 ((n:Int)+1)=((n+1:Nat):Int):=gB (by omega);have w3:=gB (show i<9223372036854775807 by omega);refine⟨n+(if(⟨(gt t.aN.l i).At,(gt t.aN.l i).h_⟩:bp)=⟨sw,p⟩then 1 else 0),?_,hc.symm,?_⟩
   .simp only[ma,fz hi,cond_true,bm hi,ae,Ht,AT,w3];split<;>rename_i c1
    .rw [decide_eq_true c1];simp only[cond_true,ae,w1]
    .rw [decide_eq_false c1];simp only[cond_false,ae,di]
   .split<;>omega
  .rintro n ⟨hn,hle⟩;rw[f_]at hn;exact⟨(n:Int),by simp only[ma,gk,cond_false],by rw[uc,List.count_append,hk,<-hn]⟩
 obtain⟨b2,h2,rfl⟩:=h2;simp only[nV,h1,ae,h2];congr 1;rw[bT,wF];generalize(dY t).count ⟨sw,p⟩=m;constructor
 .intro h;simp only[ai,decide_eq_true_eq,beq_iff_eq]at h;obtain⟨⟨⟨⟨a,b⟩,c⟩,d⟩,e⟩:=h;exact decide_eq_true ⟨⟨⟨a,b⟩,c,(by omega:p<8)⟩,by omega⟩
 .intro h;obtain⟨⟨⟨a,b⟩,c,d⟩,e⟩:=of_decide_eq_true h;have a:0<=sw:=a;have b:sw<t.aU:=b;have c:0<=p:=c;have d:p<8:=d;simp only[ai,decide_eq_true_eq,beq_iff_eq];exact⟨⟨⟨⟨a,b⟩,c⟩,by omega⟩,by omega⟩
theorem xu{l:List bp}:l.Nodup<->∀p∈l,l.count p=1:=by
 rw[List.nodup_iff_count];constructor
 .intro h p hp;have h1:=h p;have h2:=List.count_pos_iff.2 hp;omega
 .intro h p;by_cases hp:p∈l
  .rw [h p hp];exact aw _
  .rw [List.count_eq_zero_of_not_mem hp];omega
theorem HX{t:af}(hl:t.aY.l.length<=30)(hh:t.aN.l.length<=12):qG t=some (decide (kS t)):=by
 unfold qG;by_cases hs:(1<=t.aU/\t.aU<=8)/\t.aY.l.length<=24/\t.aN.l.length<=8
 .have hc:((((decide (t.aU<1))||(decide (t.aU>8)))||(decide ((t.aY.l.length:Int)>24)))||(decide ((t.aN.l.length:Int)>8)))=false:=by simp only[fw,decide_eq_false_iff_not];omega
  have h1:=Av (f:=m_ t) t.aY.l (fun l=>((l.A==l.B)||(decide (l.pw<1)||(decide (l.pw>l.lS)||(decide (l.lS>1000)||
    (!(wF t l.A l.j3)||!(wF t l.B l.jZ))))))) (by omega) (fun i hi=>by
   simp only[m_,fz hi,cond_true,bm hi,ae,AS hl hh];generalize((gt t.aY.l i).A==(gt t.aY.l i).B)=b1;generalize decide ((gt t.aY.l i).pw<1)=b2;generalize decide ((gt t.aY.l i).pw>(gt t.aY.l i).lS)=b3;generalize decide ((gt t.aY.l i).lS>1000)=b4;generalize wF t (gt t.aY.l i).A (gt t.aY.l i).j3=b5;generalize wF t (gt t.aY.l i).B (gt t.aY.l i).jZ=b6;cases b1<;>cases b2<;>cases b3<;>cases b4<;>cases b5<;>cases b6<;>rfl) (by simp only[m_,gk,cond_false])
  have h2:=Av (f:=m9 t) t.aN.l (fun h=>!(wF t h.At h.h_)) (by omega) (fun i hi=>by simp only[m9,fz hi,cond_true,bm hi,ae,AS hl hh];generalize wF t (gt t.aN.l i).At (gt t.aN.l i).h_=b;cases b<;>rfl) (by simp only[m9,gk,cond_false])
  have hlk:∀l:bi,((l.A==l.B)||(decide (l.pw<1)||(decide (l.pw>l.lS)||(decide (l.lS>1000)||
    (!(wF t l.A l.j3)||!(wF t l.B l.jZ))))))=false<->
    qo l/\∀p∈oe l,ie t p/\(dY t).count p=1:=fun l=>by
   simp only[wF,fw,beq_eq_false_iff_ne,decide_eq_false_iff_not,qo,Bool.not_eq_false',decide_eq_true_eq,oe,List.mem_cons,List.not_mem_nil,or_false,forall_eq_or_imp,forall_eq];constructor
   .rintro ⟨a,b,c,d,e,f⟩;exact⟨⟨a,by omega,by omega,by omega⟩,e,f⟩
   .rintro ⟨⟨a,b,c,d⟩,e,f⟩;exact⟨a,by omega,by omega,by omega,e,f⟩
  have hho:∀h:cW,(!(wF t h.At h.h_))=false<->∀p∈xC h,ie t p/\(dY t).count p=1:=fun h=>by simp only[wF,Bool.not_eq_false',decide_eq_true_eq,xC,av,forall_eq]
  have hV:kS t<->(∀l∈t.aY.l,qo l/\∀p∈oe l,ie t p/\(dY t).count p=1)/\∀h∈t.aN.l,∀p∈xC h,ie t p/\(dY t).count p=1:=by
   constructor
   .intro hV;have hc:=xu.1 hV.nodup;refine⟨fun l hl=>⟨hV.O8 l hl,fun p hp=>?_⟩,fun h hh p hp=>?_⟩
    .have hm:p∈dY t:=by rw[uc];exact aG _ (dn.2 ⟨l,hl,hp⟩)
     exact⟨hV.rp p hm,hc p hm⟩
    .have hm:p∈dY t:=by rw[uc];exact List.mem_append_right _ (dn.2 ⟨h,hh,hp⟩)
     exact⟨hV.rp p hm,hc p hm⟩
   .rintro ⟨ha,hb⟩
    have all:∀p∈dY t,ie t p/\(dY t).count p=1:=by
     intro p hp;rw[uc]at hp;rcases au.1 hp with h|h
     .obtain ⟨l,hl,hp⟩:=dn.1 h;exact(ha l hl).2 p hp
     .obtain ⟨x,hx,hp⟩:=dn.1 h;exact hb x hx p hp
    exact⟨hs.1,hs.2.1,hs.2.2,fun l hl=>(ha l hl).1,xu.2 fun p hp=>(all p hp).2,fun p hp=>(all p hp).1⟩
  rw[hc,cond_false,h1];by_cases c1:∀l∈t.aY.l,qo l/\∀p∈oe l,ie t p/\(dY t).count p=1
  .rw [if_pos (fun l hm=>(hlk l).2 (c1 l hm))];simp only[ae,h2];by_cases c2:∀h∈t.aN.l,∀p∈xC h,ie t p/\(dY t).count p=1
   .rw [if_pos (fun h hm=>(hho h).2 (c2 h hm))];exact congrArg some (decide_eq_true (hV.2 ⟨c1,c2⟩)).symm
   .rw [if_neg (fun h=>c2 fun x hm=>(hho x).1 (h x hm))];exact congrArg some (decide_eq_false fun h=>c2 (hV.1 h).2).symm
  .rw [if_neg (fun h=>c1 fun l hm=>(hlk l).1 (h l hm))];exact congrArg some (decide_eq_false fun h=>c1 (hV.1 h).1).symm
 .have hc:((((decide (t.aU<1))||(decide (t.aU>8)))||(decide ((t.aY.l.length:Int)>24)))||(decide ((t.aN.l.length:Int)>8)))=true:=by simp only[cA,decide_eq_true_eq];omega
  rw[hc,cond_true];exact congrArg some (decide_eq_false fun h=>hs ⟨h.sw,h.xx,h.qd⟩).symm
end Go.Proofs.YthcplpfiidlinaaDoor.J
