/- Loops P1 lists, and topologies: what Right and Peer answer. Conditions: as stated. -/
import Derived.Test.YthcplpfiidlinaaDoorJ
open Go.Ev Go
noncomputable section
open Bool renaming or_eq_false_iff->gb,or_eq_true->cJ
open List renaming drop_eq_getElem_cons->dG,getElem?_eq_some_iff->ak,getElem_of_mem->cj,length_append->az,length_take->cF,mem_append_left->aE,mem_flatMap->cn,mem_of_getElem?->aW,mem_singleton->am,nodup_append->bV,take_append_getElem->cU,take_length->fY
open Nat renaming sub_zero->ki,zero_le->cX
open Option renaming bind_some->af,map_eq_some_iff->aF,map_some->bL
open Option.some renaming inj->aa
open Prod.mk renaming inj->ad
namespace Go.Proofs.YthcplpfiidlinaaDoor.J
theorem ir{n:Int}(h0:-9223372036854775808<=n)(h1:n<9223372036854775808):wr .i64 n=n:=by simp[wr,IntKind.wrap,IntKind.bits,IntKind.signed];omega
theorem PB{S β:Type}{f:S->Option (Sum S β)}(m:S->Nat)(I:S->Prop)(R:β->Prop)
  (hstep:∀s,I s->(∃s',f s=some (.inl s')/\I s'/\m s'<m s)\/(∃b,f s=some (.inr b)/\R b)):∀s,I s->∃b,bE f s=some b/\R b:=by
 have:∀(n:Nat)(s:S),m s<=n->I s->∃b,bE f s=some b/\R b:=by
  intro n;induction n with
  |zero=>
   intro s hn hI;rcases hstep s hI with⟨s',_,_,h⟩|⟨b,h1,h2⟩
   .omega
   .exact ⟨b,ct h1,h2⟩
  |succ n ih=>
   intro s hn hI;rcases hstep s hI with⟨s',h1,h2,h3⟩|⟨b,h1,h2⟩
   .obtain ⟨b,h4,h5⟩:=ih s' (by omega) h2;exact⟨b,(dh h1).trans h4,h5⟩
   .exact ⟨b,ct h1,h2⟩
 exact fun s=>this (m s) s (Nat.le_refl _)
theorem F4{S σ β:Type}{f:S->Option (Sum S β)}(st:Nat->σ->S)(n:Nat)(I:Nat->σ->Prop)(R:β->Prop)
  (hstep:∀i s,i<n->I i s->(∃s',f (st i s)=some (.inl (st (i+1) s'))/\I (i+1) s')\/(∃b,f (st i s)=some (.inr b)/\R b))
  (hend:∀s,I n s->∃b,f (st n s)=some (.inr b)/\R b):∀i s,i<=n->I i s->∃b,bE f (st i s)=some b/\R b:=by
 have:∀(k i:Nat)(s:σ),i+k=n->I i s->∃b,bE f (st i s)=some b/\R b:=by
  intro k;induction k with
  |zero=>
   intro i s hi hI;obtain rfl:i=n:=by omega
   obtain⟨b,h1,h2⟩:=hend s hI;exact⟨b,ct h1,h2⟩
  |succ k ih=>
   intro i s hi hI;rcases hstep i s (by omega) hI with⟨s',h1,h2⟩|⟨b,h1,h2⟩
   .obtain ⟨b,h4,h5⟩:=ih (i+1) s' (by omega) h2;exact⟨b,(dh h1).trans h4,h5⟩
   .exact ⟨b,ct h1,h2⟩
 exact fun i s hi=>this (n-i) i s (by omega)
theorem LQ{S σ β:Type}{goal:Prop}{f:S->Option (Sum S β)}(st:Nat->σ->S)(n:Nat)(I:Nat->σ->Prop)(R:β->Prop)
  (hstep:∀i s,i<n->I i s->(∃s',f (st i s)=some (.inl (st (i+1) s'))/\I (i+1) s')\/(∃b,f (st i s)=some (.inr b)/\R b))
  (hend:∀s,I n s->∃b,f (st n s)=some (.inr b)/\R b) (i:Nat) (s:σ) (hi:i<=n) (hI:I i s) (k:∀b,bE f (st i s)=some b->R b->goal):goal:=
 let⟨b,h1,h2⟩:=F4 st n I R hstep hend i s hi hI
 k b h1 h2
theorem PC{S β:Type}{goal:Prop}{f:S->Option (Sum S β)}(m:S->Nat)(I:S->Prop)(R:β->Prop)
  (hstep:∀s,I s->(∃s',f s=some (.inl s')/\I s'/\m s'<m s)\/(∃b,f s=some (.inr b)/\R b)) (s:S) (hI:I s) (k:∀b,bE f s=some b->R b->goal):goal:=
 let⟨b,h1,h2⟩:=PB m I R hstep s hI
 k b h1 h2
theorem jo{i n:Nat}(h:i<n):decide ((i:Int)<(n:Int))=true:=by rw[decide_eq_true_eq];omega
theorem kG{n:Nat}:decide ((n:Int)<(n:Int))=false:=by rw[decide_eq_false_iff_not];omega
theorem lp{i:Nat}(h:i<9223372036854775807):wr .i64 ((i:Int)+1)=((i+1:Nat):Int):=by rw[ir (by omega) (by omega)];omega
def lQ{α β:Type}(P:Nat->α->Option β):List α->Nat->Option β
 |[],_=>none
 |x::r,i=>match P i x with|some b=>some b|none=>lQ P r (i+1)
theorem wP{α β γ:Type}[Inhabited α]{f:Int->Option (Sum Int (Sum β γ))}(l:List α)(P:Nat->α->Option β)(c:γ)(hb:l.length<9223372036854775808)
  (hstep:∀i:Nat,i<l.length->f (i:Int)=some (match P i (gt l i)with|some b=>.inr (.inl b)|none=>.inl (wr .i64 ((i:Int)+1)))) (hend:f (l.length:Int)=some (.inr (.inr c))):
  bE f 0=some (match lQ P l 0 with|some b=>.inl b|none=>.inr c):=by
 have main:∀(n i:Nat),i+n=l.length->bE f (i:Int)=some (match lQ P (l.drop i) i with|some b=>.inl b|none=>.inr c):=by
  intro n;induction n with
  |zero=>
   intro i hi;obtain rfl:i=l.length:=by omega
   rw[ct hend,List.drop_length];rfl
  |succ n ih=>
   intro i hi;have hlt:i<l.length:=by omega
   have hs:=hstep i hlt;rw[dG hlt,<-cY hlt];simp only[lQ];cases hP:P i (gt l i)with|some b=>rw[hP]at hs;rw[ct hs]|none=>rw[hP]at hs;simp only at hs;rw[lp (by omega)]at hs;rw[dh hs,ih (i+1) (by omega)]
 have:=main l.length 0 (by omega);simpa using this
theorem ny{α β:Type}{P:Nat->α->Option β}:∀{l:List α}{i:Nat},lQ P l i=none<->∀j(x:α),l[j]?=some x->P (i+j) x=none:=by
 intro l;induction l with
 |nil=>intro i;simp[lQ]
 |cons y l ih=>
  intro i;simp only[lQ];constructor
  .intro h j x hj;split at h
   .simp at h
   .rename_i hP;cases j with
    |zero=>
     obtain rfl:y=x:=by simpa using hj
     exact hP
    |succ j=>have:=ih.1 h j x (by simpa using hj);rw[show i+(j+1)=i+1+j by omega];exact this
  .intro h;have h0:=h 0 y rfl;rw[Nat.add_zero]at h0;rw[h0];exact ih.2 fun j x hj=>by have:=h (j+1) x (by simpa using hj);rw[show i+(j+1)=i+1+j by omega]at this;exact this
theorem nw{α β:Type}{P:Nat->α->Option β}:∀{l:List α}{i:Nat}{b:β},lQ P l i=some b->∃j x,l[j]?=some x/\P (i+j) x=some b/\∀k,k<j->∀y,l[k]?=some y->P (i+k) y=none:=by
 intro l;induction l with
 |nil=>intro i b h;simp[lQ]at h
 |cons y l ih=>
  intro i b h;simp only[lQ]at h;split at h
  .rename_i b' hP;obtain rfl:=aa h;exact⟨0,y,rfl,hP,fun k hk=>by omega⟩
  .rename_i hP;obtain⟨j,x,h1,h2,h3⟩:=ih h;refine⟨j+1,x,by simpa using h1,by rw[show i+(j+1)=i+1+j by omega];exact h2,fun k hk z hz=>?_⟩;cases k with
   |zero=>
    obtain rfl:y=z:=by simpa using hz
    exact hP
   |succ k=>rw[show i+(k+1)=i+1+k by omega];exact h3 k (by omega) z (by simpa using hz)
theorem CM{α:Type}{p:α->Bool}{l:List α}{i:Nat}:lQ (fun _ x=>if p x then some false else none) l i=none<->∀x∈l,p x=false:=by
 rw[ny];constructor
 .intro h x hx;obtain⟨j,hj,rfl⟩:=cj hx;have:=h j l[j] (by simp[hj]);cases hp:p l[j]
  .rfl
  .rw [hp]at this;simp at this
 .intro h j x hj;rw[h x (aW hj)];rfl
theorem Q9{α:Type}[Inhabited α]{f:Int->Option (Sum Int (Sum Bool Unit))}(l:List α)(p:α->Bool)(hb:l.length<9223372036854775808)
  (hstep:∀i:Nat,i<l.length->f (i:Int)=some (bif p (gt l i)then .inr (.inl false)else .inl (wr .i64 ((i:Int)+1)))) (hend:f (l.length:Int)=some (.inr (.inr ()))):
  bE f 0=some (if∀x∈l,p x=false then .inr ()else .inl false):=by
 rw[wP l (fun _ x=>if p x then some false else none) () hb (fun i hi=>by rw[hstep i hi];cases p (gt l i)<;>rfl) hend];cases h:lQ (fun _ x=>if p x then some false else none) l 0 with
 |none=>rw[if_pos (CM.1 h)]
 |some u=>
  obtain⟨j,x,_,h2,_⟩:=nw h;split at h2
  .obtain rfl:=aa h2;rw[if_neg];intro hn;rw[CM.2 hn]at h;simp at h
  .simp at h2
theorem Ut{α β:Type}[Inhabited α]{f:(Int×Sl β)->Option (Sum (Int×Sl β) (Sl β))}(l:List α)(g:Nat->α->List β)(s0:Sl β)(hb:l.length<9223372036854775808)
  (hstep:∀(i:Nat)(s:Sl β),i<l.length->s.l=s0.l++((l.take i).zipIdx.flatMap fun p=>g p.2 p.1)->∃s',f ((i:Int),s)=some (.inl (wr .i64 ((i:Int)+1),s'))/\s'.l=s.l++g i (gt l i))
  (hend:∀s,f ((l.length:Int),s)=some (.inr s)):∃s,bE f (0,s0)=some s/\s.l=s0.l++(l.zipIdx.flatMap fun p=>g p.2 p.1):=by
 have e0:((0:Nat):Int)=0:=rfl;refine LQ (f:=f) (fun i(s:Sl β)=>((i:Int),s)) l.length (fun i s=>s.l=s0.l++((l.take i).zipIdx.flatMap fun p=>g p.2 p.1)) (fun s=>s.l=s0.l++(l.zipIdx.flatMap fun p=>g p.2 p.1)) ?_ ?_ 0 s0 (cX _) (by simp) (fun b q1 q2=>?_)
 .intro i s hi hI;obtain⟨s',h1,h2⟩:=hstep i s hi hI;refine .inl ⟨s',by rw[h1,lp (by omega)],?_⟩;have et:l.take (i+1)=l.take i++[gt l i]:=by rw[cY hi,cU hi]
  rw[h2,hI,et,List.zipIdx_append,List.flatMap_append,List.append_assoc];simp[Nat.min_eq_left (Nat.le_of_lt hi)]
 .intro s hI;refine⟨s,hend s,?_⟩;rw[fY]at hI;exact hI
 .rw [e0]at q1;exact⟨b,q1,q2⟩
theorem DK{α β:Type}[Inhabited α]{f:(Int×Sl β)->Option (Sum (Int×Sl β) (Sl β))}(l:List α)(g:α->List β)(s0:Sl β)(hb:l.length<9223372036854775808)
  (hstep:∀(i:Nat)(s:Sl β),i<l.length->s.l=s0.l++(l.take i).flatMap g->∃s',f ((i:Int),s)=some (.inl (wr .i64 ((i:Int)+1),s'))/\s'.l=s.l++g (gt l i))
  (hend:∀s,f ((l.length:Int),s)=some (.inr s)):∃s,bE f (0,s0)=some s/\s.l=s0.l++l.flatMap g:=by
 have key:∀(l:List α)(k:Nat),((l.zipIdx k).flatMap fun p=>g p.1)=l.flatMap g:=fun l=>by induction l with|nil=>intro k;rfl|cons x l ih=>intro k;simp[List.zipIdx_cons,ih]
 obtain⟨s,h1,h2⟩:=Ut l (fun _ x=>g x) s0 hb (fun i s hi hs=>hstep i s hi (by rw[hs,key])) hend;exact⟨s,h1,by rw[h2,key]⟩
section
variable{κ ν:Type}
theorem sE[DecidableEq κ]{k:κ}:∀{l:List (κ×ν×Nat)}{i:Nat},iB k l i=none<->∀e∈l,k≠e.1:=by
 intro l;induction l with
 |nil=>intro i;simp[iB]
 |cons x l ih=>
  intro i;simp only[iB];by_cases h:k=x.1
  .simp [h]
  .simp [h,ih]
theorem FG[DecidableEq κ]{k:κ}{v:ν}:∀{l:List (κ×ν×Nat)}{i j:Nat}{e:κ×ν×Nat},iB k l i=some (j,e)->iB k (sD l (j-i) v) i=some (j,(e.1,v,e.2.2)):=by
 intro l;induction l with
 |nil=>intro i j e h;simp[iB]at h
 |cons x l ih=>
  intro i j e h;simp only[iB]at h;split at h
  .rename_i hk;obtain⟨rfl,rfl⟩:i=j/\x=e:=by simpa using h
   simp[sD,iB,hk]
  .rename_i hk;obtain⟨h1,_,_⟩:=my h;have e1:j-i=(j-(i+1))+1:=by omega
   rw[e1];simp only[sD,iB,hk,if_false];exact ih h
theorem FF{v:ν}{e:κ×ν×Nat}:∀{l:List (κ×ν×Nat)},sD (l++[e]) l.length v=l++[(e.1,v,e.2.2)]:=by intro l;induction l with|nil=>rfl|cons x l ih=>simp only[List.cons_append,List.length_cons,sD,ih]
theorem xW{l:List (κ×ν×Nat)}(h:∀(i:Nat)(e:κ×ν×Nat),l[i]?=some e->e.2.2=i){j:Nat}(hj:j<l.length):l.findIdx? (fun e=>decide ((e.2.2:Int)=(j:Int)))=some j:=by
 rw[List.findIdx?_eq_some_iff_getElem];refine⟨hj,?_,fun k hk=>?_⟩
 .have:=h j l[j] (by simp);simp[this]
 .have:=h k (l[k]'(by omega)) (by simp);simp only[this,decide_eq_true_eq];omega
end
def lw{κ:Type}(l:List κ):Mp κ Int:=⟨l.zipIdx.map fun q=>(q.1,1,q.2),l.length⟩
theorem vf{κ:Type}{l:List κ}{i:Nat}{e:κ×Int×Nat}(h:(lw l).es[i]?=some e):l[i]?=some e.1/\e.2.1=1/\e.2.2=i:=by simp only[lw,List.getElem?_map,aF]at h;obtain⟨q,hq,rfl⟩:=h;rw[List.getElem?_zipIdx]at hq;obtain⟨x,hx,rfl⟩:=aF.1 hq;exact⟨hx,rfl,by simp⟩
theorem Dy{κ:Type}{l:List κ}{e:κ×Int×Nat}(h:e∈(lw l).es):e.1∈l:=by obtain⟨i,hi,rfl⟩:=cj h;exact aW (vf (i:=i) (by simp[hi])).1
theorem ve{κ:Type}[DecidableEq κ]{l:List κ}{k:κ}:oP (lw l) 0 k=if k∈l then 1 else 0:=by
 unfold oP;by_cases hk:k∈l
 .rw [if_pos hk];cases h:iB k (lw l).es 0 with|none=>exfalso;rw[sE]at h;obtain⟨i,hi,rfl⟩:=cj hk;refine h (l[i],1,i) ?_ rfl;simp only[lw,List.mem_map];exact⟨(l[i],i),by rw[List.mem_zipIdx_iff_getElem?];simp[hi],rfl⟩|some p=>obtain⟨j,e⟩:=p;obtain⟨_,h2,_⟩:=my h;exact(vf h2).2.1
 .rw [if_neg hk,sE.2 fun e he hke=>hk (by rw[hke];exact Dy he)]
theorem KV{κ:Type}[DecidableEq κ]{l:List κ}{k:κ}(hk:k∉l):vd (lU (lw l) 0 k).1 (lU (lw l) 0 k).2.2 1=some (lw (l++[k])):=by
 have hf:iB k (lw l).es 0=none:=sE.2 fun e he hke=>hk (by rw[hke];exact Dy he);have he:lU (lw l) 0 k=(⟨(lw l).es++[(k,0,l.length)],l.length+1⟩,0,(l.length:Int)):=by simp only[lU,hf];rfl
 have hlen:(lw l).es.length=l.length:=by simp[lw]
 have eI:((lw l).es++[(k,(0:Int),l.length)]).findIdx? (fun e=>decide ((e.2.2:Int)=(l.length:Int)))=some l.length:=by
  refine xW (fun i e hi=>?_) (by simp[hlen]);rcases Nat.lt_or_ge i (lw l).es.length with h|h
  .rw [List.getElem?_append_left h]at hi;exact(vf hi).2.2
  .rw [List.getElem?_append_right h]at hi;have h0:i-(lw l).es.length=0:=by have:=(ak.1 hi).1;simp at this;omega
   rw[h0]at hi;obtain rfl:(k,(0:Int),l.length)=e:=by simpa using hi
   simp only;omega
 rw[he];simp only[vd,eI,bL];have hp:=FF (v:=(1:Int)) (e:=(k,(0:Int),l.length)) (l:=(lw l).es);rw[hlen]at hp;rw[hp];simp[lw,List.zipIdx_append]
theorem KU{κ:Type}[DecidableEq κ]{l:List κ}{k:κ}(hk:k∈l)(v:Int):∃m,vd (lU (lw l) 0 k).1 (lU (lw l) 0 k).2.2 v=some m/\oP m 0 k=v:=by
 cases h:iB k (lw l).es 0 with
 |none=>have:=@ve κ _ l k;rw[if_pos hk]at this;unfold oP at this;rw[h]at this;simp at this
 |some p=>
  obtain⟨j,e⟩:=p;obtain⟨_,h2,_⟩:=my h;rw[ki]at h2;obtain⟨_,_,h5⟩:=vf h2;have he:lU (lw l) 0 k=(lw l,e.2.1,(e.2.2:Int)):=by simp only[lU,h]
  have hj:j<(lw l).es.length:=(ak.1 h2).1;have eI:=xW (l:=(lw l).es) (fun i e hi=>(vf hi).2.2) hj;refine⟨⟨sD (lw l).es j v,(lw l).fc⟩,by rw[he];simp only[vd,h5,eI,bL],?_⟩;have:=FG (v:=v) h;rw[ki]at this;simp only[oP,this]
def jU(t:ah):List bm:=(t.bS.l.flatMap fun l=>[⟨l.A,l.nq⟩,⟨l.B,l.nn⟩])++t.bf.l.flatMap fun h=>[⟨h.At,h.ot⟩]
def uL(l:bw):Prop:=l.A≠l.B/\1<=l.w9/\l.w9<=l.pP/\l.pP<=1000
def md(t:ah)(p:bm):Prop:=(0<=p.sw/\p.sw<t.bo)/\0<=p.zS/\p.zS<8
structure lh(t:ah):Prop where
 sw:1<=t.bo/\t.bo<=8
 Hc:t.bS.l.length<=24
 rO:t.bf.l.length<=8
 Ql:∀l∈t.bS.l,uL l
 nodup:(jU t).Nodup
 sA:∀p∈jU t,md t p
instance(t:ah):Decidable (lh t):=Classical.propDecidable _
theorem Fm{t:ah}(h1:t.bS.l.length<=24)(h2:t.bf.l.length<=8):(jU t).length<=56:=by
 have e:∀l:List bw,(l.flatMap fun l=>[(⟨l.A,l.nq⟩:bm),⟨l.B,l.nn⟩]).length=2*l.length:=fun l=>by induction l with|nil=>rfl|cons x l ih=>simp[ih];omega
 have e2:∀l:List fK,(l.flatMap fun h=>[(⟨h.At,h.ot⟩:bm)]).length=l.length:=fun l=>by induction l with|nil=>rfl|cons x l ih=>simp[ih]
 rw[jU,az,e,e2];omega
theorem C8{t:ah}(h1:t.bS.l.length<=24)(h2:t.bf.l.length<=8):∃s,mw t=some s/\s.l=jU t:=by
 have e2:∀l:List bw,(l.flatMap fun l=>[(⟨l.A,l.nq⟩:bm),⟨l.B,l.nn⟩]).length=2*l.length:=fun l=>by induction l with|nil=>rfl|cons x l ih=>simp[ih];omega
 have e1:∀l:List fK,(l.flatMap fun h=>[(⟨h.At,h.ot⟩:bm)]).length=l.length:=fun l=>by induction l with|nil=>rfl|cons x l ih=>simp[ih]
 obtain⟨s,k1,k2⟩:=DK (f:=kW t) t.bS.l (fun l=>[⟨l.A,l.nq⟩,⟨l.B,l.nn⟩]) .nil (by omega) (fun i s hi hs=>by have hcap:jF (s.l++[(⟨(gt t.bS.l i).A,(gt t.bS.l i).nq⟩:bm),⟨(gt t.bS.l i).B,(gt t.bS.l i).nn⟩])=some (s.l++[⟨(gt t.bS.l i).A,(gt t.bS.l i).nq⟩,⟨(gt t.bS.l i).B,(gt t.bS.l i).nn⟩]):=jq (by rw[hs,az,az,e2,cF];simp;omega);exact⟨.mk (s.l++[⟨(gt t.bS.l i).A,(gt t.bS.l i).nq⟩,⟨(gt t.bS.l i).B,(gt t.bS.l i).nn⟩]),by simp only[kW,jo hi,cond_true,bA hi,af,hcap],rfl⟩) (fun s=>by simp only[kW,kG,cond_false]);obtain⟨s2,k3,k4⟩:=DK (f:=kV t) t.bf.l (fun h=>[⟨h.At,h.ot⟩]) s (by omega) (fun i s' hi hs=>by have hcap:jF (s'.l++[(⟨(gt t.bf.l i).At,(gt t.bf.l i).ot⟩:bm)])=some (s'.l++[⟨(gt t.bf.l i).At,(gt t.bf.l i).ot⟩]):=jq (by rw[hs,k2,az,az,az,e2,e1,cF];simp;omega);exact⟨.mk (s'.l++[⟨(gt t.bf.l i).At,(gt t.bf.l i).ot⟩]),by simp only[kV,jo hi,cond_true,bA hi,af,hcap],rfl⟩) (fun s=>by simp only[kV,kG,cond_false]);exact⟨s2,by simp only[mw,k1,af,k3],by rw[k4,k2];rfl⟩
theorem Gg{t:ah}{r:Sl bm}(hb:r.l.length<9223372036854775808):
  ∃b,bE (iD t r) (0,(Mp.none:Mp bm Int))=some b/\match b with|.inl v=>v=false/\¬(r.l.Nodup/\∀p∈r.l,md t p)|.inr _=>r.l.Nodup/\∀p∈r.l,md t p:=by
 have e0:((0:Nat):Int)=0:=rfl
 refine LQ (f:=iD t r) (fun i(m:Mp bm Int)=>((i:Int),m)) r.l.length (fun i m=>m=lw (r.l.take i)/\(r.l.take i).Nodup/\∀p∈r.l.take i,md t p)
  (fun b=>match b with|.inl v=>v=false/\¬(r.l.Nodup/\∀p∈r.l,md t p)|.inr _=>r.l.Nodup/\∀p∈r.l,md t p) ?_ ?_ 0 Mp.none (cX _) ⟨by simp[lw,Mp.none],by simp,by simp⟩ (fun b q1 q2=>?_)
 .rintro i m hi ⟨rfl,hnd,hok⟩;have hgm:gt r.l i∈r.l:=by rw[cY hi];exact List.getElem_mem _
  have et:r.l.take (i+1)=r.l.take i++[gt r.l i]:=by rw[cY hi,cU hi]
  have hsplit:r.l=r.l.take i++gt r.l i::r.l.drop (i+1):=by rw[cY hi,<-dG hi,List.take_append_drop]
  by_cases hm:gt r.l i∈r.l.take i
  .right;obtain⟨m2,h1,h2⟩:=KU hm 2;have hw:wr .i64 (oP (lw (r.l.take i)) 0 (gt r.l i)+1)=2:=by rw[ve,if_pos hm];rfl
   have hd:decide ((2:Int)>1)=true:=rfl;refine⟨.inl false,by simp only[iD,jo hi,cond_true,bA hi,af,hw,h1,h2,hd,Bool.or_true],rfl,fun hh=>?_⟩;have h3:=hh.1;rw[hsplit]at h3;exact(bV.1 h3).2.2 _ hm _ (List.mem_cons_self ..) rfl
  .have h1:=KV hm;have hw:wr .i64 (oP (lw (r.l.take i)) 0 (gt r.l i)+1)=1:=by rw[ve,if_neg hm];rfl
   have h2:oP (lw (r.l.take i++[gt r.l i])) 0 (gt r.l i)=1:=by rw[ve,if_pos (by simp)]
   have hd:decide ((1:Int)>1)=false:=rfl;have hc:((((decide (((gt r.l i).sw)<0))||(decide (((gt r.l i).sw)>=t.bo)))||(decide (((gt r.l i).zS)<0)))||(decide (((gt r.l i).zS)>=8)))=true<->¬md t (gt r.l i):=by simp only[cJ,decide_eq_true_eq,md];omega
   by_cases hp:md t (gt r.l i)
   .left;have hc2:((((decide (((gt r.l i).sw)<0))||(decide (((gt r.l i).sw)>=t.bo)))||(decide (((gt r.l i).zS)<0)))||(decide (((gt r.l i).zS)>=8)))=false:=by rw[<-Bool.not_eq_true];exact fun h=>hc.1 h hp
    refine⟨lw (r.l.take (i+1)),by simp only[iD,jo hi,cond_true,bA hi,af,hw,h1,h2,hd,Bool.or_false,hc2,cond_false,lp (show i<9223372036854775807 by omega),et],rfl,?_,?_⟩
    .rw [et];exact bV.2 ⟨hnd,by simp,fun a ha b hb=>by rw[am]at hb;subst hb;exact fun e=>hm (e▸ha)⟩
    .intro p hpm;rw[et]at hpm;rcases List.mem_append.1 hpm with h|h
     .exact hok p h
     .rw [am]at h;subst h;exact hp
   .right;exact⟨.inl false,by simp only[iD,jo hi,cond_true,bA hi,af,hw,h1,h2,hd,Bool.or_false,hc.2 hp],rfl,fun hh=>hp (hh.2 _ hgm)⟩
 .rintro m ⟨_,hnd,hok⟩;rw[fY]at hnd hok;exact⟨.inr (),by simp only[iD,kG,cond_false],hnd,hok⟩
 .rw [e0]at q1;exact⟨b,q1,q2⟩
theorem EO{t:ah}:nu t=some (decide (lh t)):=by
 unfold nu;by_cases hs:(1<=t.bo/\t.bo<=8)/\t.bS.l.length<=24/\t.bf.l.length<=8
 .have hc:((((decide (t.bo<1))||(decide (t.bo>8)))||(decide ((t.bS.l.length:Int)>24)))||(decide ((t.bf.l.length:Int)>8)))=false:=by simp only[gb,decide_eq_false_iff_not];omega
  have hl:=Q9 (f:=lP t) t.bS.l (fun l=>((((l.A==l.B)||(decide (l.w9<1)))||(decide (l.w9>l.pP)))||(decide (l.pP>1000)))) (by omega) (fun i hi=>by simp only[lP,jo hi,cond_true,bA hi,af];generalize((((gt t.bS.l i).A==(gt t.bS.l i).B)||_)||_||_)=c;cases c<;>rfl) (by simp only[lP,kG,cond_false]);have hlk:∀l:bw,((((l.A==l.B)||(decide (l.w9<1)))||(decide (l.w9>l.pP)))||(decide (l.pP>1000)))=false<->uL l:=fun l=>by simp only[gb,beq_eq_false_iff_ne,decide_eq_false_iff_not,uL];omega
  rw[hc,cond_false,hl];by_cases hlo:∀l∈t.bS.l,uL l
  .rw [if_pos (fun l hm=>(hlk l).2 (hlo l hm))];simp only[af];obtain⟨s,p1,p2⟩:=C8 hs.2.1 hs.2.2;have hpl:=Fm hs.2.1 hs.2.2;obtain⟨b,q1,q2⟩:=Gg (t:=t) (r:=s) (by rw[p2];omega);simp only[p1,af,q1];rw[p2]at q2;cases b with|inl v=>obtain⟨rfl,q2⟩:=q2;exact congrArg some (decide_eq_false fun h:lh t=>q2 ⟨h.nodup,h.sA⟩).symm|inr _=>exact congrArg some (decide_eq_true ⟨hs.1,hs.2.1,hs.2.2,hlo,q2.1,q2.2⟩).symm
  .rw [if_neg (fun h=>hlo fun l hm=>(hlk l).1 (h l hm))];exact congrArg some (decide_eq_false fun h=>hlo h.Ql).symm
 .have hc:((((decide (t.bo<1))||(decide (t.bo>8)))||(decide ((t.bS.l.length:Int)>24)))||(decide ((t.bf.l.length:Int)>8)))=true:=by simp only[cJ,decide_eq_true_eq];omega
  rw[hc,cond_true];exact congrArg some (decide_eq_false fun h=>hs ⟨h.sw,h.Hc,h.rO⟩).symm
def oM(sw p:Int)(i:Nat)(l:bw):Option (Int×Int×Int):=if sw=l.A/\p=l.nq then some (l.B,l.nn,(i:Int))else if sw=l.B/\p=l.nn then some (l.A,l.nq,(i:Int))else none
theorem Kb{α β γ:Type}{P:Nat->α->Option β}(g:β->γ):∀{l:List α}{i:Nat},lQ (fun i x=>(P i x).map g) l i=(lQ P l i).map g:=by
 intro l;induction l with
 |nil=>intro i;rfl
 |cons x l ih=>intro i;simp only[lQ];cases P i x with|none=>exact ih|some b=>rfl
def q4(q:Int×Int×Int):Int×Int×Int×Bool:=(q.1,q.2.1,q.2.2,true)
def kL(t:ah)(sw p:Int):Int×Int×Int×Bool:=match lQ (oM sw p) t.bS.l 0 with|some (a,b,c)=>(a,b,c,true)|none=>(0,0,0,false)
theorem Ic(a b sw p:Int):decide ((⟨sw,p⟩:bm)=⟨a,b⟩)=decide (sw=a/\p=b):=by rw[Bool.eq_iff_iff];simp
theorem AB{t:ah}(sw p:Int)(hb:t.bS.l.length<9223372036854775808):nv t sw p=some (kL t sw p):=by
 have h:=wP (f:=mJ t sw p) t.bS.l (fun i l=>(oM sw p i l).map q4) () hb (fun i hi=>by
  simp only[mJ,jo hi,cond_true,bA hi,af,Ic,oM];by_cases h1:sw=(gt t.bS.l i).A/\p=(gt t.bS.l i).nq
  .rw [if_pos h1,decide_eq_true h1];rfl
  .by_cases h2:sw=(gt t.bS.l i).B/\p=(gt t.bS.l i).nn
   .rw [if_neg h1,if_pos h2,decide_eq_false h1,decide_eq_true h2];rfl
   .rw [if_neg h1,if_neg h2,decide_eq_false h1,decide_eq_false h2];rfl) (by simp only[mJ,kG,cond_false])
 simp only[nv,h,af,Kb,kL];cases lQ (oM sw p) t.bS.l 0 with|none=>rfl|some q=>obtain⟨a,b,c⟩:=q;rfl
theorem GW{t:ah}(hV:lh t){sw p a b c:Int}(h:lQ (oM sw p) t.bS.l 0=some (a,b,c)):0<=a/\a<t.bo:=by
 obtain⟨j,l,h1,h2,_⟩:=nw h;have hm:l∈t.bS.l:=aW h1;have hA:md t ⟨l.A,l.nq⟩:=hV.sA _ (aE _ (cn.2 ⟨l,hm,by simp⟩));have hB:md t ⟨l.B,l.nn⟩:=hV.sA _ (aE _ (cn.2 ⟨l,hm,by simp⟩));unfold oM at h2;split at h2
 .obtain ⟨rfl,_⟩:=ad (aa h2);exact hB.1
 .split at h2
  .obtain ⟨rfl,_⟩:=ad (aa h2);exact hA.1
  .simp at h2
instance(t:ah)(p:bm):Decidable (md t p):=inferInstanceAs (Decidable ((0<=p.sw/\p.sw<t.bo)/\0<=p.zS/\p.zS<8))
def wu(l:bw):List bm:=[⟨l.A,l.nq⟩,⟨l.B,l.nn⟩]
def L9(h:fK):List bm:=[⟨h.At,h.ot⟩]
theorem AA(t:ah):jU t=t.bS.l.flatMap wu++t.bf.l.flatMap L9:=rfl
theorem DF{t:ah}(hV:lh t){i j:Nat}{l m:bw}(hi:t.bS.l[i]?=some l)(hj:t.bS.l[j]?=some m){p:bm}(hp:p∈wu l)(hq:p∈wu m):i=j:=by
 have h:=(bV.1 (AA t▸hV.nodup)).1;have h2:=(List.pairwise_flatMap.1 h).2;rw[List.pairwise_iff_getElem]at h2;obtain⟨hil,rfl⟩:=ak.1 hi;obtain⟨hjl,rfl⟩:=ak.1 hj;rcases Nat.lt_trichotomy i j with h3|h3|h3
 .exact absurd rfl (h2 i j hil hjl h3 p hp p hq)
 .exact h3
 .exact absurd rfl (h2 j i hjl hil h3 p hq p hp)
theorem FX{t:ah}(hV:lh t){l:bw}{h:fK}(hl:l∈t.bS.l)(hh:h∈t.bf.l){p:bm}(hp:p∈wu l):p∉L9 h:=by intro hq;exact(bV.1 (AA t▸hV.nodup)).2.2 p (cn.2 ⟨l,hl,hp⟩) p (cn.2 ⟨h,hh,hq⟩) rfl
def MW(l:bw)(sw p a b:Int):Prop:=(sw=l.A/\p=l.nq/\a=l.B/\b=l.nn)\/(sw=l.B/\p=l.nn/\a=l.A/\b=l.nq)
theorem MW.BL{l:bw}{sw p a b:Int}(h:MW l sw p a b):(⟨sw,p⟩:bm)∈wu l:=by rcases h with⟨rfl,rfl,_,_⟩|⟨rfl,rfl,_,_⟩<;>simp[wu]
theorem yr{sw p:Int}{i:Nat}{l:bw}{a b c:Int}(h:oM sw p i l=some (a,b,c)):MW l sw p a b/\c=i:=by
 unfold oM at h;split at h
 .rename_i h1;obtain⟨rfl,rfl,rfl⟩:l.B=a/\l.nn=b/\(i:Int)=c:=by simpa using h
  exact⟨.inl ⟨h1.1,h1.2,rfl,rfl⟩,rfl⟩
 .split at h
  .rename_i h1;obtain⟨rfl,rfl,rfl⟩:l.A=a/\l.nq=b/\(i:Int)=c:=by simpa using h
   exact⟨.inr ⟨h1.1,h1.2,rfl,rfl⟩,rfl⟩
  .simp at h
theorem yq{l:bw}(hl:l.A≠l.B){sw p a b:Int}(h:MW l sw p a b)(i:Nat):oM sw p i l=some (a,b,(i:Int)):=by
 unfold oM;rcases h with⟨rfl,rfl,rfl,rfl⟩|⟨rfl,rfl,rfl,rfl⟩
 .rw [if_pos ⟨rfl,rfl⟩]
 .rw [if_neg fun h=>hl h.1.symm,if_pos ⟨rfl,rfl⟩]
theorem Kt{t:ah}(hV:lh t){sw p a b c:Int}:lQ (oM sw p) t.bS.l 0=some (a,b,c)<->∃(j:Nat)(l:bw),t.bS.l[j]?=some l/\MW l sw p a b/\c=j:=by
 constructor
 .intro h;obtain⟨j,l,h1,h2,_⟩:=nw h;obtain⟨h3,h4⟩:=yr h2;exact⟨j,l,h1,h3,by simpa using h4⟩
 .rintro ⟨j,l,h1,h2,rfl⟩;have hlk:=hV.Ql l (aW h1);cases h:lQ (oM sw p) t.bS.l 0 with
  |none=>have:=ny.1 h j l h1;rw[yq hlk.1 h2]at this;simp at this
  |some q=>
   obtain⟨a',b',c'⟩:=q;obtain⟨k,m,h3,h4,_⟩:=nw h;obtain⟨h5,h6⟩:=yr h4;obtain rfl:=DF hV h1 h3 h2.BL h5.BL;obtain rfl:l=m:=aa (h1.symm.trans h3);have e:=yq hlk.1 h2 (0+j);rw[yq hlk.1 h5]at e;obtain⟨rfl,rfl⟩:a'=a/\b'=b:=by simpa using e
   rw[h6];simp
end Go.Proofs.YthcplpfiidlinaaDoor.J
