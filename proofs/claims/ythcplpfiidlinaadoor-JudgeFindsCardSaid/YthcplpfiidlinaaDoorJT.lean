/- Loops Qi lists, and topologies: what Right and Peer answer. Conditions: as stated. -/
import Derived.Test.YthcplpfiidlinaaDoorJ
open Go.Ev Go
noncomputable section
open Bool renaming or_eq_false_iff->gp,or_eq_true->cL,or_false->mj
open List renaming drop_eq_getElem_cons->dK,getElem?_eq_some_iff->ak,getElem_of_mem->ct,length_append->av,length_take->bY,mem_append_left->aE,mem_flatMap->bS,mem_of_getElem?->aX,mem_singleton->am,nodup_append->bX,take_append_getElem->cX,take_length->gi
open Nat renaming sub_zero->kq,zero_le->cF
open Option renaming bind_some->af,map_eq_some_iff->aF,map_some->bM
open Option.some renaming inj->aa
open Prod.mk renaming inj->ad
namespace Go.Proofs.YthcplpfiidlinaaDoor.J
theorem ig{n:Int}(h0:-9223372036854775808<=n)(h1:n<9223372036854775808):wr .i64 n=n:=by simp[wr,IntKind.wrap,IntKind.bits,IntKind.signed];omega
theorem PT{S β:Type}{f:S->Option (Sum S β)}(m:S->Nat)(I:S->Prop)(R:β->Prop)
  (hstep:∀s,I s->(∃s',f s=some (.inl s')/\I s'/\m s'<m s)\/(∃b,f s=some (.inr b)/\R b)):∀s,I s->∃b,bE f s=some b/\R b:=by
 have:∀(n:Nat)(s:S),m s<=n->I s->∃b,bE f s=some b/\R b:=by
  intro n;induction n with
  |zero=>
   intro s hn hI;rcases hstep s hI with⟨s',_,_,h⟩|⟨b,h1,h2⟩
   .omega
   .exact ⟨b,cA h1,h2⟩
  |succ n ih=>
   intro s hn hI;rcases hstep s hI with⟨s',h1,h2,h3⟩|⟨b,h1,h2⟩
   .obtain ⟨b,h4,h5⟩:=ih s' (by omega) h2;exact⟨b,(dl h1).trans h4,h5⟩
   .exact ⟨b,cA h1,h2⟩
 exact fun s=>this (m s) s (Nat.le_refl _)
theorem Gm{S σ β:Type}{f:S->Option (Sum S β)}(st:Nat->σ->S)(n:Nat)(I:Nat->σ->Prop)(R:β->Prop)
  (hstep:∀i s,i<n->I i s->(∃s',f (st i s)=some (.inl (st (i+1) s'))/\I (i+1) s')\/(∃b,f (st i s)=some (.inr b)/\R b))
  (hend:∀s,I n s->∃b,f (st n s)=some (.inr b)/\R b):∀i s,i<=n->I i s->∃b,bE f (st i s)=some b/\R b:=by
 have:∀(k i:Nat)(s:σ),i+k=n->I i s->∃b,bE f (st i s)=some b/\R b:=by
  intro k;induction k with
  |zero=>
   intro i s hi hI;obtain rfl:i=n:=by omega
   obtain⟨b,h1,h2⟩:=hend s hI;exact⟨b,cA h1,h2⟩
  |succ k ih=>
   intro i s hi hI;rcases hstep i s (by omega) hI with⟨s',h1,h2⟩|⟨b,h1,h2⟩
   .obtain ⟨b,h4,h5⟩:=ih (i+1) s' (by omega) h2;exact⟨b,(dl h1).trans h4,h5⟩
   .exact ⟨b,cA h1,h2⟩
 exact fun i s hi=>this (n-i) i s (by omega)
theorem L_{S σ β:Type}{goal:Prop}{f:S->Option (Sum S β)}(st:Nat->σ->S)(n:Nat)(I:Nat->σ->Prop)(R:β->Prop)
  (hstep:∀i s,i<n->I i s->(∃s',f (st i s)=some (.inl (st (i+1) s'))/\I (i+1) s')\/(∃b,f (st i s)=some (.inr b)/\R b))
  (hend:∀s,I n s->∃b,f (st n s)=some (.inr b)/\R b) (i:Nat) (s:σ) (hi:i<=n) (hI:I i s) (k:∀b,bE f (st i s)=some b->R b->goal):goal:=
 let⟨b,h1,h2⟩:=Gm st n I R hstep hend i s hi hI
 k b h1 h2
theorem PU{S β:Type}{goal:Prop}{f:S->Option (Sum S β)}(m:S->Nat)(I:S->Prop)(R:β->Prop)
  (hstep:∀s,I s->(∃s',f s=some (.inl s')/\I s'/\m s'<m s)\/(∃b,f s=some (.inr b)/\R b)) (s:S) (hI:I s) (k:∀b,bE f s=some b->R b->goal):goal:=
 let⟨b,h1,h2⟩:=PT m I R hstep s hI
 k b h1 h2
theorem jt{i n:Nat}(h:i<n):decide ((i:Int)<(n:Int))=true:=by rw[decide_eq_true_eq];omega
theorem kL{n:Nat}:decide ((n:Int)<(n:Int))=false:=by rw[decide_eq_false_iff_not];omega
theorem k7{i:Nat}(h:i<9223372036854775807):wr .i64 ((i:Int)+1)=((i+1:Nat):Int):=by rw[ig (by omega) (by omega)];omega
def lW{α β:Type}(P:Nat->α->Option β):List α->Nat->Option β
 |[],_=>none
 |x::r,i=>match P i x with|some b=>some b|none=>lW P r (i+1)
theorem wX{α β γ:Type}[Inhabited α]{f:Int->Option (Sum Int (Sum β γ))}(l:List α)(P:Nat->α->Option β)(c:γ)(hb:l.length<9223372036854775808)
  (hstep:∀i:Nat,i<l.length->f (i:Int)=some (match P i (gt l i)with|some b=>.inr (.inl b)|none=>.inl (wr .i64 ((i:Int)+1)))) (hend:f (l.length:Int)=some (.inr (.inr c))):
  bE f 0=some (match lW P l 0 with|some b=>.inl b|none=>.inr c):=by
 have main:∀(n i:Nat),i+n=l.length->bE f (i:Int)=some (match lW P (l.drop i) i with|some b=>.inl b|none=>.inr c):=by
  intro n;induction n with
  |zero=>
   intro i hi;obtain rfl:i=l.length:=by omega
   rw[cA hend,List.drop_length];rfl
  |succ n ih=>
   intro i hi;have hlt:i<l.length:=by omega
   have hs:=hstep i hlt;rw[dK hlt,<-cQ hlt];simp only[lW];cases hP:P i (gt l i)with|some b=>rw[hP]at hs;rw[cA hs]|none=>rw[hP]at hs;simp only at hs;rw[k7 (by omega)]at hs;rw[dl hs,ih (i+1) (by omega)]
 have:=main l.length 0 (by omega);simpa using this
theorem nG{α β:Type}{P:Nat->α->Option β}:∀{l:List α}{i:Nat},lW P l i=none<->∀j(x:α),l[j]?=some x->P (i+j) x=none:=by
 intro l;induction l with
 |nil=>intro i;simp[lW]
 |cons y l ih=>
  intro i;simp only[lW];constructor
  .intro h j x hj;split at h
   .simp at h
   .rename_i hP;cases j with
    |zero=>
     obtain rfl:y=x:=by simpa using hj
     exact hP
    |succ j=>have:=ih.1 h j x (by simpa using hj);rw[show i+(j+1)=i+1+j by omega];exact this
  .intro h;have h0:=h 0 y rfl;rw[Nat.add_zero]at h0;rw[h0];exact ih.2 fun j x hj=>by have:=h (j+1) x (by simpa using hj);rw[show i+(j+1)=i+1+j by omega]at this;exact this
theorem nF{α β:Type}{P:Nat->α->Option β}:∀{l:List α}{i:Nat}{b:β},lW P l i=some b->∃j x,l[j]?=some x/\P (i+j) x=some b/\∀k,k<j->∀y,l[k]?=some y->P (i+k) y=none:=by
 intro l;induction l with
 |nil=>intro i b h;simp[lW]at h
 |cons y l ih=>
  intro i b h;simp only[lW]at h;split at h
  .rename_i b' hP;obtain rfl:=aa h;exact⟨0,y,rfl,hP,fun k hk=>by omega⟩
  .rename_i hP;obtain⟨j,x,h1,h2,h3⟩:=ih h;refine⟨j+1,x,by simpa using h1,by rw[show i+(j+1)=i+1+j by omega];exact h2,fun k hk z hz=>?_⟩;cases k with
   |zero=>
    obtain rfl:y=z:=by simpa using hz
    exact hP
   |succ k=>rw[show i+(k+1)=i+1+k by omega];exact h3 k (by omega) z (by simpa using hz)
theorem C1{α:Type}{p:α->Bool}{l:List α}{i:Nat}:lW (fun _ x=>if p x then some false else none) l i=none<->∀x∈l,p x=false:=by
 rw[nG];constructor
 .intro h x hx;obtain⟨j,hj,rfl⟩:=ct hx;have:=h j l[j] (by simp[hj]);cases hp:p l[j]
  .rfl
  .rw [hp]at this;simp at this
 .intro h j x hj;rw[h x (aX hj)];rfl
theorem Rs{α:Type}[Inhabited α]{f:Int->Option (Sum Int (Sum Bool Unit))}(l:List α)(p:α->Bool)(hb:l.length<9223372036854775808)
  (hstep:∀i:Nat,i<l.length->f (i:Int)=some (bif p (gt l i)then .inr (.inl false)else .inl (wr .i64 ((i:Int)+1)))) (hend:f (l.length:Int)=some (.inr (.inr ()))):
  bE f 0=some (if∀x∈l,p x=false then .inr ()else .inl false):=by
 rw[wX l (fun _ x=>if p x then some false else none) () hb (fun i hi=>by rw[hstep i hi];cases p (gt l i)<;>rfl) hend];cases h:lW (fun _ x=>if p x then some false else none) l 0 with
 |none=>rw[if_pos (C1.1 h)]
 |some u=>
  obtain⟨j,x,_,h2,_⟩:=nF h;split at h2
  .obtain rfl:=aa h2;rw[if_neg];intro hn;rw[C1.2 hn]at h;simp at h
  .simp at h2
theorem UM{α β:Type}[Inhabited α]{f:(Int×Sl β)->Option (Sum (Int×Sl β) (Sl β))}(l:List α)(g:Nat->α->List β)(s0:Sl β)(hb:l.length<9223372036854775808)
  (hstep:∀(i:Nat)(s:Sl β),i<l.length->s.l=s0.l++((l.take i).zipIdx.flatMap fun p=>g p.2 p.1)->∃s',f ((i:Int),s)=some (.inl (wr .i64 ((i:Int)+1),s'))/\s'.l=s.l++g i (gt l i))
  (hend:∀s,f ((l.length:Int),s)=some (.inr s)):∃s,bE f (0,s0)=some s/\s.l=s0.l++(l.zipIdx.flatMap fun p=>g p.2 p.1):=by
 have e0:((0:Nat):Int)=0:=rfl;refine L_ (f:=f) (fun i(s:Sl β)=>((i:Int),s)) l.length (fun i s=>s.l=s0.l++((l.take i).zipIdx.flatMap fun p=>g p.2 p.1)) (fun s=>s.l=s0.l++(l.zipIdx.flatMap fun p=>g p.2 p.1)) ?_ ?_ 0 s0 (cF _) (by simp) (fun b q1 q2=>?_)
 .intro i s hi hI;obtain⟨s',h1,h2⟩:=hstep i s hi hI;refine .inl ⟨s',by rw[h1,k7 (by omega)],?_⟩;have et:l.take (i+1)=l.take i++[gt l i]:=by rw[cQ hi,cX hi]
  rw[h2,hI,et,List.zipIdx_append,List.flatMap_append,List.append_assoc];simp[Nat.min_eq_left (Nat.le_of_lt hi)]
 .intro s hI;refine⟨s,hend s,?_⟩;rw[gi]at hI;exact hI
 .rw [e0]at q1;exact⟨b,q1,q2⟩
theorem DZ{α β:Type}[Inhabited α]{f:(Int×Sl β)->Option (Sum (Int×Sl β) (Sl β))}(l:List α)(g:α->List β)(s0:Sl β)(hb:l.length<9223372036854775808)
  (hstep:∀(i:Nat)(s:Sl β),i<l.length->s.l=s0.l++(l.take i).flatMap g->∃s',f ((i:Int),s)=some (.inl (wr .i64 ((i:Int)+1),s'))/\s'.l=s.l++g (gt l i))
  (hend:∀s,f ((l.length:Int),s)=some (.inr s)):∃s,bE f (0,s0)=some s/\s.l=s0.l++l.flatMap g:=by
 have key:∀(l:List α)(k:Nat),((l.zipIdx k).flatMap fun p=>g p.1)=l.flatMap g:=fun l=>by induction l with|nil=>intro k;rfl|cons x l ih=>intro k;simp[List.zipIdx_cons,ih]
 obtain⟨s,h1,h2⟩:=UM l (fun _ x=>g x) s0 hb (fun i s hi hs=>hstep i s hi (by rw[hs,key])) hend;exact⟨s,h1,by rw[h2,key]⟩
section
variable{κ ν:Type}
theorem sN[DecidableEq κ]{k:κ}:∀{l:List (κ×ν×Nat)}{i:Nat},iE k l i=none<->∀e∈l,k≠e.1:=by
 intro l;induction l with
 |nil=>intro i;simp[iE]
 |cons x l ih=>
  intro i;simp only[iE];by_cases h:k=x.1
  .simp [h]
  .simp [h,ih]
theorem FW[DecidableEq κ]{k:κ}{v:ν}:∀{l:List (κ×ν×Nat)}{i j:Nat}{e:κ×ν×Nat},iE k l i=some (j,e)->iE k (sM l (j-i) v) i=some (j,(e.1,v,e.2.2)):=by
 intro l;induction l with
 |nil=>intro i j e h;simp[iE]at h
 |cons x l ih=>
  intro i j e h;simp only[iE]at h;split at h
  .rename_i hk;obtain⟨rfl,rfl⟩:i=j/\x=e:=by simpa using h
   simp[sM,iE,hk]
  .rename_i hk;obtain⟨h1,_,_⟩:=mI h;have e1:j-i=(j-(i+1))+1:=by omega
   rw[e1];simp only[sM,iE,hk,if_false];exact ih h
theorem FV{v:ν}{e:κ×ν×Nat}:∀{l:List (κ×ν×Nat)},sM (l++[e]) l.length v=l++[(e.1,v,e.2.2)]:=by intro l;induction l with|nil=>rfl|cons x l ih=>simp only[List.cons_append,List.length_cons,sM,ih]
theorem yb{l:List (κ×ν×Nat)}(h:∀(i:Nat)(e:κ×ν×Nat),l[i]?=some e->e.2.2=i){j:Nat}(hj:j<l.length):l.findIdx? (fun e=>decide ((e.2.2:Int)=(j:Int)))=some j:=by
 rw[List.findIdx?_eq_some_iff_getElem];refine⟨hj,?_,fun k hk=>?_⟩
 .have:=h j l[j] (by simp);simp[this]
 .have:=h k (l[k]'(by omega)) (by simp);simp only[this,decide_eq_true_eq];omega
end
def lC{κ:Type}(l:List κ):Mp κ Int:=⟨l.zipIdx.map fun q=>(q.1,1,q.2),l.length⟩
theorem vq{κ:Type}{l:List κ}{i:Nat}{e:κ×Int×Nat}(h:(lC l).es[i]?=some e):l[i]?=some e.1/\e.2.1=1/\e.2.2=i:=by simp only[lC,List.getElem?_map,aF]at h;obtain⟨q,hq,rfl⟩:=h;rw[List.getElem?_zipIdx]at hq;obtain⟨x,hx,rfl⟩:=aF.1 hq;exact⟨hx,rfl,by simp⟩
theorem DL{κ:Type}{l:List κ}{e:κ×Int×Nat}(h:e∈(lC l).es):e.1∈l:=by obtain⟨i,hi,rfl⟩:=ct h;exact aX (vq (i:=i) (by simp[hi])).1
theorem vp{κ:Type}[DecidableEq κ]{l:List κ}{k:κ}:oY (lC l) 0 k=if k∈l then 1 else 0:=by
 unfold oY;by_cases hk:k∈l
 .rw [if_pos hk];cases h:iE k (lC l).es 0 with|none=>exfalso;rw[sN]at h;obtain⟨i,hi,rfl⟩:=ct hk;refine h (l[i],1,i) ?_ rfl;simp only[lC,List.mem_map];exact⟨(l[i],i),by rw[List.mem_zipIdx_iff_getElem?];simp[hi],rfl⟩|some p=>obtain⟨j,e⟩:=p;obtain⟨_,h2,_⟩:=mI h;exact(vq h2).2.1
 .rw [if_neg hk,sN.2 fun e he hke=>hk (by rw[hke];exact DL he)]
theorem Lg{κ:Type}[DecidableEq κ]{l:List κ}{k:κ}(hk:k∉l):vo (l5 (lC l) 0 k).1 (l5 (lC l) 0 k).2.2 1=some (lC (l++[k])):=by
 have hf:iE k (lC l).es 0=none:=sN.2 fun e he hke=>hk (by rw[hke];exact DL he);have he:l5 (lC l) 0 k=(⟨(lC l).es++[(k,0,l.length)],l.length+1⟩,0,(l.length:Int)):=by simp only[l5,hf];rfl
 have hlen:(lC l).es.length=l.length:=by simp[lC]
 have eM:((lC l).es++[(k,(0:Int),l.length)]).findIdx? (fun e=>decide ((e.2.2:Int)=(l.length:Int)))=some l.length:=by
  refine yb (fun i e hi=>?_) (by simp[hlen]);rcases Nat.lt_or_ge i (lC l).es.length with h|h
  .rw [List.getElem?_append_left h]at hi;exact(vq hi).2.2
  .rw [List.getElem?_append_right h]at hi;have h0:i-(lC l).es.length=0:=by have:=(ak.1 hi).1;simp at this;omega
   rw[h0]at hi;obtain rfl:(k,(0:Int),l.length)=e:=by simpa using hi
   simp only;omega
 rw[he];simp only[vo,eM,bM];have hp:=FV (v:=(1:Int)) (e:=(k,(0:Int),l.length)) (l:=(lC l).es);rw[hlen]at hp;rw[hp];simp[lC,List.zipIdx_append]
theorem Lf{κ:Type}[DecidableEq κ]{l:List κ}{k:κ}(hk:k∈l)(v:Int):∃m,vo (l5 (lC l) 0 k).1 (l5 (lC l) 0 k).2.2 v=some m/\oY m 0 k=v:=by
 cases h:iE k (lC l).es 0 with
 |none=>have:=@vp κ _ l k;rw[if_pos hk]at this;unfold oY at this;rw[h]at this;simp at this
 |some p=>
  obtain⟨j,e⟩:=p;obtain⟨_,h2,_⟩:=mI h;rw[kq]at h2;obtain⟨_,_,h5⟩:=vq h2;have he:l5 (lC l) 0 k=(lC l,e.2.1,(e.2.2:Int)):=by simp only[l5,h]
  have hj:j<(lC l).es.length:=(ak.1 h2).1;have eM:=yb (l:=(lC l).es) (fun i e hi=>(vq hi).2.2) hj;refine⟨⟨sM (lC l).es j v,(lC l).fo⟩,by rw[he];simp only[vo,h5,eM,bM],?_⟩;have:=FW (v:=v) h;rw[kq]at this;simp only[oY,this]
def j3(t:ah):List bn:=(t.bU.l.flatMap fun l=>[⟨l.A,l.nB⟩,⟨l.B,l.nA⟩])++t.bf.l.flatMap fun h=>[⟨h.At,h.oF⟩]
def uU(l:bz):Prop:=l.A≠l.B/\1<=l.xl/\l.xl<=l.pY/\l.pY<=1000
def mo(t:ah)(p:bn):Prop:=(0<=p.sw/\p.sw<t.bq)/\0<=p.z_/\p.z_<8
structure lp(t:ah):Prop where
 sw:1<=t.bq/\t.bq<=8
 Hv:t.bU.l.length<=24
 rX:t.bf.l.length<=8
 QD:∀l∈t.bU.l,uU l
 nodup:(j3 t).Nodup
 sJ:∀p∈j3 t,mo t p
instance(t:ah):Decidable (lp t):=Classical.propDecidable _
theorem FE{t:ah}(h1:t.bU.l.length<=24)(h2:t.bf.l.length<=8):(j3 t).length<=56:=by
 have e:∀l:List bz,(l.flatMap fun l=>[(⟨l.A,l.nB⟩:bn),⟨l.B,l.nA⟩]).length=2*l.length:=fun l=>by induction l with|nil=>rfl|cons x l ih=>simp[ih];omega
 have e2:∀l:List fR,(l.flatMap fun h=>[(⟨h.At,h.oF⟩:bn)]).length=l.length:=fun l=>by induction l with|nil=>rfl|cons x l ih=>simp[ih]
 rw[j3,av,e,e2];omega
theorem Dk{t:ah}(h1:t.bU.l.length<=24)(h2:t.bf.l.length<=8):∃s,mF t=some s/\s.l=j3 t:=by
 have e2:∀l:List bz,(l.flatMap fun l=>[(⟨l.A,l.nB⟩:bn),⟨l.B,l.nA⟩]).length=2*l.length:=fun l=>by induction l with|nil=>rfl|cons x l ih=>simp[ih];omega
 have e1:∀l:List fR,(l.flatMap fun h=>[(⟨h.At,h.oF⟩:bn)]).length=l.length:=fun l=>by induction l with|nil=>rfl|cons x l ih=>simp[ih]
 obtain⟨s,k1,k2⟩:=DZ (f:=k9 t) t.bU.l (fun l=>[⟨l.A,l.nB⟩,⟨l.B,l.nA⟩]) .nil (by omega) (fun i s hi hs=>by have hcap:iG (s.l++[(⟨(gt t.bU.l i).A,(gt t.bU.l i).nB⟩:bn),⟨(gt t.bU.l i).B,(gt t.bU.l i).nA⟩])=some (s.l++[⟨(gt t.bU.l i).A,(gt t.bU.l i).nB⟩,⟨(gt t.bU.l i).B,(gt t.bU.l i).nA⟩]):=ik (by rw[hs,av,av,e2,bY];simp;omega);exact⟨.mk (s.l++[⟨(gt t.bU.l i).A,(gt t.bU.l i).nB⟩,⟨(gt t.bU.l i).B,(gt t.bU.l i).nA⟩]),by simp only[k9,jt hi,cond_true,bp hi,af,hcap],rfl⟩) (fun s=>by simp only[k9,kL,cond_false]);obtain⟨s2,k3,k4⟩:=DZ (f:=k8 t) t.bf.l (fun h=>[⟨h.At,h.oF⟩]) s (by omega) (fun i s' hi hs=>by have hcap:iG (s'.l++[(⟨(gt t.bf.l i).At,(gt t.bf.l i).oF⟩:bn)])=some (s'.l++[⟨(gt t.bf.l i).At,(gt t.bf.l i).oF⟩]):=ik (by rw[hs,k2,av,av,av,e2,e1,bY];simp;omega);exact⟨.mk (s'.l++[⟨(gt t.bf.l i).At,(gt t.bf.l i).oF⟩]),by simp only[k8,jt hi,cond_true,bp hi,af,hcap],rfl⟩) (fun s=>by simp only[k8,kL,cond_false]);exact⟨s2,by simp only[mF,k1,af,k3],by rw[k4,k2];rfl⟩
theorem GA{t:ah}{r:Sl bn}(hb:r.l.length<9223372036854775808):
  ∃b,bE (iH t r) (0,(Mp.none:Mp bn Int))=some b/\match b with|.inl v=>v=false/\¬(r.l.Nodup/\∀p∈r.l,mo t p)|.inr _=>r.l.Nodup/\∀p∈r.l,mo t p:=by
 have e0:((0:Nat):Int)=0:=rfl
 refine L_ (f:=iH t r) (fun i(m:Mp bn Int)=>((i:Int),m)) r.l.length (fun i m=>m=lC (r.l.take i)/\(r.l.take i).Nodup/\∀p∈r.l.take i,mo t p)
  (fun b=>match b with|.inl v=>v=false/\¬(r.l.Nodup/\∀p∈r.l,mo t p)|.inr _=>r.l.Nodup/\∀p∈r.l,mo t p) ?_ ?_ 0 Mp.none (cF _) ⟨by simp[lC,Mp.none],by simp,by simp⟩ (fun b q1 q2=>?_)
 .rintro i m hi ⟨rfl,hnd,hok⟩;have hgm:gt r.l i∈r.l:=by rw[cQ hi];exact List.getElem_mem _
  have et:r.l.take (i+1)=r.l.take i++[gt r.l i]:=by rw[cQ hi,cX hi]
  have hsplit:r.l=r.l.take i++gt r.l i::r.l.drop (i+1):=by rw[cQ hi,<-dK hi,List.take_append_drop]
  by_cases hm:gt r.l i∈r.l.take i
  .right;obtain⟨m2,h1,h2⟩:=Lf hm 2;have hw:wr .i64 (oY (lC (r.l.take i)) 0 (gt r.l i)+1)=2:=by rw[vp,if_pos hm];rfl
   have hd:decide ((2:Int)>1)=true:=rfl;refine⟨.inl false,by simp only[iH,jt hi,cond_true,bp hi,af,hw,h1,h2,hd,Bool.or_true],rfl,fun hh=>?_⟩;have h3:=hh.1;rw[hsplit]at h3;exact(bX.1 h3).2.2 _ hm _ (List.mem_cons_self ..) rfl
  .have h1:=Lg hm;have hw:wr .i64 (oY (lC (r.l.take i)) 0 (gt r.l i)+1)=1:=by rw[vp,if_neg hm];rfl
   have h2:oY (lC (r.l.take i++[gt r.l i])) 0 (gt r.l i)=1:=by rw[vp,if_pos (by simp)]
   have hd:decide ((1:Int)>1)=false:=rfl;have hc:((((decide (((gt r.l i).sw)<0))||(decide (((gt r.l i).sw)>=t.bq)))||(decide (((gt r.l i).z_)<0)))||(decide (((gt r.l i).z_)>=8)))=true<->¬mo t (gt r.l i):=by simp only[cL,decide_eq_true_eq,mo];omega
   by_cases hp:mo t (gt r.l i)
   .left;have hc2:((((decide (((gt r.l i).sw)<0))||(decide (((gt r.l i).sw)>=t.bq)))||(decide (((gt r.l i).z_)<0)))||(decide (((gt r.l i).z_)>=8)))=false:=by rw[<-Bool.not_eq_true];exact fun h=>hc.1 h hp
    refine⟨lC (r.l.take (i+1)),by simp only[iH,jt hi,cond_true,bp hi,af,hw,h1,h2,hd,mj,hc2,cond_false,k7 (show i<9223372036854775807 by omega),et],rfl,?_,?_⟩
    .rw [et];exact bX.2 ⟨hnd,by simp,fun a ha b hb=>by rw[am]at hb;subst hb;exact fun e=>hm (e▸ha)⟩
    .intro p hpm;rw[et]at hpm;rcases List.mem_append.1 hpm with h|h
     .exact hok p h
     .rw [am]at h;subst h;exact hp
   .right;exact⟨.inl false,by simp only[iH,jt hi,cond_true,bp hi,af,hw,h1,h2,hd,mj,hc.2 hp],rfl,fun hh=>hp (hh.2 _ hgm)⟩
 .rintro m ⟨_,hnd,hok⟩;rw[gi]at hnd hok;exact⟨.inr (),by simp only[iH,kL,cond_false],hnd,hok⟩
 .rw [e0]at q1;exact⟨b,q1,q2⟩
theorem E5{t:ah}:nD t=some (decide (lp t)):=by
 unfold nD;by_cases hs:(1<=t.bq/\t.bq<=8)/\t.bU.l.length<=24/\t.bf.l.length<=8
 .have hc:((((decide (t.bq<1))||(decide (t.bq>8)))||(decide ((t.bU.l.length:Int)>24)))||(decide ((t.bf.l.length:Int)>8)))=false:=by simp only[gp,decide_eq_false_iff_not];omega
  have hl:=Rs (f:=lV t) t.bU.l (fun l=>((((l.A==l.B)||(decide (l.xl<1)))||(decide (l.xl>l.pY)))||(decide (l.pY>1000)))) (by omega) (fun i hi=>by simp only[lV,jt hi,cond_true,bp hi,af];generalize((((gt t.bU.l i).A==(gt t.bU.l i).B)||_)||_||_)=c;cases c<;>rfl) (by simp only[lV,kL,cond_false]);have hlk:∀l:bz,((((l.A==l.B)||(decide (l.xl<1)))||(decide (l.xl>l.pY)))||(decide (l.pY>1000)))=false<->uU l:=fun l=>by simp only[gp,beq_eq_false_iff_ne,decide_eq_false_iff_not,uU];omega
  rw[hc,cond_false,hl];by_cases hlo:∀l∈t.bU.l,uU l
  .rw [if_pos (fun l hm=>(hlk l).2 (hlo l hm))];simp only[af];obtain⟨s,p1,p2⟩:=Dk hs.2.1 hs.2.2;have hpl:=FE hs.2.1 hs.2.2;obtain⟨b,q1,q2⟩:=GA (t:=t) (r:=s) (by rw[p2];omega);simp only[p1,af,q1];rw[p2]at q2;cases b with|inl v=>obtain⟨rfl,q2⟩:=q2;exact congrArg some (decide_eq_false fun h:lp t=>q2 ⟨h.nodup,h.sJ⟩).symm|inr _=>exact congrArg some (decide_eq_true ⟨hs.1,hs.2.1,hs.2.2,hlo,q2.1,q2.2⟩).symm
  .rw [if_neg (fun h=>hlo fun l hm=>(hlk l).1 (h l hm))];exact congrArg some (decide_eq_false fun h=>hlo h.QD).symm
 .have hc:((((decide (t.bq<1))||(decide (t.bq>8)))||(decide ((t.bU.l.length:Int)>24)))||(decide ((t.bf.l.length:Int)>8)))=true:=by simp only[cL,decide_eq_true_eq];omega
  rw[hc,cond_true];exact congrArg some (decide_eq_false fun h=>hs ⟨h.sw,h.Hv,h.rX⟩).symm
def oW(sw p:Int)(i:Nat)(l:bz):Option (Int×Int×Int):=if sw=l.A/\p=l.nB then some (l.B,l.nA,(i:Int))else if sw=l.B/\p=l.nA then some (l.A,l.nB,(i:Int))else none
theorem Ky{α β γ:Type}{P:Nat->α->Option β}(g:β->γ):∀{l:List α}{i:Nat},lW (fun i x=>(P i x).map g) l i=(lW P l i).map g:=by
 intro l;induction l with
 |nil=>intro i;rfl
 |cons x l ih=>intro i;simp only[lW];cases P i x with|none=>exact ih|some b=>rfl
def q4(q:Int×Int×Int):Int×Int×Int×Bool:=(q.1,q.2.1,q.2.2,true)
def kQ(t:ah)(sw p:Int):Int×Int×Int×Bool:=match lW (oW sw p) t.bU.l 0 with|some (a,b,c)=>(a,b,c,true)|none=>(0,0,0,false)
theorem Iz(a b sw p:Int):decide ((⟨sw,p⟩:bn)=⟨a,b⟩)=decide (sw=a/\p=b):=by rw[Bool.eq_iff_iff];simp
theorem AN{t:ah}(sw p:Int)(hb:t.bU.l.length<9223372036854775808):nE t sw p=some (kQ t sw p):=by
 have h:=wX (f:=mU t sw p) t.bU.l (fun i l=>(oW sw p i l).map q4) () hb (fun i hi=>by
  simp only[mU,jt hi,cond_true,bp hi,af,Iz,oW];by_cases h1:sw=(gt t.bU.l i).A/\p=(gt t.bU.l i).nB
  .rw [if_pos h1,decide_eq_true h1];rfl
  .by_cases h2:sw=(gt t.bU.l i).B/\p=(gt t.bU.l i).nA
   .rw [if_neg h1,if_pos h2,decide_eq_false h1,decide_eq_true h2];rfl
   .rw [if_neg h1,if_neg h2,decide_eq_false h1,decide_eq_false h2];rfl) (by simp only[mU,kL,cond_false])
 simp only[nE,h,af,Ky,kQ];cases lW (oW sw p) t.bU.l 0 with|none=>rfl|some q=>obtain⟨a,b,c⟩:=q;rfl
theorem Hc{t:ah}(hV:lp t){sw p a b c:Int}(h:lW (oW sw p) t.bU.l 0=some (a,b,c)):0<=a/\a<t.bq:=by
 obtain⟨j,l,h1,h2,_⟩:=nF h;have hm:l∈t.bU.l:=aX h1;have hA:mo t ⟨l.A,l.nB⟩:=hV.sJ _ (aE _ (bS.2 ⟨l,hm,by simp⟩));have hB:mo t ⟨l.B,l.nA⟩:=hV.sJ _ (aE _ (bS.2 ⟨l,hm,by simp⟩));unfold oW at h2;split at h2
 .obtain ⟨rfl,_⟩:=ad (aa h2);exact hB.1
 .split at h2
  .obtain ⟨rfl,_⟩:=ad (aa h2);exact hA.1
  .simp at h2
instance(t:ah)(p:bn):Decidable (mo t p):=inferInstanceAs (Decidable ((0<=p.sw/\p.sw<t.bq)/\0<=p.z_/\p.z_<8))
def wE(l:bz):List bn:=[⟨l.A,l.nB⟩,⟨l.B,l.nA⟩]
def Mu(h:fR):List bn:=[⟨h.At,h.oF⟩]
theorem AM(t:ah):j3 t=t.bU.l.flatMap wE++t.bf.l.flatMap Mu:=rfl
theorem DT{t:ah}(hV:lp t){i j:Nat}{l m:bz}(hi:t.bU.l[i]?=some l)(hj:t.bU.l[j]?=some m){p:bn}(hp:p∈wE l)(hq:p∈wE m):i=j:=by
 have h:=(bX.1 (AM t▸hV.nodup)).1;have h2:=(List.pairwise_flatMap.1 h).2;rw[List.pairwise_iff_getElem]at h2;obtain⟨hil,rfl⟩:=ak.1 hi;obtain⟨hjl,rfl⟩:=ak.1 hj;rcases Nat.lt_trichotomy i j with h3|h3|h3
 .exact absurd rfl (h2 i j hil hjl h3 p hp p hq)
 .exact h3
 .exact absurd rfl (h2 j i hjl hil h3 p hq p hp)
theorem Ge{t:ah}(hV:lp t){l:bz}{h:fR}(hl:l∈t.bU.l)(hh:h∈t.bf.l){p:bn}(hp:p∈wE l):p∉Mu h:=by intro hq;exact(bX.1 (AM t▸hV.nodup)).2.2 p (bS.2 ⟨l,hl,hp⟩) p (bS.2 ⟨h,hh,hq⟩) rfl
def Nd(l:bz)(sw p a b:Int):Prop:=(sw=l.A/\p=l.nB/\a=l.B/\b=l.nA)\/(sw=l.B/\p=l.nA/\a=l.A/\b=l.nB)
theorem Nd.AX{l:bz}{sw p a b:Int}(h:Nd l sw p a b):(⟨sw,p⟩:bn)∈wE l:=by rcases h with⟨rfl,rfl,_,_⟩|⟨rfl,rfl,_,_⟩<;>simp[wE]
theorem yD{sw p:Int}{i:Nat}{l:bz}{a b c:Int}(h:oW sw p i l=some (a,b,c)):Nd l sw p a b/\c=i:=by
 unfold oW at h;split at h
 .rename_i h1;obtain⟨rfl,rfl,rfl⟩:l.B=a/\l.nA=b/\(i:Int)=c:=by simpa using h
  exact⟨.inl ⟨h1.1,h1.2,rfl,rfl⟩,rfl⟩
 .split at h
  .rename_i h1;obtain⟨rfl,rfl,rfl⟩:l.A=a/\l.nB=b/\(i:Int)=c:=by simpa using h
   exact⟨.inr ⟨h1.1,h1.2,rfl,rfl⟩,rfl⟩
  .simp at h
theorem yC{l:bz}(hl:l.A≠l.B){sw p a b:Int}(h:Nd l sw p a b)(i:Nat):oW sw p i l=some (a,b,(i:Int)):=by
 unfold oW;rcases h with⟨rfl,rfl,rfl,rfl⟩|⟨rfl,rfl,rfl,rfl⟩
 .rw [if_pos ⟨rfl,rfl⟩]
 .rw [if_neg fun h=>hl h.1.symm,if_pos ⟨rfl,rfl⟩]
theorem KO{t:ah}(hV:lp t){sw p a b c:Int}:lW (oW sw p) t.bU.l 0=some (a,b,c)<->∃(j:Nat)(l:bz),t.bU.l[j]?=some l/\Nd l sw p a b/\c=j:=by
 constructor
 .intro h;obtain⟨j,l,h1,h2,_⟩:=nF h;obtain⟨h3,h4⟩:=yD h2;exact⟨j,l,h1,h3,by simpa using h4⟩
 .rintro ⟨j,l,h1,h2,rfl⟩;have hlk:=hV.QD l (aX h1);cases h:lW (oW sw p) t.bU.l 0 with
  |none=>have:=nG.1 h j l h1;rw[yC hlk.1 h2]at this;simp at this
  |some q=>
   obtain⟨a',b',c'⟩:=q;obtain⟨k,m,h3,h4,_⟩:=nF h;obtain⟨h5,h6⟩:=yD h4;obtain rfl:=DT hV h1 h3 h2.AX h5.AX;obtain rfl:l=m:=aa (h1.symm.trans h3);have e:=yC hlk.1 h2 (0+j);rw[yC hlk.1 h5]at e;obtain⟨rfl,rfl⟩:a'=a/\b'=b:=by simpa using e
   rw[h6];simp
end Go.Proofs.YthcplpfiidlinaaDoor.J
