/- Loops P6 lists, and topologies: what Right and Peer answer. Conditions: as stated. -/
import Derived.Test.YthcplpfiidlinaaDoorJ
open Go.Ev Go
noncomputable section
open Bool renaming or_eq_false_iff->gj,or_eq_true->cL,or_false->me
open List renaming drop_eq_getElem_cons->dF,getElem?_eq_some_iff->ak,getElem_of_mem->cq,length_append->av,length_take->bY,mem_append_left->aF,mem_flatMap->bS,mem_of_getElem?->aX,mem_singleton->aq,nodup_append->bX,take_append_getElem->cX,take_length->ge
open Nat renaming sub_zero->km,zero_le->cF
open Option renaming bind_some->af,map_eq_some_iff->aE,map_some->bL
open Option.some renaming inj->aa
open Prod.mk renaming inj->ad
namespace Go.Proofs.YthcplpfiidlinaaDoor.J
theorem ie{n:Int}(h0:-9223372036854775808<=n)(h1:n<9223372036854775808):wr .i64 n=n:=by simp[wr,IntKind.wrap,IntKind.bits,IntKind.signed];omega
theorem PH{S β:Type}{f:S->Option (Sum S β)}(m:S->Nat)(I:S->Prop)(R:β->Prop)
  (hstep:∀s,I s->(∃s',f s=some (.inl s')/\I s'/\m s'<m s)\/(∃b,f s=some (.inr b)/\R b)):∀s,I s->∃b,bD f s=some b/\R b:=by
 have:∀(n:Nat)(s:S),m s<=n->I s->∃b,bD f s=some b/\R b:=by
  intro n;induction n with
  |zero=>
   intro s hn hI;rcases hstep s hI with⟨s',_,_,h⟩|⟨b,h1,h2⟩
   .omega
   .exact ⟨b,cA h1,h2⟩
  |succ n ih=>
   intro s hn hI;rcases hstep s hI with⟨s',h1,h2,h3⟩|⟨b,h1,h2⟩
   .obtain ⟨b,h4,h5⟩:=ih s' (by omega) h2;exact⟨b,(dl h1).trans h4,h5⟩
   .exact ⟨b,cA h1,h2⟩
 exact fun s=>this (m s) s (Nat.le_refl _)
theorem F_{S σ β:Type}{f:S->Option (Sum S β)}(st:Nat->σ->S)(n:Nat)(I:Nat->σ->Prop)(R:β->Prop)
  (hstep:∀i s,i<n->I i s->(∃s',f (st i s)=some (.inl (st (i+1) s'))/\I (i+1) s')\/(∃b,f (st i s)=some (.inr b)/\R b))
  (hend:∀s,I n s->∃b,f (st n s)=some (.inr b)/\R b):∀i s,i<=n->I i s->∃b,bD f (st i s)=some b/\R b:=by
 have:∀(k i:Nat)(s:σ),i+k=n->I i s->∃b,bD f (st i s)=some b/\R b:=by
  intro k;induction k with
  |zero=>
   intro i s hi hI;obtain rfl:i=n:=by omega
   obtain⟨b,h1,h2⟩:=hend s hI;exact⟨b,cA h1,h2⟩
  |succ k ih=>
   intro i s hi hI;rcases hstep i s (by omega) hI with⟨s',h1,h2⟩|⟨b,h1,h2⟩
   .obtain ⟨b,h4,h5⟩:=ih (i+1) s' (by omega) h2;exact⟨b,(dl h1).trans h4,h5⟩
   .exact ⟨b,cA h1,h2⟩
 exact fun i s hi=>this (n-i) i s (by omega)
theorem L3{S σ β:Type}{goal:Prop}{f:S->Option (Sum S β)}(st:Nat->σ->S)(n:Nat)(I:Nat->σ->Prop)(R:β->Prop)
  (hstep:∀i s,i<n->I i s->(∃s',f (st i s)=some (.inl (st (i+1) s'))/\I (i+1) s')\/(∃b,f (st i s)=some (.inr b)/\R b))
  (hend:∀s,I n s->∃b,f (st n s)=some (.inr b)/\R b) (i:Nat) (s:σ) (hi:i<=n) (hI:I i s) (k:∀b,bD f (st i s)=some b->R b->goal):goal:=
 let⟨b,h1,h2⟩:=F_ st n I R hstep hend i s hi hI
 k b h1 h2
theorem PI{S β:Type}{goal:Prop}{f:S->Option (Sum S β)}(m:S->Nat)(I:S->Prop)(R:β->Prop)
  (hstep:∀s,I s->(∃s',f s=some (.inl s')/\I s'/\m s'<m s)\/(∃b,f s=some (.inr b)/\R b)) (s:S) (hI:I s) (k:∀b,bD f s=some b->R b->goal):goal:=
 let⟨b,h1,h2⟩:=PH m I R hstep s hI
 k b h1 h2
theorem js{i n:Nat}(h:i<n):decide ((i:Int)<(n:Int))=true:=by rw[decide_eq_true_eq];omega
theorem kH{n:Nat}:decide ((n:Int)<(n:Int))=false:=by rw[decide_eq_false_iff_not];omega
theorem kY{i:Nat}(h:i<9223372036854775807):wr .i64 ((i:Int)+1)=((i+1:Nat):Int):=by rw[ie (by omega) (by omega)];omega
def lT{α β:Type}(P:Nat->α->Option β):List α->Nat->Option β
 |[],_=>none
 |x::r,i=>match P i x with|some b=>some b|none=>lT P r (i+1)
theorem wP{α β γ:Type}[Inhabited α]{f:Int->Option (Sum Int (Sum β γ))}(l:List α)(P:Nat->α->Option β)(c:γ)(hb:l.length<9223372036854775808)
  (hstep:∀i:Nat,i<l.length->f (i:Int)=some (match P i (gt l i)with|some b=>.inr (.inl b)|none=>.inl (wr .i64 ((i:Int)+1)))) (hend:f (l.length:Int)=some (.inr (.inr c))):
  bD f 0=some (match lT P l 0 with|some b=>.inl b|none=>.inr c):=by
 have main:∀(n i:Nat),i+n=l.length->bD f (i:Int)=some (match lT P (l.drop i) i with|some b=>.inl b|none=>.inr c):=by
  intro n;induction n with
  |zero=>
   intro i hi;obtain rfl:i=l.length:=by omega
   rw[cA hend,List.drop_length];rfl
  |succ n ih=>
   intro i hi;have hlt:i<l.length:=by omega
   have hs:=hstep i hlt;rw[dF hlt,<-cP hlt];simp only[lT];cases hP:P i (gt l i)with|some b=>rw[hP]at hs;rw[cA hs]|none=>rw[hP]at hs;simp only at hs;rw[kY (by omega)]at hs;rw[dl hs,ih (i+1) (by omega)]
 have:=main l.length 0 (by omega);simpa using this
theorem nD{α β:Type}{P:Nat->α->Option β}:∀{l:List α}{i:Nat},lT P l i=none<->∀j(x:α),l[j]?=some x->P (i+j) x=none:=by
 intro l;induction l with
 |nil=>intro i;simp[lT]
 |cons y l ih=>
  intro i;simp only[lT];constructor
  .intro h j x hj;split at h
   .simp at h
   .rename_i hP;cases j with
    |zero=>
     obtain rfl:y=x:=by simpa using hj
     exact hP
    |succ j=>have:=ih.1 h j x (by simpa using hj);rw[show i+(j+1)=i+1+j by omega];exact this
  .intro h;have h0:=h 0 y rfl;rw[Nat.add_zero]at h0;rw[h0];exact ih.2 fun j x hj=>by have:=h (j+1) x (by simpa using hj);rw[show i+(j+1)=i+1+j by omega]at this;exact this
theorem nC{α β:Type}{P:Nat->α->Option β}:∀{l:List α}{i:Nat}{b:β},lT P l i=some b->∃j x,l[j]?=some x/\P (i+j) x=some b/\∀k,k<j->∀y,l[k]?=some y->P (i+k) y=none:=by
 intro l;induction l with
 |nil=>intro i b h;simp[lT]at h
 |cons y l ih=>
  intro i b h;simp only[lT]at h;split at h
  .rename_i b' hP;obtain rfl:=aa h;exact⟨0,y,rfl,hP,fun k hk=>by omega⟩
  .rename_i hP;obtain⟨j,x,h1,h2,h3⟩:=ih h;refine⟨j+1,x,by simpa using h1,by rw[show i+(j+1)=i+1+j by omega];exact h2,fun k hk z hz=>?_⟩;cases k with
   |zero=>
    obtain rfl:y=z:=by simpa using hz
    exact hP
   |succ k=>rw[show i+(k+1)=i+1+k by omega];exact h3 k (by omega) z (by simpa using hz)
theorem CM{α:Type}{p:α->Bool}{l:List α}{i:Nat}:lT (fun _ x=>if p x then some false else none) l i=none<->∀x∈l,p x=false:=by
 rw[nD];constructor
 .intro h x hx;obtain⟨j,hj,rfl⟩:=cq hx;have:=h j l[j] (by simp[hj]);cases hp:p l[j]
  .rfl
  .rw [hp]at this;simp at this
 .intro h j x hj;rw[h x (aX hj)];rfl
theorem Re{α:Type}[Inhabited α]{f:Int->Option (Sum Int (Sum Bool Unit))}(l:List α)(p:α->Bool)(hb:l.length<9223372036854775808)
  (hstep:∀i:Nat,i<l.length->f (i:Int)=some (bif p (gt l i)then .inr (.inl false)else .inl (wr .i64 ((i:Int)+1)))) (hend:f (l.length:Int)=some (.inr (.inr ()))):
  bD f 0=some (if∀x∈l,p x=false then .inr ()else .inl false):=by
 rw[wP l (fun _ x=>if p x then some false else none) () hb (fun i hi=>by rw[hstep i hi];cases p (gt l i)<;>rfl) hend];cases h:lT (fun _ x=>if p x then some false else none) l 0 with
 |none=>rw[if_pos (CM.1 h)]
 |some u=>
  obtain⟨j,x,_,h2,_⟩:=nC h;split at h2
  .obtain rfl:=aa h2;rw[if_neg];intro hn;rw[CM.2 hn]at h;simp at h
  .simp at h2
theorem Uz{α β:Type}[Inhabited α]{f:(Int×Sl β)->Option (Sum (Int×Sl β) (Sl β))}(l:List α)(g:Nat->α->List β)(s0:Sl β)(hb:l.length<9223372036854775808)
  (hstep:∀(i:Nat)(s:Sl β),i<l.length->s.l=s0.l++((l.take i).zipIdx.flatMap fun p=>g p.2 p.1)->∃s',f ((i:Int),s)=some (.inl (wr .i64 ((i:Int)+1),s'))/\s'.l=s.l++g i (gt l i))
  (hend:∀s,f ((l.length:Int),s)=some (.inr s)):∃s,bD f (0,s0)=some s/\s.l=s0.l++(l.zipIdx.flatMap fun p=>g p.2 p.1):=by
 have e0:((0:Nat):Int)=0:=rfl;refine L3 (f:=f) (fun i(s:Sl β)=>((i:Int),s)) l.length (fun i s=>s.l=s0.l++((l.take i).zipIdx.flatMap fun p=>g p.2 p.1)) (fun s=>s.l=s0.l++(l.zipIdx.flatMap fun p=>g p.2 p.1)) ?_ ?_ 0 s0 (cF _) (by simp) (fun b q1 q2=>?_)
 .intro i s hi hI;obtain⟨s',h1,h2⟩:=hstep i s hi hI;refine .inl ⟨s',by rw[h1,kY (by omega)],?_⟩;have et:l.take (i+1)=l.take i++[gt l i]:=by rw[cP hi,cX hi]
  rw[h2,hI,et,List.zipIdx_append,List.flatMap_append,List.append_assoc];simp[Nat.min_eq_left (Nat.le_of_lt hi)]
 .intro s hI;refine⟨s,hend s,?_⟩;rw[ge]at hI;exact hI
 .rw [e0]at q1;exact⟨b,q1,q2⟩
theorem DM{α β:Type}[Inhabited α]{f:(Int×Sl β)->Option (Sum (Int×Sl β) (Sl β))}(l:List α)(g:α->List β)(s0:Sl β)(hb:l.length<9223372036854775808)
  (hstep:∀(i:Nat)(s:Sl β),i<l.length->s.l=s0.l++(l.take i).flatMap g->∃s',f ((i:Int),s)=some (.inl (wr .i64 ((i:Int)+1),s'))/\s'.l=s.l++g (gt l i))
  (hend:∀s,f ((l.length:Int),s)=some (.inr s)):∃s,bD f (0,s0)=some s/\s.l=s0.l++l.flatMap g:=by
 have key:∀(l:List α)(k:Nat),((l.zipIdx k).flatMap fun p=>g p.1)=l.flatMap g:=fun l=>by induction l with|nil=>intro k;rfl|cons x l ih=>intro k;simp[List.zipIdx_cons,ih]
 obtain⟨s,h1,h2⟩:=Uz l (fun _ x=>g x) s0 hb (fun i s hi hs=>hstep i s hi (by rw[hs,key])) hend;exact⟨s,h1,by rw[h2,key]⟩
section
variable{κ ν:Type}
theorem sF[DecidableEq κ]{k:κ}:∀{l:List (κ×ν×Nat)}{i:Nat},iD k l i=none<->∀e∈l,k≠e.1:=by
 intro l;induction l with
 |nil=>intro i;simp[iD]
 |cons x l ih=>
  intro i;simp only[iD];by_cases h:k=x.1
  .simp [h]
  .simp [h,ih]
theorem FL[DecidableEq κ]{k:κ}{v:ν}:∀{l:List (κ×ν×Nat)}{i j:Nat}{e:κ×ν×Nat},iD k l i=some (j,e)->iD k (sE l (j-i) v) i=some (j,(e.1,v,e.2.2)):=by
 intro l;induction l with
 |nil=>intro i j e h;simp[iD]at h
 |cons x l ih=>
  intro i j e h;simp only[iD]at h;split at h
  .rename_i hk;obtain⟨rfl,rfl⟩:i=j/\x=e:=by simpa using h
   simp[sE,iD,hk]
  .rename_i hk;obtain⟨h1,_,_⟩:=mC h;have e1:j-i=(j-(i+1))+1:=by omega
   rw[e1];simp only[sE,iD,hk,if_false];exact ih h
theorem FK{v:ν}{e:κ×ν×Nat}:∀{l:List (κ×ν×Nat)},sE (l++[e]) l.length v=l++[(e.1,v,e.2.2)]:=by intro l;induction l with|nil=>rfl|cons x l ih=>simp only[List.cons_append,List.length_cons,sE,ih]
theorem xU{l:List (κ×ν×Nat)}(h:∀(i:Nat)(e:κ×ν×Nat),l[i]?=some e->e.2.2=i){j:Nat}(hj:j<l.length):l.findIdx? (fun e=>decide ((e.2.2:Int)=(j:Int)))=some j:=by
 rw[List.findIdx?_eq_some_iff_getElem];refine⟨hj,?_,fun k hk=>?_⟩
 .have:=h j l[j] (by simp);simp[this]
 .have:=h k (l[k]'(by omega)) (by simp);simp only[this,decide_eq_true_eq];omega
end
def ly{κ:Type}(l:List κ):Mp κ Int:=⟨l.zipIdx.map fun q=>(q.1,1,q.2),l.length⟩
theorem vd{κ:Type}{l:List κ}{i:Nat}{e:κ×Int×Nat}(h:(ly l).es[i]?=some e):l[i]?=some e.1/\e.2.1=1/\e.2.2=i:=by simp only[ly,List.getElem?_map,aE]at h;obtain⟨q,hq,rfl⟩:=h;rw[List.getElem?_zipIdx]at hq;obtain⟨x,hx,rfl⟩:=aE.1 hq;exact⟨hx,rfl,by simp⟩
theorem Dy{κ:Type}{l:List κ}{e:κ×Int×Nat}(h:e∈(ly l).es):e.1∈l:=by obtain⟨i,hi,rfl⟩:=cq h;exact aX (vd (i:=i) (by simp[hi])).1
theorem vc{κ:Type}[DecidableEq κ]{l:List κ}{k:κ}:oS (ly l) 0 k=if k∈l then 1 else 0:=by
 unfold oS;by_cases hk:k∈l
 .rw [if_pos hk];cases h:iD k (ly l).es 0 with|none=>exfalso;rw[sF]at h;obtain⟨i,hi,rfl⟩:=cq hk;refine h (l[i],1,i) ?_ rfl;simp only[ly,List.mem_map];exact⟨(l[i],i),by rw[List.mem_zipIdx_iff_getElem?];simp[hi],rfl⟩|some p=>obtain⟨j,e⟩:=p;obtain⟨_,h2,_⟩:=mC h;exact(vd h2).2.1
 .rw [if_neg hk,sF.2 fun e he hke=>hk (by rw[hke];exact Dy he)]
theorem K9{κ:Type}[DecidableEq κ]{l:List κ}{k:κ}(hk:k∉l):vb (lX (ly l) 0 k).1 (lX (ly l) 0 k).2.2 1=some (ly (l++[k])):=by
 have hf:iD k (ly l).es 0=none:=sF.2 fun e he hke=>hk (by rw[hke];exact Dy he);have he:lX (ly l) 0 k=(⟨(ly l).es++[(k,0,l.length)],l.length+1⟩,0,(l.length:Int)):=by simp only[lX,hf];rfl
 have hlen:(ly l).es.length=l.length:=by simp[ly]
 have eV:((ly l).es++[(k,(0:Int),l.length)]).findIdx? (fun e=>decide ((e.2.2:Int)=(l.length:Int)))=some l.length:=by
  refine xU (fun i e hi=>?_) (by simp[hlen]);rcases Nat.lt_or_ge i (ly l).es.length with h|h
  .rw [List.getElem?_append_left h]at hi;exact(vd hi).2.2
  .rw [List.getElem?_append_right h]at hi;have h0:i-(ly l).es.length=0:=by have:=(ak.1 hi).1;simp at this;omega
   rw[h0]at hi;obtain rfl:(k,(0:Int),l.length)=e:=by simpa using hi
   simp only;omega
 rw[he];simp only[vb,eV,bL];have hp:=FK (v:=(1:Int)) (e:=(k,(0:Int),l.length)) (l:=(ly l).es);rw[hlen]at hp;rw[hp];simp[ly,List.zipIdx_append]
theorem K8{κ:Type}[DecidableEq κ]{l:List κ}{k:κ}(hk:k∈l)(v:Int):∃m,vb (lX (ly l) 0 k).1 (lX (ly l) 0 k).2.2 v=some m/\oS m 0 k=v:=by
 cases h:iD k (ly l).es 0 with
 |none=>have:=@vc κ _ l k;rw[if_pos hk]at this;unfold oS at this;rw[h]at this;simp at this
 |some p=>
  obtain⟨j,e⟩:=p;obtain⟨_,h2,_⟩:=mC h;rw[km]at h2;obtain⟨_,_,h5⟩:=vd h2;have he:lX (ly l) 0 k=(ly l,e.2.1,(e.2.2:Int)):=by simp only[lX,h]
  have hj:j<(ly l).es.length:=(ak.1 h2).1;have eV:=xU (l:=(ly l).es) (fun i e hi=>(vd hi).2.2) hj;refine⟨⟨sE (ly l).es j v,(ly l).ff⟩,by rw[he];simp only[vb,h5,eV,bL],?_⟩;have:=FL (v:=v) h;rw[km]at this;simp only[oS,this]
def jV(t:ah):List bm:=(t.bU.l.flatMap fun l=>[⟨l.A,l.ny⟩,⟨l.B,l.nw⟩])++t.bd.l.flatMap fun h=>[⟨h.At,h.oA⟩]
def uJ(l:bz):Prop:=l.A≠l.B/\1<=l.w9/\l.w9<=l.pS/\l.pS<=1000
def mj(t:ah)(p:bm):Prop:=(0<=p.sw/\p.sw<t.bq)/\0<=p.zU/\p.zU<8
structure lk(t:ah):Prop where
 sw:1<=t.bq/\t.bq<=8
 Hl:t.bU.l.length<=24
 rO:t.bd.l.length<=8
 Qq:∀l∈t.bU.l,uJ l
 nodup:(jV t).Nodup
 sy:∀p∈jV t,mj t p
instance(t:ah):Decidable (lk t):=Classical.propDecidable _
theorem Ft{t:ah}(h1:t.bU.l.length<=24)(h2:t.bd.l.length<=8):(jV t).length<=56:=by
 have e:∀l:List bz,(l.flatMap fun l=>[(⟨l.A,l.ny⟩:bm),⟨l.B,l.nw⟩]).length=2*l.length:=fun l=>by induction l with|nil=>rfl|cons x l ih=>simp[ih];omega
 have e2:∀l:List fQ,(l.flatMap fun h=>[(⟨h.At,h.oA⟩:bm)]).length=l.length:=fun l=>by induction l with|nil=>rfl|cons x l ih=>simp[ih]
 rw[jV,av,e,e2];omega
theorem C8{t:ah}(h1:t.bU.l.length<=24)(h2:t.bd.l.length<=8):∃s,mz t=some s/\s.l=jV t:=by
 have e2:∀l:List bz,(l.flatMap fun l=>[(⟨l.A,l.ny⟩:bm),⟨l.B,l.nw⟩]).length=2*l.length:=fun l=>by induction l with|nil=>rfl|cons x l ih=>simp[ih];omega
 have e1:∀l:List fQ,(l.flatMap fun h=>[(⟨h.At,h.oA⟩:bm)]).length=l.length:=fun l=>by induction l with|nil=>rfl|cons x l ih=>simp[ih]
 obtain⟨s,k1,k2⟩:=DM (f:=k7 t) t.bU.l (fun l=>[⟨l.A,l.ny⟩,⟨l.B,l.nw⟩]) .nil (by omega) (fun i s hi hs=>by have hcap:iF (s.l++[(⟨(gt t.bU.l i).A,(gt t.bU.l i).ny⟩:bm),⟨(gt t.bU.l i).B,(gt t.bU.l i).nw⟩])=some (s.l++[⟨(gt t.bU.l i).A,(gt t.bU.l i).ny⟩,⟨(gt t.bU.l i).B,(gt t.bU.l i).nw⟩]):=ij (by rw[hs,av,av,e2,bY];simp;omega);exact⟨.mk (s.l++[⟨(gt t.bU.l i).A,(gt t.bU.l i).ny⟩,⟨(gt t.bU.l i).B,(gt t.bU.l i).nw⟩]),by simp only[k7,js hi,cond_true,bp hi,af,hcap],rfl⟩) (fun s=>by simp only[k7,kH,cond_false]);obtain⟨s2,k3,k4⟩:=DM (f:=kZ t) t.bd.l (fun h=>[⟨h.At,h.oA⟩]) s (by omega) (fun i s' hi hs=>by have hcap:iF (s'.l++[(⟨(gt t.bd.l i).At,(gt t.bd.l i).oA⟩:bm)])=some (s'.l++[⟨(gt t.bd.l i).At,(gt t.bd.l i).oA⟩]):=ij (by rw[hs,k2,av,av,av,e2,e1,bY];simp;omega);exact⟨.mk (s'.l++[⟨(gt t.bd.l i).At,(gt t.bd.l i).oA⟩]),by simp only[kZ,js hi,cond_true,bp hi,af,hcap],rfl⟩) (fun s=>by simp only[kZ,kH,cond_false]);exact⟨s2,by simp only[mz,k1,af,k3],by rw[k4,k2];rfl⟩
theorem Gm{t:ah}{r:Sl bm}(hb:r.l.length<9223372036854775808):
  ∃b,bD (iG t r) (0,(Mp.none:Mp bm Int))=some b/\match b with|.inl v=>v=false/\¬(r.l.Nodup/\∀p∈r.l,mj t p)|.inr _=>r.l.Nodup/\∀p∈r.l,mj t p:=by
 have e0:((0:Nat):Int)=0:=rfl
 refine L3 (f:=iG t r) (fun i(m:Mp bm Int)=>((i:Int),m)) r.l.length (fun i m=>m=ly (r.l.take i)/\(r.l.take i).Nodup/\∀p∈r.l.take i,mj t p)
  (fun b=>match b with|.inl v=>v=false/\¬(r.l.Nodup/\∀p∈r.l,mj t p)|.inr _=>r.l.Nodup/\∀p∈r.l,mj t p) ?_ ?_ 0 Mp.none (cF _) ⟨by simp[ly,Mp.none],by simp,by simp⟩ (fun b q1 q2=>?_)
 .rintro i m hi ⟨rfl,hnd,hok⟩;have hgm:gt r.l i∈r.l:=by rw[cP hi];exact List.getElem_mem _
  have et:r.l.take (i+1)=r.l.take i++[gt r.l i]:=by rw[cP hi,cX hi]
  have hsplit:r.l=r.l.take i++gt r.l i::r.l.drop (i+1):=by rw[cP hi,<-dF hi,List.take_append_drop]
  by_cases hm:gt r.l i∈r.l.take i
  .right;obtain⟨m2,h1,h2⟩:=K8 hm 2;have hw:wr .i64 (oS (ly (r.l.take i)) 0 (gt r.l i)+1)=2:=by rw[vc,if_pos hm];rfl
   have hd:decide ((2:Int)>1)=true:=rfl;refine⟨.inl false,by simp only[iG,js hi,cond_true,bp hi,af,hw,h1,h2,hd,Bool.or_true],rfl,fun hh=>?_⟩;have h3:=hh.1;rw[hsplit]at h3;exact(bX.1 h3).2.2 _ hm _ (List.mem_cons_self ..) rfl
  .have h1:=K9 hm;have hw:wr .i64 (oS (ly (r.l.take i)) 0 (gt r.l i)+1)=1:=by rw[vc,if_neg hm];rfl
   have h2:oS (ly (r.l.take i++[gt r.l i])) 0 (gt r.l i)=1:=by rw[vc,if_pos (by simp)]
   have hd:decide ((1:Int)>1)=false:=rfl;have hc:((((decide (((gt r.l i).sw)<0))||(decide (((gt r.l i).sw)>=t.bq)))||(decide (((gt r.l i).zU)<0)))||(decide (((gt r.l i).zU)>=8)))=true<->¬mj t (gt r.l i):=by simp only[cL,decide_eq_true_eq,mj];omega
   by_cases hp:mj t (gt r.l i)
   .left;have hc2:((((decide (((gt r.l i).sw)<0))||(decide (((gt r.l i).sw)>=t.bq)))||(decide (((gt r.l i).zU)<0)))||(decide (((gt r.l i).zU)>=8)))=false:=by rw[<-Bool.not_eq_true];exact fun h=>hc.1 h hp
    refine⟨ly (r.l.take (i+1)),by simp only[iG,js hi,cond_true,bp hi,af,hw,h1,h2,hd,me,hc2,cond_false,kY (show i<9223372036854775807 by omega),et],rfl,?_,?_⟩
    .rw [et];exact bX.2 ⟨hnd,by simp,fun a ha b hb=>by rw[aq]at hb;subst hb;exact fun e=>hm (e▸ha)⟩
    .intro p hpm;rw[et]at hpm;rcases List.mem_append.1 hpm with h|h
     .exact hok p h
     .rw [aq]at h;subst h;exact hp
   .right;exact⟨.inl false,by simp only[iG,js hi,cond_true,bp hi,af,hw,h1,h2,hd,me,hc.2 hp],rfl,fun hh=>hp (hh.2 _ hgm)⟩
 .rintro m ⟨_,hnd,hok⟩;rw[ge]at hnd hok;exact⟨.inr (),by simp only[iG,kH,cond_false],hnd,hok⟩
 .rw [e0]at q1;exact⟨b,q1,q2⟩
theorem ER{t:ah}:nA t=some (decide (lk t)):=by
 unfold nA;by_cases hs:(1<=t.bq/\t.bq<=8)/\t.bU.l.length<=24/\t.bd.l.length<=8
 .have hc:((((decide (t.bq<1))||(decide (t.bq>8)))||(decide ((t.bU.l.length:Int)>24)))||(decide ((t.bd.l.length:Int)>8)))=false:=by simp only[gj,decide_eq_false_iff_not];omega
  have hl:=Re (f:=lS t) t.bU.l (fun l=>((((l.A==l.B)||(decide (l.w9<1)))||(decide (l.w9>l.pS)))||(decide (l.pS>1000)))) (by omega) (fun i hi=>by simp only[lS,js hi,cond_true,bp hi,af];generalize((((gt t.bU.l i).A==(gt t.bU.l i).B)||_)||_||_)=c;cases c<;>rfl) (by simp only[lS,kH,cond_false]);have hlk:∀l:bz,((((l.A==l.B)||(decide (l.w9<1)))||(decide (l.w9>l.pS)))||(decide (l.pS>1000)))=false<->uJ l:=fun l=>by simp only[gj,beq_eq_false_iff_ne,decide_eq_false_iff_not,uJ];omega
  rw[hc,cond_false,hl];by_cases hlo:∀l∈t.bU.l,uJ l
  .rw [if_pos (fun l hm=>(hlk l).2 (hlo l hm))];simp only[af];obtain⟨s,p1,p2⟩:=C8 hs.2.1 hs.2.2;have hpl:=Ft hs.2.1 hs.2.2;obtain⟨b,q1,q2⟩:=Gm (t:=t) (r:=s) (by rw[p2];omega);simp only[p1,af,q1];rw[p2]at q2;cases b with|inl v=>obtain⟨rfl,q2⟩:=q2;exact congrArg some (decide_eq_false fun h:lk t=>q2 ⟨h.nodup,h.sy⟩).symm|inr _=>exact congrArg some (decide_eq_true ⟨hs.1,hs.2.1,hs.2.2,hlo,q2.1,q2.2⟩).symm
  .rw [if_neg (fun h=>hlo fun l hm=>(hlk l).1 (h l hm))];exact congrArg some (decide_eq_false fun h=>hlo h.Qq).symm
 .have hc:((((decide (t.bq<1))||(decide (t.bq>8)))||(decide ((t.bU.l.length:Int)>24)))||(decide ((t.bd.l.length:Int)>8)))=true:=by simp only[cL,decide_eq_true_eq];omega
  rw[hc,cond_true];exact congrArg some (decide_eq_false fun h=>hs ⟨h.sw,h.Hl,h.rO⟩).symm
def oQ(sw p:Int)(i:Nat)(l:bz):Option (Int×Int×Int):=if sw=l.A/\p=l.ny then some (l.B,l.nw,(i:Int))else if sw=l.B/\p=l.nw then some (l.A,l.ny,(i:Int))else none
theorem Kq{α β γ:Type}{P:Nat->α->Option β}(g:β->γ):∀{l:List α}{i:Nat},lT (fun i x=>(P i x).map g) l i=(lT P l i).map g:=by
 intro l;induction l with
 |nil=>intro i;rfl
 |cons x l ih=>intro i;simp only[lT];cases P i x with|none=>exact ih|some b=>rfl
def q4(q:Int×Int×Int):Int×Int×Int×Bool:=(q.1,q.2.1,q.2.2,true)
def kN(t:ah)(sw p:Int):Int×Int×Int×Bool:=match lT (oQ sw p) t.bU.l 0 with|some (a,b,c)=>(a,b,c,true)|none=>(0,0,0,false)
theorem Ir(a b sw p:Int):decide ((⟨sw,p⟩:bm)=⟨a,b⟩)=decide (sw=a/\p=b):=by rw[Bool.eq_iff_iff];simp
theorem AD{t:ah}(sw p:Int)(hb:t.bU.l.length<9223372036854775808):nB t sw p=some (kN t sw p):=by
 have h:=wP (f:=mN t sw p) t.bU.l (fun i l=>(oQ sw p i l).map q4) () hb (fun i hi=>by
  simp only[mN,js hi,cond_true,bp hi,af,Ir,oQ];by_cases h1:sw=(gt t.bU.l i).A/\p=(gt t.bU.l i).ny
  .rw [if_pos h1,decide_eq_true h1];rfl
  .by_cases h2:sw=(gt t.bU.l i).B/\p=(gt t.bU.l i).nw
   .rw [if_neg h1,if_pos h2,decide_eq_false h1,decide_eq_true h2];rfl
   .rw [if_neg h1,if_neg h2,decide_eq_false h1,decide_eq_false h2];rfl) (by simp only[mN,kH,cond_false])
 simp only[nB,h,af,Kq,kN];cases lT (oQ sw p) t.bU.l 0 with|none=>rfl|some q=>obtain⟨a,b,c⟩:=q;rfl
theorem G3{t:ah}(hV:lk t){sw p a b c:Int}(h:lT (oQ sw p) t.bU.l 0=some (a,b,c)):0<=a/\a<t.bq:=by
 obtain⟨j,l,h1,h2,_⟩:=nC h;have hm:l∈t.bU.l:=aX h1;have hA:mj t ⟨l.A,l.ny⟩:=hV.sy _ (aF _ (bS.2 ⟨l,hm,by simp⟩));have hB:mj t ⟨l.B,l.nw⟩:=hV.sy _ (aF _ (bS.2 ⟨l,hm,by simp⟩));unfold oQ at h2;split at h2
 .obtain ⟨rfl,_⟩:=ad (aa h2);exact hB.1
 .split at h2
  .obtain ⟨rfl,_⟩:=ad (aa h2);exact hA.1
  .simp at h2
instance(t:ah)(p:bm):Decidable (mj t p):=inferInstanceAs (Decidable ((0<=p.sw/\p.sw<t.bq)/\0<=p.zU/\p.zU<8))
def wv(l:bz):List bm:=[⟨l.A,l.ny⟩,⟨l.B,l.nw⟩]
def Mm(h:fQ):List bm:=[⟨h.At,h.oA⟩]
theorem AC(t:ah):jV t=t.bU.l.flatMap wv++t.bd.l.flatMap Mm:=rfl
theorem DG{t:ah}(hV:lk t){i j:Nat}{l m:bz}(hi:t.bU.l[i]?=some l)(hj:t.bU.l[j]?=some m){p:bm}(hp:p∈wv l)(hq:p∈wv m):i=j:=by
 have h:=(bX.1 (AC t▸hV.nodup)).1;have h2:=(List.pairwise_flatMap.1 h).2;rw[List.pairwise_iff_getElem]at h2;obtain⟨hil,rfl⟩:=ak.1 hi;obtain⟨hjl,rfl⟩:=ak.1 hj;rcases Nat.lt_trichotomy i j with h3|h3|h3
 .exact absurd rfl (h2 i j hil hjl h3 p hp p hq)
 .exact h3
 .exact absurd rfl (h2 j i hjl hil h3 p hq p hp)
theorem F4{t:ah}(hV:lk t){l:bz}{h:fQ}(hl:l∈t.bU.l)(hh:h∈t.bd.l){p:bm}(hp:p∈wv l):p∉Mm h:=by intro hq;exact(bX.1 (AC t▸hV.nodup)).2.2 p (bS.2 ⟨l,hl,hp⟩) p (bS.2 ⟨h,hh,hq⟩) rfl
def M7(l:bz)(sw p a b:Int):Prop:=(sw=l.A/\p=l.ny/\a=l.B/\b=l.nw)\/(sw=l.B/\p=l.nw/\a=l.A/\b=l.ny)
theorem M7.AM{l:bz}{sw p a b:Int}(h:M7 l sw p a b):(⟨sw,p⟩:bm)∈wv l:=by rcases h with⟨rfl,rfl,_,_⟩|⟨rfl,rfl,_,_⟩<;>simp[wv]
theorem yo{sw p:Int}{i:Nat}{l:bz}{a b c:Int}(h:oQ sw p i l=some (a,b,c)):M7 l sw p a b/\c=i:=by
 unfold oQ at h;split at h
 .rename_i h1;obtain⟨rfl,rfl,rfl⟩:l.B=a/\l.nw=b/\(i:Int)=c:=by simpa using h
  exact⟨.inl ⟨h1.1,h1.2,rfl,rfl⟩,rfl⟩
 .split at h
  .rename_i h1;obtain⟨rfl,rfl,rfl⟩:l.A=a/\l.ny=b/\(i:Int)=c:=by simpa using h
   exact⟨.inr ⟨h1.1,h1.2,rfl,rfl⟩,rfl⟩
  .simp at h
theorem yn{l:bz}(hl:l.A≠l.B){sw p a b:Int}(h:M7 l sw p a b)(i:Nat):oQ sw p i l=some (a,b,(i:Int)):=by
 unfold oQ;rcases h with⟨rfl,rfl,rfl,rfl⟩|⟨rfl,rfl,rfl,rfl⟩
 .rw [if_pos ⟨rfl,rfl⟩]
 .rw [if_neg fun h=>hl h.1.symm,if_pos ⟨rfl,rfl⟩]
theorem KG{t:ah}(hV:lk t){sw p a b c:Int}:lT (oQ sw p) t.bU.l 0=some (a,b,c)<->∃(j:Nat)(l:bz),t.bU.l[j]?=some l/\M7 l sw p a b/\c=j:=by
 constructor
 .intro h;obtain⟨j,l,h1,h2,_⟩:=nC h;obtain⟨h3,h4⟩:=yo h2;exact⟨j,l,h1,h3,by simpa using h4⟩
 .rintro ⟨j,l,h1,h2,rfl⟩;have hlk:=hV.Qq l (aX h1);cases h:lT (oQ sw p) t.bU.l 0 with
  |none=>have:=nD.1 h j l h1;rw[yn hlk.1 h2]at this;simp at this
  |some q=>
   obtain⟨a',b',c'⟩:=q;obtain⟨k,m,h3,h4,_⟩:=nC h;obtain⟨h5,h6⟩:=yo h4;obtain rfl:=DG hV h1 h3 h2.AM h5.AM;obtain rfl:l=m:=aa (h1.symm.trans h3);have e:=yn hlk.1 h2 (0+j);rw[yn hlk.1 h5]at e;obtain⟨rfl,rfl⟩:a'=a/\b'=b:=by simpa using e
   rw[h6];simp
end Go.Proofs.YthcplpfiidlinaaDoor.J
