/- Loops P8 lists, and topologies: what Right and Peer answer. Conditions: as stated. -/
import Derived.Test.YthcplpfiidlinaaDoorJ
open Go.Ev Go
noncomputable section
open Bool renaming or_eq_false_iff->gj,or_eq_true->cM,or_false->mj
open List renaming drop_eq_getElem_cons->dG,getElem?_eq_some_iff->ak,getElem_of_mem->cu,length_append->av,length_take->b_,mem_append_left->aF,mem_flatMap->bU,mem_of_getElem?->aX,mem_singleton->aq,nodup_append->bZ,take_append_getElem->cZ,take_length->ge
open Nat renaming sub_zero->kp,zero_le->cG
open Option renaming bind_some->af,map_eq_some_iff->aE,map_some->bM
open Option.some renaming inj->aa
open Prod.mk renaming inj->ad
namespace Go.Proofs.YthcplpfiidlinaaDoor.J
theorem ig{n:Int}(h0:-9223372036854775808<=n)(h1:n<9223372036854775808):wr .i64 n=n:=by simp[wr,IntKind.wrap,IntKind.bits,IntKind.signed];omega
theorem PJ{S β:Type}{f:S->Option (Sum S β)}(m:S->Nat)(I:S->Prop)(R:β->Prop)
  (hstep:∀s,I s->(∃s',f s=some (.inl s')/\I s'/\m s'<m s)\/(∃b,f s=some (.inr b)/\R b)):∀s,I s->∃b,bD f s=some b/\R b:=by
 have:∀(n:Nat)(s:S),m s<=n->I s->∃b,bD f s=some b/\R b:=by
  intro n;induction n with
  |zero=>
   intro s hn hI;rcases hstep s hI with⟨s',_,_,h⟩|⟨b,h1,h2⟩
   .omega
   .exact ⟨b,cB h1,h2⟩
  |succ n ih=>
   intro s hn hI;rcases hstep s hI with⟨s',h1,h2,h3⟩|⟨b,h1,h2⟩
   .obtain ⟨b,h4,h5⟩:=ih s' (by omega) h2;exact⟨b,(dl h1).trans h4,h5⟩
   .exact ⟨b,cB h1,h2⟩
 exact fun s=>this (m s) s (Nat.le_refl _)
theorem Gd{S σ β:Type}{f:S->Option (Sum S β)}(st:Nat->σ->S)(n:Nat)(I:Nat->σ->Prop)(R:β->Prop)
  (hstep:∀i s,i<n->I i s->(∃s',f (st i s)=some (.inl (st (i+1) s'))/\I (i+1) s')\/(∃b,f (st i s)=some (.inr b)/\R b))
  (hend:∀s,I n s->∃b,f (st n s)=some (.inr b)/\R b):∀i s,i<=n->I i s->∃b,bD f (st i s)=some b/\R b:=by
 have:∀(k i:Nat)(s:σ),i+k=n->I i s->∃b,bD f (st i s)=some b/\R b:=by
  intro k;induction k with
  |zero=>
   intro i s hi hI;obtain rfl:i=n:=by omega
   obtain⟨b,h1,h2⟩:=hend s hI;exact⟨b,cB h1,h2⟩
  |succ k ih=>
   intro i s hi hI;rcases hstep i s (by omega) hI with⟨s',h1,h2⟩|⟨b,h1,h2⟩
   .obtain ⟨b,h4,h5⟩:=ih (i+1) s' (by omega) h2;exact⟨b,(dl h1).trans h4,h5⟩
   .exact ⟨b,cB h1,h2⟩
 exact fun i s hi=>this (n-i) i s (by omega)
theorem L6{S σ β:Type}{goal:Prop}{f:S->Option (Sum S β)}(st:Nat->σ->S)(n:Nat)(I:Nat->σ->Prop)(R:β->Prop)
  (hstep:∀i s,i<n->I i s->(∃s',f (st i s)=some (.inl (st (i+1) s'))/\I (i+1) s')\/(∃b,f (st i s)=some (.inr b)/\R b))
  (hend:∀s,I n s->∃b,f (st n s)=some (.inr b)/\R b) (i:Nat) (s:σ) (hi:i<=n) (hI:I i s) (k:∀b,bD f (st i s)=some b->R b->goal):goal:=
 let⟨b,h1,h2⟩:=Gd st n I R hstep hend i s hi hI
 k b h1 h2
theorem PK{S β:Type}{goal:Prop}{f:S->Option (Sum S β)}(m:S->Nat)(I:S->Prop)(R:β->Prop)
  (hstep:∀s,I s->(∃s',f s=some (.inl s')/\I s'/\m s'<m s)\/(∃b,f s=some (.inr b)/\R b)) (s:S) (hI:I s) (k:∀b,bD f s=some b->R b->goal):goal:=
 let⟨b,h1,h2⟩:=PJ m I R hstep s hI
 k b h1 h2
theorem jt{i n:Nat}(h:i<n):decide ((i:Int)<(n:Int))=true:=by rw[decide_eq_true_eq];omega
theorem kK{n:Nat}:decide ((n:Int)<(n:Int))=false:=by rw[decide_eq_false_iff_not];omega
theorem k9{i:Nat}(h:i<9223372036854775807):wr .i64 ((i:Int)+1)=((i+1:Nat):Int):=by rw[ig (by omega) (by omega)];omega
def lW{α β:Type}(P:Nat->α->Option β):List α->Nat->Option β
 |[],_=>none
 |x::r,i=>match P i x with|some b=>some b|none=>lW P r (i+1)
theorem wV{α β γ:Type}[Inhabited α]{f:Int->Option (Sum Int (Sum β γ))}(l:List α)(P:Nat->α->Option β)(c:γ)(hb:l.length<9223372036854775808)
  (hstep:∀i:Nat,i<l.length->f (i:Int)=some (match P i (gt l i)with|some b=>.inr (.inl b)|none=>.inl (wr .i64 ((i:Int)+1)))) (hend:f (l.length:Int)=some (.inr (.inr c))):
  bD f 0=some (match lW P l 0 with|some b=>.inl b|none=>.inr c):=by
 have main:∀(n i:Nat),i+n=l.length->bD f (i:Int)=some (match lW P (l.drop i) i with|some b=>.inl b|none=>.inr c):=by
  intro n;induction n with
  |zero=>
   intro i hi;obtain rfl:i=l.length:=by omega
   rw[cB hend,List.drop_length];rfl
  |succ n ih=>
   intro i hi;have hlt:i<l.length:=by omega
   have hs:=hstep i hlt;rw[dG hlt,<-cR hlt];simp only[lW];cases hP:P i (gt l i)with|some b=>rw[hP]at hs;rw[cB hs]|none=>rw[hP]at hs;simp only at hs;rw[k9 (by omega)]at hs;rw[dl hs,ih (i+1) (by omega)]
 have:=main l.length 0 (by omega);simpa using this
theorem nG{α β:Type}{P:Nat->α->Option β}:∀{l:List α}{i:Nat},lW P l i=none<->∀j(x:α),l[j]?=some x->P (i+j) x=none:=by
 intro l;induction l with
 |nil=>intro i;simp[lW]
 |cons y l ih=>
  intro i;simp only[lW];constructor
  .intro h j x hj;split at h
   .simp at h
   .rename_i hP;cases j with
    |zero=>
     obtain rfl:y=x:=by simpa using hj
     exact hP
    |succ j=>have:=ih.1 h j x (by simpa using hj);rw[show i+(j+1)=i+1+j by omega];exact this
  .intro h;have h0:=h 0 y rfl;rw[Nat.add_zero]at h0;rw[h0];exact ih.2 fun j x hj=>by have:=h (j+1) x (by simpa using hj);rw[show i+(j+1)=i+1+j by omega]at this;exact this
theorem nF{α β:Type}{P:Nat->α->Option β}:∀{l:List α}{i:Nat}{b:β},lW P l i=some b->∃j x,l[j]?=some x/\P (i+j) x=some b/\∀k,k<j->∀y,l[k]?=some y->P (i+k) y=none:=by
 intro l;induction l with
 |nil=>intro i b h;simp[lW]at h
 |cons y l ih=>
  intro i b h;simp only[lW]at h;split at h
  .rename_i b' hP;obtain rfl:=aa h;exact⟨0,y,rfl,hP,fun k hk=>by omega⟩
  .rename_i hP;obtain⟨j,x,h1,h2,h3⟩:=ih h;refine⟨j+1,x,by simpa using h1,by rw[show i+(j+1)=i+1+j by omega];exact h2,fun k hk z hz=>?_⟩;cases k with
   |zero=>
    obtain rfl:y=z:=by simpa using hz
    exact hP
   |succ k=>rw[show i+(k+1)=i+1+k by omega];exact h3 k (by omega) z (by simpa using hz)
theorem CV{α:Type}{p:α->Bool}{l:List α}{i:Nat}:lW (fun _ x=>if p x then some false else none) l i=none<->∀x∈l,p x=false:=by
 rw[nG];constructor
 .intro h x hx;obtain⟨j,hj,rfl⟩:=cu hx;have:=h j l[j] (by simp[hj]);cases hp:p l[j]
  .rfl
  .rw [hp]at this;simp at this
 .intro h j x hj;rw[h x (aX hj)];rfl
theorem Ri{α:Type}[Inhabited α]{f:Int->Option (Sum Int (Sum Bool Unit))}(l:List α)(p:α->Bool)(hb:l.length<9223372036854775808)
  (hstep:∀i:Nat,i<l.length->f (i:Int)=some (bif p (gt l i)then .inr (.inl false)else .inl (wr .i64 ((i:Int)+1)))) (hend:f (l.length:Int)=some (.inr (.inr ()))):
  bD f 0=some (if∀x∈l,p x=false then .inr ()else .inl false):=by
 rw[wV l (fun _ x=>if p x then some false else none) () hb (fun i hi=>by rw[hstep i hi];cases p (gt l i)<;>rfl) hend];cases h:lW (fun _ x=>if p x then some false else none) l 0 with
 |none=>rw[if_pos (CV.1 h)]
 |some u=>
  obtain⟨j,x,_,h2,_⟩:=nF h;split at h2
  .obtain rfl:=aa h2;rw[if_neg];intro hn;rw[CV.2 hn]at h;simp at h
  .simp at h2
theorem UF{α β:Type}[Inhabited α]{f:(Int×Sl β)->Option (Sum (Int×Sl β) (Sl β))}(l:List α)(g:Nat->α->List β)(s0:Sl β)(hb:l.length<9223372036854775808)
  (hstep:∀(i:Nat)(s:Sl β),i<l.length->s.l=s0.l++((l.take i).zipIdx.flatMap fun p=>g p.2 p.1)->∃s',f ((i:Int),s)=some (.inl (wr .i64 ((i:Int)+1),s'))/\s'.l=s.l++g i (gt l i))
  (hend:∀s,f ((l.length:Int),s)=some (.inr s)):∃s,bD f (0,s0)=some s/\s.l=s0.l++(l.zipIdx.flatMap fun p=>g p.2 p.1):=by
 have e0:((0:Nat):Int)=0:=rfl;refine L6 (f:=f) (fun i(s:Sl β)=>((i:Int),s)) l.length (fun i s=>s.l=s0.l++((l.take i).zipIdx.flatMap fun p=>g p.2 p.1)) (fun s=>s.l=s0.l++(l.zipIdx.flatMap fun p=>g p.2 p.1)) ?_ ?_ 0 s0 (cG _) (by simp) (fun b q1 q2=>?_)
 .intro i s hi hI;obtain⟨s',h1,h2⟩:=hstep i s hi hI;refine .inl ⟨s',by rw[h1,k9 (by omega)],?_⟩;have et:l.take (i+1)=l.take i++[gt l i]:=by rw[cR hi,cZ hi]
  rw[h2,hI,et,List.zipIdx_append,List.flatMap_append,List.append_assoc];simp[Nat.min_eq_left (Nat.le_of_lt hi)]
 .intro s hI;refine⟨s,hend s,?_⟩;rw[ge]at hI;exact hI
 .rw [e0]at q1;exact⟨b,q1,q2⟩
theorem DS{α β:Type}[Inhabited α]{f:(Int×Sl β)->Option (Sum (Int×Sl β) (Sl β))}(l:List α)(g:α->List β)(s0:Sl β)(hb:l.length<9223372036854775808)
  (hstep:∀(i:Nat)(s:Sl β),i<l.length->s.l=s0.l++(l.take i).flatMap g->∃s',f ((i:Int),s)=some (.inl (wr .i64 ((i:Int)+1),s'))/\s'.l=s.l++g (gt l i))
  (hend:∀s,f ((l.length:Int),s)=some (.inr s)):∃s,bD f (0,s0)=some s/\s.l=s0.l++l.flatMap g:=by
 have key:∀(l:List α)(k:Nat),((l.zipIdx k).flatMap fun p=>g p.1)=l.flatMap g:=fun l=>by induction l with|nil=>intro k;rfl|cons x l ih=>intro k;simp[List.zipIdx_cons,ih]
 obtain⟨s,h1,h2⟩:=UF l (fun _ x=>g x) s0 hb (fun i s hi hs=>hstep i s hi (by rw[hs,key])) hend;exact⟨s,h1,by rw[h2,key]⟩
section
variable{κ ν:Type}
theorem sL[DecidableEq κ]{k:κ}:∀{l:List (κ×ν×Nat)}{i:Nat},iF k l i=none<->∀e∈l,k≠e.1:=by
 intro l;induction l with
 |nil=>intro i;simp[iF]
 |cons x l ih=>
  intro i;simp only[iF];by_cases h:k=x.1
  .simp [h]
  .simp [h,ih]
theorem FP[DecidableEq κ]{k:κ}{v:ν}:∀{l:List (κ×ν×Nat)}{i j:Nat}{e:κ×ν×Nat},iF k l i=some (j,e)->iF k (sK l (j-i) v) i=some (j,(e.1,v,e.2.2)):=by
 intro l;induction l with
 |nil=>intro i j e h;simp[iF]at h
 |cons x l ih=>
  intro i j e h;simp only[iF]at h;split at h
  .rename_i hk;obtain⟨rfl,rfl⟩:i=j/\x=e:=by simpa using h
   simp[sK,iF,hk]
  .rename_i hk;obtain⟨h1,_,_⟩:=mH h;have e1:j-i=(j-(i+1))+1:=by omega
   rw[e1];simp only[sK,iF,hk,if_false];exact ih h
theorem FO{v:ν}{e:κ×ν×Nat}:∀{l:List (κ×ν×Nat)},sK (l++[e]) l.length v=l++[(e.1,v,e.2.2)]:=by intro l;induction l with|nil=>rfl|cons x l ih=>simp only[List.cons_append,List.length_cons,sK,ih]
theorem x7{l:List (κ×ν×Nat)}(h:∀(i:Nat)(e:κ×ν×Nat),l[i]?=some e->e.2.2=i){j:Nat}(hj:j<l.length):l.findIdx? (fun e=>decide ((e.2.2:Int)=(j:Int)))=some j:=by
 rw[List.findIdx?_eq_some_iff_getElem];refine⟨hj,?_,fun k hk=>?_⟩
 .have:=h j l[j] (by simp);simp[this]
 .have:=h k (l[k]'(by omega)) (by simp);simp only[this,decide_eq_true_eq];omega
end
def lE{κ:Type}(l:List κ):Mp κ Int:=⟨l.zipIdx.map fun q=>(q.1,1,q.2),l.length⟩
theorem vi{κ:Type}{l:List κ}{i:Nat}{e:κ×Int×Nat}(h:(lE l).es[i]?=some e):l[i]?=some e.1/\e.2.1=1/\e.2.2=i:=by simp only[lE,List.getElem?_map,aE]at h;obtain⟨q,hq,rfl⟩:=h;rw[List.getElem?_zipIdx]at hq;obtain⟨x,hx,rfl⟩:=aE.1 hq;exact⟨hx,rfl,by simp⟩
theorem DE{κ:Type}{l:List κ}{e:κ×Int×Nat}(h:e∈(lE l).es):e.1∈l:=by obtain⟨i,hi,rfl⟩:=cu h;exact aX (vi (i:=i) (by simp[hi])).1
theorem vh{κ:Type}[DecidableEq κ]{l:List κ}{k:κ}:oV (lE l) 0 k=if k∈l then 1 else 0:=by
 unfold oV;by_cases hk:k∈l
 .rw [if_pos hk];cases h:iF k (lE l).es 0 with|none=>exfalso;rw[sL]at h;obtain⟨i,hi,rfl⟩:=cu hk;refine h (l[i],1,i) ?_ rfl;simp only[lE,List.mem_map];exact⟨(l[i],i),by rw[List.mem_zipIdx_iff_getElem?];simp[hi],rfl⟩|some p=>obtain⟨j,e⟩:=p;obtain⟨_,h2,_⟩:=mH h;exact(vi h2).2.1
 .rw [if_neg hk,sL.2 fun e he hke=>hk (by rw[hke];exact DE he)]
theorem Lb{κ:Type}[DecidableEq κ]{l:List κ}{k:κ}(hk:k∉l):vg (l5 (lE l) 0 k).1 (l5 (lE l) 0 k).2.2 1=some (lE (l++[k])):=by
 have hf:iF k (lE l).es 0=none:=sL.2 fun e he hke=>hk (by rw[hke];exact DE he);have he:l5 (lE l) 0 k=(⟨(lE l).es++[(k,0,l.length)],l.length+1⟩,0,(l.length:Int)):=by simp only[l5,hf];rfl
 have hlen:(lE l).es.length=l.length:=by simp[lE]
 have eY:((lE l).es++[(k,(0:Int),l.length)]).findIdx? (fun e=>decide ((e.2.2:Int)=(l.length:Int)))=some l.length:=by
  refine x7 (fun i e hi=>?_) (by simp[hlen]);rcases Nat.lt_or_ge i (lE l).es.length with h|h
  .rw [List.getElem?_append_left h]at hi;exact(vi hi).2.2
  .rw [List.getElem?_append_right h]at hi;have h0:i-(lE l).es.length=0:=by have:=(ak.1 hi).1;simp at this;omega
   rw[h0]at hi;obtain rfl:(k,(0:Int),l.length)=e:=by simpa using hi
   simp only;omega
 rw[he];simp only[vg,eY,bM];have hp:=FO (v:=(1:Int)) (e:=(k,(0:Int),l.length)) (l:=(lE l).es);rw[hlen]at hp;rw[hp];simp[lE,List.zipIdx_append]
theorem La{κ:Type}[DecidableEq κ]{l:List κ}{k:κ}(hk:k∈l)(v:Int):∃m,vg (l5 (lE l) 0 k).1 (l5 (lE l) 0 k).2.2 v=some m/\oV m 0 k=v:=by
 cases h:iF k (lE l).es 0 with
 |none=>have:=@vh κ _ l k;rw[if_pos hk]at this;unfold oV at this;rw[h]at this;simp at this
 |some p=>
  obtain⟨j,e⟩:=p;obtain⟨_,h2,_⟩:=mH h;rw[kp]at h2;obtain⟨_,_,h5⟩:=vi h2;have he:l5 (lE l) 0 k=(lE l,e.2.1,(e.2.2:Int)):=by simp only[l5,h]
  have hj:j<(lE l).es.length:=(ak.1 h2).1;have eY:=x7 (l:=(lE l).es) (fun i e hi=>(vi hi).2.2) hj;refine⟨⟨sK (lE l).es j v,(lE l).fk⟩,by rw[he];simp only[vg,h5,eY,bM],?_⟩;have:=FP (v:=v) h;rw[kp]at this;simp only[oV,this]
def jY(t:ah):List bn:=(t.bW.l.flatMap fun l=>[⟨l.A,l.nB⟩,⟨l.B,l.nA⟩])++t.bd.l.flatMap fun h=>[⟨h.At,h.oc⟩]
def uP(l:bz):Prop:=l.A≠l.B/\1<=l.xj/\l.xj<=l.pW/\l.pW<=1000
def mo(t:ah)(p:bn):Prop:=(0<=p.sw/\p.sw<t.br)/\0<=p.z8/\p.z8<8
structure lr(t:ah):Prop where
 sw:1<=t.br/\t.br<=8
 Hs:t.bW.l.length<=24
 rT:t.bd.l.length<=8
 Qt:∀l∈t.bW.l,uP l
 nodup:(jY t).Nodup
 sF:∀p∈jY t,mo t p
instance(t:ah):Decidable (lr t):=Classical.propDecidable _
theorem Fy{t:ah}(h1:t.bW.l.length<=24)(h2:t.bd.l.length<=8):(jY t).length<=56:=by
 have e:∀l:List bz,(l.flatMap fun l=>[(⟨l.A,l.nB⟩:bn),⟨l.B,l.nA⟩]).length=2*l.length:=fun l=>by induction l with|nil=>rfl|cons x l ih=>simp[ih];omega
 have e2:∀l:List fS,(l.flatMap fun h=>[(⟨h.At,h.oc⟩:bn)]).length=l.length:=fun l=>by induction l with|nil=>rfl|cons x l ih=>simp[ih]
 rw[jY,av,e,e2];omega
theorem Dd{t:ah}(h1:t.bW.l.length<=24)(h2:t.bd.l.length<=8):∃s,mE t=some s/\s.l=jY t:=by
 have e2:∀l:List bz,(l.flatMap fun l=>[(⟨l.A,l.nB⟩:bn),⟨l.B,l.nA⟩]).length=2*l.length:=fun l=>by induction l with|nil=>rfl|cons x l ih=>simp[ih];omega
 have e1:∀l:List fS,(l.flatMap fun h=>[(⟨h.At,h.oc⟩:bn)]).length=l.length:=fun l=>by induction l with|nil=>rfl|cons x l ih=>simp[ih]
 obtain⟨s,k1,k2⟩:=DS (f:=lc t) t.bW.l (fun l=>[⟨l.A,l.nB⟩,⟨l.B,l.nA⟩]) .nil (by omega) (fun i s hi hs=>by have hcap:iH (s.l++[(⟨(gt t.bW.l i).A,(gt t.bW.l i).nB⟩:bn),⟨(gt t.bW.l i).B,(gt t.bW.l i).nA⟩])=some (s.l++[⟨(gt t.bW.l i).A,(gt t.bW.l i).nB⟩,⟨(gt t.bW.l i).B,(gt t.bW.l i).nA⟩]):=ik (by rw[hs,av,av,e2,b_];simp;omega);exact⟨.mk (s.l++[⟨(gt t.bW.l i).A,(gt t.bW.l i).nB⟩,⟨(gt t.bW.l i).B,(gt t.bW.l i).nA⟩]),by simp only[lc,jt hi,cond_true,bq hi,af,hcap],rfl⟩) (fun s=>by simp only[lc,kK,cond_false]);obtain⟨s2,k3,k4⟩:=DS (f:=k_ t) t.bd.l (fun h=>[⟨h.At,h.oc⟩]) s (by omega) (fun i s' hi hs=>by have hcap:iH (s'.l++[(⟨(gt t.bd.l i).At,(gt t.bd.l i).oc⟩:bn)])=some (s'.l++[⟨(gt t.bd.l i).At,(gt t.bd.l i).oc⟩]):=ik (by rw[hs,k2,av,av,av,e2,e1,b_];simp;omega);exact⟨.mk (s'.l++[⟨(gt t.bd.l i).At,(gt t.bd.l i).oc⟩]),by simp only[k_,jt hi,cond_true,bq hi,af,hcap],rfl⟩) (fun s=>by simp only[k_,kK,cond_false]);exact⟨s2,by simp only[mE,k1,af,k3],by rw[k4,k2];rfl⟩
theorem Gq{t:ah}{r:Sl bn}(hb:r.l.length<9223372036854775808):
  ∃b,bD (iI t r) (0,(Mp.none:Mp bn Int))=some b/\match b with|.inl v=>v=false/\¬(r.l.Nodup/\∀p∈r.l,mo t p)|.inr _=>r.l.Nodup/\∀p∈r.l,mo t p:=by
 have e0:((0:Nat):Int)=0:=rfl
 refine L6 (f:=iI t r) (fun i(m:Mp bn Int)=>((i:Int),m)) r.l.length (fun i m=>m=lE (r.l.take i)/\(r.l.take i).Nodup/\∀p∈r.l.take i,mo t p)
  (fun b=>match b with|.inl v=>v=false/\¬(r.l.Nodup/\∀p∈r.l,mo t p)|.inr _=>r.l.Nodup/\∀p∈r.l,mo t p) ?_ ?_ 0 Mp.none (cG _) ⟨by simp[lE,Mp.none],by simp,by simp⟩ (fun b q1 q2=>?_)
 .rintro i m hi ⟨rfl,hnd,hok⟩;have hgm:gt r.l i∈r.l:=by rw[cR hi];exact List.getElem_mem _
  have et:r.l.take (i+1)=r.l.take i++[gt r.l i]:=by rw[cR hi,cZ hi]
  have hsplit:r.l=r.l.take i++gt r.l i::r.l.drop (i+1):=by rw[cR hi,<-dG hi,List.take_append_drop]
  by_cases hm:gt r.l i∈r.l.take i
  .right;obtain⟨m2,h1,h2⟩:=La hm 2;have hw:wr .i64 (oV (lE (r.l.take i)) 0 (gt r.l i)+1)=2:=by rw[vh,if_pos hm];rfl
   have hd:decide ((2:Int)>1)=true:=rfl;refine⟨.inl false,by simp only[iI,jt hi,cond_true,bq hi,af,hw,h1,h2,hd,Bool.or_true],rfl,fun hh=>?_⟩;have h3:=hh.1;rw[hsplit]at h3;exact(bZ.1 h3).2.2 _ hm _ (List.mem_cons_self ..) rfl
  .have h1:=Lb hm;have hw:wr .i64 (oV (lE (r.l.take i)) 0 (gt r.l i)+1)=1:=by rw[vh,if_neg hm];rfl
   have h2:oV (lE (r.l.take i++[gt r.l i])) 0 (gt r.l i)=1:=by rw[vh,if_pos (by simp)]
   have hd:decide ((1:Int)>1)=false:=rfl;have hc:((((decide (((gt r.l i).sw)<0))||(decide (((gt r.l i).sw)>=t.br)))||(decide (((gt r.l i).z8)<0)))||(decide (((gt r.l i).z8)>=8)))=true<->¬mo t (gt r.l i):=by simp only[cM,decide_eq_true_eq,mo];omega
   by_cases hp:mo t (gt r.l i)
   .left;have hc2:((((decide (((gt r.l i).sw)<0))||(decide (((gt r.l i).sw)>=t.br)))||(decide (((gt r.l i).z8)<0)))||(decide (((gt r.l i).z8)>=8)))=false:=by rw[<-Bool.not_eq_true];exact fun h=>hc.1 h hp
    refine⟨lE (r.l.take (i+1)),by simp only[iI,jt hi,cond_true,bq hi,af,hw,h1,h2,hd,mj,hc2,cond_false,k9 (show i<9223372036854775807 by omega),et],rfl,?_,?_⟩
    .rw [et];exact bZ.2 ⟨hnd,by simp,fun a ha b hb=>by rw[aq]at hb;subst hb;exact fun e=>hm (e▸ha)⟩
    .intro p hpm;rw[et]at hpm;rcases List.mem_append.1 hpm with h|h
     .exact hok p h
     .rw [aq]at h;subst h;exact hp
   .right;exact⟨.inl false,by simp only[iI,jt hi,cond_true,bq hi,af,hw,h1,h2,hd,mj,hc.2 hp],rfl,fun hh=>hp (hh.2 _ hgm)⟩
 .rintro m ⟨_,hnd,hok⟩;rw[ge]at hnd hok;exact⟨.inr (),by simp only[iI,kK,cond_false],hnd,hok⟩
 .rw [e0]at q1;exact⟨b,q1,q2⟩
theorem EW{t:ah}:nD t=some (decide (lr t)):=by
 unfold nD;by_cases hs:(1<=t.br/\t.br<=8)/\t.bW.l.length<=24/\t.bd.l.length<=8
 .have hc:((((decide (t.br<1))||(decide (t.br>8)))||(decide ((t.bW.l.length:Int)>24)))||(decide ((t.bd.l.length:Int)>8)))=false:=by simp only[gj,decide_eq_false_iff_not];omega
  have hl:=Ri (f:=lV t) t.bW.l (fun l=>((((l.A==l.B)||(decide (l.xj<1)))||(decide (l.xj>l.pW)))||(decide (l.pW>1000)))) (by omega) (fun i hi=>by simp only[lV,jt hi,cond_true,bq hi,af];generalize((((gt t.bW.l i).A==(gt t.bW.l i).B)||_)||_||_)=c;cases c<;>rfl) (by simp only[lV,kK,cond_false]);have hlk:∀l:bz,((((l.A==l.B)||(decide (l.xj<1)))||(decide (l.xj>l.pW)))||(decide (l.pW>1000)))=false<->uP l:=fun l=>by simp only[gj,beq_eq_false_iff_ne,decide_eq_false_iff_not,uP];omega
  rw[hc,cond_false,hl];by_cases hlo:∀l∈t.bW.l,uP l
  .rw [if_pos (fun l hm=>(hlk l).2 (hlo l hm))];simp only[af];obtain⟨s,p1,p2⟩:=Dd hs.2.1 hs.2.2;have hpl:=Fy hs.2.1 hs.2.2;obtain⟨b,q1,q2⟩:=Gq (t:=t) (r:=s) (by rw[p2];omega);simp only[p1,af,q1];rw[p2]at q2;cases b with|inl v=>obtain⟨rfl,q2⟩:=q2;exact congrArg some (decide_eq_false fun h:lr t=>q2 ⟨h.nodup,h.sF⟩).symm|inr _=>exact congrArg some (decide_eq_true ⟨hs.1,hs.2.1,hs.2.2,hlo,q2.1,q2.2⟩).symm
  .rw [if_neg (fun h=>hlo fun l hm=>(hlk l).1 (h l hm))];exact congrArg some (decide_eq_false fun h=>hlo h.Qt).symm
 .have hc:((((decide (t.br<1))||(decide (t.br>8)))||(decide ((t.bW.l.length:Int)>24)))||(decide ((t.bd.l.length:Int)>8)))=true:=by simp only[cM,decide_eq_true_eq];omega
  rw[hc,cond_true];exact congrArg some (decide_eq_false fun h=>hs ⟨h.sw,h.Hs,h.rT⟩).symm
def oT(sw p:Int)(i:Nat)(l:bz):Option (Int×Int×Int):=if sw=l.A/\p=l.nB then some (l.B,l.nA,(i:Int))else if sw=l.B/\p=l.nA then some (l.A,l.nB,(i:Int))else none
theorem Kt{α β γ:Type}{P:Nat->α->Option β}(g:β->γ):∀{l:List α}{i:Nat},lW (fun i x=>(P i x).map g) l i=(lW P l i).map g:=by
 intro l;induction l with
 |nil=>intro i;rfl
 |cons x l ih=>intro i;simp only[lW];cases P i x with|none=>exact ih|some b=>rfl
def q4(q:Int×Int×Int):Int×Int×Int×Bool:=(q.1,q.2.1,q.2.2,true)
def kQ(t:ah)(sw p:Int):Int×Int×Int×Bool:=match lW (oT sw p) t.bW.l 0 with|some (a,b,c)=>(a,b,c,true)|none=>(0,0,0,false)
theorem Ix(a b sw p:Int):decide ((⟨sw,p⟩:bn)=⟨a,b⟩)=decide (sw=a/\p=b):=by rw[Bool.eq_iff_iff];simp
theorem AM{t:ah}(sw p:Int)(hb:t.bW.l.length<9223372036854775808):nE t sw p=some (kQ t sw p):=by
 have h:=wV (f:=mR t sw p) t.bW.l (fun i l=>(oT sw p i l).map q4) () hb (fun i hi=>by
  simp only[mR,jt hi,cond_true,bq hi,af,Ix,oT];by_cases h1:sw=(gt t.bW.l i).A/\p=(gt t.bW.l i).nB
  .rw [if_pos h1,decide_eq_true h1];rfl
  .by_cases h2:sw=(gt t.bW.l i).B/\p=(gt t.bW.l i).nA
   .rw [if_neg h1,if_pos h2,decide_eq_false h1,decide_eq_true h2];rfl
   .rw [if_neg h1,if_neg h2,decide_eq_false h1,decide_eq_false h2];rfl) (by simp only[mR,kK,cond_false])
 simp only[nE,h,af,Kt,kQ];cases lW (oT sw p) t.bW.l 0 with|none=>rfl|some q=>obtain⟨a,b,c⟩:=q;rfl
theorem G7{t:ah}(hV:lr t){sw p a b c:Int}(h:lW (oT sw p) t.bW.l 0=some (a,b,c)):0<=a/\a<t.br:=by
 obtain⟨j,l,h1,h2,_⟩:=nF h;have hm:l∈t.bW.l:=aX h1;have hA:mo t ⟨l.A,l.nB⟩:=hV.sF _ (aF _ (bU.2 ⟨l,hm,by simp⟩));have hB:mo t ⟨l.B,l.nA⟩:=hV.sF _ (aF _ (bU.2 ⟨l,hm,by simp⟩));unfold oT at h2;split at h2
 .obtain ⟨rfl,_⟩:=ad (aa h2);exact hB.1
 .split at h2
  .obtain ⟨rfl,_⟩:=ad (aa h2);exact hA.1
  .simp at h2
instance(t:ah)(p:bn):Decidable (mo t p):=inferInstanceAs (Decidable ((0<=p.sw/\p.sw<t.br)/\0<=p.z8/\p.z8<8))
def wC(l:bz):List bn:=[⟨l.A,l.nB⟩,⟨l.B,l.nA⟩]
def Mq(h:fS):List bn:=[⟨h.At,h.oc⟩]
theorem AL(t:ah):jY t=t.bW.l.flatMap wC++t.bd.l.flatMap Mq:=rfl
theorem DM{t:ah}(hV:lr t){i j:Nat}{l m:bz}(hi:t.bW.l[i]?=some l)(hj:t.bW.l[j]?=some m){p:bn}(hp:p∈wC l)(hq:p∈wC m):i=j:=by
 have h:=(bZ.1 (AL t▸hV.nodup)).1;have h2:=(List.pairwise_flatMap.1 h).2;rw[List.pairwise_iff_getElem]at h2;obtain⟨hil,rfl⟩:=ak.1 hi;obtain⟨hjl,rfl⟩:=ak.1 hj;rcases Nat.lt_trichotomy i j with h3|h3|h3
 .exact absurd rfl (h2 i j hil hjl h3 p hp p hq)
 .exact h3
 .exact absurd rfl (h2 j i hjl hil h3 p hq p hp)
theorem F8{t:ah}(hV:lr t){l:bz}{h:fS}(hl:l∈t.bW.l)(hh:h∈t.bd.l){p:bn}(hp:p∈wC l):p∉Mq h:=by intro hq;exact(bZ.1 (AL t▸hV.nodup)).2.2 p (bU.2 ⟨l,hl,hp⟩) p (bU.2 ⟨h,hh,hq⟩) rfl
def M_(l:bz)(sw p a b:Int):Prop:=(sw=l.A/\p=l.nB/\a=l.B/\b=l.nA)\/(sw=l.B/\p=l.nA/\a=l.A/\b=l.nB)
theorem M_.AX{l:bz}{sw p a b:Int}(h:M_ l sw p a b):(⟨sw,p⟩:bn)∈wC l:=by rcases h with⟨rfl,rfl,_,_⟩|⟨rfl,rfl,_,_⟩<;>simp[wC]
theorem yv{sw p:Int}{i:Nat}{l:bz}{a b c:Int}(h:oT sw p i l=some (a,b,c)):M_ l sw p a b/\c=i:=by
 unfold oT at h;split at h
 .rename_i h1;obtain⟨rfl,rfl,rfl⟩:l.B=a/\l.nA=b/\(i:Int)=c:=by simpa using h
  exact⟨.inl ⟨h1.1,h1.2,rfl,rfl⟩,rfl⟩
 .split at h
  .rename_i h1;obtain⟨rfl,rfl,rfl⟩:l.A=a/\l.nB=b/\(i:Int)=c:=by simpa using h
   exact⟨.inr ⟨h1.1,h1.2,rfl,rfl⟩,rfl⟩
  .simp at h
theorem yu{l:bz}(hl:l.A≠l.B){sw p a b:Int}(h:M_ l sw p a b)(i:Nat):oT sw p i l=some (a,b,(i:Int)):=by
 unfold oT;rcases h with⟨rfl,rfl,rfl,rfl⟩|⟨rfl,rfl,rfl,rfl⟩
 .rw [if_pos ⟨rfl,rfl⟩]
 .rw [if_neg fun h=>hl h.1.symm,if_pos ⟨rfl,rfl⟩]
theorem KJ{t:ah}(hV:lr t){sw p a b c:Int}:lW (oT sw p) t.bW.l 0=some (a,b,c)<->∃(j:Nat)(l:bz),t.bW.l[j]?=some l/\M_ l sw p a b/\c=j:=by
 constructor
 .intro h;obtain⟨j,l,h1,h2,_⟩:=nF h;obtain⟨h3,h4⟩:=yv h2;exact⟨j,l,h1,h3,by simpa using h4⟩
 .rintro ⟨j,l,h1,h2,rfl⟩;have hlk:=hV.Qt l (aX h1);cases h:lW (oT sw p) t.bW.l 0 with
  |none=>have:=nG.1 h j l h1;rw[yu hlk.1 h2]at this;simp at this
  |some q=>
   obtain⟨a',b',c'⟩:=q;obtain⟨k,m,h3,h4,_⟩:=nF h;obtain⟨h5,h6⟩:=yv h4;obtain rfl:=DM hV h1 h3 h2.AX h5.AX;obtain rfl:l=m:=aa (h1.symm.trans h3);have e:=yu hlk.1 h2 (0+j);rw[yu hlk.1 h5]at e;obtain⟨rfl,rfl⟩:a'=a/\b'=b:=by simpa using e
   rw[h6];simp
end Go.Proofs.YthcplpfiidlinaaDoor.J
