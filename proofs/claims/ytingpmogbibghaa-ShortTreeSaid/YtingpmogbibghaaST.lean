/- Loops over lists, and topologies: what Right and Peer answer. Conditions: as stated. -/
import Derived.Test.YtingpmogbibghaaS
open Bool renaming and_eq_true->ai,eq_iff_iff->gY,or_eq_false_iff->kh,or_eq_true->dl,or_false->kw
open List renaming append_nil->aV,drop_eq_getElem_cons->mN,flatMap_append->ja,flatMap_cons->bo,getElem?_eq_some_iff->ao,getElem_of_mem->ft,length_append->au,length_take->bW,mem_append->ap,mem_flatMap->cU,mem_of_getElem?->aR,mem_singleton->aq,nodup_append->cC,take_append_getElem->ku,take_length->mL
open Nat renaming add_zero->cT,sub_zero->mI,zero_le->eQ
open Option renaming bind_some->ae,map_eq_some_iff->aG,map_some->bK
open Option.some renaming inj->aa
open Go.Ev Go
noncomputable section
namespace Go.Proofs.Ytingpmogbibghaa.S
theorem vR{n:Int}(h0:-9223372036854775808<=n)(h1:n<9223372036854775808):wr .i64 n=n:=by simp[wr,IntKind.wrap,IntKind.bits,IntKind.signed];omega
theorem VF{S σ β:Type}{f:S->Option (Sum S β)}(st:Nat->σ->S)(n:Nat)(I:Nat->σ->Prop)(R:β->Prop)
  (hstep:∀i s,i<n->I i s->(∃s',f (st i s)=some (.inl (st (i+1) s'))/\I (i+1) s')\/(∃b,f (st i s)=some (.inr b)/\R b))
  (hend:∀s,I n s->∃b,f (st n s)=some (.inr b)/\R b):∀i s,i<=n->I i s->∃b,aY f (st i s)=some b/\R b:=by
 have:∀(k i:Nat)(s:σ),i+k=n->I i s->∃b,aY f (st i s)=some b/\R b:=by
  intro k;induction k with
  |zero=>
   intro i s hi hI;obtain rfl:i=n:=by omega
   obtain⟨b,h1,h2⟩:=hend s hI;exact⟨b,bH h1,h2⟩
  |succ k ih=>
   intro i s hi hI;rcases hstep i s (by omega) hI with⟨s',h1,h2⟩|⟨b,h1,h2⟩
   .obtain ⟨b,h4,h5⟩:=ih (i+1) s' (by omega) h2;exact⟨b,(cz h1).trans h4,h5⟩
   .exact ⟨b,bH h1,h2⟩
 exact fun i s hi=>this (n-i) i s (by omega)
theorem O4{S σ β:Type}{goal:Prop}{f:S->Option (Sum S β)}(st:Nat->σ->S)(n:Nat)(I:Nat->σ->Prop)(R:β->Prop)
  (hstep:∀i s,i<n->I i s->(∃s',f (st i s)=some (.inl (st (i+1) s'))/\I (i+1) s')\/(∃b,f (st i s)=some (.inr b)/\R b))
  (hend:∀s,I n s->∃b,f (st n s)=some (.inr b)/\R b) (i:Nat) (s:σ) (hi:i<=n) (hI:I i s) (k:∀b,aY f (st i s)=some b->R b->goal):goal:=
 let⟨b,h1,h2⟩:=VF st n I R hstep hend i s hi hI
 k b h1 h2
theorem vD{i n:Nat}(h:i<n):decide ((i:Int)<(n:Int))=true:=by rw[decide_eq_true_eq];omega
theorem Bl{n:Nat}:decide ((n:Int)<(n:Int))=false:=by rw[decide_eq_false_iff_not];omega
theorem ze{i:Nat}(h:i<9223372036854775807):wr .i64 ((i:Int)+1)=((i+1:Nat):Int):=by rw[vR (by omega) (by omega)];omega
def mB{α β:Type}(P:Nat->α->Option β):List α->Nat->Option β
 |[],_=>none
 |x::r,i=>match P i x with|some b=>some b|none=>mB P r (i+1)
theorem BG{α β γ:Type}[Inhabited α]{f:Int->Option (Sum Int (Sum β γ))}(l:List α)(P:Nat->α->Option β)(c:γ)(hb:l.length<9223372036854775808)
  (hstep:∀i:Nat,i<l.length->f (i:Int)=some (match P i (gt l i)with|some b=>.inr (.inl b)|none=>.inl (wr .i64 ((i:Int)+1)))) (hend:f (l.length:Int)=some (.inr (.inr c))):
  aY f 0=some (match mB P l 0 with|some b=>.inl b|none=>.inr c):=by
 have main:∀(n i:Nat),i+n=l.length->aY f (i:Int)=some (match mB P (l.drop i) i with|some b=>.inl b|none=>.inr c):=by
  intro n;induction n with
  |zero=>
   intro i hi;obtain rfl:i=l.length:=by omega
   rw[bH hend,List.drop_length];rfl
  |succ n ih=>
   intro i hi;have hlt:i<l.length:=by omega
   have hs:=hstep i hlt;rw[mN hlt,<-oM hlt];simp only[mB];cases hP:P i (gt l i)with|some b=>rw[hP]at hs;rw[bH hs]|none=>rw[hP]at hs;simp only at hs;rw[ze (by omega)]at hs;rw[cz hs,ih (i+1) (by omega)]
 have:=main l.length 0 (by omega);simpa using this
theorem BF{α β:Type}{P:Nat->α->Option β}:∀{l:List α}{i:Nat},mB P l i=none<->∀j(x:α),l[j]?=some x->P (i+j) x=none:=by
 intro l;induction l with
 |nil=>intro i;simp[mB]
 |cons y l ih=>
  intro i;simp only[mB];constructor
  .intro h j x hj;split at h
   .simp at h
   .rename_i hP;cases j with
    |zero=>
     obtain rfl:y=x:=by simpa using hj
     exact hP
    |succ j=>have:=ih.1 h j x (by simpa using hj);rw[show i+(j+1)=i+1+j by omega];exact this
  .intro h;have h0:=h 0 y rfl;rw[cT]at h0;rw[h0];exact ih.2 fun j x hj=>by have:=h (j+1) x (by simpa using hj);rw[show i+(j+1)=i+1+j by omega]at this;exact this
theorem qj{α β:Type}{P:Nat->α->Option β}:∀{l:List α}{i:Nat}{b:β},mB P l i=some b->∃j x,l[j]?=some x/\P (i+j) x=some b/\∀k,k<j->∀y,l[k]?=some y->P (i+k) y=none:=by
 intro l;induction l with
 |nil=>intro i b h;simp[mB]at h
 |cons y l ih=>
  intro i b h;simp only[mB]at h;split at h
  .rename_i b' hP;obtain rfl:=aa h;exact⟨0,y,rfl,hP,fun k hk=>by omega⟩
  .rename_i hP;obtain⟨j,x,h1,h2,h3⟩:=ih h;refine⟨j+1,x,by simpa using h1,by rw[show i+(j+1)=i+1+j by omega];exact h2,fun k hk z hz=>?_⟩;cases k with
   |zero=>
    obtain rfl:y=z:=by simpa using hz
    exact hP
   |succ k=>rw[show i+(k+1)=i+1+k by omega];exact h3 k (by omega) z (by simpa using hz)
theorem D2{α:Type}{p:α->Bool}{l:List α}{i:Nat}:mB (fun _ x=>if p x then some false else none) l i=none<->∀x∈l,p x=false:=by
 rw[BF];constructor
 .intro h x hx;obtain⟨j,hj,rfl⟩:=ft hx;have:=h j l[j] (by simp[hj]);cases hp:p l[j]
  .rfl
  .rw [hp]at this;simp at this
 .intro h j x hj;rw[h x (aR hj)];rfl
theorem R1{α:Type}[Inhabited α]{f:Int->Option (Sum Int (Sum Bool Unit))}(l:List α)(p:α->Bool)(hb:l.length<9223372036854775808)
  (hstep:∀i:Nat,i<l.length->f (i:Int)=some (bif p (gt l i)then .inr (.inl false)else .inl (wr .i64 ((i:Int)+1)))) (hend:f (l.length:Int)=some (.inr (.inr ()))):
  aY f 0=some (if∀x∈l,p x=false then .inr ()else .inl false):=by
 rw[BG l (fun _ x=>if p x then some false else none) () hb (fun i hi=>by rw[hstep i hi];cases p (gt l i)<;>rfl) hend];cases h:mB (fun _ x=>if p x then some false else none) l 0 with
 |none=>rw[if_pos (D2.1 h)]
 |some u=>
  obtain⟨j,x,_,h2,_⟩:=qj h;split at h2
  .obtain rfl:=aa h2;rw[if_neg];intro hn;rw[D2.2 hn]at h;simp at h
  .simp at h2
theorem S5{α β:Type}[Inhabited α]{f:(Int×Sl β)->Option (Sum (Int×Sl β) (Sl β))}(l:List α)(g:Nat->α->List β)(s0:Sl β)(hb:l.length<9223372036854775808)
  (hstep:∀(i:Nat)(s:Sl β),i<l.length->s.l=s0.l++((l.take i).zipIdx.flatMap fun p=>g p.2 p.1)->∃s',f ((i:Int),s)=some (.inl (wr .i64 ((i:Int)+1),s'))/\s'.l=s.l++g i (gt l i))
  (hend:∀s,f ((l.length:Int),s)=some (.inr s)):∃s,aY f (0,s0)=some s/\s.l=s0.l++(l.zipIdx.flatMap fun p=>g p.2 p.1):=by
 have e0:((0:Nat):Int)=0:=rfl;refine O4 (f:=f) (fun i(s:Sl β)=>((i:Int),s)) l.length (fun i s=>s.l=s0.l++((l.take i).zipIdx.flatMap fun p=>g p.2 p.1)) (fun s=>s.l=s0.l++(l.zipIdx.flatMap fun p=>g p.2 p.1)) ?_ ?_ 0 s0 (eQ _) (by simp) (fun b q1 q2=>?_)
 .intro i s hi hI;obtain⟨s',h1,h2⟩:=hstep i s hi hI;refine .inl ⟨s',by rw[h1,ze (by omega)],?_⟩;have et:l.take (i+1)=l.take i++[gt l i]:=by rw[oM hi,ku hi]
  rw[h2,hI,et,List.zipIdx_append,ja,List.append_assoc];simp[Nat.min_eq_left (Nat.le_of_lt hi)]
 .intro s hI;refine⟨s,hend s,?_⟩;rw[mL]at hI;exact hI
 .rw [e0]at q1;exact⟨b,q1,q2⟩
theorem P2{α β:Type}[Inhabited α]{f:(Int×Sl β)->Option (Sum (Int×Sl β) (Sl β))}(l:List α)(g:α->List β)(s0:Sl β)(hb:l.length<9223372036854775808)
  (hstep:∀(i:Nat)(s:Sl β),i<l.length->s.l=s0.l++(l.take i).flatMap g->∃s',f ((i:Int),s)=some (.inl (wr .i64 ((i:Int)+1),s'))/\s'.l=s.l++g (gt l i))
  (hend:∀s,f ((l.length:Int),s)=some (.inr s)):∃s,aY f (0,s0)=some s/\s.l=s0.l++l.flatMap g:=by
 have key:∀(l:List α)(k:Nat),((l.zipIdx k).flatMap fun p=>g p.1)=l.flatMap g:=fun l=>by induction l with|nil=>intro k;rfl|cons x l ih=>intro k;simp[List.zipIdx_cons,ih]
 obtain⟨s,h1,h2⟩:=S5 l (fun _ x=>g x) s0 hb (fun i s hi hs=>hstep i s hi (by rw[hs,key])) hend;exact⟨s,h1,by rw[h2,key]⟩
section
variable{κ ν:Type}
theorem ud[DecidableEq κ]{k:κ}:∀{l:List (κ×ν×Nat)}{i:Nat},jg k l i=none<->∀e∈l,k≠e.1:=by
 intro l;induction l with
 |nil=>intro i;simp[jg]
 |cons x l ih=>
  intro i;simp only[jg];by_cases h:k=x.1
  .simp [h]
  .simp [h,ih]
theorem G1[DecidableEq κ]{k:κ}{v:ν}:∀{l:List (κ×ν×Nat)}{i j:Nat}{e:κ×ν×Nat},jg k l i=some (j,e)->jg k (uc l (j-i) v) i=some (j,(e.1,v,e.2.2)):=by
 intro l;induction l with
 |nil=>intro i j e h;simp[jg]at h
 |cons x l ih=>
  intro i j e h;simp only[jg]at h;split at h
  .rename_i hk;obtain⟨rfl,rfl⟩:i=j/\x=e:=by simpa using h
   simp[uc,jg,hk]
  .rename_i hk;obtain⟨h1,_,_⟩:=nM h;have e1:j-i=(j-(i+1))+1:=by omega
   rw[e1];simp only[uc,jg,hk,if_false];exact ih h
theorem G0{v:ν}{e:κ×ν×Nat}:∀{l:List (κ×ν×Nat)},uc (l++[e]) l.length v=l++[(e.1,v,e.2.2)]:=by intro l;induction l with|nil=>rfl|cons x l ih=>simp only[List.cons_append,List.length_cons,uc,ih]
theorem zw{l:List (κ×ν×Nat)}(h:∀(i:Nat)(e:κ×ν×Nat),l[i]?=some e->e.2.2=i){j:Nat}(hj:j<l.length):l.findIdx? (fun e=>decide ((e.2.2:Int)=(j:Int)))=some j:=by
 rw[List.findIdx?_eq_some_iff_getElem];refine⟨hj,?_,fun k hk=>?_⟩
 .have:=h j l[j] (by simp);simp[this]
 .have:=h k (l[k]'(by omega)) (by simp);simp only[this,decide_eq_true_eq];omega
end
def mD{κ:Type}(l:List κ):Mp κ Int:=⟨l.zipIdx.map fun q=>(q.1,1,q.2),l.length⟩
theorem wB{κ:Type}{l:List κ}{i:Nat}{e:κ×Int×Nat}(h:(mD l).es[i]?=some e):l[i]?=some e.1/\e.2.1=1/\e.2.2=i:=by simp only[mD,List.getElem?_map,aG]at h;obtain⟨q,hq,rfl⟩:=h;rw[List.getElem?_zipIdx]at hq;obtain⟨x,hx,rfl⟩:=aG.1 hq;exact⟨hx,rfl,by simp⟩
theorem EX{κ:Type}{l:List κ}{e:κ×Int×Nat}(h:e∈(mD l).es):e.1∈l:=by obtain⟨i,hi,rfl⟩:=ft h;exact aR (wB (i:=i) (by simp[hi])).1
theorem wA{κ:Type}[DecidableEq κ]{l:List κ}{k:κ}:pT (mD l) 0 k=if k∈l then 1 else 0:=by
 unfold pT;by_cases hk:k∈l
 .rw [if_pos hk];cases h:jg k (mD l).es 0 with|none=>exfalso;rw[ud]at h;obtain⟨i,hi,rfl⟩:=ft hk;refine h (l[i],1,i) ?_ rfl;simp only[mD,List.mem_map];exact⟨(l[i],i),by rw[List.mem_zipIdx_iff_getElem?];simp[hi],rfl⟩|some p=>obtain⟨j,e⟩:=p;obtain⟨_,h2,_⟩:=nM h;exact(wB h2).2.1
 .rw [if_neg hk,ud.2 fun e he hke=>hk (by rw[hke];exact EX he)]
theorem L3{κ:Type}[DecidableEq κ]{l:List κ}{k:κ}(hk:k∉l):wy (m6 (mD l) 0 k).1 (m6 (mD l) 0 k).2.2 1=some (mD (l++[k])):=by
 have hf:jg k (mD l).es 0=none:=ud.2 fun e he hke=>hk (by rw[hke];exact EX he);have he:m6 (mD l) 0 k=(⟨(mD l).es++[(k,0,l.length)],l.length+1⟩,0,(l.length:Int)):=by simp only[m6,hf];rfl
 have hlen:(mD l).es.length=l.length:=by simp[mD]
 have eE:((mD l).es++[(k,(0:Int),l.length)]).findIdx? (fun e=>decide ((e.2.2:Int)=(l.length:Int)))=some l.length:=by
  refine zw (fun i e hi=>?_) (by simp[hlen]);rcases Nat.lt_or_ge i (mD l).es.length with h|h
  .rw [List.getElem?_append_left h]at hi;exact(wB hi).2.2
  .rw [List.getElem?_append_right h]at hi;have h0:i-(mD l).es.length=0:=by have:=(ao.1 hi).1;simp at this;omega
   rw[h0]at hi;obtain rfl:(k,(0:Int),l.length)=e:=by simpa using hi
   simp only;omega
 rw[he];simp only[wy,eE,bK];have hp:=G0 (v:=(1:Int)) (e:=(k,(0:Int),l.length)) (l:=(mD l).es);rw[hlen]at hp;rw[hp];simp[mD,List.zipIdx_append]
theorem L2{κ:Type}[DecidableEq κ]{l:List κ}{k:κ}(hk:k∈l)(v:Int):∃m,wy (m6 (mD l) 0 k).1 (m6 (mD l) 0 k).2.2 v=some m/\pT m 0 k=v:=by
 cases h:jg k (mD l).es 0 with
 |none=>have:=@wA κ _ l k;rw[if_pos hk]at this;unfold pT at this;rw[h]at this;simp at this
 |some p=>
  obtain⟨j,e⟩:=p;obtain⟨_,h2,_⟩:=nM h;rw[mI]at h2;obtain⟨_,_,h5⟩:=wB h2;have he:m6 (mD l) 0 k=(mD l,e.2.1,(e.2.2:Int)):=by simp only[m6,h]
  have hj:j<(mD l).es.length:=(ao.1 h2).1;have eE:=zw (l:=(mD l).es) (fun i e hi=>(wB hi).2.2) hj;refine⟨⟨uc (mD l).es j v,(mD l).fH⟩,by rw[he];simp only[wy,h5,eE,bK],?_⟩;have:=G1 (v:=v) h;rw[mI]at this;simp only[pT,this]
def ew(t:aj):List bk:=(t.aP.l.flatMap fun l=>[⟨l.A,l.jJ⟩,⟨l.B,l.jI⟩])++t.bg.l.flatMap fun h=>[⟨h.At,h.f_⟩]
def ut(l:aX):Prop:=l.A≠l.B/\1<=l.pX/\l.pX<=l.uX/\l.uX<=1000
def jO(t:aj)(p:bk):Prop:=(0<=p.sw/\p.sw<t.ah)/\0<=p.Bf/\p.Bf<8
structure lF(t:aj):Prop where
 sw:1<=t.ah/\t.ah<=8
 yi:t.aP.l.length<=24
 P5:t.bg.l.length<=8
 Mi:∀l∈t.aP.l,ut l
 nodup:(ew t).Nodup
 iK:∀p∈ew t,jO t p
instance(t:aj):Decidable (lF t):=Classical.propDecidable _
theorem GJ{t:aj}(h1:t.aP.l.length<=24)(h2:t.bg.l.length<=8):(ew t).length<=56:=by
 have e:∀l:List aX,(l.flatMap fun l=>[(⟨l.A,l.jJ⟩:bk),⟨l.B,l.jI⟩]).length=2*l.length:=fun l=>by induction l with|nil=>rfl|cons x l ih=>simp[ih];omega
 have e2:∀l:List dQ,(l.flatMap fun h=>[(⟨h.At,h.f_⟩:bk)]).length=l.length:=fun l=>by induction l with|nil=>rfl|cons x l ih=>simp[ih]
 rw[ew,au,e,e2];omega
theorem Eo{t:aj}(h1:t.aP.l.length<=24)(h2:t.bg.l.length<=8):∃s,nI t=some s/\s.l=ew t:=by
 have e2:∀l:List aX,(l.flatMap fun l=>[(⟨l.A,l.jJ⟩:bk),⟨l.B,l.jI⟩]).length=2*l.length:=fun l=>by induction l with|nil=>rfl|cons x l ih=>simp[ih];omega
 have e1:∀l:List dQ,(l.flatMap fun h=>[(⟨h.At,h.f_⟩:bk)]).length=l.length:=fun l=>by induction l with|nil=>rfl|cons x l ih=>simp[ih]
 obtain⟨s,k1,k2⟩:=P2 (f:=l6 t) t.aP.l (fun l=>[⟨l.A,l.jJ⟩,⟨l.B,l.jI⟩]) .nil (by omega) (fun i s hi hs=>by have hcap:m_ (s.l++[(⟨(gt t.aP.l i).A,(gt t.aP.l i).jJ⟩:bk),⟨(gt t.aP.l i).B,(gt t.aP.l i).jI⟩])=some (s.l++[⟨(gt t.aP.l i).A,(gt t.aP.l i).jJ⟩,⟨(gt t.aP.l i).B,(gt t.aP.l i).jI⟩]):=Dr (by rw[hs,au,au,e2,bW];simp;omega);exact⟨.mk (s.l++[⟨(gt t.aP.l i).A,(gt t.aP.l i).jJ⟩,⟨(gt t.aP.l i).B,(gt t.aP.l i).jI⟩]),by simp only[l6,vD hi,cond_true,nA hi,ae,hcap],rfl⟩) (fun s=>by simp only[l6,Bl,cond_false]);obtain⟨s2,k3,k4⟩:=P2 (f:=lZ t) t.bg.l (fun h=>[⟨h.At,h.f_⟩]) s (by omega) (fun i s' hi hs=>by have hcap:m_ (s'.l++[(⟨(gt t.bg.l i).At,(gt t.bg.l i).f_⟩:bk)])=some (s'.l++[⟨(gt t.bg.l i).At,(gt t.bg.l i).f_⟩]):=Dr (by rw[hs,k2,au,au,au,e2,e1,bW];simp;omega);exact⟨.mk (s'.l++[⟨(gt t.bg.l i).At,(gt t.bg.l i).f_⟩]),by simp only[lZ,vD hi,cond_true,nA hi,ae,hcap],rfl⟩) (fun s=>by simp only[lZ,Bl,cond_false]);exact⟨s2,by simp only[nI,k1,ae,k3],by rw[k4,k2];rfl⟩
theorem Ht{t:aj}{r:Sl bk}(hb:r.l.length<9223372036854775808):
  ∃b,aY (ji t r) (0,(Mp.none:Mp bk Int))=some b/\match b with|.inl v=>v=false/\¬(r.l.Nodup/\∀p∈r.l,jO t p)|.inr _=>r.l.Nodup/\∀p∈r.l,jO t p:=by
 have e0:((0:Nat):Int)=0:=rfl
 refine O4 (f:=ji t r) (fun i(m:Mp bk Int)=>((i:Int),m)) r.l.length (fun i m=>m=mD (r.l.take i)/\(r.l.take i).Nodup/\∀p∈r.l.take i,jO t p)
  (fun b=>match b with|.inl v=>v=false/\¬(r.l.Nodup/\∀p∈r.l,jO t p)|.inr _=>r.l.Nodup/\∀p∈r.l,jO t p) ?_ ?_ 0 Mp.none (eQ _) ⟨by simp[mD,Mp.none],by simp,by simp⟩ (fun b q1 q2=>?_)
 .rintro i m hi ⟨rfl,hnd,hok⟩;have hgm:gt r.l i∈r.l:=by rw[oM hi];exact List.getElem_mem _
  have et:r.l.take (i+1)=r.l.take i++[gt r.l i]:=by rw[oM hi,ku hi]
  have hsplit:r.l=r.l.take i++gt r.l i::r.l.drop (i+1):=by rw[oM hi,<-mN hi,List.take_append_drop]
  by_cases hm:gt r.l i∈r.l.take i
  .right;obtain⟨m2,h1,h2⟩:=L2 hm 2;have hw:wr .i64 (pT (mD (r.l.take i)) 0 (gt r.l i)+1)=2:=by rw[wA,if_pos hm];rfl
   have hd:decide ((2:Int)>1)=true:=rfl;refine⟨.inl false,by simp only[ji,vD hi,cond_true,nA hi,ae,hw,h1,h2,hd,Bool.or_true],rfl,fun hh=>?_⟩;have h3:=hh.1;rw[hsplit]at h3;exact(cC.1 h3).2.2 _ hm _ (List.mem_cons_self ..) rfl
  .have h1:=L3 hm;have hw:wr .i64 (pT (mD (r.l.take i)) 0 (gt r.l i)+1)=1:=by rw[wA,if_neg hm];rfl
   have h2:pT (mD (r.l.take i++[gt r.l i])) 0 (gt r.l i)=1:=by rw[wA,if_pos (by simp)]
   have hd:decide ((1:Int)>1)=false:=rfl;have hc:((((decide (((gt r.l i).sw)<0))||(decide (((gt r.l i).sw)>=t.ah)))||(decide (((gt r.l i).Bf)<0)))||(decide (((gt r.l i).Bf)>=8)))=true<->¬jO t (gt r.l i):=by simp only[dl,decide_eq_true_eq,jO];omega
   by_cases hp:jO t (gt r.l i)
   .left;have hc2:((((decide (((gt r.l i).sw)<0))||(decide (((gt r.l i).sw)>=t.ah)))||(decide (((gt r.l i).Bf)<0)))||(decide (((gt r.l i).Bf)>=8)))=false:=by rw[<-Bool.not_eq_true];exact fun h=>hc.1 h hp
    refine⟨mD (r.l.take (i+1)),by simp only[ji,vD hi,cond_true,nA hi,ae,hw,h1,h2,hd,kw,hc2,cond_false,ze (show i<9223372036854775807 by omega),et],rfl,?_,?_⟩
    .rw [et];exact cC.2 ⟨hnd,by simp,fun a ha b hb=>by rw[aq]at hb;subst hb;exact fun e=>hm (e▸ha)⟩
    .intro p hpm;rw[et]at hpm;rcases ap.1 hpm with h|h
     .exact hok p h
     .rw [aq]at h;subst h;exact hp
   .right;exact⟨.inl false,by simp only[ji,vD hi,cond_true,nA hi,ae,hw,h1,h2,hd,kw,hc.2 hp],rfl,fun hh=>hp (hh.2 _ hgm)⟩
 .rintro m ⟨_,hnd,hok⟩;rw[mL]at hnd hok;exact⟨.inr (),by simp only[ji,Bl,cond_false],hnd,hok⟩
 .rw [e0]at q1;exact⟨b,q1,q2⟩
theorem Gb{t:aj}:oP t=some (decide (lF t)):=by
 unfold oP;by_cases hs:(1<=t.ah/\t.ah<=8)/\t.aP.l.length<=24/\t.bg.l.length<=8
 .have hc:((((decide (t.ah<1))||(decide (t.ah>8)))||(decide ((t.aP.l.length:Int)>24)))||(decide ((t.bg.l.length:Int)>8)))=false:=by simp only[kh,decide_eq_false_iff_not];omega
  have hl:=R1 (f:=mQ t) t.aP.l (fun l=>((((l.A==l.B)||(decide (l.pX<1)))||(decide (l.pX>l.uX)))||(decide (l.uX>1000)))) (by omega) (fun i hi=>by simp only[mQ,vD hi,cond_true,nA hi,ae];generalize((((gt t.aP.l i).A==(gt t.aP.l i).B)||_)||_||_)=c;cases c<;>rfl) (by simp only[mQ,Bl,cond_false]);have hlk:∀l:aX,((((l.A==l.B)||(decide (l.pX<1)))||(decide (l.pX>l.uX)))||(decide (l.uX>1000)))=false<->ut l:=fun l=>by simp only[kh,beq_eq_false_iff_ne,decide_eq_false_iff_not,ut];omega
  rw[hc,cond_false,hl];by_cases hlo:∀l∈t.aP.l,ut l
  .rw [if_pos (fun l hm=>(hlk l).2 (hlo l hm))];simp only[ae];obtain⟨s,p1,p2⟩:=Eo hs.2.1 hs.2.2;have hpl:=GJ hs.2.1 hs.2.2;obtain⟨b,q1,q2⟩:=Ht (t:=t) (r:=s) (by rw[p2];omega);simp only[p1,ae,q1];rw[p2]at q2;cases b with|inl v=>obtain⟨rfl,q2⟩:=q2;exact congrArg some (decide_eq_false fun h:lF t=>q2 ⟨h.nodup,h.iK⟩).symm|inr _=>exact congrArg some (decide_eq_true ⟨hs.1,hs.2.1,hs.2.2,hlo,q2.1,q2.2⟩).symm
  .rw [if_neg (fun h=>hlo fun l hm=>(hlk l).1 (h l hm))];exact congrArg some (decide_eq_false fun h=>hlo h.Mi).symm
 .have hc:((((decide (t.ah<1))||(decide (t.ah>8)))||(decide ((t.aP.l.length:Int)>24)))||(decide ((t.bg.l.length:Int)>8)))=true:=by simp only[dl,decide_eq_true_eq];omega
  rw[hc,cond_true];exact congrArg some (decide_eq_false fun h=>hs ⟨h.sw,h.yi,h.P5⟩).symm
def qz(sw p:Int)(i:Nat)(l:aX):Option (Int×Int×Int):=if sw=l.A/\p=l.jJ then some (l.B,l.jI,(i:Int))else if sw=l.B/\p=l.jI then some (l.A,l.jJ,(i:Int))else none
theorem Lj{α β γ:Type}{P:Nat->α->Option β}(g:β->γ):∀{l:List α}{i:Nat},mB (fun i x=>(P i x).map g) l i=(mB P l i).map g:=by
 intro l;induction l with
 |nil=>intro i;rfl
 |cons x l ih=>intro i;simp only[mB];cases P i x with|none=>exact ih|some b=>rfl
def q4(q:Int×Int×Int):Int×Int×Int×Bool:=(q.1,q.2.1,q.2.2,true)
def LF(t:aj)(sw p:Int):Int×Int×Int×Bool:=match mB (qz sw p) t.aP.l 0 with|some (a,b,c)=>(a,b,c,true)|none=>(0,0,0,false)
theorem X7(a b sw p:Int):decide ((⟨sw,p⟩:bk)=⟨a,b⟩)=decide (sw=a/\p=b):=by rw[gY];simp
theorem X8{t:aj}(sw p:Int)(hb:t.aP.l.length<9223372036854775808):Xc t sw p=some (LF t sw p):=by
 have h:=BG (f:=Z2 t sw p) t.aP.l (fun i l=>(qz sw p i l).map q4) () hb (fun i hi=>by
  simp only[Z2,vD hi,cond_true,nA hi,ae,X7,qz];by_cases h1:sw=(gt t.aP.l i).A/\p=(gt t.aP.l i).jJ
  .rw [if_pos h1,decide_eq_true h1];rfl
  .by_cases h2:sw=(gt t.aP.l i).B/\p=(gt t.aP.l i).jI
   .rw [if_neg h1,if_pos h2,decide_eq_false h1,decide_eq_true h2];rfl
   .rw [if_neg h1,if_neg h2,decide_eq_false h1,decide_eq_false h2];rfl) (by simp only[Z2,Bl,cond_false])
 simp only[Xc,h,ae,Lj,LF];cases mB (qz sw p) t.aP.l 0 with|none=>rfl|some q=>obtain⟨a,b,c⟩:=q;rfl
instance(t:aj)(p:bk):Decidable (jO t p):=inferInstanceAs (Decidable ((0<=p.sw/\p.sw<t.ah)/\0<=p.Bf/\p.Bf<8))
def my(l:aX):List bk:=[⟨l.A,l.jJ⟩,⟨l.B,l.jI⟩]
def wL(h:dQ):List bk:=[⟨h.At,h.f_⟩]
theorem mC(t:aj):ew t=t.aP.l.flatMap my++t.bg.l.flatMap wL:=rfl
theorem Ku(a b q:bk):[a,b].count q=(if a=q then 1 else 0)+(if b=q then 1 else 0):=by by_cases h1:a=q<;>by_cases h2:b=q<;>simp[h1,h2]
theorem BR(a b sw p:Int):((a==sw)&&(b==p))=decide ((⟨a,b⟩:bk)=⟨sw,p⟩):=by rw[gY];simp
theorem PF(a b:Bool):(bif a then some b else some false)=some (a&&b):=by cases a<;>rfl
def xy(t:aj)(sw p:Int):Bool:=decide (jO t ⟨sw,p⟩/\(ew t).count ⟨sw,p⟩=1)
theorem BP{t:aj}(hl:t.aP.l.length<=30)(hh:t.bg.l.length<=12)(sw p:Int):oV t sw p=some (xy t sw p):=by
 have e0:((0:Nat):Int)=0:=rfl
 have h1:∃b,aY (mX t sw p) (0,0)=some b/\b=((t.aP.l.flatMap my).count ⟨sw,p⟩:Nat)/\(t.aP.l.flatMap my).count ⟨sw,p⟩<=60:=by
  refine O4 (f:=mX t sw p) (fun i(n:Nat)=>((n:Int),(i:Int))) t.aP.l.length (fun i n=>n=((t.aP.l.take i).flatMap my).count ⟨sw,p⟩/\n<=2*i)
   (fun b=>b=((t.aP.l.flatMap my).count ⟨sw,p⟩:Nat)/\(t.aP.l.flatMap my).count ⟨sw,p⟩<=60) ?_ ?_ 0 0 (eQ _) ⟨by simp,by omega⟩ (fun b q1 q2=>⟨b,by rw[e0]at q1;exact q1,q2⟩)
  .rintro i n hi ⟨hn,hle⟩;left;have et:t.aP.l.take (i+1)=t.aP.l.take i++[gt t.aP.l i]:=by rw[oM hi,ku hi]
   have hc:((t.aP.l.take (i+1)).flatMap my).count ⟨sw,p⟩=n+((if(⟨(gt t.aP.l i).A,(gt t.aP.l i).jJ⟩:bk)=⟨sw,p⟩then 1 else 0)+(if(⟨(gt t.aP.l i).B,(gt t.aP.l i).jI⟩:bk)=⟨sw,p⟩then 1 else 0)):=by rw[et,ja,List.count_append,<-hn];simp only[bo,List.flatMap_nil,aV,my,Ku]
   have w1:wr .i64 ((n:Int)+1)=((n+1:Nat):Int):=ze (by omega);have w2:wr .i64 (((n+1:Nat):Int)+1)=((n+1+1:Nat):Int):=ze (by omega);have w3:=ze (show i<9223372036854775807 by omega);refine⟨n+((if(⟨(gt t.aP.l i).A,(gt t.aP.l i).jJ⟩:bk)=⟨sw,p⟩then 1 else 0)+(if(⟨(gt t.aP.l i).B,(gt t.aP.l i).jI⟩:bk)=⟨sw,p⟩then 1 else 0)),?_,hc.symm,?_⟩
   .simp only[mX,vD hi,cond_true,nA hi,ae,BR,w3];split<;>rename_i c1<;>split<;>rename_i c2
    .rw [decide_eq_true c1,decide_eq_true c2];simp only[cond_true,ae,w1,w2]
    .rw [decide_eq_true c1,decide_eq_false c2];simp only[cond_true,cond_false,ae,w1]
    .rw [decide_eq_false c1,decide_eq_true c2];simp only[cond_true,cond_false,ae,w1,Nat.zero_add]
    .rw [decide_eq_false c1,decide_eq_false c2];simp only[cond_false,ae,cT]
   .split<;>split<;>omega
  .rintro n ⟨hn,hle⟩;rw[mL]at hn;exact⟨(n:Int),by simp only[mX,Bl,cond_false],by rw[hn],by rw[<-hn];omega⟩
 obtain⟨b1,h1,rfl,hb1⟩:=h1;generalize hk:(t.aP.l.flatMap my).count ⟨sw,p⟩=k at*
 have h2:∃b,aY (mW t sw p) ((k:Int),0)=some b/\b=((ew t).count ⟨sw,p⟩:Nat):=by
  refine O4 (f:=mW t sw p) (fun i(n:Nat)=>((n:Int),(i:Int))) t.bg.l.length (fun i n=>n=k+((t.bg.l.take i).flatMap wL).count ⟨sw,p⟩/\n<=k+i)
   (fun b=>b=((ew t).count ⟨sw,p⟩:Nat)) ?_ ?_ 0 k (eQ _) ⟨by simp,by omega⟩ (fun b q1 q2=>⟨b,by rw[e0]at q1;exact q1,q2⟩)
  .rintro i n hi ⟨hn,hle⟩;left;have et:t.bg.l.take (i+1)=t.bg.l.take i++[gt t.bg.l i]:=by rw[oM hi,ku hi]
   have hc:k+((t.bg.l.take (i+1)).flatMap wL).count ⟨sw,p⟩=n+(if(⟨(gt t.bg.l i).At,(gt t.bg.l i).f_⟩:bk)=⟨sw,p⟩then 1 else 0):=by rw[et,ja,List.count_append,hn];simp only[bo,List.flatMap_nil,aV,wL];by_cases h:(⟨(gt t.bg.l i).At,(gt t.bg.l i).f_⟩:bk)=⟨sw,p⟩<;>simp[h]<;>omega
   have w1:wr .i64 ((n:Int)+1)=((n+1:Nat):Int):=ze (by omega);have w3:=ze (show i<9223372036854775807 by omega);refine⟨n+(if(⟨(gt t.bg.l i).At,(gt t.bg.l i).f_⟩:bk)=⟨sw,p⟩then 1 else 0),?_,hc.symm,?_⟩
   .simp only[mW,vD hi,cond_true,nA hi,ae,PF,BR,w3];split<;>rename_i c1
    .rw [decide_eq_true c1];simp only[cond_true,ae,w1]
    .rw [decide_eq_false c1];simp only[cond_false,ae,cT]
   .split<;>omega
  .rintro n ⟨hn,hle⟩;rw[mL]at hn;exact⟨(n:Int),by simp only[mW,Bl,cond_false],by rw[mC,List.count_append,hk,<-hn]⟩
 obtain⟨b2,h2,rfl⟩:=h2;simp only[oV,h1,ae,h2];congr 1;rw[gY,xy];generalize(ew t).count ⟨sw,p⟩=m;constructor
 .intro h;simp only[ai,decide_eq_true_eq,beq_iff_eq]at h;obtain⟨⟨⟨⟨a,b⟩,c⟩,d⟩,e⟩:=h;exact decide_eq_true ⟨⟨⟨a,b⟩,c,(by omega:p<8)⟩,by omega⟩
 .intro h;obtain⟨⟨⟨a,b⟩,c,d⟩,e⟩:=of_decide_eq_true h;have a:0<=sw:=a;have b:sw<t.ah:=b;have c:0<=p:=c;have d:p<8:=d;simp only[ai,decide_eq_true_eq,beq_iff_eq];exact⟨⟨⟨⟨a,b⟩,c⟩,by omega⟩,by omega⟩
theorem yf{l:List bk}:l.Nodup<->∀p∈l,l.count p=1:=by
 rw[List.nodup_iff_count];constructor
 .intro h p hp;have h1:=h p;have h2:=List.count_pos_iff.2 hp;omega
 .intro h p;by_cases hp:p∈l
  .rw [h p hp];exact Nat.le_refl _
  .rw [List.count_eq_zero_of_not_mem hp];omega
theorem Jw{t:aj}(hl:t.aP.l.length<=30)(hh:t.bg.l.length<=12):re t=some (decide (lF t)):=by
 unfold re;by_cases hs:(1<=t.ah/\t.ah<=8)/\t.aP.l.length<=24/\t.bg.l.length<=8
 .have hc:((((decide (t.ah<1))||(decide (t.ah>8)))||(decide ((t.aP.l.length:Int)>24)))||(decide ((t.bg.l.length:Int)>8)))=false:=by simp only[kh,decide_eq_false_iff_not];omega
  have h1:=R1 (f:=od t) t.aP.l (fun l=>((l.A==l.B)||(decide (l.pX<1)||(decide (l.pX>l.uX)||(decide (l.uX>1000)||
    (!(xy t l.A l.jJ)||!(xy t l.B l.jI))))))) (by omega) (fun i hi=>by
   simp only[od,vD hi,cond_true,nA hi,ae,BP hl hh];generalize((gt t.aP.l i).A==(gt t.aP.l i).B)=b1;generalize decide ((gt t.aP.l i).pX<1)=b2;generalize decide ((gt t.aP.l i).pX>(gt t.aP.l i).uX)=b3;generalize decide ((gt t.aP.l i).uX>1000)=b4;generalize xy t (gt t.aP.l i).A (gt t.aP.l i).jJ=b5;generalize xy t (gt t.aP.l i).B (gt t.aP.l i).jI=b6;cases b1<;>cases b2<;>cases b3<;>cases b4<;>cases b5<;>cases b6<;>rfl) (by simp only[od,Bl,cond_false])
  have h2:=R1 (f:=oc t) t.bg.l (fun h=>!(xy t h.At h.f_)) (by omega) (fun i hi=>by simp only[oc,vD hi,cond_true,nA hi,ae,BP hl hh];generalize xy t (gt t.bg.l i).At (gt t.bg.l i).f_=b;cases b<;>rfl) (by simp only[oc,Bl,cond_false])
  have hlk:∀l:aX,((l.A==l.B)||(decide (l.pX<1)||(decide (l.pX>l.uX)||(decide (l.uX>1000)||
    (!(xy t l.A l.jJ)||!(xy t l.B l.jI))))))=false<->
    ut l/\∀p∈my l,jO t p/\(ew t).count p=1:=fun l=>by
   simp only[xy,kh,beq_eq_false_iff_ne,decide_eq_false_iff_not,ut,Bool.not_eq_false',decide_eq_true_eq,my,List.mem_cons,List.not_mem_nil,or_false,forall_eq_or_imp,forall_eq];constructor
   .rintro ⟨a,b,c,d,e,f⟩;exact⟨⟨a,by omega,by omega,by omega⟩,e,f⟩
   .rintro ⟨⟨a,b,c,d⟩,e,f⟩;exact⟨a,by omega,by omega,by omega,e,f⟩
  have hho:∀h:dQ,(!(xy t h.At h.f_))=false<->∀p∈wL h,jO t p/\(ew t).count p=1:=fun h=>by simp only[xy,Bool.not_eq_false',decide_eq_true_eq,wL,aq,forall_eq]
  have hV:lF t<->(∀l∈t.aP.l,ut l/\∀p∈my l,jO t p/\(ew t).count p=1)/\∀h∈t.bg.l,∀p∈wL h,jO t p/\(ew t).count p=1:=by
   constructor
   .intro hV;have hc:=yf.1 hV.nodup;refine⟨fun l hl=>⟨hV.Mi l hl,fun p hp=>?_⟩,fun h hh p hp=>?_⟩
    .have hm:p∈ew t:=by rw[mC];exact List.mem_append_left _ (cU.2 ⟨l,hl,hp⟩)
     exact⟨hV.iK p hm,hc p hm⟩
    .have hm:p∈ew t:=by rw[mC];exact List.mem_append_right _ (cU.2 ⟨h,hh,hp⟩)
     exact⟨hV.iK p hm,hc p hm⟩
   .rintro ⟨ha,hb⟩
    have all:∀p∈ew t,jO t p/\(ew t).count p=1:=by
     intro p hp;rw[mC]at hp;rcases ap.1 hp with h|h
     .obtain ⟨l,hl,hp⟩:=cU.1 h;exact(ha l hl).2 p hp
     .obtain ⟨x,hx,hp⟩:=cU.1 h;exact hb x hx p hp
    exact⟨hs.1,hs.2.1,hs.2.2,fun l hl=>(ha l hl).1,yf.2 fun p hp=>(all p hp).2,fun p hp=>(all p hp).1⟩
  rw[hc,cond_false,h1];by_cases c1:∀l∈t.aP.l,ut l/\∀p∈my l,jO t p/\(ew t).count p=1
  .rw [if_pos (fun l hm=>(hlk l).2 (c1 l hm))];simp only[ae,h2];by_cases c2:∀h∈t.bg.l,∀p∈wL h,jO t p/\(ew t).count p=1
   .rw [if_pos (fun h hm=>(hho h).2 (c2 h hm))];exact congrArg some (decide_eq_true (hV.2 ⟨c1,c2⟩)).symm
   .rw [if_neg (fun h=>c2 fun x hm=>(hho x).1 (h x hm))];exact congrArg some (decide_eq_false fun h=>c2 (hV.1 h).2).symm
  .rw [if_neg (fun h=>c1 fun l hm=>(hlk l).1 (h l hm))];exact congrArg some (decide_eq_false fun h=>c1 (hV.1 h).1).symm
 .have hc:((((decide (t.ah<1))||(decide (t.ah>8)))||(decide ((t.aP.l.length:Int)>24)))||(decide ((t.bg.l.length:Int)>8)))=true:=by simp only[dl,decide_eq_true_eq];omega
  rw[hc,cond_true];exact congrArg some (decide_eq_false fun h=>hs ⟨h.sw,h.yi,h.P5⟩).symm
theorem yh{t:aj}(hV:lF t){i j:Nat}{l m:aX}(hi:t.aP.l[i]?=some l)(hj:t.aP.l[j]?=some m){p:bk}(hp:p∈my l)(hq:p∈my m):i=j:=by
 have h:=(cC.1 (mC t▸hV.nodup)).1;have h2:=(List.pairwise_flatMap.1 h).2;rw[List.pairwise_iff_getElem]at h2;obtain⟨hil,rfl⟩:=ao.1 hi;obtain⟨hjl,rfl⟩:=ao.1 hj;rcases Nat.lt_trichotomy i j with h3|h3|h3
 .exact absurd rfl (h2 i j hil hjl h3 p hp p hq)
 .exact h3
 .exact absurd rfl (h2 j i hjl hil h3 p hq p hp)
def yN(l:aX)(sw p a b:Int):Prop:=(sw=l.A/\p=l.jJ/\a=l.B/\b=l.jI)\/(sw=l.B/\p=l.jI/\a=l.A/\b=l.jJ)
theorem yN.symm{l:aX}{sw p a b:Int}(h:yN l sw p a b):yN l a b sw p:=by
 rcases h with⟨rfl,rfl,rfl,rfl⟩|⟨rfl,rfl,rfl,rfl⟩
 .exact .inr ⟨rfl,rfl,rfl,rfl⟩
 .exact .inl ⟨rfl,rfl,rfl,rfl⟩
theorem yN.Bj{l:aX}{sw p a b:Int}(h:yN l sw p a b):(⟨sw,p⟩:bk)∈my l:=by rcases h with⟨rfl,rfl,_,_⟩|⟨rfl,rfl,_,_⟩<;>simp[my]
theorem zT{sw p:Int}{i:Nat}{l:aX}{a b c:Int}(h:qz sw p i l=some (a,b,c)):yN l sw p a b/\c=i:=by
 unfold qz at h;split at h
 .rename_i h1;obtain⟨rfl,rfl,rfl⟩:l.B=a/\l.jI=b/\(i:Int)=c:=by simpa using h
  exact⟨.inl ⟨h1.1,h1.2,rfl,rfl⟩,rfl⟩
 .split at h
  .rename_i h1;obtain⟨rfl,rfl,rfl⟩:l.A=a/\l.jJ=b/\(i:Int)=c:=by simpa using h
   exact⟨.inr ⟨h1.1,h1.2,rfl,rfl⟩,rfl⟩
  .simp at h
theorem zS{l:aX}(hl:l.A≠l.B){sw p a b:Int}(h:yN l sw p a b)(i:Nat):qz sw p i l=some (a,b,(i:Int)):=by
 unfold qz;rcases h with⟨rfl,rfl,rfl,rfl⟩|⟨rfl,rfl,rfl,rfl⟩
 .rw [if_pos ⟨rfl,rfl⟩]
 .rw [if_neg fun h=>hl h.1.symm,if_pos ⟨rfl,rfl⟩]
theorem Er{t:aj}(hV:lF t){sw p a b c:Int}:mB (qz sw p) t.aP.l 0=some (a,b,c)<->∃(j:Nat)(l:aX),t.aP.l[j]?=some l/\yN l sw p a b/\c=j:=by
 constructor
 .intro h;obtain⟨j,l,h1,h2,_⟩:=qj h;obtain⟨h3,h4⟩:=zT h2;exact⟨j,l,h1,h3,by simpa using h4⟩
 .rintro ⟨j,l,h1,h2,rfl⟩;have hlk:=hV.Mi l (aR h1);cases h:mB (qz sw p) t.aP.l 0 with
  |none=>have:=BF.1 h j l h1;rw[zS hlk.1 h2]at this;simp at this
  |some q=>
   obtain⟨a',b',c'⟩:=q;obtain⟨k,m,h3,h4,_⟩:=qj h;obtain⟨h5,h6⟩:=zT h4;obtain rfl:=yh hV h1 h3 h2.Bj h5.Bj;obtain rfl:l=m:=aa (h1.symm.trans h3);have e:=zS hlk.1 h2 (0+j);rw[zS hlk.1 h5]at e;obtain⟨rfl,rfl⟩:a'=a/\b'=b:=by simpa using e
   rw[h6];simp
end Go.Proofs.Ytingpmogbibghaa.S
