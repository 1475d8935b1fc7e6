/- Loops over lists, and topologies: what Right and Peer answer. Conditions: as stated. -/
import Derived.Test.YtingpmogbibghaaW
open Bool renaming and_eq_true->ae,eq_iff_iff->QO,or_eq_false_iff->Q9,or_eq_true->dE
open List renaming append_nil->be,drop_eq_getElem_cons->Q2,flatMap_append->QV,flatMap_cons->aZ,getElem?_eq_some_iff->af,getElem_of_mem->eV,length_append->bh,length_take->eu,mem_append->ah,mem_flatMap->fY,mem_of_getElem?->aS,mem_singleton->ao,nodup_append->bR,take_append_getElem->Re,take_length->Rj
open Nat renaming add_zero->ci,sub_zero->Ru,zero_le->gi
open Option renaming bind_some->aR,map_eq_some_iff->aA,map_some->bB
open Option.some renaming inj->aa
open Go.Ev Go
noncomputable section
namespace Go.Proofs.Ytingpmogbibghaa.W
theorem S_{n:Int}(h0:-9223372036854775808<=n)(h1:n<9223372036854775808):wr .i64 n=n:=by simp[wr,IntKind.wrap,IntKind.bits,IntKind.signed];omega
theorem UC{S σ β:Type}{f:S->Option (Sum S β)}(st:Nat->σ->S)(n:Nat)(I:Nat->σ->Prop)(R:β->Prop)
  (hstep:∀i s,i<n->I i s->(∃s',f (st i s)=some (.inl (st (i+1) s'))/\I (i+1) s')\/(∃b,f (st i s)=some (.inr b)/\R b))
  (hend:∀s,I n s->∃b,f (st n s)=some (.inr b)/\R b):∀i s,i<=n->I i s->∃b,zu f (st i s)=some b/\R b:=by
 have:∀(k i:Nat)(s:σ),i+k=n->I i s->∃b,zu f (st i s)=some b/\R b:=by
  intro k;induction k with
  |zero=>
   intro i s hi hI;obtain rfl:i=n:=by omega
   obtain⟨b,h1,h2⟩:=hend s hI;exact⟨b,LJ h1,h2⟩
  |succ k ih=>
   intro i s hi hI;rcases hstep i s (by omega) hI with⟨s',h1,h2⟩|⟨b,h1,h2⟩
   .obtain ⟨b,h4,h5⟩:=ih (i+1) s' (by omega) h2;exact⟨b,(LK h1).trans h4,h5⟩
   .exact ⟨b,LJ h1,h2⟩
 exact fun i s hi=>this (n-i) i s (by omega)
theorem Uh{S σ β:Type}{goal:Prop}{f:S->Option (Sum S β)}(st:Nat->σ->S)(n:Nat)(I:Nat->σ->Prop)(R:β->Prop)
  (hstep:∀i s,i<n->I i s->(∃s',f (st i s)=some (.inl (st (i+1) s'))/\I (i+1) s')\/(∃b,f (st i s)=some (.inr b)/\R b))
  (hend:∀s,I n s->∃b,f (st n s)=some (.inr b)/\R b) (i:Nat) (s:σ) (hi:i<=n) (hI:I i s) (k:∀b,zu f (st i s)=some b->R b->goal):goal:=
 let⟨b,h1,h2⟩:=UC st n I R hstep hend i s hi hI
 k b h1 h2
theorem SR{i n:Nat}(h:i<n):decide ((i:Int)<(n:Int))=true:=by rw[decide_eq_true_eq];omega
theorem S9{n:Nat}:decide ((n:Int)<(n:Int))=false:=by rw[decide_eq_false_iff_not];omega
theorem Sx{i:Nat}(h:i<9223372036854775807):wr .i64 ((i:Int)+1)=((i+1:Nat):Int):=by rw[S_ (by omega) (by omega)];omega
def R8{α β:Type}(P:Nat->α->Option β):List α->Nat->Option β
 |[],_=>none
 |x::r,i=>match P i x with|some b=>some b|none=>R8 P r (i+1)
theorem T6{α β γ:Type}[Inhabited α]{f:Int->Option (Sum Int (Sum β γ))}(l:List α)(P:Nat->α->Option β)(c:γ)(hb:l.length<9223372036854775808)
  (hstep:∀i:Nat,i<l.length->f (i:Int)=some (match P i (gt l i)with|some b=>.inr (.inl b)|none=>.inl (wr .i64 ((i:Int)+1)))) (hend:f (l.length:Int)=some (.inr (.inr c))):
  zu f 0=some (match R8 P l 0 with|some b=>.inl b|none=>.inr c):=by
 have main:∀(n i:Nat),i+n=l.length->zu f (i:Int)=some (match R8 P (l.drop i) i with|some b=>.inl b|none=>.inr c):=by
  intro n;induction n with
  |zero=>
   intro i hi;obtain rfl:i=l.length:=by omega
   rw[LJ hend,List.drop_length];rfl
  |succ n ih=>
   intro i hi;have hlt:i<l.length:=by omega
   have hs:=hstep i hlt;rw[Q2 hlt,<-NO hlt];simp only[R8];cases hP:P i (gt l i)with|some b=>rw[hP]at hs;rw[LJ hs]|none=>rw[hP]at hs;simp only at hs;rw[Sx (by omega)]at hs;rw[LK hs,ih (i+1) (by omega)]
 have:=main l.length 0 (by omega);simpa using this
theorem Ta{α β:Type}{P:Nat->α->Option β}:∀{l:List α}{i:Nat},R8 P l i=none<->∀j(x:α),l[j]?=some x->P (i+j) x=none:=by
 intro l;induction l with
 |nil=>intro i;simp[R8]
 |cons y l ih=>
  intro i;simp only[R8];constructor
  .intro h j x hj;split at h
   .simp at h
   .rename_i hP;cases j with
    |zero=>
     obtain rfl:y=x:=by simpa using hj
     exact hP
    |succ j=>have:=ih.1 h j x (by simpa using hj);rw[show i+(j+1)=i+1+j by omega];exact this
  .intro h;have h0:=h 0 y rfl;rw[ci]at h0;rw[h0];exact ih.2 fun j x hj=>by have:=h (j+1) x (by simpa using hj);rw[show i+(j+1)=i+1+j by omega]at this;exact this
theorem Sv{α β:Type}{P:Nat->α->Option β}:∀{l:List α}{i:Nat}{b:β},R8 P l i=some b->∃j x,l[j]?=some x/\P (i+j) x=some b/\∀k,k<j->∀y,l[k]?=some y->P (i+k) y=none:=by
 intro l;induction l with
 |nil=>intro i b h;simp[R8]at h
 |cons y l ih=>
  intro i b h;simp only[R8]at h;split at h
  .rename_i b' hP;obtain rfl:=aa h;exact⟨0,y,rfl,hP,fun k hk=>by omega⟩
  .rename_i hP;obtain⟨j,x,h1,h2,h3⟩:=ih h;refine⟨j+1,x,by simpa using h1,by rw[show i+(j+1)=i+1+j by omega];exact h2,fun k hk z hz=>?_⟩;cases k with
   |zero=>
    obtain rfl:y=z:=by simpa using hz
    exact hP
   |succ k=>rw[show i+(k+1)=i+1+k by omega];exact h3 k (by omega) z (by simpa using hz)
theorem Tp{α:Type}{p:α->Bool}{l:List α}{i:Nat}:R8 (fun _ x=>if p x then some false else none) l i=none<->∀x∈l,p x=false:=by
 rw[Ta];constructor
 .intro h x hx;obtain⟨j,hj,rfl⟩:=eV hx;have:=h j l[j] (by simp[hj]);cases hp:p l[j]
  .rfl
  .rw [hp]at this;simp at this
 .intro h j x hj;rw[h x (aS hj)];rfl
theorem Ux{α:Type}[Inhabited α]{f:Int->Option (Sum Int (Sum Bool Unit))}(l:List α)(p:α->Bool)(hb:l.length<9223372036854775808)
  (hstep:∀i:Nat,i<l.length->f (i:Int)=some (bif p (gt l i)then .inr (.inl false)else .inl (wr .i64 ((i:Int)+1)))) (hend:f (l.length:Int)=some (.inr (.inr ()))):
  zu f 0=some (if∀x∈l,p x=false then .inr ()else .inl false):=by
 rw[T6 l (fun _ x=>if p x then some false else none) () hb (fun i hi=>by rw[hstep i hi];cases p (gt l i)<;>rfl) hend];cases h:R8 (fun _ x=>if p x then some false else none) l 0 with
 |none=>rw[if_pos (Tp.1 h)]
 |some u=>
  obtain⟨j,x,_,h2,_⟩:=Sv h;split at h2
  .obtain rfl:=aa h2;rw[if_neg];intro hn;rw[Tp.2 hn]at h;simp at h
  .simp at h2
theorem UB{α β:Type}[Inhabited α]{f:(Int×Sl β)->Option (Sum (Int×Sl β) (Sl β))}(l:List α)(g:Nat->α->List β)(s0:Sl β)(hb:l.length<9223372036854775808)
  (hstep:∀(i:Nat)(s:Sl β),i<l.length->s.l=s0.l++((l.take i).zipIdx.flatMap fun p=>g p.2 p.1)->∃s',f ((i:Int),s)=some (.inl (wr .i64 ((i:Int)+1),s'))/\s'.l=s.l++g i (gt l i))
  (hend:∀s,f ((l.length:Int),s)=some (.inr s)):∃s,zu f (0,s0)=some s/\s.l=s0.l++(l.zipIdx.flatMap fun p=>g p.2 p.1):=by
 have e0:((0:Nat):Int)=0:=rfl;refine Uh (f:=f) (fun i(s:Sl β)=>((i:Int),s)) l.length (fun i s=>s.l=s0.l++((l.take i).zipIdx.flatMap fun p=>g p.2 p.1)) (fun s=>s.l=s0.l++(l.zipIdx.flatMap fun p=>g p.2 p.1)) ?_ ?_ 0 s0 (gi _) (by simp) (fun b q1 q2=>?_)
 .intro i s hi hI;obtain⟨s',h1,h2⟩:=hstep i s hi hI;refine .inl ⟨s',by rw[h1,Sx (by omega)],?_⟩;have et:l.take (i+1)=l.take i++[gt l i]:=by rw[NO hi,Re hi]
  rw[h2,hI,et,List.zipIdx_append,QV,List.append_assoc];simp[Nat.min_eq_left (Nat.le_of_lt hi)]
 .intro s hI;refine⟨s,hend s,?_⟩;rw[Rj]at hI;exact hI
 .rw [e0]at q1;exact⟨b,q1,q2⟩
theorem Up{α β:Type}[Inhabited α]{f:(Int×Sl β)->Option (Sum (Int×Sl β) (Sl β))}(l:List α)(g:α->List β)(s0:Sl β)(hb:l.length<9223372036854775808)
  (hstep:∀(i:Nat)(s:Sl β),i<l.length->s.l=s0.l++(l.take i).flatMap g->∃s',f ((i:Int),s)=some (.inl (wr .i64 ((i:Int)+1),s'))/\s'.l=s.l++g (gt l i))
  (hend:∀s,f ((l.length:Int),s)=some (.inr s)):∃s,zu f (0,s0)=some s/\s.l=s0.l++l.flatMap g:=by
 have key:∀(l:List α)(k:Nat),((l.zipIdx k).flatMap fun p=>g p.1)=l.flatMap g:=fun l=>by induction l with|nil=>intro k;rfl|cons x l ih=>intro k;simp[List.zipIdx_cons,ih]
 obtain⟨s,h1,h2⟩:=UB l (fun _ x=>g x) s0 hb (fun i s hi hs=>hstep i s hi (by rw[hs,key])) hend;exact⟨s,h1,by rw[h2,key]⟩
section
variable{κ ν:Type}
theorem Ss[DecidableEq κ]{k:κ}:∀{l:List (κ×ν×Nat)}{i:Nat},jo k l i=none<->∀e∈l,k≠e.1:=by
 intro l;induction l with
 |nil=>intro i;simp[jo]
 |cons x l ih=>
  intro i;simp only[jo];by_cases h:k=x.1
  .simp [h]
  .simp [h,ih]
theorem TG[DecidableEq κ]{k:κ}{v:ν}:∀{l:List (κ×ν×Nat)}{i j:Nat}{e:κ×ν×Nat},jo k l i=some (j,e)->jo k (vI l (j-i) v) i=some (j,(e.1,v,e.2.2)):=by
 intro l;induction l with
 |nil=>intro i j e h;simp[jo]at h
 |cons x l ih=>
  intro i j e h;simp only[jo]at h;split at h
  .rename_i hk;obtain⟨rfl,rfl⟩:i=j/\x=e:=by simpa using h
   simp[vI,jo,hk]
  .rename_i hk;obtain⟨h1,_,_⟩:=mb h;have e1:j-i=(j-(i+1))+1:=by omega
   rw[e1];simp only[vI,jo,hk,if_false];exact ih h
theorem TF{v:ν}{e:κ×ν×Nat}:∀{l:List (κ×ν×Nat)},vI (l++[e]) l.length v=l++[(e.1,v,e.2.2)]:=by intro l;induction l with|nil=>rfl|cons x l ih=>simp only[List.cons_append,List.length_cons,vI,ih]
theorem SX{l:List (κ×ν×Nat)}(h:∀(i:Nat)(e:κ×ν×Nat),l[i]?=some e->e.2.2=i){j:Nat}(hj:j<l.length):l.findIdx? (fun e=>decide ((e.2.2:Int)=(j:Int)))=some j:=by
 rw[List.findIdx?_eq_some_iff_getElem];refine⟨hj,?_,fun k hk=>?_⟩
 .have:=h j l[j] (by simp);simp[this]
 .have:=h k (l[k]'(by omega)) (by simp);simp only[this,decide_eq_true_eq];omega
end
def Rt{κ:Type}(l:List κ):Mp κ Int:=⟨l.zipIdx.map fun q=>(q.1,1,q.2),l.length⟩
theorem SM{κ:Type}{l:List κ}{i:Nat}{e:κ×Int×Nat}(h:(Rt l).es[i]?=some e):l[i]?=some e.1/\e.2.1=1/\e.2.2=i:=by simp only[Rt,List.getElem?_map,aA]at h;obtain⟨q,hq,rfl⟩:=h;rw[List.getElem?_zipIdx]at hq;obtain⟨x,hx,rfl⟩:=aA.1 hq;exact⟨hx,rfl,by simp⟩
theorem Tu{κ:Type}{l:List κ}{e:κ×Int×Nat}(h:e∈(Rt l).es):e.1∈l:=by obtain⟨i,hi,rfl⟩:=eV h;exact aS (SM (i:=i) (by simp[hi])).1
theorem SL{κ:Type}[DecidableEq κ]{l:List κ}{k:κ}:sK (Rt l) 0 k=if k∈l then 1 else 0:=by
 unfold sK;by_cases hk:k∈l
 .rw [if_pos hk];cases h:jo k (Rt l).es 0 with|none=>exfalso;rw[Ss]at h;obtain⟨i,hi,rfl⟩:=eV hk;refine h (l[i],1,i) ?_ rfl;simp only[Rt,List.mem_map];exact⟨(l[i],i),by rw[List.mem_zipIdx_iff_getElem?];simp[hi],rfl⟩|some p=>obtain⟨j,e⟩:=p;obtain⟨_,h2,_⟩:=mb h;exact(SM h2).2.1
 .rw [if_neg hk,Ss.2 fun e he hke=>hk (by rw[hke];exact Tu he)]
theorem Ua{κ:Type}[DecidableEq κ]{l:List κ}{k:κ}(hk:k∉l):zr (md (Rt l) 0 k).1 (md (Rt l) 0 k).2.2 1=some (Rt (l++[k])):=by
 have hf:jo k (Rt l).es 0=none:=Ss.2 fun e he hke=>hk (by rw[hke];exact Tu he);have he:md (Rt l) 0 k=(⟨(Rt l).es++[(k,0,l.length)],l.length+1⟩,0,(l.length:Int)):=by simp only[md,hf];rfl
 have hlen:(Rt l).es.length=l.length:=by simp[Rt]
 have c9:((Rt l).es++[(k,(0:Int),l.length)]).findIdx? (fun e=>decide ((e.2.2:Int)=(l.length:Int)))=some l.length:=by
  refine SX (fun i e hi=>?_) (by simp[hlen]);rcases Nat.lt_or_ge i (Rt l).es.length with h|h
  .rw [List.getElem?_append_left h]at hi;exact(SM hi).2.2
  .rw [List.getElem?_append_right h]at hi;have h0:i-(Rt l).es.length=0:=by have:=(af.1 hi).1;simp at this;omega
   rw[h0]at hi;obtain rfl:(k,(0:Int),l.length)=e:=by simpa using hi
   simp only;omega
 rw[he];simp only[zr,c9,bB];have hp:=TF (v:=(1:Int)) (e:=(k,(0:Int),l.length)) (l:=(Rt l).es);rw[hlen]at hp;rw[hp];simp[Rt,List.zipIdx_append]
theorem T_{κ:Type}[DecidableEq κ]{l:List κ}{k:κ}(hk:k∈l)(v:Int):∃m,zr (md (Rt l) 0 k).1 (md (Rt l) 0 k).2.2 v=some m/\sK m 0 k=v:=by
 cases h:jo k (Rt l).es 0 with
 |none=>have:=@SL κ _ l k;rw[if_pos hk]at this;unfold sK at this;rw[h]at this;simp at this
 |some p=>
  obtain⟨j,e⟩:=p;obtain⟨_,h2,_⟩:=mb h;rw[Ru]at h2;obtain⟨_,_,h5⟩:=SM h2;have he:md (Rt l) 0 k=(Rt l,e.2.1,(e.2.2:Int)):=by simp only[md,h]
  have hj:j<(Rt l).es.length:=(af.1 h2).1;have c9:=SX (l:=(Rt l).es) (fun i e hi=>(SM hi).2.2) hj;refine⟨⟨vI (Rt l).es j v,(Rt l).dg⟩,by rw[he];simp only[zr,h5,c9,bB],?_⟩;have:=TG (v:=v) h;rw[Ru]at this;simp only[sK,this]
def kV(t:l8):List ry:=(t.qa.l.flatMap fun l=>[⟨l.A,l.Q8⟩,⟨l.B,l.Q7⟩])++t.Qy.l.flatMap fun h=>[⟨h.At,h.RP⟩]
def Su(l:qb):Prop:=l.A≠l.B/\1<=l.Rl/\l.Rl<=l.RX/\l.RX<=1000
def Q1(t:l8)(p:ry):Prop:=(0<=p.sw/\p.sw<t.QB)/\0<=p.Sr/\p.Sr<8
structure R_(t:l8):Prop where
 sw:1<=t.QB/\t.QB<=8
 TP:t.qa.l.length<=24
 Uq:t.Qy.l.length<=8
 Ug:∀l∈t.qa.l,Su l
 nodup:(kV t).Nodup
 fK:∀p∈kV t,Q1 t p
instance(t:l8):Decidable (R_ t):=Classical.propDecidable _
theorem TE{t:l8}(h1:t.qa.l.length<=24)(h2:t.Qy.l.length<=8):(kV t).length<=56:=by
 have e:∀l:List qb,(l.flatMap fun l=>[(⟨l.A,l.Q8⟩:ry),⟨l.B,l.Q7⟩]).length=2*l.length:=fun l=>by induction l with|nil=>rfl|cons x l ih=>simp[ih];omega
 have e2:∀l:List Q6,(l.flatMap fun h=>[(⟨h.At,h.RP⟩:ry)]).length=l.length:=fun l=>by induction l with|nil=>rfl|cons x l ih=>simp[ih]
 rw[kV,bh,e,e2];omega
theorem Tq{t:l8}(h1:t.qa.l.length<=24)(h2:t.Qy.l.length<=8):∃s,RI t=some s/\s.l=kV t:=by
 have e2:∀l:List qb,(l.flatMap fun l=>[(⟨l.A,l.Q8⟩:ry),⟨l.B,l.Q7⟩]).length=2*l.length:=fun l=>by induction l with|nil=>rfl|cons x l ih=>simp[ih];omega
 have e1:∀l:List Q6,(l.flatMap fun h=>[(⟨h.At,h.RP⟩:ry)]).length=l.length:=fun l=>by induction l with|nil=>rfl|cons x l ih=>simp[ih]
 obtain⟨s,k1,k2⟩:=Up (f:=Rq t) t.qa.l (fun l=>[⟨l.A,l.Q8⟩,⟨l.B,l.Q7⟩]) .nil (by omega) (fun i s hi hs=>by have hcap:pO (s.l++[(⟨(gt t.qa.l i).A,(gt t.qa.l i).Q8⟩:ry),⟨(gt t.qa.l i).B,(gt t.qa.l i).Q7⟩])=some (s.l++[⟨(gt t.qa.l i).A,(gt t.qa.l i).Q8⟩,⟨(gt t.qa.l i).B,(gt t.qa.l i).Q7⟩]):=TR (by rw[hs,bh,bh,e2,eu];simp;omega);exact⟨.mk (s.l++[⟨(gt t.qa.l i).A,(gt t.qa.l i).Q8⟩,⟨(gt t.qa.l i).B,(gt t.qa.l i).Q7⟩]),by simp only[Rq,SR hi,cond_true,R0 hi,aR,hcap],rfl⟩) (fun s=>by simp only[Rq,S9,cond_false]);obtain⟨s2,k3,k4⟩:=Up (f:=Rp t) t.Qy.l (fun h=>[⟨h.At,h.RP⟩]) s (by omega) (fun i s' hi hs=>by have hcap:pO (s'.l++[(⟨(gt t.Qy.l i).At,(gt t.Qy.l i).RP⟩:ry)])=some (s'.l++[⟨(gt t.Qy.l i).At,(gt t.Qy.l i).RP⟩]):=TR (by rw[hs,k2,bh,bh,bh,e2,e1,eu];simp;omega);exact⟨.mk (s'.l++[⟨(gt t.Qy.l i).At,(gt t.Qy.l i).RP⟩]),by simp only[Rp,SR hi,cond_true,R0 hi,aR,hcap],rfl⟩) (fun s=>by simp only[Rp,S9,cond_false]);exact⟨s2,by simp only[RI,k1,aR,k3],by rw[k4,k2];rfl⟩
theorem TK{t:l8}{r:Sl ry}(hb:r.l.length<9223372036854775808):
  ∃b,zu (QW t r) (0,(Mp.none:Mp ry Int))=some b/\match b with|.inl v=>v=false/\¬(r.l.Nodup/\∀p∈r.l,Q1 t p)|.inr _=>r.l.Nodup/\∀p∈r.l,Q1 t p:=by
 have e0:((0:Nat):Int)=0:=rfl
 refine Uh (f:=QW t r) (fun i(m:Mp ry Int)=>((i:Int),m)) r.l.length (fun i m=>m=Rt (r.l.take i)/\(r.l.take i).Nodup/\∀p∈r.l.take i,Q1 t p)
  (fun b=>match b with|.inl v=>v=false/\¬(r.l.Nodup/\∀p∈r.l,Q1 t p)|.inr _=>r.l.Nodup/\∀p∈r.l,Q1 t p) ?_ ?_ 0 Mp.none (gi _) ⟨by simp[Rt,Mp.none],by simp,by simp⟩ (fun b q1 q2=>?_)
 .rintro i m hi ⟨rfl,hnd,hok⟩;have hgm:gt r.l i∈r.l:=by rw[NO hi];exact List.getElem_mem _
  have et:r.l.take (i+1)=r.l.take i++[gt r.l i]:=by rw[NO hi,Re hi]
  have hsplit:r.l=r.l.take i++gt r.l i::r.l.drop (i+1):=by rw[NO hi,<-Q2 hi,List.take_append_drop]
  by_cases hm:gt r.l i∈r.l.take i
  .right;obtain⟨m2,h1,h2⟩:=T_ hm 2;have hw:wr .i64 (sK (Rt (r.l.take i)) 0 (gt r.l i)+1)=2:=by rw[SL,if_pos hm];rfl
   have hd:decide ((2:Int)>1)=true:=rfl;refine⟨.inl false,by simp only[QW,SR hi,cond_true,R0 hi,aR,hw,h1,h2,hd,Bool.or_true],rfl,fun hh=>?_⟩;have h3:=hh.1;rw[hsplit]at h3;exact(bR.1 h3).2.2 _ hm _ (List.mem_cons_self ..) rfl
  .have h1:=Ua hm;have hw:wr .i64 (sK (Rt (r.l.take i)) 0 (gt r.l i)+1)=1:=by rw[SL,if_neg hm];rfl
   have h2:sK (Rt (r.l.take i++[gt r.l i])) 0 (gt r.l i)=1:=by rw[SL,if_pos (by simp)]
   have hd:decide ((1:Int)>1)=false:=rfl;have hc:((((decide (((gt r.l i).sw)<0))||(decide (((gt r.l i).sw)>=t.QB)))||(decide (((gt r.l i).Sr)<0)))||(decide (((gt r.l i).Sr)>=8)))=true<->¬Q1 t (gt r.l i):=by simp only[dE,decide_eq_true_eq,Q1];omega
   by_cases hp:Q1 t (gt r.l i)
   .left;have hc2:((((decide (((gt r.l i).sw)<0))||(decide (((gt r.l i).sw)>=t.QB)))||(decide (((gt r.l i).Sr)<0)))||(decide (((gt r.l i).Sr)>=8)))=false:=by rw[<-Bool.not_eq_true];exact fun h=>hc.1 h hp
    refine⟨Rt (r.l.take (i+1)),by simp only[QW,SR hi,cond_true,R0 hi,aR,hw,h1,h2,hd,Bool.or_false,hc2,cond_false,Sx (show i<9223372036854775807 by omega),et],rfl,?_,?_⟩
    .rw [et];exact bR.2 ⟨hnd,by simp,fun a ha b hb=>by rw[ao]at hb;subst hb;exact fun e=>hm (e▸ha)⟩
    .intro p hpm;rw[et]at hpm;rcases ah.1 hpm with h|h
     .exact hok p h
     .rw [ao]at h;subst h;exact hp
   .right;exact⟨.inl false,by simp only[QW,SR hi,cond_true,R0 hi,aR,hw,h1,h2,hd,Bool.or_false,hc.2 hp],rfl,fun hh=>hp (hh.2 _ hgm)⟩
 .rintro m ⟨_,hnd,hok⟩;rw[Rj]at hnd hok;exact⟨.inr (),by simp only[QW,S9,cond_false],hnd,hok⟩
 .rw [e0]at q1;exact⟨b,q1,q2⟩
theorem TD{t:l8}:RS t=some (decide (R_ t)):=by
 unfold RS;by_cases hs:(1<=t.QB/\t.QB<=8)/\t.qa.l.length<=24/\t.Qy.l.length<=8
 .have hc:((((decide (t.QB<1))||(decide (t.QB>8)))||(decide ((t.qa.l.length:Int)>24)))||(decide ((t.Qy.l.length:Int)>8)))=false:=by simp only[Q9,decide_eq_false_iff_not];omega
  have hl:=Ux (f:=Rw t) t.qa.l (fun l=>((((l.A==l.B)||(decide (l.Rl<1)))||(decide (l.Rl>l.RX)))||(decide (l.RX>1000)))) (by omega) (fun i hi=>by simp only[Rw,SR hi,cond_true,R0 hi,aR];generalize((((gt t.qa.l i).A==(gt t.qa.l i).B)||_)||_||_)=c;cases c<;>rfl) (by simp only[Rw,S9,cond_false]);have hlk:∀l:qb,((((l.A==l.B)||(decide (l.Rl<1)))||(decide (l.Rl>l.RX)))||(decide (l.RX>1000)))=false<->Su l:=fun l=>by simp only[Q9,beq_eq_false_iff_ne,decide_eq_false_iff_not,Su];omega
  rw[hc,cond_false,hl];by_cases hlo:∀l∈t.qa.l,Su l
  .rw [if_pos (fun l hm=>(hlk l).2 (hlo l hm))];simp only[aR];obtain⟨s,p1,p2⟩:=Tq hs.2.1 hs.2.2;have hpl:=TE hs.2.1 hs.2.2;obtain⟨b,q1,q2⟩:=TK (t:=t) (r:=s) (by rw[p2];omega);simp only[p1,aR,q1];rw[p2]at q2;cases b with|inl v=>obtain⟨rfl,q2⟩:=q2;exact congrArg some (decide_eq_false fun h:R_ t=>q2 ⟨h.nodup,h.fK⟩).symm|inr _=>exact congrArg some (decide_eq_true ⟨hs.1,hs.2.1,hs.2.2,hlo,q2.1,q2.2⟩).symm
  .rw [if_neg (fun h=>hlo fun l hm=>(hlk l).1 (h l hm))];exact congrArg some (decide_eq_false fun h=>hlo h.Ug).symm
 .have hc:((((decide (t.QB<1))||(decide (t.QB>8)))||(decide ((t.qa.l.length:Int)>24)))||(decide ((t.Qy.l.length:Int)>8)))=true:=by simp only[dE,decide_eq_true_eq];omega
  rw[hc,cond_true];exact congrArg some (decide_eq_false fun h=>hs ⟨h.sw,h.TP,h.Uq⟩).symm
def R6(sw p:Int)(i:Nat)(l:qb):Option (Int×Int×Int):=if sw=l.A/\p=l.Q8 then some (l.B,l.Q7,(i:Int))else if sw=l.B/\p=l.Q7 then some (l.A,l.Q8,(i:Int))else none
theorem To{α β γ:Type}{P:Nat->α->Option β}(g:β->γ):∀{l:List α}{i:Nat},R8 (fun i x=>(P i x).map g) l i=(R8 P l i).map g:=by
 intro l;induction l with
 |nil=>intro i;rfl
 |cons x l ih=>intro i;simp only[R8];cases P i x with|none=>exact ih|some b=>rfl
def q4(q:Int×Int×Int):Int×Int×Int×Bool:=(q.1,q.2.1,q.2.2,true)
def Te(t:l8)(sw p:Int):Int×Int×Int×Bool:=match R8 (R6 sw p) t.qa.l 0 with|some (a,b,c)=>(a,b,c,true)|none=>(0,0,0,false)
theorem TU(a b sw p:Int):decide ((⟨sw,p⟩:ry)=⟨a,b⟩)=decide (sw=a/\p=b):=by rw[QO];simp
theorem TW{t:l8}(sw p:Int)(hb:t.qa.l.length<9223372036854775808):R3 t sw p=some (Te t sw p):=by
 have h:=T6 (f:=RK t sw p) t.qa.l (fun i l=>(R6 sw p i l).map q4) () hb (fun i hi=>by
  simp only[RK,SR hi,cond_true,R0 hi,aR,TU,R6];by_cases h1:sw=(gt t.qa.l i).A/\p=(gt t.qa.l i).Q8
  .rw [if_pos h1,decide_eq_true h1];rfl
  .by_cases h2:sw=(gt t.qa.l i).B/\p=(gt t.qa.l i).Q7
   .rw [if_neg h1,if_pos h2,decide_eq_false h1,decide_eq_true h2];rfl
   .rw [if_neg h1,if_neg h2,decide_eq_false h1,decide_eq_false h2];rfl) (by simp only[RK,S9,cond_false])
 simp only[R3,h,aR,To,Te];cases R8 (R6 sw p) t.qa.l 0 with|none=>rfl|some q=>obtain⟨a,b,c⟩:=q;rfl
theorem SJ{t:l8}(sw p:Int)(hb:t.qa.l.length<9223372036854775808):R5 t sw p=some (Te t sw p):=by
 have h:=T6 (f:=RY t sw p) t.qa.l (fun i l=>(R6 sw p i l).map q4) () hb (fun i hi=>by
  have c1:(((gt t.qa.l i).A==sw)&&((gt t.qa.l i).Q8==p))=decide (sw=(gt t.qa.l i).A/\p=(gt t.qa.l i).Q8):=by rw[QO];simp only[ae,beq_iff_eq,decide_eq_true_eq];omega
  have c2:(((gt t.qa.l i).B==sw)&&((gt t.qa.l i).Q7==p))=decide (sw=(gt t.qa.l i).B/\p=(gt t.qa.l i).Q7):=by rw[QO];simp only[ae,beq_iff_eq,decide_eq_true_eq];omega
  simp only[RY,SR hi,cond_true,R0 hi,aR,c1,c2,R6];by_cases h1:sw=(gt t.qa.l i).A/\p=(gt t.qa.l i).Q8
  .rw [if_pos h1,decide_eq_true h1];rfl
  .by_cases h2:sw=(gt t.qa.l i).B/\p=(gt t.qa.l i).Q7
   .rw [if_neg h1,if_pos h2,decide_eq_false h1,decide_eq_true h2];rfl
   .rw [if_neg h1,if_neg h2,decide_eq_false h1,decide_eq_false h2];rfl) (by simp only[RY,S9,cond_false])
 simp only[R5,h,aR,To,Te];cases R8 (R6 sw p) t.qa.l 0 with|none=>rfl|some q=>obtain⟨a,b,c⟩:=q;rfl
instance(t:l8)(p:ry):Decidable (Q1 t p):=inferInstanceAs (Decidable ((0<=p.sw/\p.sw<t.QB)/\0<=p.Sr/\p.Sr<8))
def Rr(l:qb):List ry:=[⟨l.A,l.Q8⟩,⟨l.B,l.Q7⟩]
def SQ(h:Q6):List ry:=[⟨h.At,h.RP⟩]
theorem Sc(t:l8):kV t=t.qa.l.flatMap Rr++t.Qy.l.flatMap SQ:=rfl
theorem T0(a b q:ry):[a,b].count q=(if a=q then 1 else 0)+(if b=q then 1 else 0):=by by_cases h1:a=q<;>by_cases h2:b=q<;>simp[h1,h2]
theorem Td(a b sw p:Int):((a==sw)&&(b==p))=decide ((⟨a,b⟩:ry)=⟨sw,p⟩):=by rw[QO];simp
theorem Um(a b:Bool):(bif a then some b else some false)=some (a&&b):=by cases a<;>rfl
def SO(t:l8)(sw p:Int):Bool:=decide (Q1 t ⟨sw,p⟩/\(kV t).count ⟨sw,p⟩=1)
theorem Tc{t:l8}(hl:t.qa.l.length<=30)(hh:t.Qy.l.length<=12)(sw p:Int):RW t sw p=some (SO t sw p):=by
 have e0:((0:Nat):Int)=0:=rfl
 have h1:∃b,zu (Ry t sw p) (0,0)=some b/\b=((t.qa.l.flatMap Rr).count ⟨sw,p⟩:Nat)/\(t.qa.l.flatMap Rr).count ⟨sw,p⟩<=60:=by
  refine Uh (f:=Ry t sw p) (fun i(n:Nat)=>((n:Int),(i:Int))) t.qa.l.length (fun i n=>n=((t.qa.l.take i).flatMap Rr).count ⟨sw,p⟩/\n<=2*i)
   (fun b=>b=((t.qa.l.flatMap Rr).count ⟨sw,p⟩:Nat)/\(t.qa.l.flatMap Rr).count ⟨sw,p⟩<=60) ?_ ?_ 0 0 (gi _) ⟨by simp,by omega⟩ (fun b q1 q2=>⟨b,by rw[e0]at q1;exact q1,q2⟩)
  .rintro i n hi ⟨hn,hle⟩;left;have et:t.qa.l.take (i+1)=t.qa.l.take i++[gt t.qa.l i]:=by rw[NO hi,Re hi]
   have hc:((t.qa.l.take (i+1)).flatMap Rr).count ⟨sw,p⟩=n+((if(⟨(gt t.qa.l i).A,(gt t.qa.l i).Q8⟩:ry)=⟨sw,p⟩then 1 else 0)+(if(⟨(gt t.qa.l i).B,(gt t.qa.l i).Q7⟩:ry)=⟨sw,p⟩then 1 else 0)):=by rw[et,QV,List.count_append,<-hn];simp only[aZ,List.flatMap_nil,be,Rr,T0]
   have w1:wr .i64 ((n:Int)+1)=((n+1:Nat):Int):=Sx (by omega);have w2:wr .i64 (((n+1:Nat):Int)+1)=((n+1+1:Nat):Int):=Sx (by omega);have w3:=Sx (show i<9223372036854775807 by omega);refine⟨n+((if(⟨(gt t.qa.l i).A,(gt t.qa.l i).Q8⟩:ry)=⟨sw,p⟩then 1 else 0)+(if(⟨(gt t.qa.l i).B,(gt t.qa.l i).Q7⟩:ry)=⟨sw,p⟩then 1 else 0)),?_,hc.symm,?_⟩
   .simp only[Ry,SR hi,cond_true,R0 hi,aR,Td,w3];split<;>rename_i c1<;>split<;>rename_i c2
    .rw [decide_eq_true c1,decide_eq_true c2];simp only[cond_true,aR,w1,w2]
    .rw [decide_eq_true c1,decide_eq_false c2];simp only[cond_true,cond_false,aR,w1]
    .rw [decide_eq_false c1,decide_eq_true c2];simp only[cond_true,cond_false,aR,w1,Nat.zero_add]
    .rw [decide_eq_false c1,decide_eq_false c2];simp only[cond_false,aR,ci]
   .split<;>split<;>omega
  .rintro n ⟨hn,hle⟩;rw[Rj]at hn;exact⟨(n:Int),by simp only[Ry,S9,cond_false],by rw[hn],by rw[<-hn];omega⟩
 obtain⟨b1,h1,rfl,hb1⟩:=h1;generalize hk:(t.qa.l.flatMap Rr).count ⟨sw,p⟩=k at*
 have h2:∃b,zu (Rx t sw p) ((k:Int),0)=some b/\b=((kV t).count ⟨sw,p⟩:Nat):=by
  refine Uh (f:=Rx t sw p) (fun i(n:Nat)=>((n:Int),(i:Int))) t.Qy.l.length (fun i n=>n=k+((t.Qy.l.take i).flatMap SQ).count ⟨sw,p⟩/\n<=k+i)
   (fun b=>b=((kV t).count ⟨sw,p⟩:Nat)) ?_ ?_ 0 k (gi _) ⟨by simp,by omega⟩ (fun b q1 q2=>⟨b,by rw[e0]at q1;exact q1,q2⟩)
  .rintro i n hi ⟨hn,hle⟩;left;have et:t.Qy.l.take (i+1)=t.Qy.l.take i++[gt t.Qy.l i]:=by rw[NO hi,Re hi]
   have hc:k+((t.Qy.l.take (i+1)).flatMap SQ).count ⟨sw,p⟩=n+(if(⟨(gt t.Qy.l i).At,(gt t.Qy.l i).RP⟩:ry)=⟨sw,p⟩then 1 else 0):=by rw[et,QV,List.count_append,hn];simp only[aZ,List.flatMap_nil,be,SQ];by_cases h:(⟨(gt t.Qy.l i).At,(gt t.Qy.l i).RP⟩:ry)=⟨sw,p⟩<;>simp[h]<;>omega
   have w1:wr .i64 ((n:Int)+1)=((n+1:Nat):Int):=Sx (by omega);have w3:=Sx (show i<9223372036854775807 by omega);refine⟨n+(if(⟨(gt t.Qy.l i).At,(gt t.Qy.l i).RP⟩:ry)=⟨sw,p⟩then 1 else 0),?_,hc.symm,?_⟩
   .simp only[Rx,SR hi,cond_true,R0 hi,aR,Um,Td,w3];split<;>rename_i c1
    .rw [decide_eq_true c1];simp only[cond_true,aR,w1]
    .rw [decide_eq_false c1];simp only[cond_false,aR,ci]
   .split<;>omega
  .rintro n ⟨hn,hle⟩;rw[Rj]at hn;exact⟨(n:Int),by simp only[Rx,S9,cond_false],by rw[Sc,List.count_append,hk,<-hn]⟩
 obtain⟨b2,h2,rfl⟩:=h2;simp only[RW,h1,aR,h2];congr 1;rw[QO,SO];generalize(kV t).count ⟨sw,p⟩=m;constructor
 .intro h;simp only[ae,decide_eq_true_eq,beq_iff_eq]at h;obtain⟨⟨⟨⟨a,b⟩,c⟩,d⟩,e⟩:=h;exact decide_eq_true ⟨⟨⟨a,b⟩,c,(by omega:p<8)⟩,by omega⟩
 .intro h;obtain⟨⟨⟨a,b⟩,c,d⟩,e⟩:=of_decide_eq_true h;have a:0<=sw:=a;have b:sw<t.QB:=b;have c:0<=p:=c;have d:p<8:=d;simp only[ae,decide_eq_true_eq,beq_iff_eq];exact⟨⟨⟨⟨a,b⟩,c⟩,by omega⟩,by omega⟩
theorem SP{l:List ry}:l.Nodup<->∀p∈l,l.count p=1:=by
 rw[List.nodup_iff_count];constructor
 .intro h p hp;have h1:=h p;have h2:=List.count_pos_iff.2 hp;omega
 .intro h p;by_cases hp:p∈l
  .rw [h p hp];exact Nat.le_refl _
  .rw [List.count_eq_zero_of_not_mem hp];omega
theorem TT{t:l8}(hl:t.qa.l.length<=30)(hh:t.Qy.l.length<=12):R9 t=some (decide (R_ t)):=by
 unfold R9;by_cases hs:(1<=t.QB/\t.QB<=8)/\t.qa.l.length<=24/\t.Qy.l.length<=8
 .have hc:((((decide (t.QB<1))||(decide (t.QB>8)))||(decide ((t.qa.l.length:Int)>24)))||(decide ((t.Qy.l.length:Int)>8)))=false:=by simp only[Q9,decide_eq_false_iff_not];omega
  have h1:=Ux (f:=RM t) t.qa.l (fun l=>((l.A==l.B)||(decide (l.Rl<1)||(decide (l.Rl>l.RX)||(decide (l.RX>1000)||
    (!(SO t l.A l.Q8)||!(SO t l.B l.Q7))))))) (by omega) (fun i hi=>by
   simp only[RM,SR hi,cond_true,R0 hi,aR,Tc hl hh];generalize((gt t.qa.l i).A==(gt t.qa.l i).B)=b1;generalize decide ((gt t.qa.l i).Rl<1)=b2;generalize decide ((gt t.qa.l i).Rl>(gt t.qa.l i).RX)=b3;generalize decide ((gt t.qa.l i).RX>1000)=b4;generalize SO t (gt t.qa.l i).A (gt t.qa.l i).Q8=b5;generalize SO t (gt t.qa.l i).B (gt t.qa.l i).Q7=b6;cases b1<;>cases b2<;>cases b3<;>cases b4<;>cases b5<;>cases b6<;>rfl) (by simp only[RM,S9,cond_false])
  have h2:=Ux (f:=RL t) t.Qy.l (fun h=>!(SO t h.At h.RP)) (by omega) (fun i hi=>by simp only[RL,SR hi,cond_true,R0 hi,aR,Tc hl hh];generalize SO t (gt t.Qy.l i).At (gt t.Qy.l i).RP=b;cases b<;>rfl) (by simp only[RL,S9,cond_false])
  have hlk:∀l:qb,((l.A==l.B)||(decide (l.Rl<1)||(decide (l.Rl>l.RX)||(decide (l.RX>1000)||
    (!(SO t l.A l.Q8)||!(SO t l.B l.Q7))))))=false<->
    Su l/\∀p∈Rr l,Q1 t p/\(kV t).count p=1:=fun l=>by
   simp only[SO,Q9,beq_eq_false_iff_ne,decide_eq_false_iff_not,Su,Bool.not_eq_false',decide_eq_true_eq,Rr,List.mem_cons,List.not_mem_nil,or_false,forall_eq_or_imp,forall_eq];constructor
   .rintro ⟨a,b,c,d,e,f⟩;exact⟨⟨a,by omega,by omega,by omega⟩,e,f⟩
   .rintro ⟨⟨a,b,c,d⟩,e,f⟩;exact⟨a,by omega,by omega,by omega,e,f⟩
  have hho:∀h:Q6,(!(SO t h.At h.RP))=false<->∀p∈SQ h,Q1 t p/\(kV t).count p=1:=fun h=>by simp only[SO,Bool.not_eq_false',decide_eq_true_eq,SQ,ao,forall_eq]
  have hV:R_ t<->(∀l∈t.qa.l,Su l/\∀p∈Rr l,Q1 t p/\(kV t).count p=1)/\∀h∈t.Qy.l,∀p∈SQ h,Q1 t p/\(kV t).count p=1:=by
   constructor
   .intro hV;have hc:=SP.1 hV.nodup;refine⟨fun l hl=>⟨hV.Ug l hl,fun p hp=>?_⟩,fun h hh p hp=>?_⟩
    .have hm:p∈kV t:=by rw[Sc];exact List.mem_append_left _ (fY.2 ⟨l,hl,hp⟩)
     exact⟨hV.fK p hm,hc p hm⟩
    .have hm:p∈kV t:=by rw[Sc];exact List.mem_append_right _ (fY.2 ⟨h,hh,hp⟩)
     exact⟨hV.fK p hm,hc p hm⟩
   .rintro ⟨ha,hb⟩
    have all:∀p∈kV t,Q1 t p/\(kV t).count p=1:=by
     intro p hp;rw[Sc]at hp;rcases ah.1 hp with h|h
     .obtain ⟨l,hl,hp⟩:=fY.1 h;exact(ha l hl).2 p hp
     .obtain ⟨x,hx,hp⟩:=fY.1 h;exact hb x hx p hp
    exact⟨hs.1,hs.2.1,hs.2.2,fun l hl=>(ha l hl).1,SP.2 fun p hp=>(all p hp).2,fun p hp=>(all p hp).1⟩
  rw[hc,cond_false,h1];by_cases c1:∀l∈t.qa.l,Su l/\∀p∈Rr l,Q1 t p/\(kV t).count p=1
  .rw [if_pos (fun l hm=>(hlk l).2 (c1 l hm))];simp only[aR,h2];by_cases c2:∀h∈t.Qy.l,∀p∈SQ h,Q1 t p/\(kV t).count p=1
   .rw [if_pos (fun h hm=>(hho h).2 (c2 h hm))];exact congrArg some (decide_eq_true (hV.2 ⟨c1,c2⟩)).symm
   .rw [if_neg (fun h=>c2 fun x hm=>(hho x).1 (h x hm))];exact congrArg some (decide_eq_false fun h=>c2 (hV.1 h).2).symm
  .rw [if_neg (fun h=>c1 fun l hm=>(hlk l).1 (h l hm))];exact congrArg some (decide_eq_false fun h=>c1 (hV.1 h).1).symm
 .have hc:((((decide (t.QB<1))||(decide (t.QB>8)))||(decide ((t.qa.l.length:Int)>24)))||(decide ((t.Qy.l.length:Int)>8)))=true:=by simp only[dE,decide_eq_true_eq];omega
  rw[hc,cond_true];exact congrArg some (decide_eq_false fun h=>hs ⟨h.sw,h.TP,h.Uq⟩).symm
theorem Tx{t:l8}(hV:R_ t){i j:Nat}{l m:qb}(hi:t.qa.l[i]?=some l)(hj:t.qa.l[j]?=some m){p:ry}(hp:p∈Rr l)(hq:p∈Rr m):i=j:=by
 have h:=(bR.1 (Sc t▸hV.nodup)).1;have h2:=(List.pairwise_flatMap.1 h).2;rw[List.pairwise_iff_getElem]at h2;obtain⟨hil,rfl⟩:=af.1 hi;obtain⟨hjl,rfl⟩:=af.1 hj;rcases Nat.lt_trichotomy i j with h3|h3|h3
 .exact absurd rfl (h2 i j hil hjl h3 p hp p hq)
 .exact h3
 .exact absurd rfl (h2 j i hjl hil h3 p hq p hp)
def Tl(l:qb)(sw p a b:Int):Prop:=(sw=l.A/\p=l.Q8/\a=l.B/\b=l.Q7)\/(sw=l.B/\p=l.Q7/\a=l.A/\b=l.Q8)
theorem Tl.symm{l:qb}{sw p a b:Int}(h:Tl l sw p a b):Tl l a b sw p:=by
 rcases h with⟨rfl,rfl,rfl,rfl⟩|⟨rfl,rfl,rfl,rfl⟩
 .exact .inr ⟨rfl,rfl,rfl,rfl⟩
 .exact .inl ⟨rfl,rfl,rfl,rfl⟩
theorem Tl.Oz{l:qb}{sw p a b:Int}(h:Tl l sw p a b):(⟨sw,p⟩:ry)∈Rr l:=by rcases h with⟨rfl,rfl,_,_⟩|⟨rfl,rfl,_,_⟩<;>simp[Rr]
theorem SG{sw p:Int}{i:Nat}{l:qb}{a b c:Int}(h:R6 sw p i l=some (a,b,c)):Tl l sw p a b/\c=i:=by
 unfold R6 at h;split at h
 .rename_i h1;obtain⟨rfl,rfl,rfl⟩:l.B=a/\l.Q7=b/\(i:Int)=c:=by simpa using h
  exact⟨.inl ⟨h1.1,h1.2,rfl,rfl⟩,rfl⟩
 .split at h
  .rename_i h1;obtain⟨rfl,rfl,rfl⟩:l.A=a/\l.Q8=b/\(i:Int)=c:=by simpa using h
   exact⟨.inr ⟨h1.1,h1.2,rfl,rfl⟩,rfl⟩
  .simp at h
theorem SY{l:qb}(hl:l.A≠l.B){sw p a b:Int}(h:Tl l sw p a b)(i:Nat):R6 sw p i l=some (a,b,(i:Int)):=by
 unfold R6;rcases h with⟨rfl,rfl,rfl,rfl⟩|⟨rfl,rfl,rfl,rfl⟩
 .rw [if_pos ⟨rfl,rfl⟩]
 .rw [if_neg fun h=>hl h.1.symm,if_pos ⟨rfl,rfl⟩]
theorem Ts{t:l8}(hV:R_ t){sw p a b c:Int}:R8 (R6 sw p) t.qa.l 0=some (a,b,c)<->∃(j:Nat)(l:qb),t.qa.l[j]?=some l/\Tl l sw p a b/\c=j:=by
 constructor
 .intro h;obtain⟨j,l,h1,h2,_⟩:=Sv h;obtain⟨h3,h4⟩:=SG h2;exact⟨j,l,h1,h3,by simpa using h4⟩
 .rintro ⟨j,l,h1,h2,rfl⟩;have hlk:=hV.Ug l (aS h1);cases h:R8 (R6 sw p) t.qa.l 0 with
  |none=>have:=Ta.1 h j l h1;rw[SY hlk.1 h2]at this;simp at this
  |some q=>
   obtain⟨a',b',c'⟩:=q;obtain⟨k,m,h3,h4,_⟩:=Sv h;obtain⟨h5,h6⟩:=SG h4;obtain rfl:=Tx hV h1 h3 h2.Oz h5.Oz;obtain rfl:l=m:=aa (h1.symm.trans h3);have e:=SY hlk.1 h2 (0+j);rw[SY hlk.1 h5]at e;obtain⟨rfl,rfl⟩:a'=a/\b'=b:=by simpa using e
   rw[h6];simp
end Go.Proofs.Ytingpmogbibghaa.W
