/- Loops over lists, and topologies: what Right and Peer answer. Conditions: as stated. -/
import Derived.Test.YtoekkpmeeclpeaaGreatS
import Derived.Test.YtoekkpmeeclpeaaGreatFz
open Bool renaming or_eq_false_iff->cJ,or_eq_true->dE,or_false->oj
open List renaming drop_eq_getElem_cons->jz,getElem?_eq_some_iff->aV,getElem_of_mem->fU,length_append->aA,length_take->bV,mem_append_left->bw,mem_flatMap->cx,mem_of_getElem?->bj,mem_singleton->az,nodup_append->bD,take_append_getElem->gZ,take_length->eB
open Nat renaming sub_zero->nr,zero_le->cp
open Option renaming bind_some->ad,map_eq_some_iff->cg,map_some->fH
open Option.some renaming inj->ac
open Prod.mk renaming inj->ap
open Go.Ev Go
noncomputable section
namespace Go.Proofs.YtoekkpmeeclpeaaGreat.S
theorem iQ{n:Int}(h0:-9223372036854775808<=n)(h1:n<9223372036854775808):wr .i64 n=n:=by simp[wr,IntKind.wrap,IntKind.bits,IntKind.signed];omega
theorem Wf{S β:Type}{f:S->Option (Sum S β)}(m:S->Nat)(I:S->Prop)(R:β->Prop)
  (hstep:∀s,I s->(∃s',f s=some (.inl s')/\I s'/\m s'<m s)\/(∃b,f s=some (.inr b)/\R b)):∀s,I s->∃b,aU f s=some b/\R b:=by
 have:∀(n:Nat)(s:S),m s<=n->I s->∃b,aU f s=some b/\R b:=by
  intro n;induction n with
  |zero=>
   intro s hn hI;rcases hstep s hI with⟨s',_,_,h⟩|⟨b,h1,h2⟩
   .omega
   .exact ⟨b,cM h1,h2⟩
  |succ n ih=>
   intro s hn hI;rcases hstep s hI with⟨s',h1,h2,h3⟩|⟨b,h1,h2⟩
   .obtain ⟨b,h4,h5⟩:=ih s' (by omega) h2;exact⟨b,(fu h1).trans h4,h5⟩
   .exact ⟨b,cM h1,h2⟩
 exact fun s=>this (m s) s (Nat.le_refl _)
theorem Kv{S σ β:Type}{f:S->Option (Sum S β)}(st:Nat->σ->S)(n:Nat)(I:Nat->σ->Prop)(R:β->Prop)
  (hstep:∀i s,i<n->I i s->(∃s',f (st i s)=some (.inl (st (i+1) s'))/\I (i+1) s')\/(∃b,f (st i s)=some (.inr b)/\R b))
  (hend:∀s,I n s->∃b,f (st n s)=some (.inr b)/\R b):∀i s,i<=n->I i s->∃b,aU f (st i s)=some b/\R b:=by
 have:∀(k i:Nat)(s:σ),i+k=n->I i s->∃b,aU f (st i s)=some b/\R b:=by
  intro k;induction k with
  |zero=>
   intro i s hi hI;obtain rfl:i=n:=by omega
   obtain⟨b,h1,h2⟩:=hend s hI;exact⟨b,cM h1,h2⟩
  |succ k ih=>
   intro i s hi hI;rcases hstep i s (by omega) hI with⟨s',h1,h2⟩|⟨b,h1,h2⟩
   .obtain ⟨b,h4,h5⟩:=ih (i+1) s' (by omega) h2;exact⟨b,(fu h1).trans h4,h5⟩
   .exact ⟨b,cM h1,h2⟩
 exact fun i s hi=>this (n-i) i s (by omega)
theorem Xo{S σ β:Type}{goal:Prop}{f:S->Option (Sum S β)}(st:Nat->σ->S)(n:Nat)(I:Nat->σ->Prop)(R:β->Prop)
  (hstep:∀i s,i<n->I i s->(∃s',f (st i s)=some (.inl (st (i+1) s'))/\I (i+1) s')\/(∃b,f (st i s)=some (.inr b)/\R b))
  (hend:∀s,I n s->∃b,f (st n s)=some (.inr b)/\R b) (i:Nat) (s:σ) (hi:i<=n) (hI:I i s) (k:∀b,aU f (st i s)=some b->R b->goal):goal:=
 let⟨b,h1,h2⟩:=Kv st n I R hstep hend i s hi hI
 k b h1 h2
theorem Wg{S β:Type}{goal:Prop}{f:S->Option (Sum S β)}(m:S->Nat)(I:S->Prop)(R:β->Prop)
  (hstep:∀s,I s->(∃s',f s=some (.inl s')/\I s'/\m s'<m s)\/(∃b,f s=some (.inr b)/\R b)) (s:S) (hI:I s) (k:∀b,aU f s=some b->R b->goal):goal:=
 let⟨b,h1,h2⟩:=Wf m I R hstep s hI
 k b h1 h2
theorem m9{i n:Nat}(h:i<n):decide ((i:Int)<(n:Int))=true:=by rw[decide_eq_true_eq];omega
theorem rS{n:Nat}:decide ((n:Int)<(n:Int))=false:=by rw[decide_eq_false_iff_not];omega
theorem yV{i:Nat}(h:i<9223372036854775807):wr .i64 ((i:Int)+1)=((i+1:Nat):Int):=by rw[iQ (by omega) (by omega)];omega
def lF{α β:Type}(P:Nat->α->Option β):List α->Nat->Option β
 |[],_=>none
 |x::r,i=>match P i x with|some b=>some b|none=>lF P r (i+1)
theorem x5{α β γ:Type}[Inhabited α]{f:Int->Option (Sum Int (Sum β γ))}(l:List α)(P:Nat->α->Option β)(c:γ)(hb:l.length<9223372036854775808)
  (hstep:∀i:Nat,i<l.length->f (i:Int)=some (match P i (gt l i)with|some b=>.inr (.inl b)|none=>.inl (wr .i64 ((i:Int)+1)))) (hend:f (l.length:Int)=some (.inr (.inr c))):
  aU f 0=some (match lF P l 0 with|some b=>.inl b|none=>.inr c):=by
 have main:∀(n i:Nat),i+n=l.length->aU f (i:Int)=some (match lF P (l.drop i) i with|some b=>.inl b|none=>.inr c):=by
  intro n;induction n with
  |zero=>
   intro i hi;obtain rfl:i=l.length:=by omega
   rw[cM hend,List.drop_length];rfl
  |succ n ih=>
   intro i hi;have hlt:i<l.length:=by omega
   have hs:=hstep i hlt;rw[jz hlt,<-cU hlt];simp only[lF];cases hP:P i (gt l i)with|some b=>rw[hP]at hs;rw[cM hs]|none=>rw[hP]at hs;simp only at hs;rw[yV (by omega)]at hs;rw[fu hs,ih (i+1) (by omega)]
 have:=main l.length 0 (by omega);simpa using this
theorem qj{α β:Type}{P:Nat->α->Option β}:∀{l:List α}{i:Nat},lF P l i=none<->∀j(x:α),l[j]?=some x->P (i+j) x=none:=by
 intro l;induction l with
 |nil=>intro i;simp[lF]
 |cons y l ih=>
  intro i;simp only[lF];constructor
  .intro h j x hj;split at h
   .simp at h
   .rename_i hP;cases j with
    |zero=>
     obtain rfl:y=x:=by simpa using hj
     exact hP
    |succ j=>have:=ih.1 h j x (by simpa using hj);rw[show i+(j+1)=i+1+j by omega];exact this
  .intro h;have h0:=h 0 y rfl;rw[Nat.add_zero]at h0;rw[h0];exact ih.2 fun j x hj=>by have:=h (j+1) x (by simpa using hj);rw[show i+(j+1)=i+1+j by omega]at this;exact this
theorem m7{α β:Type}{P:Nat->α->Option β}:∀{l:List α}{i:Nat}{b:β},lF P l i=some b->∃j x,l[j]?=some x/\P (i+j) x=some b/\∀k,k<j->∀y,l[k]?=some y->P (i+k) y=none:=by
 intro l;induction l with
 |nil=>intro i b h;simp[lF]at h
 |cons y l ih=>
  intro i b h;simp only[lF]at h;split at h
  .rename_i b' hP;obtain rfl:=ac h;exact⟨0,y,rfl,hP,fun k hk=>by omega⟩
  .rename_i hP;obtain⟨j,x,h1,h2,h3⟩:=ih h;refine⟨j+1,x,by simpa using h1,by rw[show i+(j+1)=i+1+j by omega];exact h2,fun k hk z hz=>?_⟩;cases k with
   |zero=>
    obtain rfl:y=z:=by simpa using hz
    exact hP
   |succ k=>rw[show i+(k+1)=i+1+k by omega];exact h3 k (by omega) z (by simpa using hz)
theorem G2{α:Type}{p:α->Bool}{l:List α}{i:Nat}:lF (fun _ x=>if p x then some false else none) l i=none<->∀x∈l,p x=false:=by
 rw[qj];constructor
 .intro h x hx;obtain⟨j,hj,rfl⟩:=fU hx;have:=h j l[j] (by simp[hj]);cases hp:p l[j]
  .rfl
  .rw [hp]at this;simp at this
 .intro h j x hj;rw[h x (bj hj)];rfl
theorem abQ{α:Type}[Inhabited α]{f:Int->Option (Sum Int (Sum Bool Unit))}(l:List α)(p:α->Bool)(hb:l.length<9223372036854775808)
  (hstep:∀i:Nat,i<l.length->f (i:Int)=some (bif p (gt l i)then .inr (.inl false)else .inl (wr .i64 ((i:Int)+1)))) (hend:f (l.length:Int)=some (.inr (.inr ()))):
  aU f 0=some (if∀x∈l,p x=false then .inr ()else .inl false):=by
 rw[x5 l (fun _ x=>if p x then some false else none) () hb (fun i hi=>by rw[hstep i hi];cases p (gt l i)<;>rfl) hend];cases h:lF (fun _ x=>if p x then some false else none) l 0 with
 |none=>rw[if_pos (G2.1 h)]
 |some u=>
  obtain⟨j,x,_,h2,_⟩:=m7 h;split at h2
  .obtain rfl:=ac h2;rw[if_neg];intro hn;rw[G2.2 hn]at h;simp at h
  .simp at h2
theorem abj{α β:Type}[Inhabited α]{f:(Int×Sl β)->Option (Sum (Int×Sl β) (Sl β))}(l:List α)(g:Nat->α->List β)(s0:Sl β)(hb:l.length<9223372036854775808)
  (hstep:∀(i:Nat)(s:Sl β),i<l.length->s.l=s0.l++((l.take i).zipIdx.flatMap fun p=>g p.2 p.1)->∃s',f ((i:Int),s)=some (.inl (wr .i64 ((i:Int)+1),s'))/\s'.l=s.l++g i (gt l i))
  (hend:∀s,f ((l.length:Int),s)=some (.inr s)):∃s,aU f (0,s0)=some s/\s.l=s0.l++(l.zipIdx.flatMap fun p=>g p.2 p.1):=by
 have e0:((0:Nat):Int)=0:=rfl;refine Xo (f:=f) (fun i(s:Sl β)=>((i:Int),s)) l.length (fun i s=>s.l=s0.l++((l.take i).zipIdx.flatMap fun p=>g p.2 p.1)) (fun s=>s.l=s0.l++(l.zipIdx.flatMap fun p=>g p.2 p.1)) ?_ ?_ 0 s0 (cp _) (by simp) (fun b q1 q2=>?_)
 .intro i s hi hI;obtain⟨s',h1,h2⟩:=hstep i s hi hI;refine .inl ⟨s',by rw[h1,yV (by omega)],?_⟩;have et:l.take (i+1)=l.take i++[gt l i]:=by rw[cU hi,gZ hi]
  rw[h2,hI,et,List.zipIdx_append,List.flatMap_append,List.append_assoc];simp[Nat.min_eq_left (Nat.le_of_lt hi)]
 .intro s hI;refine⟨s,hend s,?_⟩;rw[eB]at hI;exact hI
 .rw [e0]at q1;exact⟨b,q1,q2⟩
theorem Fe{α β:Type}[Inhabited α]{f:(Int×Sl β)->Option (Sum (Int×Sl β) (Sl β))}(l:List α)(g:α->List β)(s0:Sl β)(hb:l.length<9223372036854775808)
  (hstep:∀(i:Nat)(s:Sl β),i<l.length->s.l=s0.l++(l.take i).flatMap g->∃s',f ((i:Int),s)=some (.inl (wr .i64 ((i:Int)+1),s'))/\s'.l=s.l++g (gt l i))
  (hend:∀s,f ((l.length:Int),s)=some (.inr s)):∃s,aU f (0,s0)=some s/\s.l=s0.l++l.flatMap g:=by
 have key:∀(l:List α)(k:Nat),((l.zipIdx k).flatMap fun p=>g p.1)=l.flatMap g:=fun l=>by induction l with|nil=>intro k;rfl|cons x l ih=>intro k;simp[List.zipIdx_cons,ih]
 obtain⟨s,h1,h2⟩:=abj l (fun _ x=>g x) s0 hb (fun i s hi hs=>hstep i s hi (by rw[hs,key])) hend;exact⟨s,h1,by rw[h2,key]⟩
section
variable{κ ν:Type}
theorem wW[DecidableEq κ]{k:κ}:∀{l:List (κ×ν×Nat)}{i:Nat},dx k l i=none<->∀e∈l,k≠e.1:=by
 intro l;induction l with
 |nil=>intro i;simp[dx]
 |cons x l ih=>
  intro i;simp only[dx];by_cases h:k=x.1
  .simp [h]
  .simp [h,ih]
theorem Kf[DecidableEq κ]{k:κ}{v:ν}:∀{l:List (κ×ν×Nat)}{i j:Nat}{e:κ×ν×Nat},dx k l i=some (j,e)->dx k (mH l (j-i) v) i=some (j,(e.1,v,e.2.2)):=by
 intro l;induction l with
 |nil=>intro i j e h;simp[dx]at h
 |cons x l ih=>
  intro i j e h;simp only[dx]at h;split at h
  .rename_i hk;obtain⟨rfl,rfl⟩:i=j/\x=e:=by simpa using h
   simp[mH,dx,hk]
  .rename_i hk;obtain⟨h1,_,_⟩:=kU h;have e1:j-i=(j-(i+1))+1:=by omega
   rw[e1];simp only[mH,dx,hk,if_false];exact ih h
theorem Ke{v:ν}{e:κ×ν×Nat}:∀{l:List (κ×ν×Nat)},mH (l++[e]) l.length v=l++[(e.1,v,e.2.2)]:=by intro l;induction l with|nil=>rfl|cons x l ih=>simp only[List.cons_append,List.length_cons,mH,ih]
theorem CH{l:List (κ×ν×Nat)}(h:∀(i:Nat)(e:κ×ν×Nat),l[i]?=some e->e.2.2=i){j:Nat}(hj:j<l.length):l.findIdx? (fun e=>decide ((e.2.2:Int)=(j:Int)))=some j:=by
 rw[List.findIdx?_eq_some_iff_getElem];refine⟨hj,?_,fun k hk=>?_⟩
 .have:=h j l[j] (by simp);simp[this]
 .have:=h k (l[k]'(by omega)) (by simp);simp only[this,decide_eq_true_eq];omega
end
def m8{κ:Type}(l:List κ):Mp κ Int:=⟨l.zipIdx.map fun q=>(q.1,1,q.2),l.length⟩
theorem zI{κ:Type}{l:List κ}{i:Nat}{e:κ×Int×Nat}(h:(m8 l).es[i]?=some e):l[i]?=some e.1/\e.2.1=1/\e.2.2=i:=by simp only[m8,List.getElem?_map,cg]at h;obtain⟨q,hq,rfl⟩:=h;rw[List.getElem?_zipIdx]at hq;obtain⟨x,hx,rfl⟩:=cg.1 hq;exact⟨hx,rfl,by simp⟩
theorem Ic{κ:Type}{l:List κ}{e:κ×Int×Nat}(h:e∈(m8 l).es):e.1∈l:=by obtain⟨i,hi,rfl⟩:=fU h;exact bj (zI (i:=i) (by simp[hi])).1
theorem zH{κ:Type}[DecidableEq κ]{l:List κ}{k:κ}:kp (m8 l) 0 k=if k∈l then 1 else 0:=by
 unfold kp;by_cases hk:k∈l
 .rw [if_pos hk];cases h:dx k (m8 l).es 0 with|none=>exfalso;rw[wW]at h;obtain⟨i,hi,rfl⟩:=fU hk;refine h (l[i],1,i) ?_ rfl;simp only[m8,List.mem_map];exact⟨(l[i],i),by rw[List.mem_zipIdx_iff_getElem?];simp[hi],rfl⟩|some p=>obtain⟨j,e⟩:=p;obtain⟨_,h2,_⟩:=kU h;exact(zI h2).2.1
 .rw [if_neg hk,wW.2 fun e he hke=>hk (by rw[hke];exact Ic he)]
theorem Qo{κ:Type}[DecidableEq κ]{l:List κ}{k:κ}(hk:k∉l):De (lG (m8 l) 0 k).1 (lG (m8 l) 0 k).2.2 1=some (m8 (l++[k])):=by
 have hf:dx k (m8 l).es 0=none:=wW.2 fun e he hke=>hk (by rw[hke];exact Ic he);have he:lG (m8 l) 0 k=(⟨(m8 l).es++[(k,0,l.length)],l.length+1⟩,0,(l.length:Int)):=by simp only[lG,hf];rfl
 have hlen:(m8 l).es.length=l.length:=by simp[m8]
 have fe:((m8 l).es++[(k,(0:Int),l.length)]).findIdx? (fun e=>decide ((e.2.2:Int)=(l.length:Int)))=some l.length:=by
  refine CH (fun i e hi=>?_) (by simp[hlen]);rcases Nat.lt_or_ge i (m8 l).es.length with h|h
  .rw [List.getElem?_append_left h]at hi;exact(zI hi).2.2
  .rw [List.getElem?_append_right h]at hi;have h0:i-(m8 l).es.length=0:=by have:=(aV.1 hi).1;simp at this;omega
   rw[h0]at hi;obtain rfl:(k,(0:Int),l.length)=e:=by simpa using hi
   simp only;omega
 rw[he];simp only[De,fe,fH];have hp:=Ke (v:=(1:Int)) (e:=(k,(0:Int),l.length)) (l:=(m8 l).es);rw[hlen]at hp;rw[hp];simp[m8,List.zipIdx_append]
theorem Qn{κ:Type}[DecidableEq κ]{l:List κ}{k:κ}(hk:k∈l)(v:Int):∃m,De (lG (m8 l) 0 k).1 (lG (m8 l) 0 k).2.2 v=some m/\kp m 0 k=v:=by
 cases h:dx k (m8 l).es 0 with
 |none=>have:=@zH κ _ l k;rw[if_pos hk]at this;unfold kp at this;rw[h]at this;simp at this
 |some p=>
  obtain⟨j,e⟩:=p;obtain⟨_,h2,_⟩:=kU h;rw[nr]at h2;obtain⟨_,_,h5⟩:=zI h2;have he:lG (m8 l) 0 k=(m8 l,e.2.1,(e.2.2:Int)):=by simp only[lG,h]
  have hj:j<(m8 l).es.length:=(aV.1 h2).1;have fe:=CH (l:=(m8 l).es) (fun i e hi=>(zI hi).2.2) hj;refine⟨⟨mH (m8 l).es j v,(m8 l).ce⟩,by rw[he];simp only[De,h5,fe,fH],?_⟩;have:=Kf (v:=v) h;rw[nr]at this;simp only[kp,this]
def kI(t:ao):List bq:=(t.aZ.l.flatMap fun l=>[⟨l.A,l.lO⟩,⟨l.B,l.lN⟩])++t.bn.l.flatMap fun h=>[⟨h.At,h.gi⟩]
def yR(l:a8):Prop:=l.A≠l.B/\1<=l.BL/\l.BL<=l.tI/\l.tI<=1000
def ov(t:ao)(p:bq):Prop:=(0<=p.sw/\p.sw<t.au)/\0<=p.Ek/\p.Ek<8
structure fB(t:ao):Prop where
 sw:1<=t.au/\t.au<=8
 Fa:t.aZ.l.length<=24
 zT:t.bn.l.length<=8
 QA:∀l∈t.aZ.l,yR l
 nodup:(kI t).Nodup
 gU:∀p∈kI t,ov t p
instance(t:ao):Decidable (fB t):=Classical.propDecidable _
theorem JP{t:ao}(h1:t.aZ.l.length<=24)(h2:t.bn.l.length<=8):(kI t).length<=56:=by
 have e:∀l:List a8,(l.flatMap fun l=>[(⟨l.A,l.lO⟩:bq),⟨l.B,l.lN⟩]).length=2*l.length:=fun l=>by induction l with|nil=>rfl|cons x l ih=>simp[ih];omega
 have e2:∀l:List fR,(l.flatMap fun h=>[(⟨h.At,h.gi⟩:bq)]).length=l.length:=fun l=>by induction l with|nil=>rfl|cons x l ih=>simp[ih]
 rw[kI,aA,e,e2];omega
theorem Hx{t:ao}(h1:t.aZ.l.length<=24)(h2:t.bn.l.length<=8):∃s,oR t=some s/\s.l=kI t:=by
 have e2:∀l:List a8,(l.flatMap fun l=>[(⟨l.A,l.lO⟩:bq),⟨l.B,l.lN⟩]).length=2*l.length:=fun l=>by induction l with|nil=>rfl|cons x l ih=>simp[ih];omega
 have e1:∀l:List fR,(l.flatMap fun h=>[(⟨h.At,h.gi⟩:bq)]).length=l.length:=fun l=>by induction l with|nil=>rfl|cons x l ih=>simp[ih]
 obtain⟨s,k1,k2⟩:=Fe (f:=mA t) t.aZ.l (fun l=>[⟨l.A,l.lO⟩,⟨l.B,l.lN⟩]) .nil (by omega) (fun i s hi hs=>by have hcap:ic (s.l++[(⟨(gt t.aZ.l i).A,(gt t.aZ.l i).lO⟩:bq),⟨(gt t.aZ.l i).B,(gt t.aZ.l i).lN⟩])=some (s.l++[⟨(gt t.aZ.l i).A,(gt t.aZ.l i).lO⟩,⟨(gt t.aZ.l i).B,(gt t.aZ.l i).lN⟩]):=nm (by rw[hs,aA,aA,e2,bV];simp;omega);exact⟨.mk (s.l++[⟨(gt t.aZ.l i).A,(gt t.aZ.l i).lO⟩,⟨(gt t.aZ.l i).B,(gt t.aZ.l i).lN⟩]),by simp only[mA,m9 hi,cond_true,bS hi,ad,hcap],rfl⟩) (fun s=>by simp only[mA,rS,cond_false]);obtain⟨s2,k3,k4⟩:=Fe (f:=mz t) t.bn.l (fun h=>[⟨h.At,h.gi⟩]) s (by omega) (fun i s' hi hs=>by have hcap:ic (s'.l++[(⟨(gt t.bn.l i).At,(gt t.bn.l i).gi⟩:bq)])=some (s'.l++[⟨(gt t.bn.l i).At,(gt t.bn.l i).gi⟩]):=nm (by rw[hs,k2,aA,aA,aA,e2,e1,bV];simp;omega);exact⟨.mk (s'.l++[⟨(gt t.bn.l i).At,(gt t.bn.l i).gi⟩]),by simp only[mz,m9 hi,cond_true,bS hi,ad,hcap],rfl⟩) (fun s=>by simp only[mz,rS,cond_false]);exact⟨s2,by simp only[oR,k1,ad,k3],by rw[k4,k2];rfl⟩
theorem KH{t:ao}{r:Sl bq}(hb:r.l.length<9223372036854775808):
  ∃b,aU (iR t r) (0,(Mp.none:Mp bq Int))=some b/\match b with|.inl v=>v=false/\¬(r.l.Nodup/\∀p∈r.l,ov t p)|.inr _=>r.l.Nodup/\∀p∈r.l,ov t p:=by
 have e0:((0:Nat):Int)=0:=rfl
 refine Xo (f:=iR t r) (fun i(m:Mp bq Int)=>((i:Int),m)) r.l.length (fun i m=>m=m8 (r.l.take i)/\(r.l.take i).Nodup/\∀p∈r.l.take i,ov t p)
  (fun b=>match b with|.inl v=>v=false/\¬(r.l.Nodup/\∀p∈r.l,ov t p)|.inr _=>r.l.Nodup/\∀p∈r.l,ov t p) ?_ ?_ 0 Mp.none (cp _) ⟨by simp[m8,Mp.none],by simp,by simp⟩ (fun b q1 q2=>?_)
 .rintro i m hi ⟨rfl,hnd,hok⟩;have hgm:gt r.l i∈r.l:=by rw[cU hi];exact List.getElem_mem _
  have et:r.l.take (i+1)=r.l.take i++[gt r.l i]:=by rw[cU hi,gZ hi]
  have hsplit:r.l=r.l.take i++gt r.l i::r.l.drop (i+1):=by rw[cU hi,<-jz hi,List.take_append_drop]
  by_cases hm:gt r.l i∈r.l.take i
  .right;obtain⟨m2,h1,h2⟩:=Qn hm 2;have hw:wr .i64 (kp (m8 (r.l.take i)) 0 (gt r.l i)+1)=2:=by rw[zH,if_pos hm];rfl
   have hd:decide ((2:Int)>1)=true:=rfl;refine⟨.inl false,by simp only[iR,m9 hi,cond_true,bS hi,ad,hw,h1,h2,hd,Bool.or_true],rfl,fun hh=>?_⟩;have h3:=hh.1;rw[hsplit]at h3;exact(bD.1 h3).2.2 _ hm _ (List.mem_cons_self ..) rfl
  .have h1:=Qo hm;have hw:wr .i64 (kp (m8 (r.l.take i)) 0 (gt r.l i)+1)=1:=by rw[zH,if_neg hm];rfl
   have h2:kp (m8 (r.l.take i++[gt r.l i])) 0 (gt r.l i)=1:=by rw[zH,if_pos (by simp)]
   have hd:decide ((1:Int)>1)=false:=rfl;have hc:((((decide (((gt r.l i).sw)<0))||(decide (((gt r.l i).sw)>=t.au)))||(decide (((gt r.l i).Ek)<0)))||(decide (((gt r.l i).Ek)>=8)))=true<->¬ov t (gt r.l i):=by simp only[dE,decide_eq_true_eq,ov];omega
   by_cases hp:ov t (gt r.l i)
   .left;have hc2:((((decide (((gt r.l i).sw)<0))||(decide (((gt r.l i).sw)>=t.au)))||(decide (((gt r.l i).Ek)<0)))||(decide (((gt r.l i).Ek)>=8)))=false:=by rw[<-Bool.not_eq_true];exact fun h=>hc.1 h hp
    refine⟨m8 (r.l.take (i+1)),by simp only[iR,m9 hi,cond_true,bS hi,ad,hw,h1,h2,hd,oj,hc2,cond_false,yV (show i<9223372036854775807 by omega),et],rfl,?_,?_⟩
    .rw [et];exact bD.2 ⟨hnd,by simp,fun a ha b hb=>by rw[az]at hb;subst hb;exact fun e=>hm (e▸ha)⟩
    .intro p hpm;rw[et]at hpm;rcases List.mem_append.1 hpm with h|h
     .exact hok p h
     .rw [az]at h;subst h;exact hp
   .right;exact⟨.inl false,by simp only[iR,m9 hi,cond_true,bS hi,ad,hw,h1,h2,hd,oj,hc.2 hp],rfl,fun hh=>hp (hh.2 _ hgm)⟩
 .rintro m ⟨_,hnd,hok⟩;rw[eB]at hnd hok;exact⟨.inr (),by simp only[iR,rS,cond_false],hnd,hok⟩
 .rw [e0]at q1;exact⟨b,q1,q2⟩
theorem yl{t:ao}:mB t=some (decide (fB t)):=by
 unfold mB;by_cases hs:(1<=t.au/\t.au<=8)/\t.aZ.l.length<=24/\t.bn.l.length<=8
 .have hc:((((decide (t.au<1))||(decide (t.au>8)))||(decide ((t.aZ.l.length:Int)>24)))||(decide ((t.bn.l.length:Int)>8)))=false:=by simp only[cJ,decide_eq_false_iff_not];omega
  have hl:=abQ (f:=nM t) t.aZ.l (fun l=>((((l.A==l.B)||(decide (l.BL<1)))||(decide (l.BL>l.tI)))||(decide (l.tI>1000)))) (by omega) (fun i hi=>by simp only[nM,m9 hi,cond_true,bS hi,ad];generalize((((gt t.aZ.l i).A==(gt t.aZ.l i).B)||_)||_||_)=c;cases c<;>rfl) (by simp only[nM,rS,cond_false]);have hlk:∀l:a8,((((l.A==l.B)||(decide (l.BL<1)))||(decide (l.BL>l.tI)))||(decide (l.tI>1000)))=false<->yR l:=fun l=>by simp only[cJ,beq_eq_false_iff_ne,decide_eq_false_iff_not,yR];omega
  rw[hc,cond_false,hl];by_cases hlo:∀l∈t.aZ.l,yR l
  .rw [if_pos (fun l hm=>(hlk l).2 (hlo l hm))];simp only[ad];obtain⟨s,p1,p2⟩:=Hx hs.2.1 hs.2.2;have hpl:=JP hs.2.1 hs.2.2;obtain⟨b,q1,q2⟩:=KH (t:=t) (r:=s) (by rw[p2];omega);simp only[p1,ad,q1];rw[p2]at q2;cases b with|inl v=>obtain⟨rfl,q2⟩:=q2;exact congrArg some (decide_eq_false fun h:fB t=>q2 ⟨h.nodup,h.gU⟩).symm|inr _=>exact congrArg some (decide_eq_true ⟨hs.1,hs.2.1,hs.2.2,hlo,q2.1,q2.2⟩).symm
  .rw [if_neg (fun h=>hlo fun l hm=>(hlk l).1 (h l hm))];exact congrArg some (decide_eq_false fun h=>hlo h.QA).symm
 .have hc:((((decide (t.au<1))||(decide (t.au>8)))||(decide ((t.aZ.l.length:Int)>24)))||(decide ((t.bn.l.length:Int)>8)))=true:=by simp only[dE,decide_eq_true_eq];omega
  rw[hc,cond_true];exact congrArg some (decide_eq_false fun h=>hs ⟨h.sw,h.Fa,h.zT⟩).symm
def sN(sw p:Int)(i:Nat)(l:a8):Option (Int×Int×Int):=if sw=l.A/\p=l.lO then some (l.B,l.lN,(i:Int))else if sw=l.B/\p=l.lN then some (l.A,l.lO,(i:Int))else none
theorem Pt{α β γ:Type}{P:Nat->α->Option β}(g:β->γ):∀{l:List α}{i:Nat},lF (fun i x=>(P i x).map g) l i=(lF P l i).map g:=by
 intro l;induction l with
 |nil=>intro i;rfl
 |cons x l ih=>intro i;simp only[lF];cases P i x with|none=>exact ih|some b=>rfl
def q4(q:Int×Int×Int):Int×Int×Int×Bool:=(q.1,q.2.1,q.2.2,true)
def C1(t:ao)(sw p:Int):Int×Int×Int×Bool:=match lF (sN sw p) t.aZ.l 0 with|some (a,b,c)=>(a,b,c,true)|none=>(0,0,0,false)
theorem Nc(a b sw p:Int):decide ((⟨sw,p⟩:bq)=⟨a,b⟩)=decide (sw=a/\p=b):=by rw[Bool.eq_iff_iff];simp
theorem Nd{t:ao}(sw p:Int)(hb:t.aZ.l.length<9223372036854775808):sf t sw p=some (C1 t sw p):=by
 have h:=x5 (f:=pn t sw p) t.aZ.l (fun i l=>(sN sw p i l).map q4) () hb (fun i hi=>by
  simp only[pn,m9 hi,cond_true,bS hi,ad,Nc,sN];by_cases h1:sw=(gt t.aZ.l i).A/\p=(gt t.aZ.l i).lO
  .rw [if_pos h1,decide_eq_true h1];rfl
  .by_cases h2:sw=(gt t.aZ.l i).B/\p=(gt t.aZ.l i).lN
   .rw [if_neg h1,if_pos h2,decide_eq_false h1,decide_eq_true h2];rfl
   .rw [if_neg h1,if_neg h2,decide_eq_false h1,decide_eq_false h2];rfl) (by simp only[pn,rS,cond_false])
 simp only[sf,h,ad,Pt,C1];cases lF (sN sw p) t.aZ.l 0 with|none=>rfl|some q=>obtain⟨a,b,c⟩:=q;rfl
theorem Td{t:ao}(hV:fB t){sw p a b c:Int}(h:lF (sN sw p) t.aZ.l 0=some (a,b,c)):0<=a/\a<t.au:=by
 obtain⟨j,l,h1,h2,_⟩:=m7 h;have hm:l∈t.aZ.l:=bj h1;have hA:ov t ⟨l.A,l.lO⟩:=hV.gU _ (bw _ (cx.2 ⟨l,hm,by simp⟩));have hB:ov t ⟨l.B,l.lN⟩:=hV.gU _ (bw _ (cx.2 ⟨l,hm,by simp⟩));unfold sN at h2;split at h2
 .obtain ⟨rfl,_⟩:=ap (ac h2);exact hB.1
 .split at h2
  .obtain ⟨rfl,_⟩:=ap (ac h2);exact hA.1
  .simp at h2
instance(t:ao)(p:bq):Decidable (ov t p):=inferInstanceAs (Decidable ((0<=p.sw/\p.sw<t.au)/\0<=p.Ek/\p.Ek<8))
def yL(l:a8):List bq:=[⟨l.A,l.lO⟩,⟨l.B,l.lN⟩]
def VN(h:fR):List bq:=[⟨h.At,h.gi⟩]
theorem oW(t:ao):kI t=t.aZ.l.flatMap yL++t.bn.l.flatMap VN:=rfl
theorem BB{t:ao}(hV:fB t){i j:Nat}{l m:a8}(hi:t.aZ.l[i]?=some l)(hj:t.aZ.l[j]?=some m){p:bq}(hp:p∈yL l)(hq:p∈yL m):i=j:=by
 have h:=(bD.1 (oW t▸hV.nodup)).1;have h2:=(List.pairwise_flatMap.1 h).2;rw[List.pairwise_iff_getElem]at h2;obtain⟨hil,rfl⟩:=aV.1 hi;obtain⟨hjl,rfl⟩:=aV.1 hj;rcases Nat.lt_trichotomy i j with h3|h3|h3
 .exact absurd rfl (h2 i j hil hjl h3 p hp p hq)
 .exact h3
 .exact absurd rfl (h2 j i hjl hil h3 p hq p hp)
def Cb(l:a8)(sw p a b:Int):Prop:=(sw=l.A/\p=l.lO/\a=l.B/\b=l.lN)\/(sw=l.B/\p=l.lN/\a=l.A/\b=l.lO)
theorem Cb.symm{l:a8}{sw p a b:Int}(h:Cb l sw p a b):Cb l a b sw p:=by
 rcases h with⟨rfl,rfl,rfl,rfl⟩|⟨rfl,rfl,rfl,rfl⟩
 .exact .inr ⟨rfl,rfl,rfl,rfl⟩
 .exact .inl ⟨rfl,rfl,rfl,rfl⟩
theorem Cb.zJ{l:a8}{sw p a b:Int}(h:Cb l sw p a b):(⟨sw,p⟩:bq)∈yL l:=by rcases h with⟨rfl,rfl,_,_⟩|⟨rfl,rfl,_,_⟩<;>simp[yL]
theorem C4{sw p:Int}{i:Nat}{l:a8}{a b c:Int}(h:sN sw p i l=some (a,b,c)):Cb l sw p a b/\c=i:=by
 unfold sN at h;split at h
 .rename_i h1;obtain⟨rfl,rfl,rfl⟩:l.B=a/\l.lN=b/\(i:Int)=c:=by simpa using h
  exact⟨.inl ⟨h1.1,h1.2,rfl,rfl⟩,rfl⟩
 .split at h
  .rename_i h1;obtain⟨rfl,rfl,rfl⟩:l.A=a/\l.lO=b/\(i:Int)=c:=by simpa using h
   exact⟨.inr ⟨h1.1,h1.2,rfl,rfl⟩,rfl⟩
  .simp at h
theorem C3{l:a8}(hl:l.A≠l.B){sw p a b:Int}(h:Cb l sw p a b)(i:Nat):sN sw p i l=some (a,b,(i:Int)):=by
 unfold sN;rcases h with⟨rfl,rfl,rfl,rfl⟩|⟨rfl,rfl,rfl,rfl⟩
 .rw [if_pos ⟨rfl,rfl⟩]
 .rw [if_neg fun h=>hl h.1.symm,if_pos ⟨rfl,rfl⟩]
theorem C0{t:ao}(hV:fB t){sw p a b c:Int}:lF (sN sw p) t.aZ.l 0=some (a,b,c)<->∃(j:Nat)(l:a8),t.aZ.l[j]?=some l/\Cb l sw p a b/\c=j:=by
 constructor
 .intro h;obtain⟨j,l,h1,h2,_⟩:=m7 h;obtain⟨h3,h4⟩:=C4 h2;exact⟨j,l,h1,h3,by simpa using h4⟩
 .rintro ⟨j,l,h1,h2,rfl⟩;have hlk:=hV.QA l (bj h1);cases h:lF (sN sw p) t.aZ.l 0 with
  |none=>have:=qj.1 h j l h1;rw[C3 hlk.1 h2]at this;simp at this
  |some q=>
   obtain⟨a',b',c'⟩:=q;obtain⟨k,m,h3,h4,_⟩:=m7 h;obtain⟨h5,h6⟩:=C4 h4;obtain rfl:=BB hV h1 h3 h2.zJ h5.zJ;obtain rfl:l=m:=ac (h1.symm.trans h3);have e:=C3 hlk.1 h2 (0+j);rw[C3 hlk.1 h5]at e;obtain⟨rfl,rfl⟩:a'=a/\b'=b:=by simpa using e
   rw[h6];simp
end Go.Proofs.YtoekkpmeeclpeaaGreat.S
