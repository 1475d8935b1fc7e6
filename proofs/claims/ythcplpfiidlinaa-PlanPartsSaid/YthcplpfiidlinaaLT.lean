/- Loops over lists, and topologies: what Right and Peer answer. Conditions: as stated. -/
import Derived.Test.YthcplpfiidlinaaL
open Go.Ev Go
namespace Go.Proofs.Ythcplpfiidlinaa.L
theorem wr_id{n:Int}(h0: -9223372036854775808<=n)(h1:n < 9223372036854775808):wr .i64 n=n:=by
 simp [wr,IntKind.wrap,IntKind.bits,IntKind.signed]; omega
theorem forI{S σ β:Type}{f:S->Option (Sum S β)}(st:Nat->σ->S)(n:Nat)(I:Nat->σ->Prop)(R:β->Prop)
  (hstep:∀i s,i < n->I i s->(∃ s',f (st i s)=some (.inl (st (i+1) s'))/\I (i+1) s')\/(∃ b,f (st i s)=some (.inr b)/\R b))
  (hend:∀s,I n s->∃b,f (st n s)=some (.inr b)/\R b):∀i s,i<=n->I i s->∃b,loopO f (st i s)=some b/\R b:=by
 have:∀(k i:Nat) (s:σ),i+k=n->I i s->∃b,loopO f (st i s)=some b/\R b:=by
  intro k
  induction k with
  | zero=>
   intro i s hi hI
   obtain rfl:i=n:=by omega
   obtain ⟨b,h1,h2⟩:=hend s hI
   exact ⟨b,q0u h1,h2⟩
  | succ k ih=>
   intro i s hi hI
   rcases hstep i s (by omega) hI with ⟨s',h1,h2⟩ | ⟨b,h1,h2⟩
   ·obtain ⟨b,h4,h5⟩:=ih (i+1) s' (by omega) h2
    exact ⟨b,(q1f h1).trans h4,h5⟩
   ·exact ⟨b,q0u h1,h2⟩
 exact λi s hi=>this (n - i) i s (by omega)
theorem forE{S σ β:Type}{goal:Prop}{f:S->Option (Sum S β)}(st:Nat->σ->S)(n:Nat)(I:Nat->σ->Prop)(R:β->Prop)
  (hstep:∀i s,i < n->I i s->(∃ s',f (st i s)=some (.inl (st (i+1) s'))/\I (i+1) s')\/(∃ b,f (st i s)=some (.inr b)/\R b))
  (hend:∀s,I n s->∃b,f (st n s)=some (.inr b)/\R b) (i:Nat) (s:σ) (hi:i<=n) (hI:I i s) (k:∀b,loopO f (st i s)=some b->R b->goal):goal:=
 let ⟨b,h1,h2⟩:=forI st n I R hstep hend i s hi hI
 k b h1 h2
theorem lt_t{i n:Nat}(h:i < n):decide ((i:Int) < (n:Int))=true:=by rw [decide_eq_true_eq]; omega
theorem lt_f{n:Nat}:decide ((n:Int) < (n:Int))=false:=by rw [decide_eq_false_iff_not]; omega
theorem wr_s{i:Nat}(h:i < 9223372036854775807):wr .i64 ((i:Int)+1)=((i+1:Nat):Int):=by rw [wr_id (by omega) (by omega)]; omega
def scan{α β:Type}(P:Nat->α->Option β):List α->Nat->Option β
 | [],_=>none
 | x :: r,i=>match P i x with | some b=>some b | none=>scan P r (i+1)
theorem scanE{α β γ:Type} [Inhabited α] {f:Int->Option (Sum Int (Sum β γ))}(l:List α)(P:Nat->α->Option β)(c:γ)(hb:l.length < 9223372036854775808)
  (hstep:∀i:Nat,i < l.length->f (i:Int)=some (match P i (gt l i)with | some b=> .inr (.inl b) | none=> .inl (wr .i64 ((i:Int)+1)))) (hend:f (l.length:Int)=some (.inr (.inr c))):
  loopO f 0=some (match scan P l 0 with | some b=> .inl b | none=> .inr c):=by
 have main:∀(n i:Nat),i+n=l.length->loopO f (i:Int)=some (match scan P (l.drop i) i with | some b=> .inl b | none=> .inr c):=by
  intro n
  induction n with
  | zero=>
   intro i hi
   obtain rfl:i=l.length:=by omega
   rw [q0u hend,List.drop_length]; rfl
  | succ n ih=>
   intro i hi
   have hlt:i < l.length:=by omega
   have hs:=hstep i hlt
   rw [List.drop_eq_getElem_cons hlt,<- gt_eq hlt]
   simp only [scan]
   cases hP:P i (gt l i)with
   | some b=>rw [hP]at hs; rw [q0u hs]
   | none=>
    rw [hP]at hs
    simp only at hs
    rw [wr_s (by omega)]at hs
    rw [q1f hs,ih (i+1) (by omega)]
 have:=main l.length 0 (by omega)
 simpa using this
theorem q2z{α β:Type}{P:Nat->α->Option β}:∀ {l:List α} {i:Nat},scan P l i=none↔∀j (x:α),l[j]? =some x->P (i+j) x=none:=by
 intro l
 induction l with
 | nil=>intro i; simp [scan]
 | cons y l ih=>
  intro i
  simp only [scan]
  constructor
  ·intro h j x hj
   split at h
   ·simp at h
   ·rename_i hP
    cases j with
    | zero=>
     obtain rfl:y=x:=by simpa using hj
     exact hP
    | succ j=>
     have:=ih.1 h j x (by simpa using hj)
     rw [show i+(j+1)=i+1+j by omega]; exact this
  ·intro h
   have h0:=h 0 y rfl
   rw [Nat.add_zero]at h0
   rw [h0]
   exact ih.2 λj x hj=>by
    have:=h (j+1) x (by simpa using hj)
    rw [show i+(j+1)=i+1+j by omega]at this; exact this
theorem q6o{α β:Type}{P:Nat->α->Option β}:∀ {l:List α} {i:Nat} {b:β},scan P l i=some b->∃j x,l[j]? =some x/\P (i+j) x=some b/\∀k,k < j->∀y,l[k]? =some y->P (i+k) y=none:=by
 intro l
 induction l with
 | nil=>intro i b h; simp [scan]at h
 | cons y l ih=>
  intro i b h
  simp only [scan]at h
  split at h
  ·rename_i b' hP
   obtain rfl:=Option.some.inj h
   exact ⟨0,y,rfl,hP,λk hk=>by omega⟩
  ·rename_i hP
   obtain ⟨j,x,h1,h2,h3⟩:=ih h
   refine ⟨j+1,x,by simpa using h1,by rw [show i+(j+1)=i+1+j by omega]; exact h2,λk hk z hz=> ?_⟩
   cases k with
   | zero=>
    obtain rfl:y=z:=by simpa using hz
    exact hP
   | succ k=>
    rw [show i+(k+1)=i+1+k by omega]
    exact h3 k (by omega) z (by simpa using hz)
theorem qio{α:Type}{p:α->Bool}{l:List α}{i:Nat}:scan (λ_ x=>if p x then some false else none) l i=none↔∀x∈l,p x=false:=by
 rw [q2z]
 constructor
 ·intro h x hx
  obtain ⟨j,hj,rfl⟩:=List.getElem_of_mem hx
  have:=h j l[j] (by simp [hj])
  cases hp:p l[j]
  ·rfl
  ·rw [hp]at this; simp at this
 ·intro h j x hj
  rw [h x (List.mem_of_getElem? hj)]; rfl
theorem allE{α:Type} [Inhabited α] {f:Int->Option (Sum Int (Sum Bool Unit))}(l:List α)(p:α->Bool)(hb:l.length < 9223372036854775808)
  (hstep:∀i:Nat,i < l.length->f (i:Int)=some (bif p (gt l i)then .inr (.inl false)else .inl (wr .i64 ((i:Int)+1)))) (hend:f (l.length:Int)=some (.inr (.inr ()))):
  loopO f 0=some (if ∀x∈l,p x=false then .inr ()else .inl false):=by
 rw [scanE l (λ_ x=>if p x then some false else none) () hb (λi hi=>by rw [hstep i hi]; cases p (gt l i) <;> rfl) hend]
 cases h:scan (λ_ x=>if p x then some false else none) l 0 with
 | none=>rw [if_pos (qio.1 h)]
 | some u=>
  obtain ⟨j,x,_,h2,_⟩:=q6o h
  split at h2
  ·obtain rfl:=Option.some.inj h2
   rw [if_neg]
   intro hn
   rw [qio.2 hn]at h; simp at h
  ·simp at h2
theorem layE{α β:Type} [Inhabited α] {f:(Int×Sl β)->Option (Sum (Int×Sl β) (Sl β))}(l:List α)(g:Nat->α->List β)(s0:Sl β)(hb:l.length < 9223372036854775808)
  (hstep:∀(i:Nat) (s:Sl β),i < l.length->s.l=s0.l++((l.take i).zipIdx.flatMap λp=>g p.2 p.1)->∃s',f ((i:Int),s)=some (.inl (wr .i64 ((i:Int)+1),s'))/\s'.l=s.l++g i (gt l i))
  (hend:∀s,f ((l.length:Int),s)=some (.inr s)):∃s,loopO f (0,s0)=some s/\s.l=s0.l++(l.zipIdx.flatMap λp=>g p.2 p.1):=by
 have e0:((0:Nat):Int)=0:=rfl
 refine forE (f:=f) (λi (s:Sl β)=>((i:Int),s)) l.length (λi s=>s.l=s0.l++((l.take i).zipIdx.flatMap λp=>g p.2 p.1)) (λs=>s.l=s0.l++(l.zipIdx.flatMap λp=>g p.2 p.1)) ?_ ?_ 0 s0 (Nat.zero_le _) (by simp) (λb q1 q2=> ?_)
 ·intro i s hi hI
  obtain ⟨s',h1,h2⟩:=hstep i s hi hI
  refine .inl ⟨s',by rw [h1,wr_s (by omega)], ?_⟩
  have et:l.take (i+1)=l.take i++ [gt l i]:=by rw [gt_eq hi,List.take_append_getElem hi]
  rw [h2,hI,et,List.zipIdx_append,List.flatMap_append,List.append_assoc]
  simp [Nat.min_eq_left (Nat.le_of_lt hi)]
 ·intro s hI
  refine ⟨s,hend s, ?_⟩
  rw [List.take_length]at hI; exact hI
 ·rw [e0]at q1
  exact ⟨b,q1,q2⟩
theorem layE1{α β:Type} [Inhabited α] {f:(Int×Sl β)->Option (Sum (Int×Sl β) (Sl β))}(l:List α)(g:α->List β)(s0:Sl β)(hb:l.length < 9223372036854775808)
  (hstep:∀(i:Nat) (s:Sl β),i < l.length->s.l=s0.l++(l.take i).flatMap g->∃s',f ((i:Int),s)=some (.inl (wr .i64 ((i:Int)+1),s'))/\s'.l=s.l++g (gt l i))
  (hend:∀s,f ((l.length:Int),s)=some (.inr s)):∃s,loopO f (0,s0)=some s/\s.l=s0.l++l.flatMap g:=by
 have key:∀(l:List α) (k:Nat),((l.zipIdx k).flatMap λp=>g p.1)=l.flatMap g:=λl=>by
  induction l with
  | nil=>intro k; rfl
  | cons x l ih=>intro k; simp [List.zipIdx_cons,ih]
 obtain ⟨s,h1,h2⟩:=layE l (λ_ x=>g x) s0 hb (λi s hi hs=>hstep i s hi (by rw [hs,key])) hend
 exact ⟨s,h1,by rw [h2,key]⟩
section
variable {κ ν:Type}
theorem q81 [DecidableEq κ] {k:κ}:∀ {l:List (κ×ν×Nat)} {i:Nat},q2i k l i=none↔∀e∈l,k≠e.1:=by
 intro l
 induction l with
 | nil=>intro i; simp [q2i]
 | cons x l ih=>
  intro i
  simp only [q2i]
  by_cases h:k=x.1
  ·simp [h]
  ·simp [h,ih]
theorem ql5 [DecidableEq κ] {k:κ}{v:ν}:∀ {l:List (κ×ν×Nat)} {i j:Nat} {e:κ×ν×Nat},q2i k l i=some (j,e)->q2i k (mpPut l (j - i) v) i=some (j,(e.1,v,e.2.2)):=by
 intro l
 induction l with
 | nil=>intro i j e h; simp [q2i]at h
 | cons x l ih=>
  intro i j e h
  simp only [q2i]at h
  split at h
  ·rename_i hk
   obtain ⟨rfl,rfl⟩:i=j/\x=e:=by simpa using h
   simp [mpPut,q2i,hk]
  ·rename_i hk
   obtain ⟨h1,_,_⟩:=q3w h
   have e1:j - i=(j - (i+1))+1:=by omega
   rw [e1]
   simp only [mpPut,q2i,hk,if_false]
   exact ih h
theorem qkf{v:ν}{e:κ×ν×Nat}:∀ {l:List (κ×ν×Nat)},mpPut (l++ [e]) l.length v=l++ [(e.1,v,e.2.2)]:=by
 intro l
 induction l with
 | nil=>rfl
 | cons x l ih=>simp only [List.cons_append,List.length_cons,mpPut,ih]
theorem qca{l:List (κ×ν×Nat)}(h:∀(i:Nat) (e:κ×ν×Nat),l[i]? =some e->e.2.2=i){j:Nat}(hj:j < l.length):l.findIdx? (λe=>decide ((e.2.2:Int)=(j:Int)))=some j:=by
 rw [List.findIdx?_eq_some_iff_getElem]
 refine ⟨hj, ?_,λk hk=> ?_⟩
 ·have:=h j l[j] (by simp)
  simp [this]
 ·have := h k (l[k]'(by omega)) (by simp)
  simp only [this,decide_eq_true_eq]
  omega
end
def mpOf{κ:Type}(l:List κ):Mp κ Int:=⟨l.zipIdx.map λq=>(q.1,1,q.2),l.length⟩
theorem qaq{κ:Type}{l:List κ}{i:Nat}{e:κ×Int×Nat}(h:(mpOf l).es[i]? =some e):l[i]? =some e.1/\e.2.1=1/\e.2.2=i:=by
 simp only [mpOf,List.getElem?_map,Option.map_eq_some_iff]at h
 obtain ⟨q,hq,rfl⟩:=h
 rw [List.getElem?_zipIdx]at hq
 obtain ⟨x,hx,rfl⟩:=Option.map_eq_some_iff.1 hq
 exact ⟨hx,rfl,by simp⟩
theorem qis{κ:Type}{l:List κ}{e:κ×Int×Nat}(h:e∈(mpOf l).es):e.1∈l:=by
 obtain ⟨i,hi,rfl⟩:=List.getElem_of_mem h
 exact List.mem_of_getElem? (qaq (i:=i) (by simp [hi])).1
theorem qak{κ:Type} [DecidableEq κ] {l:List κ}{k:κ}:mpGet (mpOf l) 0 k=if k∈l then 1 else 0:=by
 unfold mpGet
 by_cases hk:k∈l
 ·rw [if_pos hk]
  cases h:q2i k (mpOf l).es 0 with
  | none=>
   exfalso
   rw [q81]at h
   obtain ⟨i,hi,rfl⟩:=List.getElem_of_mem hk
   refine h (l[i],1,i) ?_ rfl
   simp only [mpOf,List.mem_map]
   exact ⟨(l[i],i),by rw [List.mem_zipIdx_iff_getElem?]; simp [hi],rfl⟩
  | some p=>
   obtain ⟨j,e⟩:=p
   obtain ⟨_,h2,_⟩:=q3w h
   exact (qaq h2).2.1
 ·rw [if_neg hk,q81.2 λe he hke=>hk (by rw [hke]; exact qis he)]
theorem qqk{κ:Type} [DecidableEq κ] {l:List κ}{k:κ}(hk:k∉l):mpSet (mpEnt (mpOf l) 0 k).1 (mpEnt (mpOf l) 0 k).2.2 1=some (mpOf (l++ [k])):=by
 have hf:q2i k (mpOf l).es 0=none:=q81.2 λe he hke=>hk (by rw [hke]; exact qis he)
 have he:mpEnt (mpOf l) 0 k=(⟨(mpOf l).es++ [(k,0,l.length)],l.length+1⟩,0,(l.length:Int)):=by
  simp only [mpEnt,hf]; rfl
 have hlen:(mpOf l).es.length=l.length:=by simp [mpOf]
 have hst:((mpOf l).es++ [(k,(0:Int),l.length)]).findIdx? (λe=>decide ((e.2.2:Int)=(l.length:Int)))=some l.length:=by
  refine qca (λi e hi=> ?_) (by simp [hlen])
  rcases Nat.lt_or_ge i (mpOf l).es.length with h | h
  ·rw [List.getElem?_append_left h]at hi; exact (qaq hi).2.2
  ·rw [List.getElem?_append_right h]at hi
   have h0:i - (mpOf l).es.length=0:=by
    have:=(List.getElem?_eq_some_iff.1 hi).1
    simp at this; omega
   rw [h0]at hi
   obtain rfl:(k,(0:Int),l.length)=e:=by simpa using hi
   simp only; omega
 rw [he]
 simp only [mpSet,hst,Option.map_some]
 have hp:=qkf (v:=(1:Int)) (e:=(k,(0:Int),l.length)) (l:=(mpOf l).es)
 rw [hlen]at hp
 rw [hp]
 simp [mpOf,List.zipIdx_append]
theorem qpv{κ:Type} [DecidableEq κ] {l:List κ}{k:κ}(hk:k∈l)(v:Int):∃m,mpSet (mpEnt (mpOf l) 0 k).1 (mpEnt (mpOf l) 0 k).2.2 v=some m/\mpGet m 0 k=v:=by
 cases h:q2i k (mpOf l).es 0 with
 | none=>
  have:= @qak κ _ l k
  rw [if_pos hk]at this
  unfold mpGet at this
  rw [h]at this; simp at this
 | some p=>
  obtain ⟨j,e⟩:=p
  obtain ⟨_,h2,_⟩:=q3w h
  rw [Nat.sub_zero]at h2
  obtain ⟨_,_,h5⟩:=qaq h2
  have he:mpEnt (mpOf l) 0 k=(mpOf l,e.2.1,(e.2.2:Int)):=by simp only [mpEnt,h]
  have hj:j < (mpOf l).es.length:=(List.getElem?_eq_some_iff.1 h2).1
  have hst:=qca (l:=(mpOf l).es) (λi e hi=>(qaq hi).2.2) hj
  refine ⟨⟨mpPut (mpOf l).es j v,(mpOf l).clock⟩,by rw [he]; simp only [mpSet,h5,hst,Option.map_some], ?_⟩
  have:=ql5 (v:=v) h
  rw [Nat.sub_zero]at this
  simp only [mpGet,this]
def q32(t:api_Topo):List topo_place:=(t.Links.l.flatMap λl=> [⟨l.A,l.PortA⟩,⟨l.B,l.PortB⟩])++t.Hosts.l.flatMap λh=> [⟨h.At,h.Port⟩]
def qao(l:api_Link):Prop:=l.A≠l.B/\1<=l.Least/\l.Least<=l.Most/\l.Most<=1000
def q45(t:api_Topo)(p:topo_place):Prop:=(0<=p.sw/\p.sw < t.Switches)/\0<=p.port/\p.port < 8
structure Valid (t:api_Topo):Prop where
 sw:1<=t.Switches/\t.Switches<=8
 links:t.Links.l.length<=24
 hosts:t.Hosts.l.length<=8
 link:∀l∈t.Links.l,qao l
 nodup:(q32 t).Nodup
 place:∀p∈q32 t,q45 t p
noncomputable instance (t:api_Topo):Decidable (Valid t):=Classical.propDecidable _
theorem qkz{t:api_Topo}(h1:t.Links.l.length<=24)(h2:t.Hosts.l.length<=8):(q32 t).length<=56:=by
 have e:∀l:List api_Link,(l.flatMap λl=> [(⟨l.A,l.PortA⟩:topo_place),⟨l.B,l.PortB⟩]).length=2 * l.length:=λl=>by
  induction l with
  | nil=>rfl
  | cons x l ih=>simp [ih]; omega
 have e2:∀l:List api_Host,(l.flatMap λh=> [(⟨h.At,h.Port⟩:topo_place)]).length=l.length:=λl=>by
  induction l with
  | nil=>rfl
  | cons x l ih=>simp [ih]
 rw [q32,List.length_append,e,e2]; omega
theorem qh4{t:api_Topo}(h1:t.Links.l.length<=24)(h2:t.Hosts.l.length<=8):∃s,q3p t=some s/\s.l=q32 t:=by
 have e2:∀l:List api_Link,(l.flatMap λl=> [(⟨l.A,l.PortA⟩:topo_place),⟨l.B,l.PortB⟩]).length=2 * l.length:=λl=>by
  induction l with
  | nil=>rfl
  | cons x l ih=>simp [ih]; omega
 have e1:∀l:List api_Host,(l.flatMap λh=> [(⟨h.At,h.Port⟩:topo_place)]).length=l.length:=λl=>by
  induction l with
  | nil=>rfl
  | cons x l ih=>simp [ih]
 obtain ⟨s,k1,k2⟩:=layE1 (f:=q31 t) t.Links.l (λl=> [⟨l.A,l.PortA⟩,⟨l.B,l.PortB⟩]) .nil (by omega) (λi s hi hs=>by
  have hcap:capI (s.l++ [(⟨(gt t.Links.l i).A,(gt t.Links.l i).PortA⟩:topo_place),⟨(gt t.Links.l i).B,(gt t.Links.l i).PortB⟩])=some (s.l++ [⟨(gt t.Links.l i).A,(gt t.Links.l i).PortA⟩,⟨(gt t.Links.l i).B,(gt t.Links.l i).PortB⟩]):=
   q3e (by rw [hs,List.length_append,List.length_append,e2,List.length_take]; simp; omega)
  exact ⟨.mk (s.l++ [⟨(gt t.Links.l i).A,(gt t.Links.l i).PortA⟩,⟨(gt t.Links.l i).B,(gt t.Links.l i).PortB⟩]),by simp only [q31,lt_t hi,cond_true,q08 hi,Option.bind_some,hcap],rfl⟩) (λs=>by simp only [q31,lt_f,cond_false])
 obtain ⟨s2,k3,k4⟩:=layE1 (f:=q2y t) t.Hosts.l (λh=> [⟨h.At,h.Port⟩]) s (by omega) (λi s' hi hs=>by
  have hcap:capI (s'.l++ [(⟨(gt t.Hosts.l i).At,(gt t.Hosts.l i).Port⟩:topo_place)])=some (s'.l++ [⟨(gt t.Hosts.l i).At,(gt t.Hosts.l i).Port⟩]):=
   q3e (by rw [hs,k2,List.length_append,List.length_append,List.length_append,e2,e1,List.length_take]; simp; omega)
  exact ⟨.mk (s'.l++ [⟨(gt t.Hosts.l i).At,(gt t.Hosts.l i).Port⟩]),by simp only [q2y,lt_t hi,cond_true,q08 hi,Option.bind_some,hcap],rfl⟩) (λs=>by simp only [q2y,lt_f,cond_false])
 exact ⟨s2,by simp only [q3p,k1,Option.bind_some,k3],by rw [k4,k2]; rfl⟩
theorem qkm{t:api_Topo}{r:Sl topo_place}(hb:r.l.length < 9223372036854775808):
  ∃b,loopO (q1l t r) (0,(Mp.none:Mp topo_place Int))=some b/\match b with | .inl v=>v=false/\¬(r.l.Nodup/\∀p∈r.l,q45 t p) | .inr _=>r.l.Nodup/\∀p∈r.l,q45 t p:=by
 have e0:((0:Nat):Int)=0:=rfl
 refine forE (f:=q1l t r) (λi (m:Mp topo_place Int)=>((i:Int),m)) r.l.length (λi m=>m=mpOf (r.l.take i)/\(r.l.take i).Nodup/\∀p∈r.l.take i,q45 t p)
  (λb=>match b with | .inl v=>v=false/\¬(r.l.Nodup/\∀p∈r.l,q45 t p) | .inr _=>r.l.Nodup/\∀p∈r.l,q45 t p) ?_ ?_ 0 Mp.none (Nat.zero_le _) ⟨by simp [mpOf,Mp.none],by simp,by simp⟩ (λb q1 q2=> ?_)
 ·rintro i m hi ⟨rfl,hnd,hok⟩
  have hgm:gt r.l i∈r.l:=by rw [gt_eq hi]; exact List.getElem_mem _
  have et:r.l.take (i+1)=r.l.take i++ [gt r.l i]:=by rw [gt_eq hi,List.take_append_getElem hi]
  have hsplit:r.l=r.l.take i++gt r.l i :: r.l.drop (i+1):=by
   rw [gt_eq hi,<- List.drop_eq_getElem_cons hi,List.take_append_drop]
  by_cases hm:gt r.l i∈r.l.take i
  ·right
   obtain ⟨m2,h1,h2⟩:=qpv hm 2
   have hw:wr .i64 (mpGet (mpOf (r.l.take i)) 0 (gt r.l i)+1)=2:=by rw [qak,if_pos hm]; rfl
   have hd:decide ((2:Int) > 1)=true:=rfl
   refine ⟨.inl false,by simp only [q1l,lt_t hi,cond_true,q08 hi,Option.bind_some,hw,h1,h2,hd,Bool.or_true],rfl,λhh=> ?_⟩
   have h3:=hh.1
   rw [hsplit]at h3
   exact (List.nodup_append.1 h3).2.2 _ hm _ (List.mem_cons_self ..) rfl
  ·have h1:=qqk hm
   have hw:wr .i64 (mpGet (mpOf (r.l.take i)) 0 (gt r.l i)+1)=1:=by rw [qak,if_neg hm]; rfl
   have h2:mpGet (mpOf (r.l.take i++ [gt r.l i])) 0 (gt r.l i)=1:=by rw [qak,if_pos (by simp)]
   have hd:decide ((1:Int) > 1)=false:=rfl
   have hc:((((decide (((gt r.l i).sw) < 0)) || (decide (((gt r.l i).sw) >= t.Switches))) || (decide (((gt r.l i).port) < 0))) || (decide (((gt r.l i).port) >= 8)))=true↔¬q45 t (gt r.l i):=by
    simp only [Bool.or_eq_true,decide_eq_true_eq,q45]; omega
   by_cases hp:q45 t (gt r.l i)
   ·left
    have hc2:((((decide (((gt r.l i).sw) < 0)) || (decide (((gt r.l i).sw) >= t.Switches))) || (decide (((gt r.l i).port) < 0))) || (decide (((gt r.l i).port) >= 8)))=false:=by
     rw [<- Bool.not_eq_true]; exact λh=>hc.1 h hp
    refine ⟨mpOf (r.l.take (i+1)),by simp only [q1l,lt_t hi,cond_true,q08 hi,Option.bind_some,hw,h1,h2,hd,Bool.or_false,hc2,cond_false,wr_s (show i < 9223372036854775807 by omega),et],rfl, ?_, ?_⟩
    ·rw [et]
     exact List.nodup_append.2 ⟨hnd,by simp,λa ha b hb=>by rw [List.mem_singleton]at hb; subst hb; exact λe=>hm (e▸ha)⟩
    ·intro p hpm
     rw [et]at hpm
     rcases List.mem_append.1 hpm with h | h
     ·exact hok p h
     ·rw [List.mem_singleton]at h; subst h; exact hp
   ·right
    exact ⟨.inl false,by simp only [q1l,lt_t hi,cond_true,q08 hi,Option.bind_some,hw,h1,h2,hd,Bool.or_false,hc.2 hp],rfl,λhh=>hp (hh.2 _ hgm)⟩
 ·rintro m ⟨_,hnd,hok⟩
  rw [List.take_length]at hnd hok
  exact ⟨.inr (),by simp only [q1l,lt_f,cond_false],hnd,hok⟩
 ·rw [e0]at q1
  exact ⟨b,q1,q2⟩
theorem qk9{t:api_Topo}:q4g t=some (decide (Valid t)):=by
 unfold q4g
 by_cases hs:(1<=t.Switches/\t.Switches<=8)/\t.Links.l.length<=24/\t.Hosts.l.length<=8
 ·have hc:((((decide (t.Switches < 1)) || (decide (t.Switches > 8))) || (decide ((t.Links.l.length:Int) > 24))) || (decide ((t.Hosts.l.length:Int) > 8)))=false:=by
   simp only [Bool.or_eq_false_iff,decide_eq_false_iff_not]; omega
  have hl:=allE (f:=q3b t) t.Links.l (λl=>((((l.A == l.B) || (decide (l.Least < 1))) || (decide (l.Least > l.Most))) || (decide (l.Most > 1000)))) (by omega) (λi hi=>by
   simp only [q3b,lt_t hi,cond_true,q08 hi,Option.bind_some]
   generalize ((((gt t.Links.l i).A == (gt t.Links.l i).B) || _) || _ || _)=c
   cases c <;> rfl) (by simp only [q3b,lt_f,cond_false])
  have hlk:∀l:api_Link,((((l.A == l.B) || (decide (l.Least < 1))) || (decide (l.Least > l.Most))) || (decide (l.Most > 1000)))=false↔qao l:=λl=>by
   simp only [Bool.or_eq_false_iff,beq_eq_false_iff_ne,decide_eq_false_iff_not,qao]; omega
  rw [hc,cond_false,hl]
  by_cases hlo:∀l∈t.Links.l,qao l
  ·rw [if_pos (λl hm=>(hlk l).2 (hlo l hm))]
   simp only [Option.bind_some]
   obtain ⟨s,p1,p2⟩:=qh4 hs.2.1 hs.2.2
   have hpl:=qkz hs.2.1 hs.2.2
   obtain ⟨b,q1,q2⟩:=qkm (t:=t) (r:=s) (by rw [p2]; omega)
   simp only [p1,Option.bind_some,q1]
   rw [p2]at q2
   cases b with
   | inl v=>obtain ⟨rfl,q2⟩:=q2; exact congrArg some (decide_eq_false λh:Valid t=>q2 ⟨h.nodup,h.place⟩).symm
   | inr _=>exact congrArg some (decide_eq_true ⟨hs.1,hs.2.1,hs.2.2,hlo,q2.1,q2.2⟩).symm
  ·rw [if_neg (λh=>hlo λl hm=>(hlk l).1 (h l hm))]
   exact congrArg some (decide_eq_false λh=>hlo h.link).symm
 ·have hc:((((decide (t.Switches < 1)) || (decide (t.Switches > 8))) || (decide ((t.Links.l.length:Int) > 24))) || (decide ((t.Hosts.l.length:Int) > 8)))=true:=by
   simp only [Bool.or_eq_true,decide_eq_true_eq]; omega
  rw [hc,cond_true]
  exact congrArg some (decide_eq_false λh=>hs ⟨h.sw,h.links,h.hosts⟩).symm
def peerP(sw p:Int)(i:Nat)(l:api_Link):Option (Int×Int×Int):=
 if sw=l.A/\p=l.PortA then some (l.B,l.PortB,(i:Int))else if sw=l.B/\p=l.PortB then some (l.A,l.PortA,(i:Int))else none
theorem qqd{α β γ:Type}{P:Nat->α->Option β}(g:β->γ):∀ {l:List α} {i:Nat},scan (λi x=>(P i x).map g) l i=(scan P l i).map g:=by
 intro l
 induction l with
 | nil=>intro i; rfl
 | cons x l ih=>intro i; simp only [scan]; cases P i x with
  | none=>exact ih
  | some b=>rfl
def q4(q:Int×Int×Int):Int×Int×Int×Bool:=(q.1,q.2.1,q.2.2,true)
def peerR(t:api_Topo)(sw p:Int):Int×Int×Int×Bool:=match scan (peerP sw p) t.Links.l 0 with | some (a,b,c)=>(a,b,c,true) | none=>(0,0,0,false)
theorem qm3(a b sw p:Int):decide ((⟨sw,p⟩:topo_place)=⟨a,b⟩)=decide (sw=a/\p=b):=by
 rw [Bool.eq_iff_iff]; simp
theorem qpf{t:api_Topo}(sw p:Int)(hb:t.Links.l.length < 9223372036854775808):q5u t sw p=some (peerR t sw p):=by
 have h:=scanE (f:=q42 t sw p) t.Links.l (λi l=>(peerP sw p i l).map q4) () hb (λi hi=>by
  simp only [q42,lt_t hi,cond_true,q08 hi,Option.bind_some,qm3,peerP]
  by_cases h1:sw=(gt t.Links.l i).A/\p=(gt t.Links.l i).PortA
  ·rw [if_pos h1,decide_eq_true h1]; rfl
  ·by_cases h2:sw=(gt t.Links.l i).B/\p=(gt t.Links.l i).PortB
   ·rw [if_neg h1,if_pos h2,decide_eq_false h1,decide_eq_true h2]; rfl
   ·rw [if_neg h1,if_neg h2,decide_eq_false h1,decide_eq_false h2]; rfl) (by simp only [q42,lt_f,cond_false])
 simp only [q5u,h,Option.bind_some,qqd,peerR]
 cases scan (peerP sw p) t.Links.l 0 with
 | none=>rfl
 | some q=>obtain ⟨a,b,c⟩:=q; rfl
theorem qux{t:api_Topo}(hV:Valid t){sw p a b c:Int}(h:scan (peerP sw p) t.Links.l 0=some (a,b,c)):0<=a/\a < t.Switches:=by
 obtain ⟨j,l,h1,h2,_⟩:=q6o h
 have hm:l∈t.Links.l:=List.mem_of_getElem? h1
 have hA:q45 t ⟨l.A,l.PortA⟩:=hV.place _ (List.mem_append_left _ (List.mem_flatMap.2 ⟨l,hm,by simp⟩))
 have hB:q45 t ⟨l.B,l.PortB⟩:=hV.place _ (List.mem_append_left _ (List.mem_flatMap.2 ⟨l,hm,by simp⟩))
 unfold peerP at h2
 split at h2
 ·obtain ⟨rfl,_⟩:=Prod.mk.inj (Option.some.inj h2); exact hB.1
 ·split at h2
  ·obtain ⟨rfl,_⟩:=Prod.mk.inj (Option.some.inj h2); exact hA.1
  ·simp at h2
instance (t:api_Topo) (p:topo_place):Decidable (q45 t p):=inferInstanceAs (Decidable ((0<=p.sw/\p.sw < t.Switches)/\0<=p.port/\p.port < 8))
end Go.Proofs.Ythcplpfiidlinaa.L
