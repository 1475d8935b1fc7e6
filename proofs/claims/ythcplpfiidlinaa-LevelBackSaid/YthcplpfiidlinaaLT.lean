/- Loops over lists, and topologies: what Right and Peer answer. Conditions: as stated. -/
import Derived.Test.YthcplpfiidlinaaL
open Go.Ev Go
namespace Go.Proofs.Ythcplpfiidlinaa.L
theorem wr_id{n:Int}(h0: -9223372036854775808<=n)(h1:n < 9223372036854775808):wr .i64 n=n:=by
 simp [wr,IntKind.wrap,IntKind.bits,IntKind.signed]; omega
theorem forI{S σ β:Type}{f:S->Option (Sum S β)}(st:Nat->σ->S)(n:Nat)(I:Nat->σ->Prop)(R:β->Prop)
  (hstep:∀i s,i < n->I i s->(∃ s',f (st i s)=some (.inl (st (i+1) s'))/\I (i+1) s')\/(∃ b,f (st i s)=some (.inr b)/\R b))
  (hend:∀s,I n s->∃b,f (st n s)=some (.inr b)/\R b):∀i s,i<=n->I i s->∃b,loopO f (st i s)=some b/\R b:=by
 have:∀(k i:Nat) (s:σ),i+k=n->I i s->∃b,loopO f (st i s)=some b/\R b:=by
  intro k
  induction k with
  | zero=>
   intro i s hi hI
   obtain rfl:i=n:=by omega
   obtain ⟨b,h1,h2⟩:=hend s hI
   exact ⟨b,q0s h1,h2⟩
  | succ k ih=>
   intro i s hi hI
   rcases hstep i s (by omega) hI with ⟨s',h1,h2⟩ | ⟨b,h1,h2⟩
   ·obtain ⟨b,h4,h5⟩:=ih (i+1) s' (by omega) h2
    exact ⟨b,(q19 h1).trans h4,h5⟩
   ·exact ⟨b,q0s h1,h2⟩
 exact λi s hi=>this (n - i) i s (by omega)
theorem forE{S σ β:Type}{goal:Prop}{f:S->Option (Sum S β)}(st:Nat->σ->S)(n:Nat)(I:Nat->σ->Prop)(R:β->Prop)
  (hstep:∀i s,i < n->I i s->(∃ s',f (st i s)=some (.inl (st (i+1) s'))/\I (i+1) s')\/(∃ b,f (st i s)=some (.inr b)/\R b))
  (hend:∀s,I n s->∃b,f (st n s)=some (.inr b)/\R b) (i:Nat) (s:σ) (hi:i<=n) (hI:I i s) (k:∀b,loopO f (st i s)=some b->R b->goal):goal:=
 let ⟨b,h1,h2⟩:=forI st n I R hstep hend i s hi hI
 k b h1 h2
theorem lt_t{i n:Nat}(h:i < n):decide ((i:Int) < (n:Int))=true:=by rw [decide_eq_true_eq]; omega
theorem lt_f{n:Nat}:decide ((n:Int) < (n:Int))=false:=by rw [decide_eq_false_iff_not]; omega
theorem wr_s{i:Nat}(h:i < 9223372036854775807):wr .i64 ((i:Int)+1)=((i+1:Nat):Int):=by rw [wr_id (by omega) (by omega)]; omega
def scan{α β:Type}(P:Nat->α->Option β):List α->Nat->Option β
 | [],_=>none
 | x :: r,i=>match P i x with | some b=>some b | none=>scan P r (i+1)
theorem scanE{α β γ:Type} [Inhabited α] {f:Int->Option (Sum Int (Sum β γ))}(l:List α)(P:Nat->α->Option β)(c:γ)(hb:l.length < 9223372036854775808)
  (hstep:∀i:Nat,i < l.length->f (i:Int)=some (match P i (gt l i)with | some b=> .inr (.inl b) | none=> .inl (wr .i64 ((i:Int)+1)))) (hend:f (l.length:Int)=some (.inr (.inr c))):
  loopO f 0=some (match scan P l 0 with | some b=> .inl b | none=> .inr c):=by
 have main:∀(n i:Nat),i+n=l.length->loopO f (i:Int)=some (match scan P (l.drop i) i with | some b=> .inl b | none=> .inr c):=by
  intro n
  induction n with
  | zero=>
   intro i hi
   obtain rfl:i=l.length:=by omega
   rw [q0s hend,List.drop_length]; rfl
  | succ n ih=>
   intro i hi
   have hlt:i < l.length:=by omega
   have hs:=hstep i hlt
   rw [List.drop_eq_getElem_cons hlt,<- gt_eq hlt]
   simp only [scan]
   cases hP:P i (gt l i)with
   | some b=>rw [hP]at hs; rw [q0s hs]
   | none=>
    rw [hP]at hs
    simp only at hs
    rw [wr_s (by omega)]at hs
    rw [q19 hs,ih (i+1) (by omega)]
 have:=main l.length 0 (by omega)
 simpa using this
theorem q3q{α β:Type}{P:Nat->α->Option β}:∀ {l:List α} {i:Nat},scan P l i=none↔∀j (x:α),l[j]? =some x->P (i+j) x=none:=by
 intro l
 induction l with
 | nil=>intro i; simp [scan]
 | cons y l ih=>
  intro i
  simp only [scan]
  constructor
  ·intro h j x hj
   split at h
   ·simp at h
   ·rename_i hP
    cases j with
    | zero=>
     obtain rfl:y=x:=by simpa using hj
     exact hP
    | succ j=>
     have:=ih.1 h j x (by simpa using hj)
     rw [show i+(j+1)=i+1+j by omega]; exact this
  ·intro h
   have h0:=h 0 y rfl
   rw [Nat.add_zero]at h0
   rw [h0]
   exact ih.2 λj x hj=>by
    have:=h (j+1) x (by simpa using hj)
    rw [show i+(j+1)=i+1+j by omega]at this; exact this
theorem q5h{α β:Type}{P:Nat->α->Option β}:∀ {l:List α} {i:Nat} {b:β},scan P l i=some b->∃j x,l[j]? =some x/\P (i+j) x=some b/\∀k,k < j->∀y,l[k]? =some y->P (i+k) y=none:=by
 intro l
 induction l with
 | nil=>intro i b h; simp [scan]at h
 | cons y l ih=>
  intro i b h
  simp only [scan]at h
  split at h
  ·rename_i b' hP
   obtain rfl:=Option.some.inj h
   exact ⟨0,y,rfl,hP,λk hk=>by omega⟩
  ·rename_i hP
   obtain ⟨j,x,h1,h2,h3⟩:=ih h
   refine ⟨j+1,x,by simpa using h1,by rw [show i+(j+1)=i+1+j by omega]; exact h2,λk hk z hz=> ?_⟩
   cases k with
   | zero=>
    obtain rfl:y=z:=by simpa using hz
    exact hP
   | succ k=>
    rw [show i+(k+1)=i+1+k by omega]
    exact h3 k (by omega) z (by simpa using hz)
theorem qhy{α:Type}{p:α->Bool}{l:List α}{i:Nat}:scan (λ_ x=>if p x then some false else none) l i=none↔∀x∈l,p x=false:=by
 rw [q3q]
 constructor
 ·intro h x hx
  obtain ⟨j,hj,rfl⟩:=List.getElem_of_mem hx
  have:=h j l[j] (by simp [hj])
  cases hp:p l[j]
  ·rfl
  ·rw [hp]at this; simp at this
 ·intro h j x hj
  rw [h x (List.mem_of_getElem? hj)]; rfl
theorem allE{α:Type} [Inhabited α] {f:Int->Option (Sum Int (Sum Bool Unit))}(l:List α)(p:α->Bool)(hb:l.length < 9223372036854775808)
  (hstep:∀i:Nat,i < l.length->f (i:Int)=some (bif p (gt l i)then .inr (.inl false)else .inl (wr .i64 ((i:Int)+1)))) (hend:f (l.length:Int)=some (.inr (.inr ()))):
  loopO f 0=some (if ∀x∈l,p x=false then .inr ()else .inl false):=by
 rw [scanE l (λ_ x=>if p x then some false else none) () hb (λi hi=>by rw [hstep i hi]; cases p (gt l i) <;> rfl) hend]
 cases h:scan (λ_ x=>if p x then some false else none) l 0 with
 | none=>rw [if_pos (qhy.1 h)]
 | some u=>
  obtain ⟨j,x,_,h2,_⟩:=q5h h
  split at h2
  ·obtain rfl:=Option.some.inj h2
   rw [if_neg]
   intro hn
   rw [qhy.2 hn]at h; simp at h
  ·simp at h2
theorem layE{α β:Type} [Inhabited α] {f:(Int×Sl β)->Option (Sum (Int×Sl β) (Sl β))}(l:List α)(g:Nat->α->List β)(s0:Sl β)(hb:l.length < 9223372036854775808)
  (hstep:∀(i:Nat) (s:Sl β),i < l.length->s.l=s0.l++((l.take i).zipIdx.flatMap λp=>g p.2 p.1)->∃s',f ((i:Int),s)=some (.inl (wr .i64 ((i:Int)+1),s'))/\s'.l=s.l++g i (gt l i))
  (hend:∀s,f ((l.length:Int),s)=some (.inr s)):∃s,loopO f (0,s0)=some s/\s.l=s0.l++(l.zipIdx.flatMap λp=>g p.2 p.1):=by
 have e0:((0:Nat):Int)=0:=rfl
 refine forE (f:=f) (λi (s:Sl β)=>((i:Int),s)) l.length (λi s=>s.l=s0.l++((l.take i).zipIdx.flatMap λp=>g p.2 p.1)) (λs=>s.l=s0.l++(l.zipIdx.flatMap λp=>g p.2 p.1)) ?_ ?_ 0 s0 (Nat.zero_le _) (by simp) (λb q1 q2=> ?_)
 ·intro i s hi hI
  obtain ⟨s',h1,h2⟩:=hstep i s hi hI
  refine .inl ⟨s',by rw [h1,wr_s (by omega)], ?_⟩
  have et:l.take (i+1)=l.take i++ [gt l i]:=by rw [gt_eq hi,List.take_append_getElem hi]
  rw [h2,hI,et,List.zipIdx_append,List.flatMap_append,List.append_assoc]
  simp [Nat.min_eq_left (Nat.le_of_lt hi)]
 ·intro s hI
  refine ⟨s,hend s, ?_⟩
  rw [List.take_length]at hI; exact hI
 ·rw [e0]at q1
  exact ⟨b,q1,q2⟩
theorem layE1{α β:Type} [Inhabited α] {f:(Int×Sl β)->Option (Sum (Int×Sl β) (Sl β))}(l:List α)(g:α->List β)(s0:Sl β)(hb:l.length < 9223372036854775808)
  (hstep:∀(i:Nat) (s:Sl β),i < l.length->s.l=s0.l++(l.take i).flatMap g->∃s',f ((i:Int),s)=some (.inl (wr .i64 ((i:Int)+1),s'))/\s'.l=s.l++g (gt l i))
  (hend:∀s,f ((l.length:Int),s)=some (.inr s)):∃s,loopO f (0,s0)=some s/\s.l=s0.l++l.flatMap g:=by
 have key:∀(l:List α) (k:Nat),((l.zipIdx k).flatMap λp=>g p.1)=l.flatMap g:=λl=>by
  induction l with
  | nil=>intro k; rfl
  | cons x l ih=>intro k; simp [List.zipIdx_cons,ih]
 obtain ⟨s,h1,h2⟩:=layE l (λ_ x=>g x) s0 hb (λi s hi hs=>hstep i s hi (by rw [hs,key])) hend
 exact ⟨s,h1,by rw [h2,key]⟩
section
variable {κ ν:Type}
theorem q7y [DecidableEq κ] {k:κ}:∀ {l:List (κ×ν×Nat)} {i:Nat},q26 k l i=none↔∀e∈l,k≠e.1:=by
 intro l
 induction l with
 | nil=>intro i; simp [q26]
 | cons x l ih=>
  intro i
  simp only [q26]
  by_cases h:k=x.1
  ·simp [h]
  ·simp [h,ih]
theorem qjh [DecidableEq κ] {k:κ}{v:ν}:∀ {l:List (κ×ν×Nat)} {i j:Nat} {e:κ×ν×Nat},q26 k l i=some (j,e)->q26 k (mpPut l (j - i) v) i=some (j,(e.1,v,e.2.2)):=by
 intro l
 induction l with
 | nil=>intro i j e h; simp [q26]at h
 | cons x l ih=>
  intro i j e h
  simp only [q26]at h
  split at h
  ·rename_i hk
   obtain ⟨rfl,rfl⟩:i=j/\x=e:=by simpa using h
   simp [mpPut,q26,hk]
  ·rename_i hk
   obtain ⟨h1,_,_⟩:=q38 h
   have e1:j - i=(j - (i+1))+1:=by omega
   rw [e1]
   simp only [mpPut,q26,hk,if_false]
   exact ih h
theorem qjz{v:ν}{e:κ×ν×Nat}:∀ {l:List (κ×ν×Nat)},mpPut (l++ [e]) l.length v=l++ [(e.1,v,e.2.2)]:=by
 intro l
 induction l with
 | nil=>rfl
 | cons x l ih=>simp only [List.cons_append,List.length_cons,mpPut,ih]
theorem qcp{l:List (κ×ν×Nat)}(h:∀(i:Nat) (e:κ×ν×Nat),l[i]? =some e->e.2.2=i){j:Nat}(hj:j < l.length):l.findIdx? (λe=>decide ((e.2.2:Int)=(j:Int)))=some j:=by
 rw [List.findIdx?_eq_some_iff_getElem]
 refine ⟨hj, ?_,λk hk=> ?_⟩
 ·have:=h j l[j] (by simp)
  simp [this]
 ·have := h k (l[k]'(by omega)) (by simp)
  simp only [this,decide_eq_true_eq]
  omega
end
def mpOf{κ:Type}(l:List κ):Mp κ Int:=⟨l.zipIdx.map λq=>(q.1,1,q.2),l.length⟩
theorem qad{κ:Type}{l:List κ}{i:Nat}{e:κ×Int×Nat}(h:(mpOf l).es[i]? =some e):l[i]? =some e.1/\e.2.1=1/\e.2.2=i:=by
 simp only [mpOf,List.getElem?_map,Option.map_eq_some_iff]at h
 obtain ⟨q,hq,rfl⟩:=h
 rw [List.getElem?_zipIdx]at hq
 obtain ⟨x,hx,rfl⟩:=Option.map_eq_some_iff.1 hq
 exact ⟨hx,rfl,by simp⟩
theorem qia{κ:Type}{l:List κ}{e:κ×Int×Nat}(h:e∈(mpOf l).es):e.1∈l:=by
 obtain ⟨i,hi,rfl⟩:=List.getElem_of_mem h
 exact List.mem_of_getElem? (qad (i:=i) (by simp [hi])).1
theorem qa0{κ:Type} [DecidableEq κ] {l:List κ}{k:κ}:mpGet (mpOf l) 0 k=if k∈l then 1 else 0:=by
 unfold mpGet
 by_cases hk:k∈l
 ·rw [if_pos hk]
  cases h:q26 k (mpOf l).es 0 with
  | none=>
   exfalso
   rw [q7y]at h
   obtain ⟨i,hi,rfl⟩:=List.getElem_of_mem hk
   refine h (l[i],1,i) ?_ rfl
   simp only [mpOf,List.mem_map]
   exact ⟨(l[i],i),by rw [List.mem_zipIdx_iff_getElem?]; simp [hi],rfl⟩
  | some p=>
   obtain ⟨j,e⟩:=p
   obtain ⟨_,h2,_⟩:=q38 h
   exact (qad h2).2.1
 ·rw [if_neg hk,q7y.2 λe he hke=>hk (by rw [hke]; exact qia he)]
theorem qpj{κ:Type} [DecidableEq κ] {l:List κ}{k:κ}(hk:k∉l):mpSet (mpEnt (mpOf l) 0 k).1 (mpEnt (mpOf l) 0 k).2.2 1=some (mpOf (l++ [k])):=by
 have hf:q26 k (mpOf l).es 0=none:=q7y.2 λe he hke=>hk (by rw [hke]; exact qia he)
 have he:mpEnt (mpOf l) 0 k=(⟨(mpOf l).es++ [(k,0,l.length)],l.length+1⟩,0,(l.length:Int)):=by
  simp only [mpEnt,hf]; rfl
 have hlen:(mpOf l).es.length=l.length:=by simp [mpOf]
 have hst:((mpOf l).es++ [(k,(0:Int),l.length)]).findIdx? (λe=>decide ((e.2.2:Int)=(l.length:Int)))=some l.length:=by
  refine qcp (λi e hi=> ?_) (by simp [hlen])
  rcases Nat.lt_or_ge i (mpOf l).es.length with h | h
  ·rw [List.getElem?_append_left h]at hi; exact (qad hi).2.2
  ·rw [List.getElem?_append_right h]at hi
   have h0:i - (mpOf l).es.length=0:=by
    have:=(List.getElem?_eq_some_iff.1 hi).1
    simp at this; omega
   rw [h0]at hi
   obtain rfl:(k,(0:Int),l.length)=e:=by simpa using hi
   simp only; omega
 rw [he]
 simp only [mpSet,hst,Option.map_some]
 have hp:=qjz (v:=(1:Int)) (e:=(k,(0:Int),l.length)) (l:=(mpOf l).es)
 rw [hlen]at hp
 rw [hp]
 simp [mpOf,List.zipIdx_append]
theorem qps{κ:Type} [DecidableEq κ] {l:List κ}{k:κ}(hk:k∈l)(v:Int):∃m,mpSet (mpEnt (mpOf l) 0 k).1 (mpEnt (mpOf l) 0 k).2.2 v=some m/\mpGet m 0 k=v:=by
 cases h:q26 k (mpOf l).es 0 with
 | none=>
  have:= @qa0 κ _ l k
  rw [if_pos hk]at this
  unfold mpGet at this
  rw [h]at this; simp at this
 | some p=>
  obtain ⟨j,e⟩:=p
  obtain ⟨_,h2,_⟩:=q38 h
  rw [Nat.sub_zero]at h2
  obtain ⟨_,_,h5⟩:=qad h2
  have he:mpEnt (mpOf l) 0 k=(mpOf l,e.2.1,(e.2.2:Int)):=by simp only [mpEnt,h]
  have hj:j < (mpOf l).es.length:=(List.getElem?_eq_some_iff.1 h2).1
  have hst:=qcp (l:=(mpOf l).es) (λi e hi=>(qad hi).2.2) hj
  refine ⟨⟨mpPut (mpOf l).es j v,(mpOf l).clock⟩,by rw [he]; simp only [mpSet,h5,hst,Option.map_some], ?_⟩
  have:=qjh (v:=v) h
  rw [Nat.sub_zero]at this
  simp only [mpGet,this]
def q0m(t:api_Topo):List topo_place:=(t.Links.l.flatMap λl=> [⟨l.A,l.PortA⟩,⟨l.B,l.PortB⟩])++t.Hosts.l.flatMap λh=> [⟨h.At,h.Port⟩]
def q9n(l:api_Link):Prop:=l.A≠l.B/\1<=l.Least/\l.Least<=l.Most/\l.Most<=1000
def q1o(t:api_Topo)(p:topo_place):Prop:=(0<=p.sw/\p.sw < t.Switches)/\0<=p.port/\p.port < 8
structure Valid (t:api_Topo):Prop where
 sw:1<=t.Switches/\t.Switches<=8
 links:t.Links.l.length<=24
 hosts:t.Hosts.l.length<=8
 link:∀l∈t.Links.l,q9n l
 nodup:(q0m t).Nodup
 place:∀p∈q0m t,q1o t p
noncomputable instance (t:api_Topo):Decidable (Valid t):=Classical.propDecidable _
theorem qkl{t:api_Topo}(h1:t.Links.l.length<=24)(h2:t.Hosts.l.length<=8):(q0m t).length<=56:=by
 have e:∀l:List api_Link,(l.flatMap λl=> [(⟨l.A,l.PortA⟩:topo_place),⟨l.B,l.PortB⟩]).length=2 * l.length:=λl=>by
  induction l with
  | nil=>rfl
  | cons x l ih=>simp [ih]; omega
 have e2:∀l:List api_Host,(l.flatMap λh=> [(⟨h.At,h.Port⟩:topo_place)]).length=l.length:=λl=>by
  induction l with
  | nil=>rfl
  | cons x l ih=>simp [ih]
 rw [q0m,List.length_append,e,e2]; omega
theorem qg9{t:api_Topo}(h1:t.Links.l.length<=24)(h2:t.Hosts.l.length<=8):∃s,q36 t=some s/\s.l=q0m t:=by
 have e2:∀l:List api_Link,(l.flatMap λl=> [(⟨l.A,l.PortA⟩:topo_place),⟨l.B,l.PortB⟩]).length=2 * l.length:=λl=>by
  induction l with
  | nil=>rfl
  | cons x l ih=>simp [ih]; omega
 have e1:∀l:List api_Host,(l.flatMap λh=> [(⟨h.At,h.Port⟩:topo_place)]).length=l.length:=λl=>by
  induction l with
  | nil=>rfl
  | cons x l ih=>simp [ih]
 obtain ⟨s,k1,k2⟩:=layE1 (f:=q1x t) t.Links.l (λl=> [⟨l.A,l.PortA⟩,⟨l.B,l.PortB⟩]) .nil (by omega) (λi s hi hs=>by
  have hcap:capI (s.l++ [(⟨(gt t.Links.l i).A,(gt t.Links.l i).PortA⟩:topo_place),⟨(gt t.Links.l i).B,(gt t.Links.l i).PortB⟩])=some (s.l++ [⟨(gt t.Links.l i).A,(gt t.Links.l i).PortA⟩,⟨(gt t.Links.l i).B,(gt t.Links.l i).PortB⟩]):=
   q5e (by rw [hs,List.length_append,List.length_append,e2,List.length_take]; simp; omega)
  exact ⟨.mk (s.l++ [⟨(gt t.Links.l i).A,(gt t.Links.l i).PortA⟩,⟨(gt t.Links.l i).B,(gt t.Links.l i).PortB⟩]),by simp only [q1x,lt_t hi,cond_true,q08 hi,Option.bind_some,hcap],rfl⟩) (λs=>by simp only [q1x,lt_f,cond_false])
 obtain ⟨s2,k3,k4⟩:=layE1 (f:=q1z t) t.Hosts.l (λh=> [⟨h.At,h.Port⟩]) s (by omega) (λi s' hi hs=>by
  have hcap:capI (s'.l++ [(⟨(gt t.Hosts.l i).At,(gt t.Hosts.l i).Port⟩:topo_place)])=some (s'.l++ [⟨(gt t.Hosts.l i).At,(gt t.Hosts.l i).Port⟩]):=
   q5e (by rw [hs,k2,List.length_append,List.length_append,List.length_append,e2,e1,List.length_take]; simp; omega)
  exact ⟨.mk (s'.l++ [⟨(gt t.Hosts.l i).At,(gt t.Hosts.l i).Port⟩]),by simp only [q1z,lt_t hi,cond_true,q08 hi,Option.bind_some,hcap],rfl⟩) (λs=>by simp only [q1z,lt_f,cond_false])
 exact ⟨s2,by simp only [q36,k1,Option.bind_some,k3],by rw [k4,k2]; rfl⟩
theorem qk1{t:api_Topo}{r:Sl topo_place}(hb:r.l.length < 9223372036854775808):
  ∃b,loopO (q15 t r) (0,(Mp.none:Mp topo_place Int))=some b/\match b with | .inl v=>v=false/\¬(r.l.Nodup/\∀p∈r.l,q1o t p) | .inr _=>r.l.Nodup/\∀p∈r.l,q1o t p:=by
 have e0:((0:Nat):Int)=0:=rfl
 refine forE (f:=q15 t r) (λi (m:Mp topo_place Int)=>((i:Int),m)) r.l.length (λi m=>m=mpOf (r.l.take i)/\(r.l.take i).Nodup/\∀p∈r.l.take i,q1o t p)
  (λb=>match b with | .inl v=>v=false/\¬(r.l.Nodup/\∀p∈r.l,q1o t p) | .inr _=>r.l.Nodup/\∀p∈r.l,q1o t p) ?_ ?_ 0 Mp.none (Nat.zero_le _) ⟨by simp [mpOf,Mp.none],by simp,by simp⟩ (λb q1 q2=> ?_)
 ·rintro i m hi ⟨rfl,hnd,hok⟩
  have hgm:gt r.l i∈r.l:=by rw [gt_eq hi]; exact List.getElem_mem _
  have et:r.l.take (i+1)=r.l.take i++ [gt r.l i]:=by rw [gt_eq hi,List.take_append_getElem hi]
  have hsplit:r.l=r.l.take i++gt r.l i :: r.l.drop (i+1):=by
   rw [gt_eq hi,<- List.drop_eq_getElem_cons hi,List.take_append_drop]
  by_cases hm:gt r.l i∈r.l.take i
  ·right
   obtain ⟨m2,h1,h2⟩:=qps hm 2
   have hw:wr .i64 (mpGet (mpOf (r.l.take i)) 0 (gt r.l i)+1)=2:=by rw [qa0,if_pos hm]; rfl
   have hd:decide ((2:Int) > 1)=true:=rfl
   refine ⟨.inl false,by simp only [q15,lt_t hi,cond_true,q08 hi,Option.bind_some,hw,h1,h2,hd,Bool.or_true],rfl,λhh=> ?_⟩
   have h3:=hh.1
   rw [hsplit]at h3
   exact (List.nodup_append.1 h3).2.2 _ hm _ (List.mem_cons_self ..) rfl
  ·have h1:=qpj hm
   have hw:wr .i64 (mpGet (mpOf (r.l.take i)) 0 (gt r.l i)+1)=1:=by rw [qa0,if_neg hm]; rfl
   have h2:mpGet (mpOf (r.l.take i++ [gt r.l i])) 0 (gt r.l i)=1:=by rw [qa0,if_pos (by simp)]
   have hd:decide ((1:Int) > 1)=false:=rfl
   have hc:((((decide (((gt r.l i).sw) < 0)) || (decide (((gt r.l i).sw) >= t.Switches))) || (decide (((gt r.l i).port) < 0))) || (decide (((gt r.l i).port) >= 8)))=true↔¬q1o t (gt r.l i):=by
    simp only [Bool.or_eq_true,decide_eq_true_eq,q1o]; omega
   by_cases hp:q1o t (gt r.l i)
   ·left
    have hc2:((((decide (((gt r.l i).sw) < 0)) || (decide (((gt r.l i).sw) >= t.Switches))) || (decide (((gt r.l i).port) < 0))) || (decide (((gt r.l i).port) >= 8)))=false:=by
     rw [<- Bool.not_eq_true]; exact λh=>hc.1 h hp
    refine ⟨mpOf (r.l.take (i+1)),by simp only [q15,lt_t hi,cond_true,q08 hi,Option.bind_some,hw,h1,h2,hd,Bool.or_false,hc2,cond_false,wr_s (show i < 9223372036854775807 by omega),et],rfl, ?_, ?_⟩
    ·rw [et]
     exact List.nodup_append.2 ⟨hnd,by simp,λa ha b hb=>by rw [List.mem_singleton]at hb; subst hb; exact λe=>hm (e▸ha)⟩
    ·intro p hpm
     rw [et]at hpm
     rcases List.mem_append.1 hpm with h | h
     ·exact hok p h
     ·rw [List.mem_singleton]at h; subst h; exact hp
   ·right
    exact ⟨.inl false,by simp only [q15,lt_t hi,cond_true,q08 hi,Option.bind_some,hw,h1,h2,hd,Bool.or_false,hc.2 hp],rfl,λhh=>hp (hh.2 _ hgm)⟩
 ·rintro m ⟨_,hnd,hok⟩
  rw [List.take_length]at hnd hok
  exact ⟨.inr (),by simp only [q15,lt_f,cond_false],hnd,hok⟩
 ·rw [e0]at q1
  exact ⟨b,q1,q2⟩
theorem qjl{t:api_Topo}:q43 t=some (decide (Valid t)):=by
 unfold q43
 by_cases hs:(1<=t.Switches/\t.Switches<=8)/\t.Links.l.length<=24/\t.Hosts.l.length<=8
 ·have hc:((((decide (t.Switches < 1)) || (decide (t.Switches > 8))) || (decide ((t.Links.l.length:Int) > 24))) || (decide ((t.Hosts.l.length:Int) > 8)))=false:=by
   simp only [Bool.or_eq_false_iff,decide_eq_false_iff_not]; omega
  have hl:=allE (f:=q2g t) t.Links.l (λl=>((((l.A == l.B) || (decide (l.Least < 1))) || (decide (l.Least > l.Most))) || (decide (l.Most > 1000)))) (by omega) (λi hi=>by
   simp only [q2g,lt_t hi,cond_true,q08 hi,Option.bind_some]
   generalize ((((gt t.Links.l i).A == (gt t.Links.l i).B) || _) || _ || _)=c
   cases c <;> rfl) (by simp only [q2g,lt_f,cond_false])
  have hlk:∀l:api_Link,((((l.A == l.B) || (decide (l.Least < 1))) || (decide (l.Least > l.Most))) || (decide (l.Most > 1000)))=false↔q9n l:=λl=>by
   simp only [Bool.or_eq_false_iff,beq_eq_false_iff_ne,decide_eq_false_iff_not,q9n]; omega
  rw [hc,cond_false,hl]
  by_cases hlo:∀l∈t.Links.l,q9n l
  ·rw [if_pos (λl hm=>(hlk l).2 (hlo l hm))]
   simp only [Option.bind_some]
   obtain ⟨s,p1,p2⟩:=qg9 hs.2.1 hs.2.2
   have hpl:=qkl hs.2.1 hs.2.2
   obtain ⟨b,q1,q2⟩:=qk1 (t:=t) (r:=s) (by rw [p2]; omega)
   simp only [p1,Option.bind_some,q1]
   rw [p2]at q2
   cases b with
   | inl v=>obtain ⟨rfl,q2⟩:=q2; exact congrArg some (decide_eq_false λh:Valid t=>q2 ⟨h.nodup,h.place⟩).symm
   | inr _=>exact congrArg some (decide_eq_true ⟨hs.1,hs.2.1,hs.2.2,hlo,q2.1,q2.2⟩).symm
  ·rw [if_neg (λh=>hlo λl hm=>(hlk l).1 (h l hm))]
   exact congrArg some (decide_eq_false λh=>hlo h.link).symm
 ·have hc:((((decide (t.Switches < 1)) || (decide (t.Switches > 8))) || (decide ((t.Links.l.length:Int) > 24))) || (decide ((t.Hosts.l.length:Int) > 8)))=true:=by
   simp only [Bool.or_eq_true,decide_eq_true_eq]; omega
  rw [hc,cond_true]
  exact congrArg some (decide_eq_false λh=>hs ⟨h.sw,h.links,h.hosts⟩).symm
def peerP(sw p:Int)(i:Nat)(l:api_Link):Option (Int×Int×Int):=
 if sw=l.A/\p=l.PortA then some (l.B,l.PortB,(i:Int))else if sw=l.B/\p=l.PortB then some (l.A,l.PortA,(i:Int))else none
theorem qhv{α β γ:Type}{P:Nat->α->Option β}(g:β->γ):∀ {l:List α} {i:Nat},scan (λi x=>(P i x).map g) l i=(scan P l i).map g:=by
 intro l
 induction l with
 | nil=>intro i; rfl
 | cons x l ih=>intro i; simp only [scan]; cases P i x with
  | none=>exact ih
  | some b=>rfl
def q4(q:Int×Int×Int):Int×Int×Int×Bool:=(q.1,q.2.1,q.2.2,true)
def peerR(t:api_Topo)(sw p:Int):Int×Int×Int×Bool:=match scan (peerP sw p) t.Links.l 0 with | some (a,b,c)=>(a,b,c,true) | none=>(0,0,0,false)
theorem qn7(a b sw p:Int):decide ((⟨sw,p⟩:topo_place)=⟨a,b⟩)=decide (sw=a/\p=b):=by
 rw [Bool.eq_iff_iff]; simp
theorem qo6{t:api_Topo}(sw p:Int)(hb:t.Links.l.length < 9223372036854775808):q5k t sw p=some (peerR t sw p):=by
 have h:=scanE (f:=q2u t sw p) t.Links.l (λi l=>(peerP sw p i l).map q4) () hb (λi hi=>by
  simp only [q2u,lt_t hi,cond_true,q08 hi,Option.bind_some,qn7,peerP]
  by_cases h1:sw=(gt t.Links.l i).A/\p=(gt t.Links.l i).PortA
  ·rw [if_pos h1,decide_eq_true h1]; rfl
  ·by_cases h2:sw=(gt t.Links.l i).B/\p=(gt t.Links.l i).PortB
   ·rw [if_neg h1,if_pos h2,decide_eq_false h1,decide_eq_true h2]; rfl
   ·rw [if_neg h1,if_neg h2,decide_eq_false h1,decide_eq_false h2]; rfl) (by simp only [q2u,lt_f,cond_false])
 simp only [q5k,h,Option.bind_some,qhv,peerR]
 cases scan (peerP sw p) t.Links.l 0 with
 | none=>rfl
 | some q=>obtain ⟨a,b,c⟩:=q; rfl
theorem qel{t:api_Topo}(sw p:Int)(hb:t.Links.l.length < 9223372036854775808):q7f t sw p=some (peerR t sw p):=by
 have h:=scanE (f:=q42 t sw p) t.Links.l (λi l=>(peerP sw p i l).map q4) () hb (λi hi=>by
  have c1:(((gt t.Links.l i).A == sw) && ((gt t.Links.l i).PortA == p))=decide (sw=(gt t.Links.l i).A/\p=(gt t.Links.l i).PortA):=by
   rw [Bool.eq_iff_iff]; simp only [Bool.and_eq_true,beq_iff_eq,decide_eq_true_eq]; omega
  have c2:(((gt t.Links.l i).B == sw) && ((gt t.Links.l i).PortB == p))=decide (sw=(gt t.Links.l i).B/\p=(gt t.Links.l i).PortB):=by
   rw [Bool.eq_iff_iff]; simp only [Bool.and_eq_true,beq_iff_eq,decide_eq_true_eq]; omega
  simp only [q42,lt_t hi,cond_true,q08 hi,Option.bind_some,c1,c2,peerP]
  by_cases h1:sw=(gt t.Links.l i).A/\p=(gt t.Links.l i).PortA
  ·rw [if_pos h1,decide_eq_true h1]; rfl
  ·by_cases h2:sw=(gt t.Links.l i).B/\p=(gt t.Links.l i).PortB
   ·rw [if_neg h1,if_pos h2,decide_eq_false h1,decide_eq_true h2]; rfl
   ·rw [if_neg h1,if_neg h2,decide_eq_false h1,decide_eq_false h2]; rfl) (by simp only [q42,lt_f,cond_false])
 simp only [q7f,h,Option.bind_some,qhv,peerR]
 cases scan (peerP sw p) t.Links.l 0 with
 | none=>rfl
 | some q=>obtain ⟨a,b,c⟩:=q; rfl
theorem qse{t:api_Topo}(hV:Valid t){sw p a b c:Int}(h:scan (peerP sw p) t.Links.l 0=some (a,b,c)):0<=a/\a < t.Switches:=by
 obtain ⟨j,l,h1,h2,_⟩:=q5h h
 have hm:l∈t.Links.l:=List.mem_of_getElem? h1
 have hA:q1o t ⟨l.A,l.PortA⟩:=hV.place _ (List.mem_append_left _ (List.mem_flatMap.2 ⟨l,hm,by simp⟩))
 have hB:q1o t ⟨l.B,l.PortB⟩:=hV.place _ (List.mem_append_left _ (List.mem_flatMap.2 ⟨l,hm,by simp⟩))
 unfold peerP at h2
 split at h2
 ·obtain ⟨rfl,_⟩:=Prod.mk.inj (Option.some.inj h2); exact hB.1
 ·split at h2
  ·obtain ⟨rfl,_⟩:=Prod.mk.inj (Option.some.inj h2); exact hA.1
  ·simp at h2
instance (t:api_Topo) (p:topo_place):Decidable (q1o t p):=inferInstanceAs (Decidable ((0<=p.sw/\p.sw < t.Switches)/\0<=p.port/\p.port < 8))
def q5l(l:api_Link):List topo_place:= [⟨l.A,l.PortA⟩,⟨l.B,l.PortB⟩]
def endOf(h:api_Host):List topo_place:= [⟨h.At,h.Port⟩]
theorem q8i(t:api_Topo):q0m t=t.Links.l.flatMap q5l++t.Hosts.l.flatMap endOf:=rfl
theorem qnm(a b q:topo_place): [a,b].count q=(if a=q then 1 else 0)+(if b=q then 1 else 0):=by
 by_cases h1:a=q <;> by_cases h2:b=q <;> simp [h1,h2]
theorem qfr(a b sw p:Int):((a == sw) && (b == p))=decide ((⟨a,b⟩:topo_place)=⟨sw,p⟩):=by
 rw [Bool.eq_iff_iff]; simp
theorem qm3(a b:Bool):(bif a then some b else some false)=some (a && b):=by cases a <;> rfl
def okAt(t:api_Topo)(sw p:Int):Bool:=decide (q1o t ⟨sw,p⟩/\(q0m t).count ⟨sw,p⟩=1)
theorem qf9{t:api_Topo}(hl:t.Links.l.length<=30)(hh:t.Hosts.l.length<=12)(sw p:Int):q45 t sw p=some (okAt t sw p):=by
 have e0:((0:Nat):Int)=0:=rfl
 have h1:∃b,loopO (q2z t sw p) (0,0)=some b/\b=((t.Links.l.flatMap q5l).count ⟨sw,p⟩:Nat)/\(t.Links.l.flatMap q5l).count ⟨sw,p⟩<=60:=by
  refine forE (f:=q2z t sw p) (λi (n:Nat)=>((n:Int),(i:Int))) t.Links.l.length (λi n=>n=((t.Links.l.take i).flatMap q5l).count ⟨sw,p⟩/\n<=2 * i)
   (λb=>b=((t.Links.l.flatMap q5l).count ⟨sw,p⟩:Nat)/\(t.Links.l.flatMap q5l).count ⟨sw,p⟩<=60) ?_ ?_ 0 0 (Nat.zero_le _) ⟨by simp,by omega⟩ (λb q1 q2=>⟨b,by rw [e0]at q1; exact q1,q2⟩)
  ·rintro i n hi ⟨hn,hle⟩
   left
   have et:t.Links.l.take (i+1)=t.Links.l.take i++ [gt t.Links.l i]:=by rw [gt_eq hi,List.take_append_getElem hi]
   have hc:((t.Links.l.take (i+1)).flatMap q5l).count ⟨sw,p⟩=n+((if (⟨(gt t.Links.l i).A,(gt t.Links.l i).PortA⟩:topo_place)=⟨sw,p⟩then 1 else 0)+(if (⟨(gt t.Links.l i).B,(gt t.Links.l i).PortB⟩:topo_place)=⟨sw,p⟩then 1 else 0)):=by
    rw [et,List.flatMap_append,List.count_append,<- hn]
    simp only [List.flatMap_cons,List.flatMap_nil,List.append_nil,q5l,qnm]
   have w1:wr .i64 ((n:Int)+1)=((n+1:Nat):Int):=wr_s (by omega)
   have w2:wr .i64 (((n+1:Nat):Int)+1)=((n+1+1:Nat):Int):=wr_s (by omega)
   have w3:=wr_s (show i < 9223372036854775807 by omega)
   refine ⟨n+((if (⟨(gt t.Links.l i).A,(gt t.Links.l i).PortA⟩:topo_place)=⟨sw,p⟩then 1 else 0)+(if (⟨(gt t.Links.l i).B,(gt t.Links.l i).PortB⟩:topo_place)=⟨sw,p⟩then 1 else 0)), ?_,hc.symm, ?_⟩
   ·simp only [q2z,lt_t hi,cond_true,q08 hi,Option.bind_some,qfr,w3]
    split <;> rename_i c1 <;> split <;> rename_i c2
    ·rw [decide_eq_true c1,decide_eq_true c2]; simp only [cond_true,Option.bind_some,w1,w2]
    ·rw [decide_eq_true c1,decide_eq_false c2]; simp only [cond_true,cond_false,Option.bind_some,w1]
    ·rw [decide_eq_false c1,decide_eq_true c2]; simp only [cond_true,cond_false,Option.bind_some,w1,Nat.zero_add]
    ·rw [decide_eq_false c1,decide_eq_false c2]; simp only [cond_false,Option.bind_some,Nat.add_zero]
   ·split <;> split <;> omega
  ·rintro n ⟨hn,hle⟩
   rw [List.take_length]at hn
   exact ⟨(n:Int),by simp only [q2z,lt_f,cond_false],by rw [hn],by rw [<- hn]; omega⟩
 obtain ⟨b1,h1,rfl,hb1⟩:=h1
 generalize hk:(t.Links.l.flatMap q5l).count ⟨sw,p⟩=k at *
 have h2:∃b,loopO (q2w t sw p) ((k:Int),0)=some b/\b=((q0m t).count ⟨sw,p⟩:Nat):=by
  refine forE (f:=q2w t sw p) (λi (n:Nat)=>((n:Int),(i:Int))) t.Hosts.l.length (λi n=>n=k+((t.Hosts.l.take i).flatMap endOf).count ⟨sw,p⟩/\n<=k+i)
   (λb=>b=((q0m t).count ⟨sw,p⟩:Nat)) ?_ ?_ 0 k (Nat.zero_le _) ⟨by simp,by omega⟩ (λb q1 q2=>⟨b,by rw [e0]at q1; exact q1,q2⟩)
  ·rintro i n hi ⟨hn,hle⟩
   left
   have et:t.Hosts.l.take (i+1)=t.Hosts.l.take i++ [gt t.Hosts.l i]:=by rw [gt_eq hi,List.take_append_getElem hi]
   have hc:k+((t.Hosts.l.take (i+1)).flatMap endOf).count ⟨sw,p⟩=n+(if (⟨(gt t.Hosts.l i).At,(gt t.Hosts.l i).Port⟩:topo_place)=⟨sw,p⟩then 1 else 0):=by
    rw [et,List.flatMap_append,List.count_append,hn]
    simp only [List.flatMap_cons,List.flatMap_nil,List.append_nil,endOf]
    by_cases h:(⟨(gt t.Hosts.l i).At,(gt t.Hosts.l i).Port⟩:topo_place)=⟨sw,p⟩ <;> simp [h] <;> omega
   have w1:wr .i64 ((n:Int)+1)=((n+1:Nat):Int):=wr_s (by omega)
   have w3:=wr_s (show i < 9223372036854775807 by omega)
   refine ⟨n+(if (⟨(gt t.Hosts.l i).At,(gt t.Hosts.l i).Port⟩:topo_place)=⟨sw,p⟩then 1 else 0), ?_,hc.symm, ?_⟩
   ·simp only [q2w,lt_t hi,cond_true,q08 hi,Option.bind_some,qm3,qfr,w3]
    split <;> rename_i c1
    ·rw [decide_eq_true c1]; simp only [cond_true,Option.bind_some,w1]
    ·rw [decide_eq_false c1]; simp only [cond_false,Option.bind_some,Nat.add_zero]
   ·split <;> omega
  ·rintro n ⟨hn,hle⟩
   rw [List.take_length]at hn
   exact ⟨(n:Int),by simp only [q2w,lt_f,cond_false],by rw [q8i,List.count_append,hk,<- hn]⟩
 obtain ⟨b2,h2,rfl⟩:=h2
 simp only [q45,h1,Option.bind_some,h2]
 congr 1
 rw [Bool.eq_iff_iff,okAt]
 generalize (q0m t).count ⟨sw,p⟩=m
 constructor
 ·intro h
  simp only [Bool.and_eq_true,decide_eq_true_eq,beq_iff_eq]at h
  obtain ⟨⟨⟨⟨a,b⟩,c⟩,d⟩,e⟩:=h
  exact decide_eq_true ⟨⟨⟨a,b⟩,c,(by omega:p < 8)⟩,by omega⟩
 ·intro h
  obtain ⟨⟨⟨a,b⟩,c,d⟩,e⟩:=of_decide_eq_true h
  have a:0<=sw:=a
  have b:sw < t.Switches:=b
  have c:0<=p:=c
  have d:p < 8:=d
  simp only [Bool.and_eq_true,decide_eq_true_eq,beq_iff_eq]
  exact ⟨⟨⟨⟨a,b⟩,c⟩,by omega⟩,by omega⟩
theorem qaq{l:List topo_place}:l.Nodup↔∀p∈l,l.count p=1:=by
 rw [List.nodup_iff_count]
 constructor
 ·intro h p hp
  have h1:=h p
  have h2:=List.count_pos_iff.2 hp
  omega
 ·intro h p
  by_cases hp:p∈l
  ·rw [h p hp]; exact Nat.le_refl _
  ·rw [List.count_eq_zero_of_not_mem hp]; omega
theorem qnf{t:api_Topo}(hl:t.Links.l.length<=30)(hh:t.Hosts.l.length<=12):q5v t=some (decide (Valid t)):=by
 unfold q5v
 by_cases hs:(1<=t.Switches/\t.Switches<=8)/\t.Links.l.length<=24/\t.Hosts.l.length<=8
 ·have hc:((((decide (t.Switches < 1)) || (decide (t.Switches > 8))) || (decide ((t.Links.l.length:Int) > 24))) || (decide ((t.Hosts.l.length:Int) > 8)))=false:=by
   simp only [Bool.or_eq_false_iff,decide_eq_false_iff_not]; omega
  have h1:=allE (f:=q3m t) t.Links.l (λl=>((l.A == l.B) || (decide (l.Least < 1) || (decide (l.Least > l.Most) || (decide (l.Most > 1000) ||
    (!(okAt t l.A l.PortA) || !(okAt t l.B l.PortB))))))) (by omega) (λi hi=>by
   simp only [q3m,lt_t hi,cond_true,q08 hi,Option.bind_some,qf9 hl hh]
   generalize ((gt t.Links.l i).A == (gt t.Links.l i).B)=b1
   generalize decide ((gt t.Links.l i).Least < 1)=b2
   generalize decide ((gt t.Links.l i).Least > (gt t.Links.l i).Most)=b3
   generalize decide ((gt t.Links.l i).Most > 1000)=b4
   generalize okAt t (gt t.Links.l i).A (gt t.Links.l i).PortA=b5
   generalize okAt t (gt t.Links.l i).B (gt t.Links.l i).PortB=b6
   cases b1 <;> cases b2 <;> cases b3 <;> cases b4 <;> cases b5 <;> cases b6 <;> rfl) (by simp only [q3m,lt_f,cond_false])
  have h2:=allE (f:=q3l t) t.Hosts.l (λh=> !(okAt t h.At h.Port)) (by omega) (λi hi=>by
   simp only [q3l,lt_t hi,cond_true,q08 hi,Option.bind_some,qf9 hl hh]
   generalize okAt t (gt t.Hosts.l i).At (gt t.Hosts.l i).Port=b
   cases b <;> rfl) (by simp only [q3l,lt_f,cond_false])
  have hlk:∀l:api_Link,((l.A == l.B) || (decide (l.Least < 1) || (decide (l.Least > l.Most) || (decide (l.Most > 1000) ||
    (!(okAt t l.A l.PortA) || !(okAt t l.B l.PortB))))))=false↔
    q9n l/\∀p∈q5l l,q1o t p/\(q0m t).count p=1:=λl=>by
   simp only [okAt,Bool.or_eq_false_iff,beq_eq_false_iff_ne,decide_eq_false_iff_not,q9n,Bool.not_eq_false',decide_eq_true_eq,q5l,List.mem_cons,List.not_mem_nil,or_false,forall_eq_or_imp,forall_eq]
   constructor
   ·rintro ⟨a,b,c,d,e,f⟩; exact ⟨⟨a,by omega,by omega,by omega⟩,e,f⟩
   ·rintro ⟨⟨a,b,c,d⟩,e,f⟩; exact ⟨a,by omega,by omega,by omega,e,f⟩
  have hho:∀h:api_Host,(!(okAt t h.At h.Port))=false↔∀p∈endOf h,q1o t p/\(q0m t).count p=1:=λh=>by
   simp only [okAt,Bool.not_eq_false',decide_eq_true_eq,endOf,List.mem_singleton,forall_eq]
  have hV:Valid t↔(∀ l∈t.Links.l,q9n l/\∀p∈q5l l,q1o t p/\(q0m t).count p=1)/\∀h∈t.Hosts.l,∀p∈endOf h,q1o t p/\(q0m t).count p=1:=by
   constructor
   ·intro hV
    have hc:=qaq.1 hV.nodup
    refine ⟨λl hl=>⟨hV.link l hl,λp hp=> ?_⟩,λh hh p hp=> ?_⟩
    ·have hm:p∈q0m t:=by rw [q8i]; exact List.mem_append_left _ (List.mem_flatMap.2 ⟨l,hl,hp⟩)
     exact ⟨hV.place p hm,hc p hm⟩
    ·have hm:p∈q0m t:=by rw [q8i]; exact List.mem_append_right _ (List.mem_flatMap.2 ⟨h,hh,hp⟩)
     exact ⟨hV.place p hm,hc p hm⟩
   ·rintro ⟨ha,hb⟩
    have all:∀p∈q0m t,q1o t p/\(q0m t).count p=1:=by
     intro p hp
     rw [q8i]at hp
     rcases List.mem_append.1 hp with h | h
     ·obtain ⟨l,hl,hp⟩:=List.mem_flatMap.1 h; exact (ha l hl).2 p hp
     ·obtain ⟨x,hx,hp⟩:=List.mem_flatMap.1 h; exact hb x hx p hp
    exact ⟨hs.1,hs.2.1,hs.2.2,λl hl=>(ha l hl).1,qaq.2 λp hp=>(all p hp).2,λp hp=>(all p hp).1⟩
  rw [hc,cond_false,h1]
  by_cases c1:∀l∈t.Links.l,q9n l/\∀p∈q5l l,q1o t p/\(q0m t).count p=1
  ·rw [if_pos (λl hm=>(hlk l).2 (c1 l hm))]
   simp only [Option.bind_some,h2]
   by_cases c2:∀h∈t.Hosts.l,∀p∈endOf h,q1o t p/\(q0m t).count p=1
   ·rw [if_pos (λh hm=>(hho h).2 (c2 h hm))]
    exact congrArg some (decide_eq_true (hV.2 ⟨c1,c2⟩)).symm
   ·rw [if_neg (λh=>c2 λx hm=>(hho x).1 (h x hm))]
    exact congrArg some (decide_eq_false λh=>c2 (hV.1 h).2).symm
  ·rw [if_neg (λh=>c1 λl hm=>(hlk l).1 (h l hm))]
   exact congrArg some (decide_eq_false λh=>c1 (hV.1 h).1).symm
 ·have hc:((((decide (t.Switches < 1)) || (decide (t.Switches > 8))) || (decide ((t.Links.l.length:Int) > 24))) || (decide ((t.Hosts.l.length:Int) > 8)))=true:=by
   simp only [Bool.or_eq_true,decide_eq_true_eq]; omega
  rw [hc,cond_true]
  exact congrArg some (decide_eq_false λh=>hs ⟨h.sw,h.links,h.hosts⟩).symm
end Go.Proofs.Ythcplpfiidlinaa.L
