/- Routes: how far a switch is from a host, and what the program's and the document's functions answer. Conditions: as stated. -/
import Derived.Test.YthcplpfiidlinaaLT
open Go.Ev Go
namespace Go.Proofs.Ythcplpfiidlinaa.L
open Classical in
noncomputable def tt(p:Prop):Bool:=decide p
theorem qoa{p:Prop}:tt p=true↔p:=by simp [tt]
theorem qdx{p:Prop}:tt p=false↔¬p:=by simp [tt]
theorem tt_t{p:Prop}(h:p):tt p=true:=qoa.2 h
theorem tt_f{p:Prop}(h:¬p):tt p=false:=qdx.2 h
def Small(t:api_Topo)(r:Sl (Sl Int)):Prop:=(∀ row∈r.l,row.l.length<=12)/\t.Links.l.length<=30/\t.Hosts.l.length<=12/\r.l.length<=12
instance (t:api_Topo) (r:Sl (Sl Int)):Decidable (Small t r):=by unfold Small; infer_instance
theorem qbv{t:api_Topo}{r:Sl (Sl Int)}(hb:r.l.length < 9223372036854775808):q4l t r=some (decide (Small t r)):=by
 have h:=allE (f:=q3n r) r.l (λrow=>decide ((row.l.length:Int) > 12)) hb (λi hi=>by
  simp only [q3n,lt_t hi,cond_true,q08 hi,Option.bind_some]
  generalize decide (((gt r.l i).l.length:Int) > 12)=c
  cases c <;> rfl) (by simp only [q3n,lt_f,cond_false])
 unfold q4l
 rw [h]
 have hr:(∀ row∈r.l,decide ((row.l.length:Int) > 12)=false)↔∀row∈r.l,row.l.length<=12:=by
  constructor
  ·intro h row hm; have:=h row hm; rw [decide_eq_false_iff_not]at this; omega
  ·intro h row hm; have:=h row hm; rw [decide_eq_false_iff_not]; omega
 by_cases hs:∀row∈r.l,row.l.length<=12
 ·rw [if_pos (hr.2 hs)]
  simp only [Option.bind_some,Option.some.injEq]
  rw [Bool.eq_iff_iff,decide_eq_true_eq (p:=Small t r)]
  simp only [Bool.and_eq_true,decide_eq_true_eq]
  constructor
  ·intro h; exact ⟨hs,by omega,by omega,by omega⟩
  ·intro h; obtain ⟨_,h1,h2,h3⟩:=h; omega
 ·rw [if_neg (λh=>hs (hr.1 h))]
  exact congrArg some (decide_eq_false λh=>hs h.1).symm
structure RValid (t:api_Topo) (r:Sl (Sl Int)):Prop where
 topo:Valid t
 len:(r.l.length:Int)=t.Switches
 rows:∀row∈r.l,row.l.length=t.Hosts.l.length/\∀p∈row.l,0<=p/\p < 8
noncomputable instance (t:api_Topo) (r:Sl (Sl Int)):Decidable (RValid t r):=Classical.propDecidable _
theorem qer{s:Sl Int}(hb:s.l.length < 9223372036854775808):q01 s=some (decide (¬ ∀p∈s.l,0<=p/\p < 8)):=by
 have h:=scanE (f:=q02 s) s.l (λi p=>if ¬(0<=p/\p < 8)then some (i:Int)else none) () hb (λi hi=>by
  have e:((decide ((gt s.l i) < 0)) || (decide ((gt s.l i) >= 8)))=decide (¬ (0<=gt s.l i/\gt s.l i < 8)):=by
   rw [Bool.eq_iff_iff]; simp only [Bool.or_eq_true,decide_eq_true_eq]; omega
  simp only [q02,lt_t hi,cond_true,q08 hi,Option.bind_some,q31,e]
  by_cases hc:¬(0<=gt s.l i/\gt s.l i < 8)
  ·rw [if_pos hc,decide_eq_true hc]; rfl
  ·rw [if_neg hc,decide_eq_false hc]; rfl) (by simp only [q02,lt_f,cond_false])
 simp only [q01,q06,h,Option.bind_some]
 cases hs:scan (λi p=>if ¬(0<=p/\p < 8)then some (i:Int)else none) s.l 0 with
 | none=>
  have hall:∀p∈s.l,0<=p/\p < 8:=by
   intro p hp
   obtain ⟨j,hj,rfl⟩:=List.getElem_of_mem hp
   have:=q3q.1 hs j s.l[j] (by simp [hj])
   apply Classical.byContradiction
   intro hn
   rw [if_pos hn]at this; simp at this
  have e:decide (¬ ∀p∈s.l,0<=p/\p < 8)=false:=decide_eq_false λh=>h hall
  rw [e]; rfl
 | some b=>
  obtain ⟨j,x,h1,h2,_⟩:=q5h hs
  split at h2
  ·rename_i hx
   obtain rfl:=Option.some.inj h2
   have e:decide (¬ ∀p∈s.l,0<=p/\p < 8)=true:=decide_eq_true λh=>hx (h x (List.mem_of_getElem? h1))
   rw [e]
   simp only [Option.bind_some,Option.some.injEq,decide_eq_true_eq]; omega
  ·simp at h2
theorem qgj{t:api_Topo}{r:Sl (Sl Int)}(hb:r.l.length < 9223372036854775808)(hrow:∀row∈r.l,row.l.length < 9223372036854775808):q1u t r=some (decide (RValid t r)):=by
 unfold q1u
 simp only [qjl,Option.bind_some]
 by_cases hV:Valid t
 rotate_left
 ·rw [decide_eq_false hV]
  exact congrArg some (decide_eq_false λh=>hV h.topo).symm
 by_cases hl:(r.l.length:Int)=t.Switches
 rotate_left
 ·have e:((r.l.length:Int) != t.Switches)=true:=by simpa using hl
  rw [decide_eq_true hV,e]
  exact congrArg some (decide_eq_false λh=>hl h.len).symm
 have e:((r.l.length:Int) != t.Switches)=false:=by simpa using hl
 rw [decide_eq_true hV,e]
 simp only [Bool.not_true,Bool.or_self,cond_false]
 have h:=allE (f:=q1y t r) r.l (λrow=>decide (¬ (row.l.length=t.Hosts.l.length/\∀p∈row.l,0<=p/\p < 8))) hb (λi hi=>by
  have hm:gt r.l i∈r.l:=by rw [gt_eq hi]; exact List.getElem_mem _
  simp only [q1y,lt_t hi,cond_true,q08 hi,Option.bind_some,qer (hrow _ hm)]
  by_cases h1:(gt r.l i).l.length=t.Hosts.l.length
  ·have e1:(((gt r.l i).l.length:Int) != (t.Hosts.l.length:Int))=false:=by rw [h1]; simp
   by_cases h2:∀p∈(gt r.l i).l,0<=p/\p < 8
   ·have e2:decide (¬ ∀p∈(gt r.l i).l,0<=p/\p < 8)=false:=decide_eq_false λh=>h h2
    have e3:decide (¬ ((gt r.l i).l.length=t.Hosts.l.length/\∀p∈(gt r.l i).l,0<=p/\p < 8))=false:=decide_eq_false λh=>h ⟨h1,h2⟩
    rw [e1,e2,e3]; rfl
   ·have e2:decide (¬ ∀p∈(gt r.l i).l,0<=p/\p < 8)=true:=decide_eq_true h2
    have e3:decide (¬ ((gt r.l i).l.length=t.Hosts.l.length/\∀p∈(gt r.l i).l,0<=p/\p < 8))=true:=decide_eq_true λh=>h2 h.2
    rw [e1,e2,e3]; rfl
  ·have e1:(((gt r.l i).l.length:Int) != (t.Hosts.l.length:Int))=true:=by rw [bne_iff_ne]; omega
   have e3:decide (¬ ((gt r.l i).l.length=t.Hosts.l.length/\∀p∈(gt r.l i).l,0<=p/\p < 8))=true:=decide_eq_true λh=>h1 h.1
   rw [e1,e3]; rfl) (by simp only [q1y,lt_f,cond_false])
 rw [h]
 have hr:(∀ row∈r.l,decide (¬ (row.l.length=t.Hosts.l.length/\∀p∈row.l,0<=p/\p < 8))=false)↔∀row∈r.l,row.l.length=t.Hosts.l.length/\∀p∈row.l,0<=p/\p < 8:=by
  constructor
  ·intro h row hm
   have:=h row hm
   rw [decide_eq_false_iff_not]at this
   exact Classical.not_not.1 this
  ·intro h row hm
   exact decide_eq_false λhn=>hn (h row hm)
 by_cases hs:∀row∈r.l,row.l.length=t.Hosts.l.length/\∀p∈row.l,0<=p/\p < 8
 ·rw [if_pos (hr.2 hs)]
  exact congrArg some (decide_eq_true ⟨hV,hl,hs⟩).symm
 ·rw [if_neg (λh=>hs (hr.1 h))]
  exact congrArg some (decide_eq_false λh=>hs h.rows).symm
theorem q5s{t:api_Topo}{r:Sl (Sl Int)}(hS:Small t r):q4g t r=some (decide (RValid t r)):=by
 unfold q4g
 simp only [qnf hS.2.1 hS.2.2.1,Option.bind_some]
 by_cases hV:Valid t
 rotate_left
 ·rw [decide_eq_false hV]
  exact congrArg some (decide_eq_false λh:RValid t r=>hV h.topo).symm
 by_cases hl:(r.l.length:Int)=t.Switches
 rotate_left
 ·have e:((r.l.length:Int) != t.Switches)=true:=by simpa using hl
  rw [decide_eq_true hV,e]
  exact congrArg some (decide_eq_false λh:RValid t r=>hl h.len).symm
 have e:((r.l.length:Int) != t.Switches)=false:=by simpa using hl
 rw [decide_eq_true hV,e]
 simp only [Bool.not_true,Bool.or_self,cond_false]
 have hsm:=hS.2.2.2
 have h:=allE (f:=q3j t r) r.l (λrow=>decide (¬ (row.l.length=t.Hosts.l.length/\∀p∈row.l,0<=p/\p < 8))) (by omega) (λi hi=>by
  have hm:gt r.l i∈r.l:=by rw [gt_eq hi]; exact List.getElem_mem _
  have hrl:=hS.1 _ hm
  simp only [q3j,lt_t hi,cond_true,q08 hi,Option.bind_some]
  have h1:=allE (f:=q3k r (i:Int)) (gt r.l i).l (λp=>decide (¬ (0<=p/\p < 8))) (by omega) (λj hj=>by
   simp only [q3k,lt_t hj,cond_true,q08 hi,q08 hj,Option.bind_some]
   have e:decide (¬ (0<=gt (gt r.l i).l j/\gt (gt r.l i).l j < 8))=((decide (gt (gt r.l i).l j < 0)) || (decide (gt (gt r.l i).l j > 7))):=by
    rw [Bool.eq_iff_iff]; simp only [Bool.or_eq_true,decide_eq_true_eq]; omega
   rw [e]
   cases decide (gt (gt r.l i).l j < 0) <;> cases decide (gt (gt r.l i).l j > 7) <;> rfl) (by simp only [q3k,q08 hi,Option.bind_some,lt_f,cond_false])
  have hr:(∀ p∈(gt r.l i).l,decide (¬ (0<=p/\p < 8))=false)↔∀p∈(gt r.l i).l,0<=p/\p < 8:=by
   constructor
   ·intro h p hp
    have:=h p hp
    rw [decide_eq_false_iff_not]at this
    omega
   ·intro h p hp
    have:=h p hp
    rw [decide_eq_false_iff_not]; omega
  by_cases h1l:(gt r.l i).l.length=t.Hosts.l.length
  ·have e1:(((gt r.l i).l.length:Int) != (t.Hosts.l.length:Int))=false:=by rw [h1l]; simp
   rw [e1,cond_false,h1]
   by_cases h2:∀p∈(gt r.l i).l,0<=p/\p < 8
   ·have e3:decide (¬ ((gt r.l i).l.length=t.Hosts.l.length/\∀p∈(gt r.l i).l,0<=p/\p < 8))=false:=decide_eq_false λh=>h ⟨h1l,h2⟩
    rw [if_pos (hr.2 h2),e3]; rfl
   ·have e3:decide (¬ ((gt r.l i).l.length=t.Hosts.l.length/\∀p∈(gt r.l i).l,0<=p/\p < 8))=true:=decide_eq_true λh=>h2 h.2
    rw [if_neg λh=>h2 (hr.1 h),e3]; rfl
  ·have e1:(((gt r.l i).l.length:Int) != (t.Hosts.l.length:Int))=true:=by rw [bne_iff_ne]; omega
   have e3:decide (¬ ((gt r.l i).l.length=t.Hosts.l.length/\∀p∈(gt r.l i).l,0<=p/\p < 8))=true:=decide_eq_true λh=>h1l h.1
   rw [e1,cond_true,e3]; rfl) (by simp only [q3j,lt_f,cond_false])
 rw [h]
 have hr:(∀ row∈r.l,decide (¬ (row.l.length=t.Hosts.l.length/\∀p∈row.l,0<=p/\p < 8))=false)↔∀row∈r.l,row.l.length=t.Hosts.l.length/\∀p∈row.l,0<=p/\p < 8:=by
  constructor
  ·intro h row hm
   have:=h row hm
   rw [decide_eq_false_iff_not]at this
   exact Classical.not_not.1 this
  ·intro h row hm
   exact decide_eq_false λhn=>hn (h row hm)
 by_cases hs:∀row∈r.l,row.l.length=t.Hosts.l.length/\∀p∈row.l,0<=p/\p < 8
 ·rw [if_pos (hr.2 hs)]
  exact congrArg some (decide_eq_true (⟨hV,hl,hs⟩:RValid t r)).symm
 ·rw [if_neg (λh=>hs (hr.1 h))]
  exact congrArg some (decide_eq_false λh:RValid t r=>hs h.rows).symm
section
variable {t:api_Topo}{r:Sl (Sl Int)}{h:Nat}
def q0c(r:Sl (Sl Int))(h:Nat)(s:Nat):Int:=gt (gt r.l s).l h
def Here(t:api_Topo)(r:Sl (Sl Int))(h:Nat)(s:Nat):Prop:=(gt t.Hosts.l h).At=(s:Int)/\(gt t.Hosts.l h).Port=q0c r h s
instance {s:Nat}:Decidable (Here t r h s):=by unfold Here; infer_instance
def qap(t:api_Topo)(r:Sl (Sl Int))(h:Nat)(s:Nat):Option Nat:=(scan (peerP (s:Int) (q0c r h s)) t.Links.l 0).map (·.1.toNat)
theorem RValid.row(hV:RValid t r){s:Nat}(hs:s < r.l.length):(gt r.l s).l.length=t.Hosts.l.length:=by
 have:gt r.l s∈r.l:=by rw [gt_eq hs]; exact List.getElem_mem _
 exact (hV.rows _ this).1
theorem RValid.small(hV:RValid t r):r.l.length<=8:=by have:=hV.len; have:=hV.topo.sw; omega
theorem RValid.hosts(hV:RValid t r):t.Hosts.l.length<=8:=hV.topo.hosts
theorem qao(hV:RValid t r)(s:Nat):(qap t r h s=none/\peerR t s (q0c r h s)=(0,0,0,false))\/
  ∃(s':Nat) (b c:Int),qap t r h s=some s'/\s' < r.l.length/\peerR t s (q0c r h s)=((s':Int),b,c,true):=by
 unfold qap peerR
 cases hc:scan (peerP (s:Int) (q0c r h s)) t.Links.l 0 with
 | none=>exact .inl ⟨rfl,rfl⟩
 | some q=>
  obtain ⟨a,b,c⟩:=q
  obtain ⟨h1,h2⟩:=qse hV.topo hc
  have:=hV.len
  refine .inr ⟨a.toNat,b,c,rfl,by omega, ?_⟩
  rw [Int.toNat_of_nonneg h1]
theorem qrx(hV:RValid t r){s s':Nat}(hn:qap t r h s=some s'):s' < r.l.length:=by
 rcases qao (h:=h) hV s with ⟨e,_⟩ | ⟨s2,_,_,e,h2,_⟩
 ·rw [e]at hn; cases hn
 ·rw [e]at hn; cases hn; exact h2
inductive Away (t:api_Topo) (r:Sl (Sl Int)) (h:Nat):Nat->Nat->Prop
 | here {s:Nat}:Here t r h s->Away t r h s 0
 | step {s s' k:Nat}:¬Here t r h s->qap t r h s=some s'->Away t r h s' k->Away t r h s (k+1)
theorem Away.uniq{s a b:Nat}(ha:Away t r h s a)(hb:Away t r h s b):a=b:=by
 induction ha generalizing b with
 | here h1=>cases hb with
  | here _=>rfl
  | step h2 _ _=>exact absurd h1 h2
 | step h1 h2 _ ih=>cases hb with
  | here h3=>exact absurd h3 h1
  | step _ h4 h5=>rw [h2]at h4; cases h4; rw [ih h5]
theorem Away.path(hV:RValid t r){s k:Nat}(ha:Away t r h s k)(hs:s < r.l.length):∃w:List Nat,w.length=k+1/\w.Nodup/\∀x∈w,x < r.l.length/\∃j,j<=k/\Away t r h x j:=by
 induction ha with
 | @here s h1=>exact ⟨[s],rfl,by simp,λx hx=>by obtain rfl:=List.mem_singleton.1 hx; exact ⟨hs,0,Nat.le_refl _, .here h1⟩⟩
 | @step s s' k h1 h2 h3 ih=>
  obtain ⟨w,e1,e2,e3⟩:=ih (qrx hV h2)
  have hst:=Away.step h1 h2 h3
  refine ⟨s :: w,by simp [e1],List.nodup_cons.2 ⟨λhm=> ?_,e2⟩,λx hx=> ?_⟩
  ·obtain ⟨_,j,hj,hj2⟩:=e3 s hm
   have:=hj2.uniq hst
   omega
  ·rcases List.mem_cons.1 hx with rfl | hx
   ·exact ⟨hs,k+1,Nat.le_refl _,hst⟩
   ·obtain ⟨a,j,b,c⟩:=e3 x hx
    exact ⟨a,j,by omega,c⟩
theorem Away.lt(hV:RValid t r){s k:Nat}(ha:Away t r h s k)(hs:s < r.l.length):k < r.l.length:=by
 obtain ⟨w,h1,h2,h3⟩:=ha.path hV hs
 have hsub:w ⊆ List.range r.l.length:=λx hx=>List.mem_range.2 (h3 x hx).1
 have:=h2.length_le_of_subset hsub
 simp at this; omega
def q32(t:api_Topo)(r:Sl (Sl Int))(h:Nat):Nat->Nat->Int×Bool
 | 0,s=>((s:Int),decide (Here t r h s))
 | m+1,s=>if Here t r h s then ((s:Int),false)else match qap t r h s with | none=>(-1,false) | some s'=>q32 t r h m s'
theorem qk6:∀ {m s:Nat},(q32 t r h m s).2=true↔Away t r h s m:=by
 intro m
 induction m with
 | zero=>intro s; simp only [q32,decide_eq_true_eq]; exact ⟨.here,λh=>by cases h; assumption⟩
 | succ m ih=>
  intro s
  simp only [q32]
  by_cases hH:Here t r h s
  ·rw [if_pos hH]
   exact ⟨λh=>by simp at h,λh=>by cases h; contradiction⟩
  ·rw [if_neg hH]
   cases hn:qap t r h s with
   | none=>exact ⟨λh=>by simp at h,λh=>by cases h with | step _ h2 _=>rw [hn]at h2; cases h2⟩
   | some s'=>exact ih.trans ⟨λh=> .step hH hn h,λh=>by cases h with | step _ h2 h3=>rw [hn]at h2; cases h2; exact h3⟩
theorem qfl{s k:Nat}(ha:Away t r h s k):∀ {m:Nat},m < k->∃y:Nat,q32 t r h m s=((y:Int),false):=by
 induction ha with
 | here h1=>intro m hm; omega
 | @step s s' k h1 h2 h3 ih=>
  intro m hm
  cases m with
  | zero=>exact ⟨s,by simp only [q32,decide_eq_false h1]⟩
  | succ m=>simp only [q32,if_neg h1,h2]; exact ih (by omega)
theorem qoy{s k:Nat}(ha:Away t r h s k):∃y:Nat,q32 t r h k s=((y:Int),true):=by
 induction ha with
 | @here s h1=>exact ⟨s,by simp only [q32,decide_eq_true h1]⟩
 | @step s s' k h1 h2 h3 ih=>simp only [q32,if_neg h1,h2]; exact ih
theorem qa9(hV:RValid t r)(hh:h < t.Hosts.l.length){s:Nat}(hs:s < r.l.length):
  ((ixI (h:Int) t.Hosts.l.length).bind λn5=>bif ((gt t.Hosts.l n5).At == (s:Int))then ((ixI (h:Int) t.Hosts.l.length).bind λn6=>(ixI (s:Int) r.l.length).bind λn7=>(ixI (h:Int) (gt r.l n7).l.length).bind λn8=>some ((gt t.Hosts.l n6).Port == gt (gt r.l n7).l n8))else some false)=some (decide (Here t r h s)):=by
 have hhr:h < (gt r.l s).l.length:=by rw [hV.row hs]; exact hh
 simp only [q08 hh,q08 hs,q08 hhr,Option.bind_some,qm3]
 congr 1
 rw [Bool.eq_iff_iff,decide_eq_true_eq (p:=Here t r h s)]; simp [Here,q0c]
theorem qb7(hV:RValid t r)(hh:h < t.Hosts.l.length){s:Nat}(hs:s < r.l.length):
  q78 t r (s:Int) (h:Int)=some ((peerR t s (q0c r h s)).1,(peerR t s (q0c r h s)).2.2.2):=by
 have hhr:h < (gt r.l s).l.length:=by rw [hV.row hs]; exact hh
 have hlk:=hV.topo.links
 have h1:decide ((s:Int) < 0)=false:=by rw [decide_eq_false_iff_not]; omega
 have h2:decide ((s:Int) >= (r.l.length:Int))=false:=by rw [decide_eq_false_iff_not]; omega
 have h3:decide ((h:Int) < 0)=false:=by rw [decide_eq_false_iff_not]; omega
 have h4:decide ((h:Int) >= ((gt r.l s).l.length:Int))=false:=by rw [decide_eq_false_iff_not]; omega
 simp only [q78,h1,h2,h3,h4,Bool.or_self,cond_false,q08 hs,q08 hhr,Option.bind_some,qel _ _ (show t.Links.l.length < 9223372036854775808 by omega),q0c]
theorem qke(hV:RValid t r)(hh:h < t.Hosts.l.length){n:Nat}(hn:n < 9223372036854775807):∀(m s i:Nat),i+m=n->s < r.l.length->loopO (q1i t r (h:Int) (n:Int)) ((s:Int),(i:Int))=some (.inl (q32 t r h m s)):=by
 intro m
 induction m with
 | zero=>
  intro s i hi hs
  obtain rfl:i=n:=by omega
  refine q0s ?_
  simp only [q1i,qa9 hV hh hs,Option.bind_some,decide_eq_true (Int.le_refl _),cond_true,beq_self_eq_true,q32]
  cases decide (Here t r h s) <;> rfl
 | succ m ih=>
  intro s i hi hs
  have hle:decide ((i:Int)<=(n:Int))=true:=by rw [decide_eq_true_eq]; omega
  have hne:((i:Int) == (n:Int))=false:=by rw [beq_eq_false_iff_ne]; omega
  by_cases hH:Here t r h s
  ·refine q0s ?_
   simp only [q1i,qa9 hV hh hs,Option.bind_some,hle,cond_true,decide_eq_true hH,hne,q32,if_pos hH]
  ·rcases qao (h:=h) hV s with ⟨e1,e2⟩ | ⟨s',b,c,e1,hs',e2⟩
   ·refine q0s ?_
    simp only [q1i,qa9 hV hh hs,Option.bind_some,hle,cond_true,decide_eq_false hH,hne,q32,if_neg hH,e1,qb7 hV hh hs,e2,Bool.not_false,cond_false]
   ·rw [q19 (a':=((s':Int),((i+1:Nat):Int))) (by
     simp only [q1i,qa9 hV hh hs,Option.bind_some,hle,cond_true,decide_eq_false hH,hne,qb7 hV hh hs,e2,Bool.not_true,cond_false,wr_s (show i < 9223372036854775807 by omega)]),ih s' (i+1) (by omega) hs']
    simp only [q32,if_neg hH,e1]
theorem q56(hV:RValid t r)(hh:h < t.Hosts.l.length){n:Nat}(hn:n < 9223372036854775807){s:Nat}(hs:s < r.l.length):q4n t r (s:Int) (h:Int) (n:Int)=some (q32 t r h n s):=by
 simp only [q4n,show loopO (q1i t r (h:Int) (n:Int)) ((s:Int),0)=_ from qke hV hh hn n s 0 (by omega) hs,Option.bind_some]
theorem q5w(hV:RValid t r)(hh:h < t.Hosts.l.length){s:Nat}(hs:s < r.l.length):
  (((((!true) || (decide ((s:Int) < 0))) || (decide ((s:Int) >= (r.l.length:Int)))) || (decide ((h:Int) < 0))) || (decide ((h:Int) >= (t.Hosts.l.length:Int))))=false:=by
 simp only [Bool.not_true,Bool.false_or,Bool.or_eq_false_iff,decide_eq_false_iff_not]; omega
theorem qeq(hS:Small t r)(hV:RValid t r)(hh:h < t.Hosts.l.length){s k:Nat}(hs:s < r.l.length)(ha:Away t r h s k):∃l:List Int,q2t t r (s:Int) (h:Int)=some (.mk l,0)/\l.length=k+1:=by
 have hk:=ha.lt hV hs
 have hsm:=hV.small
 have hlen:=hV.len
 have main:∀(d i:Nat) (l:Sl Int),i+d=k->l.l.length=i->∃l2:List Int,loopO (q0n t r (s:Int) (h:Int)) ((i:Int),l)=some (.inl (0, .mk l2))/\l2.length=k+1:=by
  intro d
  induction d with
  | zero=>
   intro i l hi hl
   obtain rfl:i=k:=by omega
   obtain ⟨y,hy⟩:=qoy ha
   have hc:decide ((i:Int) < t.Switches)=true:=by rw [decide_eq_true_eq]; omega
   have hm:((y:Int) == -1)=false:=by rw [beq_eq_false_iff_ne]; omega
   exact ⟨l.l++ [(y:Int)],q0s (by simp only [q0n,hc,cond_true,q56 hV hh (show i < 9223372036854775807 by omega) hs,hy,Option.bind_some,hm,cond_false,q5e (show (l.l++ [(y:Int)]).length<=2147483648 by rw [List.length_append,List.length_singleton]; omega)]),by simp [hl]⟩
  | succ d ih=>
   intro i l hi hl
   obtain ⟨y,hy⟩:=qfl ha (show i < k by omega)
   have hc:decide ((i:Int) < t.Switches)=true:=by rw [decide_eq_true_eq]; omega
   have hm:((y:Int) == -1)=false:=by rw [beq_eq_false_iff_ne]; omega
   obtain ⟨l2,h1,h2⟩:=ih (i+1) (.mk (l.l++ [(y:Int)])) (by omega) (by simp [hl])
   exact ⟨l2,(q19 (by simp only [q0n,hc,cond_true,q56 hV hh (show i < 9223372036854775807 by omega) hs,hy,Option.bind_some,hm,cond_false,q5e (show (l.l++ [(y:Int)]).length<=2147483648 by rw [List.length_append,List.length_singleton]; omega),wr_s (show i < 9223372036854775807 by omega)])).trans h1,h2⟩
 obtain ⟨l2,h1,h2⟩:=main k 0 .nil (by omega) rfl
 have h1:loopO (q0n t r (s:Int) (h:Int)) (0,Sl.nil)=_:=h1
 exact ⟨l2,by simp only [q2t,q5s hS,decide_eq_true hV,Option.bind_some,q5w hV hh hs,cond_false,h1],h2⟩
theorem qf4(hS:Small t r)(hV:RValid t r)(hh:h < t.Hosts.l.length){s:Nat}(hs:s < r.l.length)(hno:∀k,¬Away t r h s k):∃e,q2t t r (s:Int) (h:Int)=some (.nil,e)/\e≠0:=by
 have hsm:=hV.small
 have hlen:=hV.len
 have hfalse:∀m,(q32 t r h m s).2=false:=λm=>by
  rw [<- Bool.not_eq_true]; exact λe=>hno m (qk6.1 e)
 have main:∀(d i:Nat) (l:Sl Int),i+d=r.l.length->l.l.length=i->loopO (q0n t r (s:Int) (h:Int)) ((i:Int),l)=some (.inl (13, .nil))\/loopO (q0n t r (s:Int) (h:Int)) ((i:Int),l)=some (.inr ()):=by
  intro d
  induction d with
  | zero=>
   intro i l hi hl
   have hc:decide ((i:Int) < t.Switches)=false:=by rw [decide_eq_false_iff_not]; omega
   exact .inr (q0s (by simp only [q0n,hc,cond_false]))
  | succ d ih=>
   intro i l hi hl
   have hc:decide ((i:Int) < t.Switches)=true:=by rw [decide_eq_true_eq]; omega
   have hf:=hfalse i
   have hst:=q56 hV hh (show i < 9223372036854775807 by omega) hs
   generalize q32 t r h i s=q at hf hst
   obtain ⟨y,b⟩:=q
   obtain rfl:b=false:=hf
   cases hm:y == -1 with
   | true=>exact .inl (q0s (by simp only [q0n,hc,cond_true,hst,Option.bind_some,hm]))
   | false=>
    have e:=q19 (f:=q0n t r (s:Int) (h:Int)) (a:=((i:Int),l)) (a':=(((i+1:Nat):Int), .mk (l.l++ [y]))) (by
     simp only [q0n,hc,cond_true,hst,Option.bind_some,hm,cond_false,q5e (show (l.l++ [y]).length<=2147483648 by rw [List.length_append,List.length_singleton]; omega),wr_s (show i < 9223372036854775807 by omega)])
    rw [e]
    exact ih (i+1) _ (by omega) (by simp [hl])
 have hst:=q56 hV hh (show r.l.length < 9223372036854775807 by omega) hs
 rw [hlen]at hst
 generalize q32 t r h r.l.length s=q at hst
 obtain ⟨y,b⟩:=q
 rcases main r.l.length 0 .nil (by omega) rfl with h1 | h1
 ·have h1:loopO (q0n t r (s:Int) (h:Int)) (0,Sl.nil)=_:=h1
  exact ⟨13,by simp only [q2t,q5s hS,decide_eq_true hV,Option.bind_some,q5w hV hh hs,cond_false,h1],by decide⟩
 ·have h1:loopO (q0n t r (s:Int) (h:Int)) (0,Sl.nil)=_:=h1
  cases hm:y == -1 with
  | true=>exact ⟨13,by simp only [q2t,q5s hS,decide_eq_true hV,Option.bind_some,q5w hV hh hs,cond_false,h1,hst,hm,cond_true],by decide⟩
  | false=>exact ⟨12,by simp only [q2t,q5s hS,decide_eq_true hV,Option.bind_some,q5w hV hh hs,cond_false,h1,hst,hm],by decide⟩
end
end Go.Proofs.Ythcplpfiidlinaa.L
