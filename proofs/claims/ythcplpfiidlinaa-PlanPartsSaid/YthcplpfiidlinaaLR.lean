/- Routes: how far a switch is from a host, and what the program's and the document's functions answer. Conditions: as stated. -/
import Derived.Test.YthcplpfiidlinaaLT
open Go.Ev Go
namespace Go.Proofs.Ythcplpfiidlinaa.L
open Classical in
noncomputable def tt(p:Prop):Bool:=decide p
theorem qne{p:Prop}:tt p=true↔p:=by simp [tt]
theorem qje{p:Prop}:tt p=false↔¬p:=by simp [tt]
theorem tt_t{p:Prop}(h:p):tt p=true:=qne.2 h
theorem tt_f{p:Prop}(h:¬p):tt p=false:=qje.2 h
def Small(t:api_Topo)(r:Sl (Sl Int)):Prop:=(∀ row∈r.l,row.l.length<=12)/\t.Links.l.length<=30/\t.Hosts.l.length<=12/\r.l.length<=12
instance (t:api_Topo) (r:Sl (Sl Int)):Decidable (Small t r):=by unfold Small; infer_instance
theorem qcu{t:api_Topo}{r:Sl (Sl Int)}(hb:r.l.length < 9223372036854775808):q4q t r=some (decide (Small t r)):=by
 have h:=allE (f:=q3y r) r.l (λrow=>decide ((row.l.length:Int) > 12)) hb (λi hi=>by
  simp only [q3y,lt_t hi,cond_true,q08 hi,Option.bind_some]
  generalize decide (((gt r.l i).l.length:Int) > 12)=c
  cases c <;> rfl) (by simp only [q3y,lt_f,cond_false])
 unfold q4q
 rw [h]
 have hr:(∀ row∈r.l,decide ((row.l.length:Int) > 12)=false)↔∀row∈r.l,row.l.length<=12:=by
  constructor
  ·intro h row hm; have:=h row hm; rw [decide_eq_false_iff_not]at this; omega
  ·intro h row hm; have:=h row hm; rw [decide_eq_false_iff_not]; omega
 by_cases hs:∀row∈r.l,row.l.length<=12
 ·rw [if_pos (hr.2 hs)]
  simp only [Option.bind_some,Option.some.injEq]
  rw [Bool.eq_iff_iff,decide_eq_true_eq (p:=Small t r)]
  simp only [Bool.and_eq_true,decide_eq_true_eq]
  constructor
  ·intro h; exact ⟨hs,by omega,by omega,by omega⟩
  ·intro h; obtain ⟨_,h1,h2,h3⟩:=h; omega
 ·rw [if_neg (λh=>hs (hr.1 h))]
  exact congrArg some (decide_eq_false λh=>hs h.1).symm
structure RValid (t:api_Topo) (r:Sl (Sl Int)):Prop where
 topo:Valid t
 len:(r.l.length:Int)=t.Switches
 rows:∀row∈r.l,row.l.length=t.Hosts.l.length/\∀p∈row.l,0<=p/\p < 8
noncomputable instance (t:api_Topo) (r:Sl (Sl Int)):Decidable (RValid t r):=Classical.propDecidable _
theorem qex{s:Sl Int}(hb:s.l.length < 9223372036854775808):q04 s=some (decide (¬ ∀p∈s.l,0<=p/\p < 8)):=by
 have h:=scanE (f:=q07 s) s.l (λi p=>if ¬(0<=p/\p < 8)then some (i:Int)else none) () hb (λi hi=>by
  have e:((decide ((gt s.l i) < 0)) || (decide ((gt s.l i) >= 8)))=decide (¬ (0<=gt s.l i/\gt s.l i < 8)):=by
   rw [Bool.eq_iff_iff]; simp only [Bool.or_eq_true,decide_eq_true_eq]; omega
  simp only [q07,lt_t hi,cond_true,q08 hi,Option.bind_some,q5x,e]
  by_cases hc:¬(0<=gt s.l i/\gt s.l i < 8)
  ·rw [if_pos hc,decide_eq_true hc]; rfl
  ·rw [if_neg hc,decide_eq_false hc]; rfl) (by simp only [q07,lt_f,cond_false])
 simp only [q04,q0b,h,Option.bind_some]
 cases hs:scan (λi p=>if ¬(0<=p/\p < 8)then some (i:Int)else none) s.l 0 with
 | none=>
  have hall:∀p∈s.l,0<=p/\p < 8:=by
   intro p hp
   obtain ⟨j,hj,rfl⟩:=List.getElem_of_mem hp
   have:=q2z.1 hs j s.l[j] (by simp [hj])
   apply Classical.byContradiction
   intro hn
   rw [if_pos hn]at this; simp at this
  have e:decide (¬ ∀p∈s.l,0<=p/\p < 8)=false:=decide_eq_false λh=>h hall
  rw [e]; rfl
 | some b=>
  obtain ⟨j,x,h1,h2,_⟩:=q6o hs
  split at h2
  ·rename_i hx
   obtain rfl:=Option.some.inj h2
   have e:decide (¬ ∀p∈s.l,0<=p/\p < 8)=true:=decide_eq_true λh=>hx (h x (List.mem_of_getElem? h1))
   rw [e]
   simp only [Option.bind_some,Option.some.injEq,decide_eq_true_eq]; omega
  ·simp at h2
theorem qas{t:api_Topo}{r:Sl (Sl Int)}(hb:r.l.length < 9223372036854775808)(hrow:∀row∈r.l,row.l.length < 9223372036854775808):q26 t r=some (decide (RValid t r)):=by
 unfold q26
 simp only [qk9,Option.bind_some]
 by_cases hV:Valid t
 rotate_left
 ·rw [decide_eq_false hV]
  exact congrArg some (decide_eq_false λh=>hV h.topo).symm
 by_cases hl:(r.l.length:Int)=t.Switches
 rotate_left
 ·have e:((r.l.length:Int) != t.Switches)=true:=by simpa using hl
  rw [decide_eq_true hV,e]
  exact congrArg some (decide_eq_false λh=>hl h.len).symm
 have e:((r.l.length:Int) != t.Switches)=false:=by simpa using hl
 rw [decide_eq_true hV,e]
 simp only [Bool.not_true,Bool.or_self,cond_false]
 have h:=allE (f:=q2c t r) r.l (λrow=>decide (¬ (row.l.length=t.Hosts.l.length/\∀p∈row.l,0<=p/\p < 8))) hb (λi hi=>by
  have hm:gt r.l i∈r.l:=by rw [gt_eq hi]; exact List.getElem_mem _
  simp only [q2c,lt_t hi,cond_true,q08 hi,Option.bind_some,qex (hrow _ hm)]
  by_cases h1:(gt r.l i).l.length=t.Hosts.l.length
  ·have e1:(((gt r.l i).l.length:Int) != (t.Hosts.l.length:Int))=false:=by rw [h1]; simp
   by_cases h2:∀p∈(gt r.l i).l,0<=p/\p < 8
   ·have e2:decide (¬ ∀p∈(gt r.l i).l,0<=p/\p < 8)=false:=decide_eq_false λh=>h h2
    have e3:decide (¬ ((gt r.l i).l.length=t.Hosts.l.length/\∀p∈(gt r.l i).l,0<=p/\p < 8))=false:=decide_eq_false λh=>h ⟨h1,h2⟩
    rw [e1,e2,e3]; rfl
   ·have e2:decide (¬ ∀p∈(gt r.l i).l,0<=p/\p < 8)=true:=decide_eq_true h2
    have e3:decide (¬ ((gt r.l i).l.length=t.Hosts.l.length/\∀p∈(gt r.l i).l,0<=p/\p < 8))=true:=decide_eq_true λh=>h2 h.2
    rw [e1,e2,e3]; rfl
  ·have e1:(((gt r.l i).l.length:Int) != (t.Hosts.l.length:Int))=true:=by rw [bne_iff_ne]; omega
   have e3:decide (¬ ((gt r.l i).l.length=t.Hosts.l.length/\∀p∈(gt r.l i).l,0<=p/\p < 8))=true:=decide_eq_true λh=>h1 h.1
   rw [e1,e3]; rfl) (by simp only [q2c,lt_f,cond_false])
 rw [h]
 have hr:(∀ row∈r.l,decide (¬ (row.l.length=t.Hosts.l.length/\∀p∈row.l,0<=p/\p < 8))=false)↔∀row∈r.l,row.l.length=t.Hosts.l.length/\∀p∈row.l,0<=p/\p < 8:=by
  constructor
  ·intro h row hm
   have:=h row hm
   rw [decide_eq_false_iff_not]at this
   exact Classical.not_not.1 this
  ·intro h row hm
   exact decide_eq_false λhn=>hn (h row hm)
 by_cases hs:∀row∈r.l,row.l.length=t.Hosts.l.length/\∀p∈row.l,0<=p/\p < 8
 ·rw [if_pos (hr.2 hs)]
  exact congrArg some (decide_eq_true ⟨hV,hl,hs⟩).symm
 ·rw [if_neg (λh=>hs (hr.1 h))]
  exact congrArg some (decide_eq_false λh=>hs h.rows).symm
section
variable {t:api_Topo}{r:Sl (Sl Int)}{h:Nat}
def q10(r:Sl (Sl Int))(h:Nat)(s:Nat):Int:=gt (gt r.l s).l h
def Here(t:api_Topo)(r:Sl (Sl Int))(h:Nat)(s:Nat):Prop:=(gt t.Hosts.l h).At=(s:Int)/\(gt t.Hosts.l h).Port=q10 r h s
instance {s:Nat}:Decidable (Here t r h s):=by unfold Here; infer_instance
def qgb(t:api_Topo)(r:Sl (Sl Int))(h:Nat)(s:Nat):Option Nat:=(scan (peerP (s:Int) (q10 r h s)) t.Links.l 0).map (·.1.toNat)
theorem RValid.row(hV:RValid t r){s:Nat}(hs:s < r.l.length):(gt r.l s).l.length=t.Hosts.l.length:=by
 have:gt r.l s∈r.l:=by rw [gt_eq hs]; exact List.getElem_mem _
 exact (hV.rows _ this).1
theorem RValid.small(hV:RValid t r):r.l.length<=8:=by have:=hV.len; have:=hV.topo.sw; omega
theorem RValid.hosts(hV:RValid t r):t.Hosts.l.length<=8:=hV.topo.hosts
theorem qar(hV:RValid t r)(s:Nat):(qgb t r h s=none/\peerR t s (q10 r h s)=(0,0,0,false))\/
  ∃(s':Nat) (b c:Int),qgb t r h s=some s'/\s' < r.l.length/\peerR t s (q10 r h s)=((s':Int),b,c,true):=by
 unfold qgb peerR
 cases hc:scan (peerP (s:Int) (q10 r h s)) t.Links.l 0 with
 | none=>exact .inl ⟨rfl,rfl⟩
 | some q=>
  obtain ⟨a,b,c⟩:=q
  obtain ⟨h1,h2⟩:=qux hV.topo hc
  have:=hV.len
  refine .inr ⟨a.toNat,b,c,rfl,by omega, ?_⟩
  rw [Int.toNat_of_nonneg h1]
theorem quw(hV:RValid t r){s s':Nat}(hn:qgb t r h s=some s'):s' < r.l.length:=by
 rcases qar (h:=h) hV s with ⟨e,_⟩ | ⟨s2,_,_,e,h2,_⟩
 ·rw [e]at hn; cases hn
 ·rw [e]at hn; cases hn; exact h2
inductive Away (t:api_Topo) (r:Sl (Sl Int)) (h:Nat):Nat->Nat->Prop
 | here {s:Nat}:Here t r h s->Away t r h s 0
 | step {s s' k:Nat}:¬Here t r h s->qgb t r h s=some s'->Away t r h s' k->Away t r h s (k+1)
theorem Away.uniq{s a b:Nat}(ha:Away t r h s a)(hb:Away t r h s b):a=b:=by
 induction ha generalizing b with
 | here h1=>cases hb with
  | here _=>rfl
  | step h2 _ _=>exact absurd h1 h2
 | step h1 h2 _ ih=>cases hb with
  | here h3=>exact absurd h3 h1
  | step _ h4 h5=>rw [h2]at h4; cases h4; rw [ih h5]
theorem Away.path(hV:RValid t r){s k:Nat}(ha:Away t r h s k)(hs:s < r.l.length):∃w:List Nat,w.length=k+1/\w.Nodup/\∀x∈w,x < r.l.length/\∃j,j<=k/\Away t r h x j:=by
 induction ha with
 | @here s h1=>exact ⟨[s],rfl,by simp,λx hx=>by obtain rfl:=List.mem_singleton.1 hx; exact ⟨hs,0,Nat.le_refl _, .here h1⟩⟩
 | @step s s' k h1 h2 h3 ih=>
  obtain ⟨w,e1,e2,e3⟩:=ih (quw hV h2)
  have hst:=Away.step h1 h2 h3
  refine ⟨s :: w,by simp [e1],List.nodup_cons.2 ⟨λhm=> ?_,e2⟩,λx hx=> ?_⟩
  ·obtain ⟨_,j,hj,hj2⟩:=e3 s hm
   have:=hj2.uniq hst
   omega
  ·rcases List.mem_cons.1 hx with rfl | hx
   ·exact ⟨hs,k+1,Nat.le_refl _,hst⟩
   ·obtain ⟨a,j,b,c⟩:=e3 x hx
    exact ⟨a,j,by omega,c⟩
theorem Away.lt(hV:RValid t r){s k:Nat}(ha:Away t r h s k)(hs:s < r.l.length):k < r.l.length:=by
 obtain ⟨w,h1,h2,h3⟩:=ha.path hV hs
 have hsub:w ⊆ List.range r.l.length:=λx hx=>List.mem_range.2 (h3 x hx).1
 have:=h2.length_le_of_subset hsub
 simp at this; omega
end
end Go.Proofs.Ythcplpfiidlinaa.L
