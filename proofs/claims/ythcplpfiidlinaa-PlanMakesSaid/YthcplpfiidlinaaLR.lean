/- Routes: how far a switch is from a host, and what the program's and the document's functions answer. Conditions: as stated. -/
import Derived.Test.YthcplpfiidlinaaLT
open Go.Ev Go
namespace Go.Proofs.Ythcplpfiidlinaa.L
open Classical in
noncomputable def tt (p : Prop) : Bool := decide p
theorem qr2 {p : Prop} : tt p = true ↔ p := by simp [tt]
theorem qdd {p : Prop} : tt p = false ↔ ¬ p := by simp [tt]
theorem qrj {p : Prop} (h : p) : tt p = true := qr2.2 h
theorem qkf {p : Prop} (h : ¬ p) : tt p = false := qdd.2 h
def q65 (t : api_Topo) (r : Sl (Sl Int)) : Prop := (∀ row ∈ r.l, row.l.length ≤ 12) ∧ t.Links.l.length ≤ 30 ∧ t.Hosts.l.length ≤ 12 ∧ r.l.length ≤ 12
instance (t : api_Topo) (r : Sl (Sl Int)) : Decidable (q65 t r) := by unfold q65; infer_instance
theorem qg4 {t : api_Topo} {r : Sl (Sl Int)} (hb : r.l.length < 9223372036854775808) : q69 t r = some (decide (q65 t r)) := by
 have h := qy3 (f := q51 r) r.l (fun row => decide ((row.l.length : Int) > 12)) hb (fun i hi => by
  simp only [q51, q4n hi, cond_true, q07 hi, Option.bind_some]
  generalize decide (((gt r.l i).l.length : Int) > 12) = c
  cases c <;> rfl) (by simp only [q51, q77, cond_false])
 unfold q69
 rw [h]
 have hr : (∀ row ∈ r.l, decide ((row.l.length : Int) > 12) = false) ↔ ∀ row ∈ r.l, row.l.length ≤ 12 := by
  constructor
  ·intro h row hm; have := h row hm; rw [decide_eq_false_iff_not] at this; omega
  ·intro h row hm; have := h row hm; rw [decide_eq_false_iff_not]; omega
 by_cases hs : ∀ row ∈ r.l, row.l.length ≤ 12
 ·rw [if_pos (hr.2 hs)]
  simp only [Option.bind_some, Option.some.injEq]
  rw [Bool.eq_iff_iff, decide_eq_true_eq (p := q65 t r)]
  simp only [Bool.and_eq_true, decide_eq_true_eq]
  constructor
  ·intro h; exact ⟨hs, by omega, by omega, by omega⟩
  ·intro h; obtain ⟨_, h1, h2, h3⟩ := h; omega
 ·rw [if_neg (fun h => hs (hr.1 h))]
  exact congrArg some (decide_eq_false fun h => hs h.1).symm
structure RValid (t : api_Topo) (r : Sl (Sl Int)) : Prop where
 topo : Valid t
 len : (r.l.length : Int) = t.Switches
 rows : ∀ row ∈ r.l, row.l.length = t.Hosts.l.length ∧ ∀ p ∈ row.l, 0 ≤ p ∧ p < 8
noncomputable instance (t : api_Topo) (r : Sl (Sl Int)) : Decidable (RValid t r) := Classical.propDecidable _
theorem qj8 {s : Sl Int} (hb : s.l.length < 9223372036854775808) : q08 s = some (decide (¬ ∀ p ∈ s.l, 0 ≤ p ∧ p < 8)) := by
 have h := qbs (f := q0a s) s.l (fun i p => if ¬ (0 ≤ p ∧ p < 8) then some (i : Int) else none) () hb (fun i hi => by
  have e : ((decide ((gt s.l i) < 0)) || (decide ((gt s.l i) ≥ 8))) = decide (¬ (0 ≤ gt s.l i ∧ gt s.l i < 8)) := by
   rw [Bool.eq_iff_iff]; simp only [Bool.or_eq_true, decide_eq_true_eq]; omega
  simp only [q0a, q4n hi, cond_true, q07 hi, Option.bind_some, q8i, e]
  by_cases hc : ¬ (0 ≤ gt s.l i ∧ gt s.l i < 8)
  ·rw [if_pos hc, decide_eq_true hc]; rfl
  ·rw [if_neg hc, decide_eq_false hc]; rfl) (by simp only [q0a, q77, cond_false])
 simp only [q08, q0d, h, Option.bind_some]
 cases hs : qap (fun i p => if ¬ (0 ≤ p ∧ p < 8) then some (i : Int) else none) s.l 0 with
 | none =>
  have hall : ∀ p ∈ s.l, 0 ≤ p ∧ p < 8 := by
   intro p hp
   obtain ⟨j, hj, rfl⟩ := List.getElem_of_mem hp
   have := q33.1 hs j s.l[j] (by simp [hj])
   apply Classical.byContradiction
   intro hn
   rw [if_pos hn] at this; simp at this
  have e : decide (¬ ∀ p ∈ s.l, 0 ≤ p ∧ p < 8) = false := decide_eq_false fun h => h hall
  rw [e]; rfl
 | some b =>
  obtain ⟨j, x, h1, h2, _⟩ := q5z hs
  split at h2
  ·rename_i hx
   obtain rfl := Option.some.inj h2
   have e : decide (¬ ∀ p ∈ s.l, 0 ≤ p ∧ p < 8) = true := decide_eq_true fun h => hx (h x (List.mem_of_getElem? h1))
   rw [e]
   simp only [Option.bind_some, Option.some.injEq, decide_eq_true_eq]; omega
  ·simp at h2
theorem qdz {t : api_Topo} {r : Sl (Sl Int)} (hb : r.l.length < 9223372036854775808) (hrow : ∀ row ∈ r.l, row.l.length < 9223372036854775808) : q2k t r = some (decide (RValid t r)) := by
 unfold q2k
 simp only [qoe, Option.bind_some]
 by_cases hV : Valid t
 rotate_left
 ·rw [decide_eq_false hV]
  exact congrArg some (decide_eq_false fun h => hV h.topo).symm
 by_cases hl : (r.l.length : Int) = t.Switches
 rotate_left
 ·have e : ((r.l.length : Int) != t.Switches) = true := by simpa using hl
  rw [decide_eq_true hV, e]
  exact congrArg some (decide_eq_false fun h => hl h.len).symm
 have e : ((r.l.length : Int) != t.Switches) = false := by simpa using hl
 rw [decide_eq_true hV, e]
 simp only [Bool.not_true, Bool.or_self, cond_false]
 have h := qy3 (f := q2u t r) r.l (fun row => decide (¬ (row.l.length = t.Hosts.l.length ∧ ∀ p ∈ row.l, 0 ≤ p ∧ p < 8))) hb (fun i hi => by
  have hm : gt r.l i ∈ r.l := by rw [q22 hi]; exact List.getElem_mem _
  simp only [q2u, q4n hi, cond_true, q07 hi, Option.bind_some, qj8 (hrow _ hm)]
  by_cases h1 : (gt r.l i).l.length = t.Hosts.l.length
  ·have e1 : (((gt r.l i).l.length : Int) != (t.Hosts.l.length : Int)) = false := by rw [h1]; simp
   by_cases h2 : ∀ p ∈ (gt r.l i).l, 0 ≤ p ∧ p < 8
   ·have e2 : decide (¬ ∀ p ∈ (gt r.l i).l, 0 ≤ p ∧ p < 8) = false := decide_eq_false fun h => h h2
    have e3 : decide (¬ ((gt r.l i).l.length = t.Hosts.l.length ∧ ∀ p ∈ (gt r.l i).l, 0 ≤ p ∧ p < 8)) = false := decide_eq_false fun h => h ⟨h1, h2⟩
    rw [e1, e2, e3]; rfl
   ·have e2 : decide (¬ ∀ p ∈ (gt r.l i).l, 0 ≤ p ∧ p < 8) = true := decide_eq_true h2
    have e3 : decide (¬ ((gt r.l i).l.length = t.Hosts.l.length ∧ ∀ p ∈ (gt r.l i).l, 0 ≤ p ∧ p < 8)) = true := decide_eq_true fun h => h2 h.2
    rw [e1, e2, e3]; rfl
  ·have e1 : (((gt r.l i).l.length : Int) != (t.Hosts.l.length : Int)) = true := by rw [bne_iff_ne]; omega
   have e3 : decide (¬ ((gt r.l i).l.length = t.Hosts.l.length ∧ ∀ p ∈ (gt r.l i).l, 0 ≤ p ∧ p < 8)) = true := decide_eq_true fun h => h1 h.1
   rw [e1, e3]; rfl) (by simp only [q2u, q77, cond_false])
 rw [h]
 have hr : (∀ row ∈ r.l, decide (¬ (row.l.length = t.Hosts.l.length ∧ ∀ p ∈ row.l, 0 ≤ p ∧ p < 8)) = false) ↔ ∀ row ∈ r.l, row.l.length = t.Hosts.l.length ∧ ∀ p ∈ row.l, 0 ≤ p ∧ p < 8 := by
  constructor
  ·intro h row hm
   have := h row hm
   rw [decide_eq_false_iff_not] at this
   exact Classical.not_not.1 this
  ·intro h row hm
   exact decide_eq_false fun hn => hn (h row hm)
 by_cases hs : ∀ row ∈ r.l, row.l.length = t.Hosts.l.length ∧ ∀ p ∈ row.l, 0 ≤ p ∧ p < 8
 ·rw [if_pos (hr.2 hs)]
  exact congrArg some (decide_eq_true ⟨hV, hl, hs⟩).symm
 ·rw [if_neg (fun h => hs (hr.1 h))]
  exact congrArg some (decide_eq_false fun h => hs h.rows).symm
theorem q7c {t : api_Topo} {r : Sl (Sl Int)} (hS : q65 t r) : q6f t r = some (decide (RValid t r)) := by
 unfold q6f
 simp only [qqb hS.2.1 hS.2.2.1, Option.bind_some]
 by_cases hV : Valid t
 rotate_left
 ·rw [decide_eq_false hV]
  exact congrArg some (decide_eq_false fun h : RValid t r => hV h.topo).symm
 by_cases hl : (r.l.length : Int) = t.Switches
 rotate_left
 ·have e : ((r.l.length : Int) != t.Switches) = true := by simpa using hl
  rw [decide_eq_true hV, e]
  exact congrArg some (decide_eq_false fun h : RValid t r => hl h.len).symm
 have e : ((r.l.length : Int) != t.Switches) = false := by simpa using hl
 rw [decide_eq_true hV, e]
 simp only [Bool.not_true, Bool.or_self, cond_false]
 have hsm := hS.2.2.2
 have h := qy3 (f := q53 t r) r.l (fun row => decide (¬ (row.l.length = t.Hosts.l.length ∧ ∀ p ∈ row.l, 0 ≤ p ∧ p < 8))) (by omega) (fun i hi => by
  have hm : gt r.l i ∈ r.l := by rw [q22 hi]; exact List.getElem_mem _
  have hrl := hS.1 _ hm
  simp only [q53, q4n hi, cond_true, q07 hi, Option.bind_some]
  have h1 := qy3 (f := q4z r (i : Int)) (gt r.l i).l (fun p => decide (¬ (0 ≤ p ∧ p < 8))) (by omega) (fun j hj => by
   simp only [q4z, q4n hj, cond_true, q07 hi, q07 hj, Option.bind_some]
   have e : decide (¬ (0 ≤ gt (gt r.l i).l j ∧ gt (gt r.l i).l j < 8)) = ((decide (gt (gt r.l i).l j < 0)) || (decide (gt (gt r.l i).l j > 7))) := by
    rw [Bool.eq_iff_iff]; simp only [Bool.or_eq_true, decide_eq_true_eq]; omega
   rw [e]
   cases decide (gt (gt r.l i).l j < 0) <;> cases decide (gt (gt r.l i).l j > 7) <;> rfl) (by simp only [q4z, q07 hi, Option.bind_some, q77, cond_false])
  have hr : (∀ p ∈ (gt r.l i).l, decide (¬ (0 ≤ p ∧ p < 8)) = false) ↔ ∀ p ∈ (gt r.l i).l, 0 ≤ p ∧ p < 8 := by
   constructor
   ·intro h p hp
    have := h p hp
    rw [decide_eq_false_iff_not] at this
    omega
   ·intro h p hp
    have := h p hp
    rw [decide_eq_false_iff_not]; omega
  by_cases h1l : (gt r.l i).l.length = t.Hosts.l.length
  ·have e1 : (((gt r.l i).l.length : Int) != (t.Hosts.l.length : Int)) = false := by rw [h1l]; simp
   rw [e1, cond_false, h1]
   by_cases h2 : ∀ p ∈ (gt r.l i).l, 0 ≤ p ∧ p < 8
   ·have e3 : decide (¬ ((gt r.l i).l.length = t.Hosts.l.length ∧ ∀ p ∈ (gt r.l i).l, 0 ≤ p ∧ p < 8)) = false := decide_eq_false fun h => h ⟨h1l, h2⟩
    rw [if_pos (hr.2 h2), e3]; rfl
   ·have e3 : decide (¬ ((gt r.l i).l.length = t.Hosts.l.length ∧ ∀ p ∈ (gt r.l i).l, 0 ≤ p ∧ p < 8)) = true := decide_eq_true fun h => h2 h.2
    rw [if_neg fun h => h2 (hr.1 h), e3]; rfl
  ·have e1 : (((gt r.l i).l.length : Int) != (t.Hosts.l.length : Int)) = true := by rw [bne_iff_ne]; omega
   have e3 : decide (¬ ((gt r.l i).l.length = t.Hosts.l.length ∧ ∀ p ∈ (gt r.l i).l, 0 ≤ p ∧ p < 8)) = true := decide_eq_true fun h => h1l h.1
   rw [e1, cond_true, e3]; rfl) (by simp only [q53, q77, cond_false])
 rw [h]
 have hr : (∀ row ∈ r.l, decide (¬ (row.l.length = t.Hosts.l.length ∧ ∀ p ∈ row.l, 0 ≤ p ∧ p < 8)) = false) ↔ ∀ row ∈ r.l, row.l.length = t.Hosts.l.length ∧ ∀ p ∈ row.l, 0 ≤ p ∧ p < 8 := by
  constructor
  ·intro h row hm
   have := h row hm
   rw [decide_eq_false_iff_not] at this
   exact Classical.not_not.1 this
  ·intro h row hm
   exact decide_eq_false fun hn => hn (h row hm)
 by_cases hs : ∀ row ∈ r.l, row.l.length = t.Hosts.l.length ∧ ∀ p ∈ row.l, 0 ≤ p ∧ p < 8
 ·rw [if_pos (hr.2 hs)]
  exact congrArg some (decide_eq_true (⟨hV, hl, hs⟩ : RValid t r)).symm
 ·rw [if_neg (fun h => hs (hr.1 h))]
  exact congrArg some (decide_eq_false fun h : RValid t r => hs h.rows).symm
section
variable {t : api_Topo} {r : Sl (Sl Int)} {h : Nat}
def q18 (r : Sl (Sl Int)) (h : Nat) (s : Nat) : Int := gt (gt r.l s).l h
def qk7 (t : api_Topo) (r : Sl (Sl Int)) (h : Nat) (s : Nat) : Prop := (gt t.Hosts.l h).At = (s : Int) ∧ (gt t.Hosts.l h).Port = q18 r h s
instance {s : Nat} : Decidable (qk7 t r h s) := by unfold qk7; infer_instance
def qeh (t : api_Topo) (r : Sl (Sl Int)) (h : Nat) (s : Nat) : Option Nat := (qap (qdk (s : Int) (q18 r h s)) t.Links.l 0).map (·.1.toNat)
theorem RValid.row (hV : RValid t r) {s : Nat} (hs : s < r.l.length) : (gt r.l s).l.length = t.Hosts.l.length := by
 have : gt r.l s ∈ r.l := by rw [q22 hs]; exact List.getElem_mem _
 exact (hV.rows _ this).1
theorem RValid.small (hV : RValid t r) : r.l.length ≤ 8 := by have := hV.len; have := hV.topo.sw; omega
theorem RValid.hosts (hV : RValid t r) : t.Hosts.l.length ≤ 8 := hV.topo.hosts
theorem qbh (hV : RValid t r) (s : Nat) : (qeh t r h s = none ∧ qdo t s (q18 r h s) = (0, 0, 0, false)) ∨
  ∃ (s' : Nat) (b c : Int), qeh t r h s = some s' ∧ s' < r.l.length ∧ qdo t s (q18 r h s) = ((s' : Int), b, c, true) := by
 unfold qeh qdo
 cases hc : qap (qdk (s : Int) (q18 r h s)) t.Links.l 0 with
 | none => exact .inl ⟨rfl, rfl⟩
 | some q =>
  obtain ⟨a, b, c⟩ := q
  obtain ⟨h1, h2⟩ := qzv hV.topo hc
  have := hV.len
  refine .inr ⟨a.toNat, b, c, rfl, by omega, ?_⟩
  rw [Int.toNat_of_nonneg h1]
theorem qyw (hV : RValid t r) {s s' : Nat} (hn : qeh t r h s = some s') : s' < r.l.length := by
 rcases qbh (h := h) hV s with ⟨e, _⟩ | ⟨s2, _, _, e, h2, _⟩
 ·rw [e] at hn; cases hn
 ·rw [e] at hn; cases hn; exact h2
inductive Away (t : api_Topo) (r : Sl (Sl Int)) (h : Nat) : Nat → Nat → Prop
 | here {s : Nat} : qk7 t r h s → Away t r h s 0
 | step {s s' k : Nat} : ¬ qk7 t r h s → qeh t r h s = some s' → Away t r h s' k → Away t r h s (k + 1)
theorem Away.uniq {s a b : Nat} (ha : Away t r h s a) (hb : Away t r h s b) : a = b := by
 induction ha generalizing b with
 | here h1 => cases hb with
  | here _ => rfl
  | step h2 _ _ => exact absurd h1 h2
 | step h1 h2 _ ih => cases hb with
  | here h3 => exact absurd h3 h1
  | step _ h4 h5 => rw [h2] at h4; cases h4; rw [ih h5]
theorem Away.path (hV : RValid t r) {s k : Nat} (ha : Away t r h s k) (hs : s < r.l.length) : ∃ w : List Nat, w.length = k + 1 ∧ w.Nodup ∧ ∀ x ∈ w, x < r.l.length ∧ ∃ j, j ≤ k ∧ Away t r h x j := by
 induction ha with
 | @here s h1 => exact ⟨[s], rfl, by simp, fun x hx => by obtain rfl := List.mem_singleton.1 hx; exact ⟨hs, 0, Nat.le_refl _, .here h1⟩⟩
 | @step s s' k h1 h2 h3 ih =>
  obtain ⟨w, e1, e2, e3⟩ := ih (qyw hV h2)
  have hst := Away.step h1 h2 h3
  refine ⟨s :: w, by simp [e1], List.nodup_cons.2 ⟨fun hm => ?_, e2⟩, fun x hx => ?_⟩
  ·obtain ⟨_, j, hj, hj2⟩ := e3 s hm
   have := hj2.uniq hst
   omega
  ·rcases List.mem_cons.1 hx with rfl | hx
   ·exact ⟨hs, k + 1, Nat.le_refl _, hst⟩
   ·obtain ⟨a, j, b, c⟩ := e3 x hx
    exact ⟨a, j, by omega, c⟩
theorem Away.lt (hV : RValid t r) {s k : Nat} (ha : Away t r h s k) (hs : s < r.l.length) : k < r.l.length := by
 obtain ⟨w, h1, h2, h3⟩ := ha.path hV hs
 have hsub : w ⊆ List.range r.l.length := fun x hx => List.mem_range.2 (h3 x hx).1
 have := h2.length_le_of_subset hsub
 simp at this; omega
def q44 (t : api_Topo) (r : Sl (Sl Int)) (h : Nat) : Nat → Nat → Int × Bool
 | 0, s => ((s : Int), decide (qk7 t r h s))
 | m + 1, s => if qk7 t r h s then ((s : Int), false) else match qeh t r h s with | none => (-1, false) | some s' => q44 t r h m s'
theorem qov : ∀ {m s : Nat}, (q44 t r h m s).2 = true ↔ Away t r h s m := by
 intro m
 induction m with
 | zero => intro s; simp only [q44, decide_eq_true_eq]; exact ⟨.here, fun h => by cases h; assumption⟩
 | succ m ih =>
  intro s
  simp only [q44]
  by_cases hH : qk7 t r h s
  ·rw [if_pos hH]
   exact ⟨fun h => by simp at h, fun h => by cases h; contradiction⟩
  ·rw [if_neg hH]
   cases hn : qeh t r h s with
   | none => exact ⟨fun h => by simp at h, fun h => by cases h with | step _ h2 _ => rw [hn] at h2; cases h2⟩
   | some s' => exact ih.trans ⟨fun h => .step hH hn h, fun h => by cases h with | step _ h2 h3 => rw [hn] at h2; cases h2; exact h3⟩
theorem qjf {s k : Nat} (ha : Away t r h s k) : ∀ {m : Nat}, m < k → ∃ y : Nat, q44 t r h m s = ((y : Int), false) := by
 induction ha with
 | here h1 => intro m hm; omega
 | @step s s' k h1 h2 h3 ih =>
  intro m hm
  cases m with
  | zero => exact ⟨s, by simp only [q44, decide_eq_false h1]⟩
  | succ m => simp only [q44, if_neg h1, h2]; exact ih (by omega)
theorem qvb {s k : Nat} (ha : Away t r h s k) : ∃ y : Nat, q44 t r h k s = ((y : Int), true) := by
 induction ha with
 | @here s h1 => exact ⟨s, by simp only [q44, decide_eq_true h1]⟩
 | @step s s' k h1 h2 h3 ih => simp only [q44, if_neg h1, h2]; exact ih
theorem qd4 (hV : RValid t r) (hh : h < t.Hosts.l.length) {s : Nat} (hs : s < r.l.length) :
  ((ixI (h : Int) t.Hosts.l.length).bind fun n5 => bif ((gt t.Hosts.l n5).At == (s : Int)) then ((ixI (h : Int) t.Hosts.l.length).bind fun n6 => (ixI (s : Int) r.l.length).bind fun n7 => (ixI (h : Int) (gt r.l n7).l.length).bind fun n8 => some ((gt t.Hosts.l n6).Port == gt (gt r.l n7).l n8)) else some false) = some (decide (qk7 t r h s)) := by
 have hhr : h < (gt r.l s).l.length := by rw [hV.row hs]; exact hh
 simp only [q07 hh, q07 hs, q07 hhr, Option.bind_some, qrq]
 congr 1
 rw [Bool.eq_iff_iff, decide_eq_true_eq (p := qk7 t r h s)]; simp [qk7, q18]
theorem qe9 (hV : RValid t r) (hh : h < t.Hosts.l.length) {s : Nat} (hs : s < r.l.length) :
  q9x t r (s : Int) (h : Int) = some ((qdo t s (q18 r h s)).1, (qdo t s (q18 r h s)).2.2.2) := by
 have hhr : h < (gt r.l s).l.length := by rw [hV.row hs]; exact hh
 have hlk := hV.topo.links
 have h1 : decide ((s : Int) < 0) = false := by rw [decide_eq_false_iff_not]; omega
 have h2 : decide ((s : Int) ≥ (r.l.length : Int)) = false := by rw [decide_eq_false_iff_not]; omega
 have h3 : decide ((h : Int) < 0) = false := by rw [decide_eq_false_iff_not]; omega
 have h4 : decide ((h : Int) ≥ ((gt r.l s).l.length : Int)) = false := by rw [decide_eq_false_iff_not]; omega
 simp only [q9x, h1, h2, h3, h4, Bool.or_self, cond_false, q07 hs, q07 hhr, Option.bind_some, qi7 _ _ (show t.Links.l.length < 9223372036854775808 by omega), q18]
theorem qpr (hV : RValid t r) (hh : h < t.Hosts.l.length) {n : Nat} (hn : n < 9223372036854775807) : ∀ (m s i : Nat), i + m = n → s < r.l.length → q0e (q24 t r (h : Int) (n : Int)) ((s : Int), (i : Int)) = some (.inl (q44 t r h m s)) := by
 intro m
 induction m with
 | zero =>
  intro s i hi hs
  obtain rfl : i = n := by omega
  refine q0p ?_
  simp only [q24, qd4 hV hh hs, Option.bind_some, decide_eq_true (Int.le_refl _), cond_true, beq_self_eq_true, q44]
  cases decide (qk7 t r h s) <;> rfl
 | succ m ih =>
  intro s i hi hs
  have hle : decide ((i : Int) ≤ (n : Int)) = true := by rw [decide_eq_true_eq]; omega
  have hne : ((i : Int) == (n : Int)) = false := by rw [beq_eq_false_iff_ne]; omega
  by_cases hH : qk7 t r h s
  ·refine q0p ?_
   simp only [q24, qd4 hV hh hs, Option.bind_some, hle, cond_true, decide_eq_true hH, hne, q44, if_pos hH]
  ·rcases qbh (h := h) hV s with ⟨e1, e2⟩ | ⟨s', b, c, e1, hs', e2⟩
   ·refine q0p ?_
    simp only [q24, qd4 hV hh hs, Option.bind_some, hle, cond_true, decide_eq_false hH, hne, q44, if_neg hH, e1, qe9 hV hh hs, e2, Bool.not_false, cond_false]
   ·rw [q1z (a' := ((s' : Int), ((i + 1 : Nat) : Int))) (by
     simp only [q24, qd4 hV hh hs, Option.bind_some, hle, cond_true, decide_eq_false hH, hne, qe9 hV hh hs, e2, Bool.not_true, cond_false, qa8 (show i < 9223372036854775807 by omega)]), ih s' (i + 1) (by omega) hs']
    simp only [q44, if_neg hH, e1]
theorem q6n (hV : RValid t r) (hh : h < t.Hosts.l.length) {n : Nat} (hn : n < 9223372036854775807) {s : Nat} (hs : s < r.l.length) : q61 t r (s : Int) (h : Int) (n : Int) = some (q44 t r h n s) := by
 simp only [q61, show q0e (q24 t r (h : Int) (n : Int)) ((s : Int), 0) = _ from qpr hV hh hn n s 0 (by omega) hs, Option.bind_some]
theorem q7p (hV : RValid t r) (hh : h < t.Hosts.l.length) {s : Nat} (hs : s < r.l.length) :
  (((((!true) || (decide ((s : Int) < 0))) || (decide ((s : Int) ≥ (r.l.length : Int)))) || (decide ((h : Int) < 0))) || (decide ((h : Int) ≥ (t.Hosts.l.length : Int)))) = false := by
 simp only [Bool.not_true, Bool.false_or, Bool.or_eq_false_iff, decide_eq_false_iff_not]; omega
theorem qcg (hS : q65 t r) (hV : RValid t r) (hh : h < t.Hosts.l.length) {s k : Nat} (hs : s < r.l.length) (ha : Away t r h s k) : ∃ l : List Int, q3e t r (s : Int) (h : Int) = some (.mk l, 0) ∧ l.length = k + 1 := by
 have hk := ha.lt hV hs
 have hsm := hV.small
 have hlen := hV.len
 have main : ∀ (d i : Nat) (l : Sl Int), i + d = k → l.l.length = i → ∃ l2 : List Int, q0e (q0u t r (s : Int) (h : Int)) ((i : Int), l) = some (.inl (0, .mk l2)) ∧ l2.length = k + 1 := by
  intro d
  induction d with
  | zero =>
   intro i l hi hl
   obtain rfl : i = k := by omega
   obtain ⟨y, hy⟩ := qvb ha
   have hc : decide ((i : Int) < t.Switches) = true := by rw [decide_eq_true_eq]; omega
   have hm : ((y : Int) == -1) = false := by rw [beq_eq_false_iff_ne]; omega
   exact ⟨l.l ++ [(y : Int)], q0p (by simp only [q0u, hc, cond_true, q6n hV hh (show i < 9223372036854775807 by omega) hs, hy, Option.bind_some, hm, cond_false, q2v (show (l.l ++ [(y : Int)]).length ≤ 2147483648 by rw [List.length_append, List.length_singleton]; omega)]), by simp [hl]⟩
  | succ d ih =>
   intro i l hi hl
   obtain ⟨y, hy⟩ := qjf ha (show i < k by omega)
   have hc : decide ((i : Int) < t.Switches) = true := by rw [decide_eq_true_eq]; omega
   have hm : ((y : Int) == -1) = false := by rw [beq_eq_false_iff_ne]; omega
   obtain ⟨l2, h1, h2⟩ := ih (i + 1) (.mk (l.l ++ [(y : Int)])) (by omega) (by simp [hl])
   exact ⟨l2, (q1z (by simp only [q0u, hc, cond_true, q6n hV hh (show i < 9223372036854775807 by omega) hs, hy, Option.bind_some, hm, cond_false, q2v (show (l.l ++ [(y : Int)]).length ≤ 2147483648 by rw [List.length_append, List.length_singleton]; omega), qa8 (show i < 9223372036854775807 by omega)])).trans h1, h2⟩
 obtain ⟨l2, h1, h2⟩ := main k 0 .nil (by omega) rfl
 have h1 : q0e (q0u t r (s : Int) (h : Int)) (0, Sl.nil) = _ := h1
 exact ⟨l2, by simp only [q3e, q7c hS, decide_eq_true hV, Option.bind_some, q7p hV hh hs, cond_false, h1], h2⟩
theorem qil (hS : q65 t r) (hV : RValid t r) (hh : h < t.Hosts.l.length) {s : Nat} (hs : s < r.l.length) (hno : ∀ k, ¬ Away t r h s k) : ∃ e, q3e t r (s : Int) (h : Int) = some (.nil, e) ∧ e ≠ 0 := by
 have hsm := hV.small
 have hlen := hV.len
 have hfalse : ∀ m, (q44 t r h m s).2 = false := fun m => by
  rw [← Bool.not_eq_true]; exact fun e => hno m (qov.1 e)
 have main : ∀ (d i : Nat) (l : Sl Int), i + d = r.l.length → l.l.length = i → q0e (q0u t r (s : Int) (h : Int)) ((i : Int), l) = some (.inl (13, .nil)) ∨ q0e (q0u t r (s : Int) (h : Int)) ((i : Int), l) = some (.inr ()) := by
  intro d
  induction d with
  | zero =>
   intro i l hi hl
   have hc : decide ((i : Int) < t.Switches) = false := by rw [decide_eq_false_iff_not]; omega
   exact .inr (q0p (by simp only [q0u, hc, cond_false]))
  | succ d ih =>
   intro i l hi hl
   have hc : decide ((i : Int) < t.Switches) = true := by rw [decide_eq_true_eq]; omega
   have hf := hfalse i
   have hst := q6n hV hh (show i < 9223372036854775807 by omega) hs
   generalize q44 t r h i s = q at hf hst
   obtain ⟨y, b⟩ := q
   obtain rfl : b = false := hf
   cases hm : y == -1 with
   | true => exact .inl (q0p (by simp only [q0u, hc, cond_true, hst, Option.bind_some, hm]))
   | false =>
    have e := q1z (f := q0u t r (s : Int) (h : Int)) (a := ((i : Int), l)) (a' := (((i + 1 : Nat) : Int), .mk (l.l ++ [y]))) (by
     simp only [q0u, hc, cond_true, hst, Option.bind_some, hm, cond_false, q2v (show (l.l ++ [y]).length ≤ 2147483648 by rw [List.length_append, List.length_singleton]; omega), qa8 (show i < 9223372036854775807 by omega)])
    rw [e]
    exact ih (i + 1) _ (by omega) (by simp [hl])
 have hst := q6n hV hh (show r.l.length < 9223372036854775807 by omega) hs
 rw [hlen] at hst
 generalize q44 t r h r.l.length s = q at hst
 obtain ⟨y, b⟩ := q
 rcases main r.l.length 0 .nil (by omega) rfl with h1 | h1
 ·have h1 : q0e (q0u t r (s : Int) (h : Int)) (0, Sl.nil) = _ := h1
  exact ⟨13, by simp only [q3e, q7c hS, decide_eq_true hV, Option.bind_some, q7p hV hh hs, cond_false, h1], by decide⟩
 ·have h1 : q0e (q0u t r (s : Int) (h : Int)) (0, Sl.nil) = _ := h1
  cases hm : y == -1 with
  | true => exact ⟨13, by simp only [q3e, q7c hS, decide_eq_true hV, Option.bind_some, q7p hV hh hs, cond_false, h1, hst, hm, cond_true], by decide⟩
  | false => exact ⟨12, by simp only [q3e, q7c hS, decide_eq_true hV, Option.bind_some, q7p hV hh hs, cond_false, h1, hst, hm], by decide⟩
end
end Go.Proofs.Ythcplpfiidlinaa.L
