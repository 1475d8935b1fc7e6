/- The same numbers. Conditions: lengths below 2^62. -/
import Derived.Test.YtjfhiochcdjkhaaR2
import Derived.Test.YtjfhiochcdjkhaaHeapM
open Go.Ev Go
namespace Go.Proofs.Ytjfhiochcdjkhaa.R

theorem same_go (a b : Sl Int) (hab : a.l.length = b.l.length) (hb : a.l.length < 4611686018427387904) : ∀ (n i : Nat), i + n = a.l.length →
    loopO (ref13_Same_L1 a b) (i : Int) = some (if a.l.drop i = b.l.drop i then .inr () else .inl ()) := by
  intro n
  induction n with
  | zero =>
    intro i hi
    have h1 : ref13_Same_L1 a b (i : Int) = some (.inr (.inr ())) := by
      have : decide ((i : Int) < (a.l.length : Int)) = false := by rw [decide_eq_false_iff_not]; omega
      simp only [ref13_Same_L1, this, cond_false]
    rw [loopO_inr h1, List.drop_of_length_le (by omega), List.drop_of_length_le (by omega), if_pos rfl]
  | succ n ih =>
    intro i hi
    have hd : decide ((i : Int) < (a.l.length : Int)) = true := by rw [decide_eq_true_eq]; omega
    have ha : i < a.l.length := by omega
    have hb2 : i < b.l.length := by omega
    have e : a.l.drop i = b.l.drop i ↔ gt a.l i = gt b.l i ∧ a.l.drop (i + 1) = b.l.drop (i + 1) := by
      rw [List.drop_eq_getElem_cons ha, List.drop_eq_getElem_cons hb2, List.cons.injEq, gt_eq ha, gt_eq hb2]
    have hw : wr .i64 ((i : Int) + 1) = ((i + 1 : Nat) : Int) := by rw [wr_id (by omega) (by omega)]; omega
    by_cases hg : gt a.l i = gt b.l i
    · have h1 : ref13_Same_L1 a b (i : Int) = some (.inl ((i + 1 : Nat) : Int)) := by
        simp only [ref13_Same_L1, hd, cond_true, ixI_of ha, ixI_of hb2, Option.bind_some, hg, bne_self_eq_false, cond_false, hw]
      rw [loopO_inl h1, ih (i + 1) (by omega)]
      simp only [e, hg, true_and]
    · have h1 : ref13_Same_L1 a b (i : Int) = some (.inr (.inl ())) := by
        have : (gt a.l i != gt b.l i) = true := by simpa using hg
        simp only [ref13_Same_L1, hd, cond_true, ixI_of ha, ixI_of hb2, Option.bind_some, this]
      rw [loopO_inr h1]
      simp only [e, hg, false_and, if_false]

theorem same_eq (a b : Sl Int) (hb : a.l.length < 4611686018427387904) : ref13_Same a b = some (decide (a.l = b.l)) := by
  unfold ref13_Same
  by_cases h : a.l.length = b.l.length
  · have h1 : ((a.l.length : Int) != (b.l.length : Int)) = false := by rw [h]; simp
    have h2 := same_go a b h hb a.l.length 0 (by omega)
    rw [h1, cond_false]
    rw [show ((0 : Nat) : Int) = 0 from rfl] at h2
    rw [h2, Option.bind_some, List.drop_zero, List.drop_zero]
    by_cases he : a.l = b.l
    · simp only [he, if_true, decide_true]
    · simp only [he, if_false, decide_false]
  · have h1 : ((a.l.length : Int) != (b.l.length : Int)) = true := by simpa using by omega
    rw [h1, cond_true]
    have : ¬ a.l = b.l := fun e => h (by rw [e])
    simp only [this, decide_false]
end Go.Proofs.Ytjfhiochcdjkhaa.R
