/- The library's sorts of at most one, and Compact. Conditions: none. -/
import Derived.Test.YthcplpfiidlinaaL
import Derived.Test.YthcplpfiidlinaaTwin
open Go.Ev Go
namespace Go.Proofs.Ythcplpfiidlinaa.L
def qch {α : Type} (s : Sl α) : Option (Sl α) := bif Nat.ble s.l.length 1 then some s else none
theorem qhj {α : Type} {s z : Sl α} (h : qch s = some z) : s = z ∧ s.l.length ≤ 1 := by
 unfold qch at h
 cases hc : Nat.ble s.l.length 1 with
 | false => rw [hc] at h; simp at h
 | true => rw [hc] at h; exact ⟨by simpa using h, by simpa using hc⟩
theorem qg1 {α : Type} {a b : List α} (h : a.Perm b) (hl : b.length ≤ 1) : a = b := by
 cases b with
 | nil => exact List.perm_nil.1 h
 | cons x b => cases b with
  | nil => exact List.perm_singleton.1 h
  | cons _ _ => simp at hl
theorem qyk {α : Type} (s : Sl α) : s.to s.l = s := by cases s <;> rfl
theorem qwa {s : Sl level_Move} : OLe (qch s) (qb0 q3r s) := by
 intro z h
 obtain ⟨rfl, hl⟩ := qhj h
 have e := (q4q s.l.toArray).1
 have e2 : (q3r s.l.toArray).toList = s.l := by
  refine qg1 ?_ hl
  have := e.2.2
  have h1 := e.1
  have h2 : (q3r s.l.toArray).size = s.l.length := by simpa using h1
  simp only [List.size_toArray, Array.toList_extract, List.extract_eq_take_drop, Nat.sub_zero, List.drop_zero, List.take_length] at this
  rwa [← h2, ← Array.length_toList, List.take_length] at this
 unfold qb0
 rw [show Nat.blt s.l.length 4611686018427387904 = true by rw [Nat.blt_eq]; omega, e2, qyk]; rfl
theorem qzg {s : Sl Int} : OLe (qch s) (qb0 qf4 s) := by
 intro z h
 obtain ⟨rfl, hl⟩ := qhj h
 have e2 : (qf4 s.l.toArray).toList = s.l := by
  refine qg1 ?_ hl
  exact List.mergeSort_perm _ _
 unfold qb0
 rw [show Nat.blt s.l.length 4611686018427387904 = true by rw [Nat.blt_eq]; omega, e2, qyk]; rfl
theorem qy1 {s : Sl Int} : OLe (qch s) (qyd qbg s) := by
 intro z h
 obtain ⟨rfl, hl⟩ := qhj h
 have e2 : qbg s.l = s.l := by
  generalize s.l = l at hl
  cases l with
  | nil => rfl
  | cons x l => cases l with
   | nil => rfl
   | cons _ _ => simp at hl
 unfold qyd
 rw [show Nat.blt s.l.length 4611686018427387904 = true by rw [Nat.blt_eq]; omega, e2, qyk]; rfl
end Go.Proofs.Ythcplpfiidlinaa.L
