/- The law BundleOrder over its program. Conditions: as stated. -/
import Derived.Test.YtmeemkllagjnmaaBN
import Derived.Test.YtmeemkllagjnmaaBu
open Go.Ev Go
namespace Go.Proofs.Ytmeemkllagjnmaa.B
theorem qnb {α : Type} [Inhabited α] {n : Nat} (v : Arr n α) {k j : Nat} (x : α) (hk : k < n) : gt (Arr.set v k x).1 j = if k = j then x else gt v.1 j := qnf (by rw [v.2]; exact hk)
abbrev bhas (b : bundle_Bundle) (j : Nat) : Bool := gt (bundle_Bundle.has b).1 j
abbrev bl (b : bundle_Bundle) (j : Nat) : api_Mod := gt (bundle_Bundle.l b).1 j
theorem qsm : ∀ j, j < 16 → gt (zeE (.ar 16 .b) : Arr 16 Bool).1 j = false := by decide
theorem qpb {b : bundle_Bundle} {L : List api_Mod} (hn : L.length ≤ 16) (hst : bundle_Bundle.state b = 1) (hb : bundle_Bundle.n b = L.length) (h : ∀ j, j < L.length → bl b j = gt L j) :
  ∃ s, q0q b = some (s, b) ∧ s.l = L := by
 have hl : ∃ s, loopO (q0v b) (((0 : Nat) : Int), Sl.nil) = some s ∧ s.l = L := by
  refine forI (fun i (s : Sl api_Mod) => (((i : Nat) : Int), s)) L.length (fun i s => s.l = L.take i) _ (fun i s hi hI => .inl ?_) (fun s hI => ⟨s, ?_, by rw [hI, List.take_length]⟩) 0 Sl.nil (by omega) rfl
  ·simp only [q0v]
   rw [decide_eq_true (show (i : Int) < bundle_Bundle.n b by rw [hb]; omega), cond_true, q0y (show i < 16 by omega), wrS (by omega)]
   simp only [Option.bind_some]
   rw [q37 (n := i) (by rw [hI, List.length_take]; omega) (by omega)]
   refine ⟨_, rfl, ?_⟩
   show s.l ++ [bl b i] = _
   rw [hI, h i hi, q4h hi]
  ·simp only [q0v]
   rw [decide_eq_false (show ¬ (L.length : Int) < bundle_Bundle.n b by rw [hb]; omega), cond_false]
 obtain ⟨s, h1, h2⟩ := hl
 refine ⟨s, ?_, h2⟩
 unfold q0q
 simp only [q01, Option.bind_some]
 rw [hst, show ((1 : Int) != 1) = false from rfl, cond_false]
 have h1 : loopO (q0v b) (0, Sl.nil) = some s := h1
 rw [h1]; rfl
end Go.Proofs.Ytmeemkllagjnmaa.B
