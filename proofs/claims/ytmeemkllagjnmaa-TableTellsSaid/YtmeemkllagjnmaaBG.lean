/- What is handed to the laws of tables fits. Conditions: as stated. -/
import Derived.Test.YtmeemkllagjnmaaBD
import Derived.Test.YtmeemkllagjnmaaKm
open Go.Ev Go
namespace Go.Proofs.Ytmeemkllagjnmaa.B
theorem fitc {a : Ty} {r : List Ty} {v : El a} {m l : List V} (h : FitL (a :: r) l) (e : l = .x a v :: m) : fitT a v ∧ FitL r m := by
 obtain ⟨v', m', h1, h2, h3⟩ := h
 rw [e] at h1
 obtain ⟨h4, rfl⟩ := List.cons.inj h1
 cases h4
 exact ⟨h2, h3⟩
theorem fit_len {t : Ty} {s : Sl (El t)} (h : fitT (.sl t) s) : s.l.length < 9223372036854775808 := by
 have : s.l.length ≤ 2 ^ 63 - 1 := h.1
 omega
theorem fit_rules {s : Sl api_Rule} (h : fitT (.sl y0) s) : s.l.length < 9223372036854775808 ∧ (∀ x ∈ s.l, (api_Rule.Acts x).l.length < 9223372036854775808) ∧ ∀ x ∈ s.l, RFit x := by
 have hr : ∀ x ∈ s.l, fitT y0 x := h.2
 refine ⟨fit_len h, fun x hx => ?_, fun x hx f hf => ?_⟩
 ·have : fitT (.sl y2) (api_Rule.Acts x) := (hr x hx).2.2
  exact fit_len this
 ·have h1 : ∀ v ∈ (api_Match.Val (api_Rule.M x)).1, IntKind.i64.min ≤ v ∧ v ≤ IntKind.i64.max := (hr x hx).2.1.2.1
  have h2 : f < (api_Match.Val (api_Rule.M x)).1.length := by rw [(api_Match.Val (api_Rule.M x)).2]; exact hf
  have := (h1 _ (gt_mem h2)).2
  have e : IntKind.i64.max = 9223372036854775807 := by decide
  rw [e] at this
  show gt (api_Match.Val (api_Rule.M x)).1 f < 9223372036854775808
  exact Int.lt_of_le_of_lt this (by decide)
end Go.Proofs.Ytmeemkllagjnmaa.B
