/- The law TableTells over its program. Conditions: as stated. -/
import Derived.Test.YtmeemkllagjnmaaBE
import Derived.Test.YtmeemkllagjnmaaBF1
open Go.Ev Go
namespace Go.Proofs.Ytmeemkllagjnmaa.B
theorem sent_run {t : List api_Rule} {p : Arr 4 Int} {q : api_Rule → Bool} (ha : ∀ x ∈ t, (api_Rule.Acts x).l.length ≤ 16) : ∃ s, sends (t.find? q) p = some s ∧ ref09_Sent s s = some true := by
 cases h : t.find? q with
 | none => exact ⟨Sl.nil, rfl, sent_refl _ (by decide)⟩
 | some x =>
  obtain ⟨s, h1, h2⟩ := run_some (api_Rule.Acts x) p (by have := ha x (List.mem_of_find?_eq_some h); omega)
  exact ⟨s, h1, sent_refl _ (by omega)⟩
end Go.Proofs.Ytmeemkllagjnmaa.B
