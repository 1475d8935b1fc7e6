/- The law TableTells over its program. Conditions: as stated. -/
import Derived.Test.YtmeemkllagjnmaaBE
import Derived.Test.YtmeemkllagjnmaaBF1
open Go.Ev Go
namespace Go.Proofs.Ytmeemkllagjnmaa.B
theorem sent_run {t : List api_Rule} {p : Arr 4 Int} {q : api_Rule → Bool} (ha : ∀ x ∈ t, (api_Rule.Acts x).l.length ≤ 16) : ∃ s, sends (t.find? q) p = some s ∧ ref09_Sent s s = some true := by
 cases h : t.find? q with
 | none => exact ⟨Sl.nil, rfl, sent_refl _ (by decide)⟩
 | some x =>
  obtain ⟨s, h1, h2⟩ := run_some (api_Rule.Acts x) p (by have := ha x (List.mem_of_find?_eq_some h); omega)
  exact ⟨s, h1, sent_refl _ (by omega)⟩
theorem tells_law (t : Sl api_Rule) (ports room port : Int) (p : Arr 4 Int) (hn : t.l.length < 9223372036854775808) (ha : ∀ x ∈ t.l, (api_Rule.Acts x).l.length < 9223372036854775808) (hf : ∀ x ∈ t.l, RFit x) :
  law11_TableTells t ports room port p = some true := by
 unfold law11_TableTells
 rw [small_ok t hn]
 simp only [Option.bind_some]
 by_cases hs : Small t.l
 case neg => rw [tt_f hs, law11_awake_runs]; rfl
 rw [tt_t hs, Bool.not_true, cond_false, ref11_right t ports room hn ha, table_right t ports room hn hf, table_same_refl t hn ha]
 simp only [Option.bind_some]
 rw [beq_self_eq_true, Bool.not_true, cond_false]
 simp only [Option.bind_some, cond_false]
 by_cases hT : TOk t.l ports room
 case neg => rw [tt_f hT, law11_awake_runs]; rfl
 rw [tt_t hT, Bool.not_true, cond_false, ref07_right]
 simp only [Option.bind_some]
 by_cases hp : POk p
 case neg => rw [tt_f hp, law11_awake_runs]; rfl
 have hm : ∀ x ∈ t.l, MOk (api_Rule.M x) := fun x hx => (hT.r x hx).m
 rw [tt_t hp, Bool.not_true, cond_false, table_find hn hm hp, ref11_find hn hm hp, table_run hn hm hp, ref11_run hn hm hp]
 simp only [Option.bind_some]
 rw [beq_self_eq_true, cond_true]
 obtain ⟨s, h1, h2⟩ := sent_run (t := t.l) (p := p) (q := fun x => tt (Hit (api_Rule.M x) port p)) fun x hx => (hT.r x hx).a.1
 rw [h1]
 simp only [Option.bind_some]
 rw [h2, law11_awake_runs]; rfl
end Go.Proofs.Ytmeemkllagjnmaa.B
