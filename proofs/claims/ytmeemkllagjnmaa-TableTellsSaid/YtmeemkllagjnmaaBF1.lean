/- The law TableFirst over its program. Conditions: as stated. -/
import Derived.Test.YtmeemkllagjnmaaBD
import Derived.Test.YtmeemkllagjnmaaBG
import Derived.Test.YtmeemkllagjnmaaBt
open Go.Ev Go
namespace Go.Proofs.Ytmeemkllagjnmaa.B
def Small (t : List api_Rule) : Prop := t.length ≤ 20 ∧ ∀ x ∈ t, (api_Rule.Acts x).l.length ≤ 10
theorem small_ok (t : Sl api_Rule) (hn : t.l.length < 9223372036854775808) : law11_small t = some (tt (Small t.l)) := by
 unfold law11_small
 rw [allL (f := law11_small_L1 t) t.l.length hn (fun i => (api_Rule.Acts (gt t.l i)).l.length ≤ 10) () (fun i hi => ?_) (by simp only [law11_small_L1]; rw [decide_eq_false (by omega), cond_false])]
 ·rw [tt_congr (all_gt (P := fun x => (api_Rule.Acts x).l.length ≤ 10))]
  by_cases h : ∀ x ∈ t.l, (api_Rule.Acts x).l.length ≤ 10
  ·rw [tt_t h]
   simp only [cond_true, Option.bind_some]
   rw [tt_dec]
   exact congrArg some (tt_congr ⟨fun h2 => ⟨by omega, h⟩, fun h2 => by have := h2.1; omega⟩)
  ·rw [tt_f h, tt_f fun h2 => h h2.2]; rfl
 ·simp only [law11_small_L1]
  rw [decide_eq_true (by omega), cond_true, ixI_of hi]
  simp only [Option.bind_some]
  by_cases h : (api_Rule.Acts (gt t.l i)).l.length ≤ 10
  ·rw [decide_eq_false (by omega), tt_t h]; rfl
  ·rw [decide_eq_true (by omega), tt_f h]; rfl
end Go.Proofs.Ytmeemkllagjnmaa.B
