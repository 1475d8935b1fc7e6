/- Lists of changes of tables; sameness of tables. Conditions: as stated. -/
import Derived.Test.YtmeemkllagjnmaaBK
open Go.Ev Go
namespace Go.Proofs.Ytmeemkllagjnmaa.B
theorem ref09_same_refl (a b : Sl api_Act) (e : a.l = b.l) (hn : a.l.length < 9223372036854775808) : ref09_Same a b = some true := by
 unfold ref09_Same
 rw [show ((a.l.length : Int) != (b.l.length : Int)) = false by rw [e]; simp, cond_false]
 rw [allL (f := ref09_Same_L1 a b) a.l.length hn (fun _ => True) () (fun i hi => ?_) (by simp only [ref09_Same_L1]; rw [decide_eq_false (by omega), cond_false]), tt_t fun _ _ => trivial]
 ·rfl
 ·rw [tt_t trivial]
  simp only [ref09_Same_L1]
  rw [decide_eq_true (by omega), cond_true, ← e, ixI_of hi]
  simp only [Option.bind_some]
  rw [decide_eq_true trivial]; rfl
theorem ref10_same_refl (x : api_Rule) (hn : (api_Rule.Acts x).l.length < 9223372036854775808) : ref10_Same x x = some true := by
 unfold ref10_Same
 rw [ref09_same_refl _ _ rfl hn, show (((api_Rule.Prio x) == (api_Rule.Prio x)) && (decide ((api_Rule.M x) = (api_Rule.M x)))) = true by simp]; rfl
theorem ref10_rules_eq (a b : Sl api_Rule) (e : a.l = b.l) (hn : a.l.length < 9223372036854775808) (ha : ∀ x ∈ a.l, (api_Rule.Acts x).l.length < 9223372036854775808) : ref10_Rules a b = some true := by
 unfold ref10_Rules
 rw [show ((a.l.length : Int) != (b.l.length : Int)) = false by rw [e]; simp, cond_false]
 rw [allL (f := ref10_Rules_L1 a b) a.l.length hn (fun _ => True) () (fun i hi => ?_) (by simp only [ref10_Rules_L1]; rw [decide_eq_false (by omega), cond_false]), tt_t fun _ _ => trivial]
 ·rfl
 ·rw [tt_t trivial]
  simp only [ref10_Rules_L1]
  rw [decide_eq_true (by omega), cond_true, ← e, ixI_of hi]
  simp only [Option.bind_some]
  rw [ref10_same_refl _ (ha _ (gt_mem hi))]; rfl
end Go.Proofs.Ytmeemkllagjnmaa.B
