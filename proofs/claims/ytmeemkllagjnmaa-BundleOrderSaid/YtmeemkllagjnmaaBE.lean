/- What tables send, and sameness. Conditions: as stated. -/
import Derived.Test.YtmeemkllagjnmaaBD
open Go.Ev Go
namespace Go.Proofs.Ytmeemkllagjnmaa.B
theorem acts_refl (a : Sl api_Act) (hn : a.l.length < 9223372036854775808) : slices_Equal_api_Act_api_Act a a = some true := by
 unfold slices_Equal_api_Act_api_Act
 rw [show ((a.l.length : Int) != (a.l.length : Int)) = false by simp, cond_false]
 rw [allL (f := slices_Equal_api_Act_api_Act_L1 a a) a.l.length hn (fun _ => True) () (fun i hi => ?_) (by simp only [slices_Equal_api_Act_api_Act_L1]; rw [decide_eq_false (by omega), cond_false]), tt_t fun _ _ => trivial]
 ·rfl
 ·rw [tt_t trivial]
  simp only [slices_Equal_api_Act_api_Act_L1]
  rw [decide_eq_true (by omega), cond_true, ixI_of hi]
  simp only [Option.bind_some]
  rw [decide_eq_true trivial]; rfl
theorem rule_same_refl (x : api_Rule) (hn : (api_Rule.Acts x).l.length < 9223372036854775808) : rule_Same x x = some true := by
 unfold rule_Same
 rw [rule_key, tt_t ⟨rfl, rfl⟩]
 simp only [Option.bind_some, cond_true, act_Same]
 rw [acts_refl _ hn]; rfl
end Go.Proofs.Ytmeemkllagjnmaa.B
