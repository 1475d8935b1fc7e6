/- What is handed to the laws of tables and changes fits. Conditions: as stated. -/
import Derived.Test.YtmeemkllagjnmaaBF3
open Go.Ev Go
namespace Go.Proofs.Ytmeemkllagjnmaa.B
theorem qpg {x : api_Rule} (h : fitT y0 x) : RFit x ∧ (api_Rule.Acts x).l.length < 9223372036854775808 := by
 have h2 : fitT (.sl y0) (Sl.mk [x]) := ⟨(by decide : (1 : Nat) ≤ 2 ^ 63 - 1), fun y hy => by rw [List.mem_singleton.1 hy]; exact h⟩
 obtain ⟨_, h3, h4⟩ := qbr h2
 exact ⟨h4 x (List.mem_singleton.2 rfl), h3 x (List.mem_singleton.2 rfl)⟩
end Go.Proofs.Ytmeemkllagjnmaa.B
