/- Matches: what two have in common, which lies within which; rules that overlap. Conditions: as stated. -/
import Derived.Test.YtmeemkllagjnmaaBB
open Go.Ev Go
namespace Go.Proofs.Ytmeemkllagjnmaa.B
theorem forI {S σ β : Type} {f : S → Option (Sum S β)} (st : Nat → σ → S) (n : Nat) (I : Nat → σ → Prop) (R : β → Prop)
  (hstep : ∀ i s, i < n → I i s → (∃ s', f (st i s) = some (.inl (st (i + 1) s')) ∧ I (i + 1) s') ∨ (∃ b, f (st i s) = some (.inr b) ∧ R b))
  (hend : ∀ s, I n s → ∃ b, f (st n s) = some (.inr b) ∧ R b) : ∀ i s, i ≤ n → I i s → ∃ b, loopO f (st i s) = some b ∧ R b := by
 have : ∀ (k i : Nat) (s : σ), i + k = n → I i s → ∃ b, loopO f (st i s) = some b ∧ R b := by
  intro k
  induction k with
  | zero =>
   intro i s hi hI
   obtain rfl : i = n := by omega
   obtain ⟨b, h1, h2⟩ := hend s hI
   exact ⟨b, loopO_inr h1, h2⟩
  | succ k ih =>
   intro i s hi hI
   rcases hstep i s (by omega) hI with ⟨s', h1, h2⟩ | ⟨b, h1, h2⟩
   ·obtain ⟨b, h4, h5⟩ := ih (i + 1) s' (by omega) h2
    exact ⟨b, (loopO_inl h1).trans h4, h5⟩
   ·exact ⟨b, loopO_inr h1, h2⟩
 exact fun i s hi => this (n - i) i s (by omega)
end Go.Proofs.Ytmeemkllagjnmaa.B
