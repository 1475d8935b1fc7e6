/- The law PlanShifts, of what the programs compute. Conditions: lengths as stated. -/
import Derived.Test.YthcplpfiidlinaaLY
open Go.Ev Go
namespace Go.Proofs.Ythcplpfiidlinaa.L
theorem qvs {a b : Sl Int} (h : a.l = b.l) (hl : a.l.length < 9223372036854775808) : q9p a b = some true := by
 have h1 := qbs (f := q5i a b) (β := Bool) (γ := Unit) a.l (fun _ _ => none) () hl (fun i hi => by
  have hb : i < b.l.length := h ▸ hi
  have e : (gt a.l i != gt b.l i) = false := by rw [h]; simp
  simp only [q5i, q4n hi, cond_true, q07 hi, q07 hb, Option.bind_some, e, cond_false]) (by simp only [q5i, q77, cond_false])
 have h2 : qap (β := Bool) (fun (_ : Nat) (_ : Int) => none) a.l 0 = none := q33.2 fun _ _ _ => rfl
 rw [h2] at h1
 have hc : ((a.l.length : Int) != (b.l.length : Int)) = false := by rw [h]; simp
 simp only [q9p, hc, cond_false, h1, Option.bind_some]
section
variable {t : api_Topo} {old now : Sl (Sl Int)}
theorem q104 {ms : List level_Move} {first gap : Int} {R : List plan_Round} (h : Rds ms first gap R) {i : Nat} (hi : i < R.length) (hm : ∀ m ∈ ms, 0 ≤ m.1 ∧ m.1 < 8) : (gt R i).2.2.l.length ≤ 8 :=
 qgk (h.sws i hi).asc fun x hx => by
  obtain ⟨m, h1, _, rfl⟩ := ((h.sws i hi).mem x).1 hx
  exact hm m h1
theorem q13y (hN : GoodP t now) : ∀ m ∈ qa0 t old now, 0 ≤ m.1 ∧ m.1 < 8 := fun m hm => by
 obtain ⟨h, s, _, hs, _, rfl⟩ := qbt.1 (qna.1 hm)
 have := hN.1.small
 simp only
 omega
end
end Go.Proofs.Ythcplpfiidlinaa.L
