/- The law PlanShifts, of what the programs compute. Conditions: lengths as stated. -/
import Derived.Test.YtjdfgncibpbgdaaLY
open Go.Ev Go
namespace Go.Proofs.Ytjdfgncibpbgdaa.L
theorem qqm {a b : Sl Int} (h : a.l = b.l) (hl : a.l.length < 9223372036854775808) : q7k a b = some true := by
 have h1 := scanE (f := q43 a b) (β := Bool) (γ := Unit) a.l (fun _ _ => none) () hl (fun i hi => by
  have hb : i < b.l.length := h ▸ hi
  have e : (gt a.l i != gt b.l i) = false := by rw [h]; simp
  simp only [q43, lt_t hi, cond_true, q0c hi, q0c hb, Option.bind_some, e, cond_false]) (by simp only [q43, lt_f, cond_false])
 have h2 : scan (β := Bool) (fun (_ : Nat) (_ : Int) => none) a.l 0 = none := q2z.2 fun _ _ _ => rfl
 rw [h2] at h1
 have hc : ((a.l.length : Int) != (b.l.length : Int)) = false := by rw [h]; simp
 simp only [q7k, hc, cond_false, h1, Option.bind_some]
theorem Rds.like {ms : List level_Move} {f f' g g' : Int} {R R' : List plan_Round} (h : Rds ms f g R) (h' : Rds ms f' g' R') :
  R.length = R'.length ∧ ∀ i, i < R.length → (gt R i).1 = (gt R' i).1 ∧ (gt R i).2.2.l = (gt R' i).2.2.l := by
 have e := qr8 h.asc h'.asc fun x => (h.mem x).trans (h'.mem x).symm
 have hl : R.length = R'.length := by simpa using congrArg List.length e
 refine ⟨hl, fun i hi => ?_⟩
 have h1 : (gt R i).1 = (gt R' i).1 := by
  have := congrArg (fun l => l[i]?) e
  simp only [List.getElem?_map, List.getElem?_eq_getElem hi, List.getElem?_eq_getElem (hl ▸ hi), Option.map_some, Option.some.injEq] at this
  rw [gt_eq hi, gt_eq (hl ▸ hi)]; exact this
 refine ⟨h1, ?_⟩
 have h2 := h.sws i hi
 rw [h1] at h2
 exact h2.uniq (h'.sws i (hl ▸ hi))
section
variable {t : api_Topo} {old now : Sl (Sl Int)}
theorem qsg {ms : List level_Move} {first gap : Int} {R : List plan_Round} (h : Rds ms first gap R) {i : Nat} (hi : i < R.length) (hm : ∀ m ∈ ms, 0 ≤ m.1 ∧ m.1 < 8) : (gt R i).2.2.l.length ≤ 8 :=
 qgv (h.sws i hi).asc fun x hx => by
  obtain ⟨m, h1, _, rfl⟩ := ((h.sws i hi).mem x).1 hx
  exact hm m h1
theorem ms_sw (hN : GoodP t now) : ∀ m ∈ msOf t old now, 0 ≤ m.1 ∧ m.1 < 8 := fun m hm => by
 obtain ⟨h, s, _, hs, _, rfl⟩ := qdx.1 (qqy.1 hm)
 have := hN.1.small
 simp only
 omega
theorem qf3 (hN : GoodP t now) {a l a' l' miss by' : Int} (hI : In a miss l) (hI' : In a' miss l') (hby : a' + l' = a + l + by') {s s' : Sl level_Move} {R R' : Sl plan_Round} (hs : s.l = msOf t old now) (hs' : s'.l = msOf t old now)
  (hR : Rds (msOf t old now) (q1o t a miss l) (gapF t miss) R.l) (hR' : Rds (msOf t old now) (q1o t a' miss l') (gapF t miss) R'.l) (hp : 0 < R.l.length) :
  q4o (s, R, miss, lifeF t, a + l + 1, lastF t a miss l R.l.length) (s', R', miss, lifeF t, a' + l' + 1, lastF t a' miss l' R'.l.length) by' = some true := by
 have hV := hN.1.topo
 have h8 := hR.len hN
 have hlf := q6y hV
 have hml := qlo (old := old) hN
 have hI2 := hI
 have hI2' := hI'
 unfold In at hI2 hI2'
 obtain ⟨hlen, hel⟩ := hR.like hR'
 have hla : lastF t a miss l R.l.length = q1o t a miss l + ((R.l.length - 1 : Nat) : Int) * gapF t miss + miss := rfl
 have hla' : lastF t a' miss l' R.l.length = q1o t a' miss l' + ((R.l.length - 1 : Nat) : Int) * gapF t miss + miss := rfl
 have htE := qba hV hI (show R.l.length - 1 ≤ 8 by omega)
 have htE' := qba hV hI' (show R.l.length - 1 ≤ 8 by omega)
 have hfi : q1o t a miss l = a + l + miss + lifeF t + 1 := rfl
 have hfi' : q1o t a' miss l' = a' + l' + miss + lifeF t + 1 := rfl
 have h1 := scanE (f := q3l (s, R, miss, lifeF t, a + l + 1, lastF t a miss l R.l.length) (s', R', miss, lifeF t, a' + l' + 1, lastF t a' miss l' R'.l.length)) (β := Bool) (γ := Unit) s.l (fun _ _ => none) () (by rw [hs]; omega) (fun i hi => by
  have hi' : i < s'.l.length := by rw [hs', ← hs]; exact hi
  have he : decide (gt s.l i = gt s'.l i) = true := by rw [decide_eq_true_eq, hs, hs']
  simp only [q3l, lt_t hi, cond_true, q0c hi, q0c hi', Option.bind_some, he, Bool.not_true, cond_false]) (by simp only [q3l, lt_f, cond_false])
 have h2 : scan (β := Bool) (fun (_ : Nat) (_ : level_Move) => none) s.l 0 = none := q2z.2 fun _ _ _ => rfl
 rw [h2] at h1
 have h3 := scanE (f := q3m (s, R, miss, lifeF t, a + l + 1, lastF t a miss l R.l.length) (s', R', miss, lifeF t, a' + l' + 1, lastF t a' miss l' R'.l.length) by') (β := Bool) (γ := Unit) R.l (fun _ _ => none) () (by omega) (fun i hi => by
  have hi' : i < R'.l.length := hlen ▸ hi
  obtain ⟨e1, e2⟩ := hel i hi
  have ht := qba hV hI (show i ≤ 8 by omega)
  have c1 : ((gt R'.l i).2.1 != wr .i64 ((gt R.l i).2.1 + by')) = false := by
   rw [hR.time i hi, hR'.time i hi', bne_eq_false_iff_eq, wr_id (by omega) (by omega)]; omega
  have c2 : ((gt R'.l i).1 != (gt R.l i).1) = false := by rw [e1]; simp
  have c3 := qqm e2 (by have := qsg hR hi (ms_sw hN); omega)
  simp only [q3m, lt_t hi, cond_true, q0c hi, q0c hi', Option.bind_some, c1, c2, cond_false, c3, Bool.not_true]) (by simp only [q3m, lt_f, cond_false])
 have h4 : scan (β := Bool) (fun (_ : Nat) (_ : plan_Round) => none) R.l 0 = none := q2z.2 fun _ _ _ => rfl
 rw [h4] at h3
 have d1 : ((s.l.length : Int) != (s'.l.length : Int)) = false := by rw [hs, hs']; simp
 have d2 : ((R.l.length : Int) != (R'.l.length : Int)) = false := by rw [hlen]; simp
 have d3 : (a' + l' + 1 != wr .i64 (a + l + 1 + by')) = false := by rw [bne_eq_false_iff_eq, wr_id (by omega) (by omega)]; omega
 have d4 : (lastF t a' miss l' R'.l.length != wr .i64 (lastF t a miss l R.l.length + by')) = false := by rw [bne_eq_false_iff_eq, ← hlen, wr_id (by omega) (by omega)]; omega
 simp only [q4o, d1, d2, d3, d4, bne_self_eq_false, Bool.or_self, cond_false, h1, h3, Option.bind_some]
theorem qkn (t : api_Topo) (old now : Sl (Sl Int)) (at' miss lead by' : Int) (ho : old.l.length < 9223372036854775808) (hn : now.l.length < 9223372036854775808) : q40 t old now at' miss lead by' = some true := by
 unfold q40
 rw [qcj ho]
 by_cases hS1 : Small t old
 rotate_left
 ·rw [decide_eq_false hS1]; simp only [Option.bind_some, Bool.not_false, cond_true, q1i]
 rw [decide_eq_true hS1, qcj hn]
 by_cases hS2 : Small t now
 rotate_left
 ·rw [decide_eq_false hS2]; simp only [Option.bind_some, Bool.not_true, cond_false, Bool.not_false, Bool.true_or, cond_true, q1i]
 rw [decide_eq_true hS2]
 by_cases hr : (0 ≤ at' ∧ at' ≤ 549755813888) ∧ (0 ≤ by' ∧ by' ≤ 524288) ∧ (0 ≤ lead ∧ lead ≤ 524288)
 rotate_left
 ·have hc : (((((((!true) || (decide (at' < 0))) || (decide (at' > 549755813888))) || (decide (by' < 0))) || (decide (by' > 524288))) || (decide (lead < 0))) || (decide (lead > 524288))) = true := by
   simp only [Bool.not_true, Bool.false_or, Bool.or_eq_true, decide_eq_true_eq]; omega
  simp only [Option.bind_some, Bool.not_true, cond_false]
  simp only [Bool.not_true] at hc
  rw [hc]
  simp only [cond_true, q1i, Option.bind_some]
 have hc : (((((((!true) || (decide (at' < 0))) || (decide (at' > 549755813888))) || (decide (by' < 0))) || (decide (by' > 524288))) || (decide (lead < 0))) || (decide (lead > 524288))) = false := by
  simp only [Bool.not_true, Bool.false_or, Bool.or_eq_false_iff, decide_eq_false_iff_not]; omega
 have w1 : wr .i64 (at' + by') = at' + by' := wr_id (by omega) (by omega)
 have w2 : wr .i64 (lead + by') = lead + by' := wr_id (by omega) (by omega)
 simp only [Option.bind_some, Bool.not_true, cond_false]
 simp only [Bool.not_true] at hc
 rw [hc]
 simp only [cond_false, w1, w2]
 by_cases hG : In at' miss lead ∧ GoodP t old ∧ GoodP t now
 rotate_left
 ·have hG2 : ¬ (In (at' + by') miss lead ∧ GoodP t old ∧ GoodP t now) := fun h => hG ⟨by have := h.1; unfold In at *; omega, h.2⟩
  have hG3 : ¬ (In at' miss (lead + by') ∧ GoodP t old ∧ GoodP t now) := fun h => hG ⟨by have := h.1; unfold In at *; omega, h.2⟩
  rw [qdd hS1 hS2 hG, qdd hS1 hS2 hG2, qdd hS1 hS2 hG3]
  simp only [Option.bind_some, bne_self_eq_false, Bool.or_self, cond_false, show ((2 : Int) != 0) = true from rfl, cond_true, q1i]
 obtain ⟨hI, hO, hN⟩ := hG
 have hI1 : In (at' + by') miss lead := by unfold In at *; omega
 have hI3 : In at' miss (lead + by') := by unfold In at *; omega
 obtain ⟨p, e, h1, h2⟩ := qc1 hO hN hI
 obtain ⟨q, f, h3, h4⟩ := qc1 hO hN hI1
 obtain ⟨u, g, h5, h6⟩ := qc1 hO hN hI3
 rw [h1, h3, h5]
 by_cases hz : msOf t old now = []
 ·obtain ⟨rfl, rfl⟩ := h2.none hz
  obtain ⟨rfl, rfl⟩ := h4.none hz
  obtain ⟨rfl, rfl⟩ := h6.none hz
  simp only [Option.bind_some, bne_self_eq_false, Bool.or_self, cond_false, show ((7 : Int) != 0) = true from rfl, cond_true, q1i]
 have hV := hN.1.topo
 have hlf := q6y hV
 have small : ∀ (a l : Int), 0 ≤ a ∧ a ≤ 600000000000 → In a miss l → ∀ n, n ≤ 8 → ¬ lastF t a miss l n > 1099511627776 := fun a l ha hI n hn => by
  have hla : lastF t a miss l n = q1o t a miss l + ((n - 1 : Nat) : Int) * gapF t miss + miss := rfl
  have hfi : q1o t a miss l = a + l + miss + lifeF t + 1 := rfl
  obtain ⟨g1, g2⟩ := ql8 hV hI
  have h3 := qir g1 g2 (show n - 1 ≤ 8 by omega) (show 8 ≤ 64 by omega)
  unfold In at hI
  omega
 obtain ⟨s, R, hs, hR, hp, ⟨ho1, _⟩ | ⟨_, rfl, rfl⟩⟩ := h2.over hz
 ·exact absurd ho1 (small _ _ (by omega) hI _ (hR.len hN))
 obtain ⟨s', R', hs', hR', hp', ⟨ho1, _⟩ | ⟨_, rfl, rfl⟩⟩ := h4.over hz
 ·exact absurd ho1 (small _ _ (by omega) hI1 _ (hR'.len hN))
 obtain ⟨s'', R'', hs'', hR'', hp'', ⟨ho1, _⟩ | ⟨_, rfl, rfl⟩⟩ := h6.over hz
 ·exact absurd ho1 (small _ _ (by omega) hI3 _ (hR''.len hN))
 have k1 := qf3 hN hI hI1 (by' := by') (by omega) hs hs' hR hR' hp
 have k2 := qf3 hN hI hI3 (by' := by') (by omega) hs hs'' hR hR'' hp
 simp only [Option.bind_some, bne_self_eq_false, Bool.or_self, cond_false, k1, k2, cond_true, q1i]
end
end Go.Proofs.Ytjdfgncibpbgdaa.L
