/- The law PlanApart, of what the programs compute. Conditions: lengths as stated. -/
import Derived.Test.YtjdfgncibpbgdaaLX
import Derived.Test.YtjdfgncibpbgdaaLu
open Go.Ev Go
namespace Go.Proofs.Ytjdfgncibpbgdaa.L
section
variable {t : api_Topo} {old now : Sl (Sl Int)}
theorem qom {i j : Nat} {g : Int} (h : i ≤ j) (hg : 0 < g) : (i : Int) * g ≤ (j : Int) * g := Int.mul_le_mul_of_nonneg_right (by omega) (by omega)
theorem qsg {ms : List level_Move} {first gap : Int} {R : List plan_Round} (h : Rds ms first gap R) {i : Nat} (hi : i < R.length) : 0 < (gt R i).2.2.l.length := by
 have hm : (gt R i).1 ∈ R.map fun x => x.1 := List.mem_map.2 ⟨gt R i, by rw [gt_eq hi]; exact List.getElem_mem _, rfl⟩
 obtain ⟨m, h1, h2⟩ := (h.mem _).1 hm
 exact List.length_pos_iff.2 (List.ne_nil_of_mem (((h.sws i hi).mem _).2 ⟨m, h1, h2, rfl⟩))
theorem no_lt {ms : List level_Move} {first gap : Int} {R : List plan_Round} (h : Rds ms first gap R) {i : Nat} (hi : i + 1 < R.length) : (gt R i).1 < (gt R (i + 1)).1 := by
 have := List.pairwise_iff_getElem.1 h.asc i (i + 1) (by simp; omega) (by simpa using hi) (by omega)
 rw [gt_eq (by omega), gt_eq hi]
 simpa using this
theorem qez (p : plan_Plan) (x : Int) : q18 p x = some (decide (p.From ≤ x ∧ x ≤ p.To)) := by
 unfold q18
 congr 1
 rw [Bool.eq_iff_iff, decide_eq_true_eq]
 simp only [Bool.and_eq_true, decide_eq_true_eq]
theorem qkp (hN : GoodP t now) {at' miss lead : Int} (hI : In at' miss lead) {s : Sl level_Move} {R : Sl plan_Round} (hR : Rds (msOf t old now) (q1u t at' miss lead) (gapF t miss) R.l) (hp : 0 < R.l.length) :
  loopO (q1n miss (s, R, miss, lifeF t, at' + lead + 1, lastF t at' miss lead R.l.length)) 0 = some (.inr ()) := by
 have hV := hN.1.topo
 have h8 := hR.len hN
 have hlf := q6z hV
 obtain ⟨g1, g2⟩ := qja hV hI
 have hI2 := hI
 unfold In at hI2
 have hla : lastF t at' miss lead R.l.length = q1u t at' miss lead + ((R.l.length - 1 : Nat) : Int) * gapF t miss + miss := rfl
 have hfi : q1u t at' miss lead = at' + lead + miss + lifeF t + 1 := rfl
 have hga : gapF t miss = 2 * miss + lifeF t + 1 := rfl
 have h1 := scanE (f := q1n miss (s, R, miss, lifeF t, at' + lead + 1, lastF t at' miss lead R.l.length)) (β := Bool) (γ := Unit) R.l (fun _ _ => none) () (by omega) (fun i hi => by
  have ht := hR.time i hi
  have htl := qay hV hI (show i ≤ 8 by omega)
  have hmm := qom (show i ≤ R.l.length - 1 by omega) g1
  have hnn : 0 ≤ (i : Int) * gapF t miss := Int.mul_nonneg (by omega) (by omega)
  have htE := qay hV hI (show R.l.length - 1 ≤ 8 by omega)
  have hprev : (bif decide ((i : Int) > 0) then ((ixI (wr .i64 ((i : Int) - 1)) R.l.length).bind fun n15 =>
    bif decide (wr .i64 ((gt R.l i).At - miss) ≤ wr .i64 (wr .i64 ((gt R.l n15).At + miss) + lifeF t)) then some true else
    ((ixI (wr .i64 ((i : Int) - 1)) R.l.length).bind fun n16 => some (decide ((gt R.l i).No ≤ (gt R.l n16).No)))) else some false : Option Bool) = some false := by
   by_cases h0 : i = 0
   ·subst h0; rfl
   ·obtain ⟨j, rfl⟩ : ∃ j, i = j + 1 := ⟨i - 1, by omega⟩
    have htj := hR.time j (by omega)
    have htjl := qay hV hI (show j ≤ 8 by omega)
    have em : ((j + 1 : Nat) : Int) * gapF t miss = (j : Int) * gapF t miss + gapF t miss := by rw [show ((j + 1 : Nat) : Int) = (j : Int) + 1 by omega, Int.add_mul, Int.one_mul]
    have hno := no_lt hR hi
    have hw : wr .i64 (((j + 1 : Nat) : Int) - 1) = (j : Int) := by rw [wr_id (by omega) (by omega)]; omega
    have hc1 : decide (wr .i64 ((gt R.l (j + 1)).2.1 - miss) ≤ wr .i64 (wr .i64 ((gt R.l j).2.1 + miss) + lifeF t)) = false := by
     rw [ht, htj, em, wr_id (by omega) (by omega), wr_id (n := q1u t at' miss lead + (j : Int) * gapF t miss + miss) (by omega) (by omega), wr_id (by omega) (by omega), decide_eq_false_iff_not]
     omega
    have hc2 : decide ((gt R.l (j + 1)).1 ≤ (gt R.l j).1) = false := by rw [decide_eq_false_iff_not]; omega
    rw [decide_eq_true (show ((j + 1 : Nat) : Int) > 0 by omega), cond_true, hw, q0e (show j < R.l.length by omega), Option.bind_some]
    show (bif decide (wr .i64 ((gt R.l (j + 1)).2.1 - miss) ≤ wr .i64 (wr .i64 ((gt R.l j).2.1 + miss) + lifeF t)) then some true else ((some j).bind fun n16 => some (decide ((gt R.l (j + 1)).1 ≤ (gt R.l n16).1)))) = some false
    rw [hc1, cond_false, Option.bind_some, hc2]
  have hg1 : decide (at' + lead + 1 ≤ wr .i64 (wr .i64 ((gt R.l i).2.1 - miss) - lifeF t) ∧ wr .i64 (wr .i64 ((gt R.l i).2.1 - miss) - lifeF t) ≤ lastF t at' miss lead R.l.length) = true := by
   rw [ht, wr_id (n := q1u t at' miss lead + (i : Int) * gapF t miss - miss) (by omega) (by omega), wr_id (by omega) (by omega), decide_eq_true_eq, hla]
   omega
  have hg2 : decide (at' + lead + 1 ≤ wr .i64 ((gt R.l i).2.1 + miss) ∧ wr .i64 ((gt R.l i).2.1 + miss) ≤ lastF t at' miss lead R.l.length) = true := by
   rw [ht, wr_id (by omega) (by omega), decide_eq_true_eq, hla]
   omega
  have hsw : (((gt R.l i).2.2.l.length : Int) == 0) = false := by
   have := qsg hR hi
   rw [beq_eq_false_iff_ne]; omega
  simp only [q1n, lt_t hi, cond_true, q0e hi, Option.bind_some, qez]
  rw [hprev]
  simp only [Option.bind_some, cond_false, hg1, hg2, hsw, Bool.not_true, Bool.or_self]) (by simp only [q1n, lt_f, cond_false])
 have h2 : scan (β := Bool) (fun (_ : Nat) (_ : plan_Round) => none) R.l 0 = none := q4s.2 fun _ _ _ => rfl
 rw [h2] at h1
 exact h1
theorem qm0 (t : api_Topo) (old now : Sl (Sl Int)) (at' miss lead : Int) (ho : old.l.length < 9223372036854775808) (hn : now.l.length < 9223372036854775808) : q4i t old now at' miss lead = some true := by
 unfold q4i
 rw [qcl ho]
 by_cases hS1 : Small t old
 rotate_left
 ·rw [decide_eq_false hS1]; simp only [Option.bind_some, Bool.not_false, cond_true, q1k]
 rw [decide_eq_true hS1, qcl hn]
 by_cases hS2 : Small t now
 rotate_left
 ·rw [decide_eq_false hS2]; simp only [Option.bind_some, Bool.not_true, cond_false, Bool.not_false, cond_true, q1k]
 rw [decide_eq_true hS2]
 simp only [Option.bind_some, Bool.not_true, cond_false]
 have hnil : (((plan_Plan.Rounds q98).l.length : Int) == 0) = true := rfl
 by_cases hG : In at' miss lead ∧ GoodP t old ∧ GoodP t now
 rotate_left
 ·rw [qow hS1 hS2 hG]
  simp only [Option.bind_some, show ((2 : Int) != 0) = true from rfl, cond_true, hnil, q1k]
 obtain ⟨hI, hO, hN⟩ := hG
 obtain ⟨p, e, h1, h2⟩ := qmi hO hN hI
 rw [h1]
 by_cases hz : msOf t old now = []
 ·obtain ⟨rfl, rfl⟩ := h2.none hz
  simp only [Option.bind_some, show ((7 : Int) != 0) = true from rfl, cond_true, hnil, q1k]
 obtain ⟨s, R, _, hR, hp, ⟨_, rfl, rfl⟩ | ⟨hle, rfl, rfl⟩⟩ := h2.over hz
 ·simp only [Option.bind_some, show ((11 : Int) != 0) = true from rfl, cond_true, hnil, q1k]
 have hV := hN.1.topo
 have hlf := q6z hV
 have hI2 := hI
 unfold In at hI2
 have h0 : ((R.l.length : Int) == 0) = false := by rw [beq_eq_false_iff_ne]; omega
 have ht := hR.time 0 hp
 have hfi : q1u t at' miss lead = at' + lead + miss + lifeF t + 1 := rfl
 have hla : lastF t at' miss lead R.l.length = q1u t at' miss lead + ((R.l.length - 1 : Nat) : Int) * gapF t miss + miss := rfl
 have hnn : 0 ≤ ((R.l.length - 1 : Nat) : Int) * gapF t miss := Int.mul_nonneg (by omega) (by have := qja hV hI; omega)
 have hc : decide (wr .i64 ((gt R.l 0).2.1 - miss) ≤ wr .i64 (wr .i64 (at' + lead) + lifeF t)) = false := by
  rw [ht, wr_id (n := at' + lead) (by omega) (by omega), wr_id (n := at' + lead + lifeF t) (by omega) (by omega), wr_id (by omega) (by omega), decide_eq_false_iff_not]
  omega
 have hb : (bif ((R.l.length : Int) == 0) then some true else ((q2r t).bind fun r9 => bif ((lifeF t != r9) || false) then some true else ((ixI 0 R.l.length).bind fun n10 => some (decide (wr .i64 ((gt R.l n10).2.1 - miss) ≤ wr .i64 (wr .i64 (at' + lead) + lifeF t))))) : Option Bool) = some false := by
  have h00 : ixI 0 R.l.length = some 0 := q0e hp
  rw [h0, cond_false, qee hV, Option.bind_some, bne_self_eq_false, Bool.or_self, cond_false, h00, Option.bind_some, hc]
 have hf1 : decide (at' + lead + 1 ≤ wr .i64 (at' + lead + 1 - 1) ∧ wr .i64 (at' + lead + 1 - 1) ≤ lastF t at' miss lead R.l.length) = false := by
  rw [wr_id (by omega) (by omega), decide_eq_false_iff_not]; omega
 have hf2 : decide (at' + lead + 1 ≤ wr .i64 (lastF t at' miss lead R.l.length + 1) ∧ wr .i64 (lastF t at' miss lead R.l.length + 1) ≤ lastF t at' miss lead R.l.length) = false := by
  rw [wr_id (by omega) (by omega), decide_eq_false_iff_not]; omega
 have hf3 : decide (at' + lead + 1 > at') = true := by rw [decide_eq_true_eq]; omega
 simp only [Option.bind_some, bne_self_eq_false, cond_false]
 show ((bif ((R.l.length : Int) == 0) then some true else ((q2r t).bind fun r9 => bif ((lifeF t != r9) || false) then some true else ((ixI 0 R.l.length).bind fun n10 => some (decide (wr .i64 ((gt R.l n10).2.1 - miss) ≤ wr .i64 (wr .i64 (at' + lead) + lifeF t))))) : Option Bool).bind _) = _
 rw [hb]
 simp only [Option.bind_some, cond_false, qkp hN hI hR hp, qez, hf1, hf2, hf3, Bool.not_false, cond_true, Bool.and_self, q1k]
end
end Go.Proofs.Ytjdfgncibpbgdaa.L
