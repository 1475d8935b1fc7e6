/- Plans: what the program's Make answers. Conditions: as stated. -/
import Derived.Test.YtjdfgncibpbgdaaLE
import Derived.Test.YtjdfgncibpbgdaaLQ
open Go.Ev Go
namespace Go.Proofs.Ytjdfgncibpbgdaa.L
section
variable {t : api_Topo} {old now : Sl (Sl Int)}
noncomputable def msOf (t : api_Topo) (old now : Sl (Sl Int)) : List level_Move := (srtMv (mvs t old now).toArray).toList
theorem qo8 : qip (msOf t old now) := qfh
theorem qqy {m : level_Move} : m ∈ msOf t old now ↔ m ∈ mvs t old now := (qej _).mem_iff
theorem qlo (hN : GoodP t now) : (msOf t old now).length ≤ 64 := by
 have hsm := hN.1.small
 have hho := hN.1.hosts
 rw [msOf, (qej _).length_eq]
 have := q3k (m := 8) (f := mvH t old now) (fun h => by have := qh6 (t := t) (old := old) (now := now) h; omega) (List.range t.Hosts.l.length)
 rw [List.length_range] at this
 have e : (mvs t old now).length ≤ 8 * t.Hosts.l.length := this
 omega
theorem qj9 (hN : GoodP t now) {m : level_Move} (hm : m ∈ msOf t old now) : 0 ≤ m.2.2.2 ∧ m.2.2.2 < t.Switches ∧ m.2.2.2 < 8 := by
 obtain ⟨h, s, hh, hs, _, rfl⟩ := qdx.1 (qqy.1 hm)
 have := hN.lt hs hh
 have := hN.1.small
 have := hN.1.len
 simp only
 omega
structure Rds (ms : List level_Move) (first gap : Int) (R : List plan_Round) : Prop where
 asc : (R.map fun x => x.1).Pairwise (· < ·)
 mem : ∀ x, x ∈ (R.map fun x => x.1) ↔ ∃ m ∈ ms, m.2.2.2 = x
 time : ∀ i, i < R.length → (gt R i).2.1 = first + (i : Int) * gap
 sws : ∀ i, i < R.length → SwsOf ms (gt R i).1 (gt R i).2.2.l
theorem qgv {l : List Int} (h : l.Pairwise (· < ·)) (hb : ∀ x ∈ l, 0 ≤ x ∧ x < 8) : l.length ≤ 8 := by
 have hnd : l.Nodup := h.imp fun h e => by omega
 have hsub : l ⊆ (List.range 8).map fun (i : Nat) => (i : Int) := fun x hx => by
  have := hb x hx
  exact List.mem_map.2 ⟨x.toNat, List.mem_range.2 (by omega), by omega⟩
 simpa using hnd.length_le_of_subset hsub
theorem Rds.len {first gap : Int} {R : List plan_Round} (hN : GoodP t now) (h : Rds (msOf t old now) first gap R) : R.length ≤ 8 := by
 have := qgv h.asc fun x hx => by
  obtain ⟨m, hm, rfl⟩ := (h.mem x).1 hx
  have := qj9 hN hm
  omega
 simpa using this
def q1o (t : api_Topo) (at' miss lead : Int) : Int := at' + lead + miss + lifeF t + 1
def gapF (t : api_Topo) (miss : Int) : Int := 2 * miss + lifeF t + 1
def In (at' miss lead : Int) : Prop := (0 ≤ at' ∧ at' ≤ 1099511627776) ∧ (0 ≤ miss ∧ miss ≤ 1048576) ∧ (0 ≤ lead ∧ lead ≤ 1048576)
instance {a b c : Int} : Decidable (In a b c) := by unfold In; infer_instance
def qb1 : plan_Plan := ⟨Sl.nil, Sl.nil, 0, 0, 0, 0⟩
def lastF (t : api_Topo) (at' miss lead : Int) (n : Nat) : Int := q1o t at' miss lead + ((n - 1 : Nat) : Int) * gapF t miss + miss
theorem ql8 (hV : Valid t) {at' miss lead : Int} (hI : In at' miss lead) : 0 < gapF t miss ∧ gapF t miss ≤ 1073741824 := by
 have := q6y hV
 unfold gapF; unfold In at hI; omega
theorem qq7 (hV : Valid t) {at' miss lead : Int} (hI : In at' miss lead) : 0 ≤ q1o t at' miss lead ∧ q1o t at' miss lead ≤ 1100000000000 := by
 have := q6y hV
 unfold q1o; unfold In at hI; omega
theorem qba (hV : Valid t) {at' miss lead : Int} (hI : In at' miss lead) {i : Nat} (hi : i ≤ 8) : 0 ≤ q1o t at' miss lead + (i : Int) * gapF t miss ∧ q1o t at' miss lead + (i : Int) * gapF t miss ≤ 1200000000000 := by
 obtain ⟨h1, h2⟩ := ql8 hV hI
 have h3 := qq7 hV hI
 have h4 := qir h1 h2 hi (show 8 ≤ 64 by omega)
 omega
structure Made (t : api_Topo) (old now : Sl (Sl Int)) (at' miss lead : Int) (p : plan_Plan) (e : Int) : Prop where
 none : msOf t old now = [] → p = qb1 ∧ e = 7
 over : msOf t old now ≠ [] → ∃ (s : Sl level_Move) (R : Sl plan_Round), s.l = msOf t old now ∧ Rds (msOf t old now) (q1o t at' miss lead) (gapF t miss) R.l ∧ 0 < R.l.length ∧
  ((lastF t at' miss lead R.l.length > 1099511627776 ∧ p = qb1 ∧ e = 11) ∨
   (lastF t at' miss lead R.l.length ≤ 1099511627776 ∧ p = (s, R, miss, lifeF t, at' + lead + 1, lastF t at' miss lead R.l.length) ∧ e = 0))
theorem qh9 (hN : GoodP t now) {at' miss lead : Int} (hI : In at' miss lead) {s : Sl level_Move} (hs : s.l = msOf t old now) {L : Sl Int} (hL1 : L.l.Pairwise (· < ·)) (hL2 : ∀ x, x ∈ L.l ↔ ∃ m ∈ s.l, m.2.2.2 = x) (hL3 : L.l.length ≤ 8) :
  ∃ R, loopO (q2i at' miss lead s (lifeF t) L (.mk (q4i L.l.length (gapF t miss)))) (0, s, miss, lifeF t, 0, 0, Sl.nil) = some (s, miss, lifeF t, 0, 0, R) ∧ Rds (msOf t old now) (q1o t at' miss lead) (gapF t miss) R.l ∧ R.l.length = L.l.length := by
 have hV := hN.1.topo
 have hlf := q6y hV
 have hI2 := hI
 unfold In at hI2
 have hms : s.l.length ≤ 1000 := by rw [hs]; have := qlo (old := old) hN; omega
 have hsort : qip s.l := hs ▸ qo8
 have htl : (Sl.mk (q4i L.l.length (gapF t miss))).l.length = L.l.length := by simp [q4i]
 have w1 : wr .i64 (wr .i64 (wr .i64 (wr .i64 (at' + lead) + miss) + lifeF t) + 1) = q1o t at' miss lead := by
  unfold q1o
  rw [wr_id (n := at' + lead) (by omega) (by omega), wr_id (n := at' + lead + miss) (by omega) (by omega), wr_id (n := at' + lead + miss + lifeF t) (by omega) (by omega), wr_id (by omega) (by omega)]
 have h := forI (f := q2i at' miss lead s (lifeF t) L (.mk (q4i L.l.length (gapF t miss)))) (fun i (R : Sl plan_Round) => ((i : Int), s, miss, lifeF t, (0 : Int), (0 : Int), R)) L.l.length
  (fun i R => R.l.length = i ∧ (R.l.map fun x => x.1) = L.l.take i ∧ (∀ j, j < i → (gt R.l j).2.1 = q1o t at' miss lead + (j : Int) * gapF t miss) ∧ ∀ j, j < i → SwsOf s.l (gt R.l j).1 (gt R.l j).2.2.l)
  (fun b => ∃ R, b = (s, miss, lifeF t, (0 : Int), (0 : Int), R) ∧ Rds (msOf t old now) (q1o t at' miss lead) (gapF t miss) R.l ∧ R.l.length = L.l.length) (fun i R hi ⟨i1, i2, i3, i4⟩ => by
   left
   obtain ⟨S, q1, q2⟩ := qs2 hsort hms (gt L.l i)
   have l1 : i < (Sl.mk (q4i L.l.length (gapF t miss))).l.length := by rw [htl]; exact hi
   have g1 : gt (Sl.mk (q4i L.l.length (gapF t miss))).l i = (i : Int) * gapF t miss := by rw [Sl.l_mk, qqo hi]
   have ht := qba hV hI (show i ≤ 8 by omega)
   have w2 : wr .i64 (q1o t at' miss lead + (i : Int) * gapF t miss) = q1o t at' miss lead + (i : Int) * gapF t miss := wr_id (by omega) (by omega)
   refine ⟨.mk (R.l ++ [(gt L.l i, q1o t at' miss lead + (i : Int) * gapF t miss, S)]), ?_, by simp [i1], ?_, fun j hj => ?_, fun j hj => ?_⟩
   ·have hiL := hi
    rw [← htl] at hi
    simp only [q2i, lt_t hi, cond_true, q0c l1, q0c hiL, Option.bind_some, q1, w1, g1, w2, wr_s (show i < 9223372036854775807 by omega)]
    rw [q4r (by rw [List.length_append, List.length_singleton]; omega)]; rfl
   ·rw [Sl.l_mk, List.map_append, i2, gt_eq hi]; simp
   ·rw [Sl.l_mk]
    by_cases he : j = i
    ·subst he
     rw [gt_eq (by simp [i1]), List.getElem_append_right (by omega)]; simp [i1]
    ·rw [gt_eq (by simp; omega), List.getElem_append_left (by omega), ← gt_eq (by omega)]; exact i3 j (by omega)
   ·rw [Sl.l_mk]
    by_cases he : j = i
    ·subst he
     rw [gt_eq (by simp [i1]), List.getElem_append_right (by omega)]; simpa [i1] using q2
    ·rw [gt_eq (by simp; omega), List.getElem_append_left (by omega), ← gt_eq (by omega)]; exact i4 j (by omega))
  (fun R ⟨i1, i2, i3, i4⟩ => by
   rw [List.take_length] at i2
   refine ⟨_, by simp only [q2i, htl, lt_f, cond_false], R, rfl, ⟨by rw [i2]; exact hL1, fun x => by rw [i2, hL2, hs], fun j hj => i3 j (by omega), fun j hj => hs ▸ i4 j (by omega)⟩, i1⟩) 0 .nil (Nat.zero_le _) ⟨rfl, by simp, fun j hj => by omega, fun j hj => by omega⟩
 obtain ⟨b, h1, R, rfl, h2, h3⟩ := h
 exact ⟨R, h1, h2, h3⟩
theorem qm0 {at' miss lead : Int} : ((q5e at' 1099511627776).bind fun r1 => bif !r1 then some true else ((q5e miss 1048576).bind fun r2 => bif !r2 then some true else ((q5e lead 1048576).bind fun r3 => some (!r3))) : Option Bool) = some (decide (¬ In at' miss lead)) := by
 have e : decide (¬ In at' miss lead) = !((decide (at' ≥ 0) && decide (at' ≤ 1099511627776)) && ((decide (miss ≥ 0) && decide (miss ≤ 1048576)) && (decide (lead ≥ 0) && decide (lead ≤ 1048576)))) := by
  rw [Bool.eq_iff_iff, decide_eq_true_eq (p := ¬ In at' miss lead)]
  simp only [Bool.not_eq_true', Bool.and_eq_false_iff, decide_eq_false_iff_not]
  unfold In
  omega
 rw [e]
 simp only [q5e, Option.bind_some]
 cases (decide (at' ≥ 0) && decide (at' ≤ 1099511627776)) <;> cases (decide (miss ≥ 0) && decide (miss ≤ 1048576)) <;> cases (decide (lead ≥ 0) && decide (lead ≤ 1048576)) <;> rfl
theorem qc1 (hO : GoodP t old) (hN : GoodP t now) {at' miss lead : Int} (hI : In at' miss lead) : ∃ p e, q1r t old now at' miss lead = some (p, e) ∧ Made t old now at' miss lead p e := by
 have hV := hN.1.topo
 obtain ⟨s, h1, h2⟩ := qmu hO hN
 have h2 : s.l = msOf t old now := h2
 have hml := qlo (old := old) hN
 have hnI : decide (¬ In at' miss lead) = false := decide_eq_false fun h => h hI
 by_cases hz : msOf t old now = []
 ·refine ⟨qb1, 7, ?_, fun _ => ⟨rfl, rfl⟩, fun h => absurd hz h⟩
  have hl : ((s.l.length : Int) == 0) = true := by rw [h2, hz]; rfl
  unfold q1r
  rw [qm0, hnI]
  simp only [Option.bind_some, cond_false, h1, bne_self_eq_false, hl, cond_true]
  rfl
 ·have hl : ((s.l.length : Int) == 0) = false := by
   have : 0 < (msOf t old now).length := List.length_pos_iff.2 hz
   rw [h2, beq_eq_false_iff_ne]; omega
  obtain ⟨L, h3, h4, h5⟩ := qkt (l := s) (by rw [h2]; omega)
  have hL3 : L.l.length ≤ 8 := qgv h4 fun x hx => by
   obtain ⟨m, hm, rfl⟩ := (h5 x).1 hx
   have := qj9 hN (h2 ▸ hm)
   omega
  have hLpos : 0 < L.l.length := by
   have hm : (msOf t old now).head hz ∈ s.l := by rw [h2]; exact List.head_mem hz
   exact List.length_pos_iff.2 (List.ne_nil_of_mem ((h5 _).2 ⟨_, hm, rfl⟩))
  obtain ⟨g1, g2⟩ := ql8 hV hI
  obtain ⟨R, h6, h7, h8⟩ := qh9 hN hI h2 h4 h5 hL3
  have ht : q3a (L.l.length : Int) (gapF t miss) = some (.mk (q4i L.l.length (gapF t miss))) := by
   obtain ⟨n, hn⟩ : ∃ n, L.l.length = n + 1 := ⟨L.l.length - 1, by omega⟩
   rw [hn]; exact qmm (by omega) g1 g2
  have hI2 := hI
  unfold In at hI2
  have hgap := qsw hV hI2.2.1.1 hI2.2.1.2
  have hw1 : wr .i64 ((R.l.length : Int) - 1) = ((R.l.length - 1 : Nat) : Int) := by rw [wr_id (by omega) (by omega)]; omega
  have hlast := h7.time (R.l.length - 1) (by omega)
  have htl := qba hV hI (show R.l.length - 1 ≤ 8 by omega)
  have hlf := q6y hV
  have hw2 : wr .i64 ((gt R.l (R.l.length - 1)).2.1 + miss) = lastF t at' miss lead R.l.length := by
   rw [hlast, wr_id (by omega) (by omega)]; rfl
  have w1 : wr .i64 (wr .i64 (wr .i64 (wr .i64 (at' + lead) + miss) + lifeF t) + 1) = q1o t at' miss lead := by
   unfold q1o
   rw [wr_id (n := at' + lead) (by omega) (by omega), wr_id (n := at' + lead + miss) (by omega) (by omega), wr_id (n := at' + lead + miss + lifeF t) (by omega) (by omega), wr_id (by omega) (by omega)]
  have w2 : wr .i64 (wr .i64 (q1o t at' miss lead - miss) - lifeF t) = at' + lead + 1 := by
   have hf : q1o t at' miss lead = at' + lead + miss + lifeF t + 1 := rfl
   rw [wr_id (n := q1o t at' miss lead - miss) (by omega) (by omega), wr_id (by omega) (by omega)]; omega
  have hrun : q1r t old now at' miss lead = some (bif decide (lastF t at' miss lead R.l.length > 1099511627776) then (qb1, 11) else ((s, R, miss, lifeF t, at' + lead + 1, lastF t at' miss lead R.l.length), 0)) := by
   unfold q1r
   rw [qm0, hnI]
   simp only [Option.bind_some, cond_false, h1, bne_self_eq_false, hl, qj1 hV, h3, hgap]
   rw [show 2 * miss + lifeF t + 1 = gapF t miss from rfl, ht]
   simp only [Option.bind_some, h6, hw1, q0c (show R.l.length - 1 < R.l.length by omega), hw2, w1, w2]
   cases decide (lastF t at' miss lead R.l.length > 1099511627776) <;> rfl
  by_cases ho : lastF t at' miss lead R.l.length > 1099511627776
  ·rw [decide_eq_true ho] at hrun
   exact ⟨_, _, hrun, fun h => absurd h hz, fun _ => ⟨s, R, h2, h7, by omega, .inl ⟨ho, rfl, rfl⟩⟩⟩
  ·rw [decide_eq_false ho] at hrun
   exact ⟨_, _, hrun, fun h => absurd h hz, fun _ => ⟨s, R, h2, h7, by omega, .inr ⟨by omega, rfl, rfl⟩⟩⟩
theorem qdd (hS1 : Small t old) (hS2 : Small t now) {at' miss lead : Int} (h : ¬ (In at' miss lead ∧ GoodP t old ∧ GoodP t now)) : q1r t old now at' miss lead = some (qb1, 2) := by
 unfold q1r
 rw [qm0]
 by_cases hI : In at' miss lead
 ·rw [decide_eq_false (fun h => h hI)]
  have hm := qo4 hS1 hS2 fun hG => h ⟨hI, hG⟩
  simp only [Option.bind_some, cond_false, hm]
  rfl
 ·rw [decide_eq_true hI]; rfl
end
end Go.Proofs.Ytjdfgncibpbgdaa.L
