/- The law PlanMakes, of what the programs compute. Conditions: lengths as stated. -/
import Derived.Test.YthcplpfiidlinaaLU
open Go.Ev Go
namespace Go.Proofs.Ythcplpfiidlinaa.L
section
variable {t : api_Topo} {old now : Sl (Sl Int)}
theorem qtf {α : Type} [Inhabited α] {l : List α} {x : α} : gt (l ++ [x]) l.length = x := by
 rw [q22 (by simp)]; simp
theorem qtp {α : Type} [Inhabited α] {l : List α} {x : α} {j : Nat} (hj : j < l.length) : gt (l ++ [x]) j = gt l j := by
 rw [q22 (by simp; omega), List.getElem_append_left hj, ← q22 hj]
theorem qjb (hN : GoodP t now) {at' miss lead : Int} (hI : In at' miss lead) {s : Sl level_Move} (hs : s.l = qa0 t old now) (hz : qa0 t old now ≠ []) :
  ∃ R : Sl plan_Round, q0e (q3g t miss s) (q1s t at' miss lead, 0, s, miss, q2f t, at' + lead + 1, 0, Sl.nil) = some (s, miss, q2f t, at' + lead + 1, q6k t at' miss lead R.l.length, R) ∧ Rds (qa0 t old now) (q1s t at' miss lead) (q9t t miss) R.l ∧ 0 < R.l.length := by
 have hV := hN.1.topo
 have hlf := q8g hV
 have hI2 := hI
 unfold In at hI2
 have hsm := hN.1.small
 have hsw := hN.1.len
 have hga : q9t t miss = 2 * miss + q2f t + 1 := rfl
 have hcond : ∀ n : Nat, decide ((n : Int) < t.Switches) = decide ((n : Int) < (now.l.length : Int)) := fun n => by rw [hsw]
 have h := qse (f := q3g t miss s) (fun n (q : Int × Int × Sl plan_Round) => (q.1, (n : Int), s, miss, q2f t, at' + lead + 1, q.2.1, q.2.2)) now.l.length
  (fun n q => (q.2.2.l.map fun x => x.1).Pairwise (· < ·) ∧ (∀ x, x ∈ (q.2.2.l.map fun x => x.1) ↔ (0 ≤ x ∧ x < (n : Int)) ∧ ∃ m ∈ s.l, m.2.2.2 = x) ∧ (∀ j, j < q.2.2.l.length → (gt q.2.2.l j).2.1 = q1s t at' miss lead + (j : Int) * q9t t miss) ∧
   (∀ j, j < q.2.2.l.length → SwsOf s.l (gt q.2.2.l j).1 (gt q.2.2.l j).2.2.l) ∧ q.1 = q1s t at' miss lead + (q.2.2.l.length : Int) * q9t t miss ∧ (0 < q.2.2.l.length → q.2.1 = q6k t at' miss lead q.2.2.l.length))
  (fun b => ∃ (R : Sl plan_Round) (to : Int), b = (s, miss, q2f t, at' + lead + 1, to, R) ∧ Rds (qa0 t old now) (q1s t at' miss lead) (q9t t miss) R.l ∧ (0 < R.l.length → to = q6k t at' miss lead R.l.length))
  (fun n q hn ⟨i1, i2, i3, i4, i5, i6⟩ => by
   obtain ⟨tm, to, R⟩ := q
   simp only at i1 i2 i3 i4 i5 i6
   left
   have hk : R.l.length ≤ 8 := by
    have := qgk i1 fun x hx => by have := ((i2 x).1 hx).1; omega
    simpa using this
   have ht := qlz hV hI hk
   obtain ⟨S, q1, q2⟩ := qpe hN hs n
   have hlenS : (((S.l.length : Int) == 0) = true ↔ ¬ ∃ m ∈ s.l, m.2.2.2 = (n : Int)) := by
    rw [beq_iff_eq]
    constructor
    ·rintro h ⟨m, hm, e⟩
     have : m.1 ∈ S.l := (q2.mem _).2 ⟨m, hm, e, rfl⟩
     have := List.length_pos_of_mem this
     omega
    ·intro h
     cases hS : S.l with
     | nil => rfl
     | cons x r =>
      obtain ⟨m, hm, e, _⟩ := (q2.mem x).1 (by rw [hS]; exact List.mem_cons_self ..)
      exact absurd ⟨m, hm, e⟩ h
   by_cases hc : ∃ m ∈ s.l, m.2.2.2 = (n : Int)
   ·have hb : ((S.l.length : Int) == 0) = false := by rw [← Bool.not_eq_true]; exact fun h => hlenS.1 h hc
    have em : ((R.l.length + 1 : Nat) : Int) * q9t t miss = (R.l.length : Int) * q9t t miss + q9t t miss := by rw [show ((R.l.length + 1 : Nat) : Int) = (R.l.length : Int) + 1 by omega, Int.add_mul, Int.one_mul]
    have w1 : wr .i64 (tm + miss) = tm + miss := q2l (by omega) (by omega)
    have w2 : wr .i64 (wr .i64 (wr .i64 (tm + miss + miss) + q2f t) + 1) = tm + q9t t miss := by
     rw [q2l (n := tm + miss + miss) (by omega) (by omega), q2l (n := tm + miss + miss + q2f t) (by omega) (by omega), q2l (by omega) (by omega)]; omega
    refine ⟨(tm + q9t t miss, tm + miss, .mk (R.l ++ [((n : Int), tm, S)])), ?_, ?_, fun x => ?_, fun j hj => ?_, fun j hj => ?_, ?_, fun _ => ?_⟩
    ·simp only [q3g, hcond, q4n hn, cond_true, q1, Option.bind_some, hb, cond_false, w1, w2, q2v (show (R.l ++ [(((n : Int), tm, S) : plan_Round)]).length ≤ 2147483648 by rw [List.length_append, List.length_singleton]; omega), qa8 (show n < 9223372036854775807 by omega)]
    ·simp only [Sl.l_mk, List.map_append, List.map_cons, List.map_nil]
     exact qhr i1 fun y hy => by have := ((i2 y).1 hy).1; omega
    ·simp only [Sl.l_mk, List.map_append, List.map_cons, List.map_nil]
     rw [List.mem_append, List.mem_singleton, i2]
     constructor
     ·rintro (⟨h, hm⟩ | rfl)
      ·exact ⟨by omega, hm⟩
      ·exact ⟨by omega, hc⟩
     ·rintro ⟨h, hm⟩
      by_cases he : x = (n : Int)
      ·exact .inr he
      ·exact .inl ⟨by omega, hm⟩
    ·simp only [Sl.l_mk] at hj ⊢
     by_cases he : j = R.l.length
     ·subst he
      rw [qtf]; exact i5
     ·rw [qtp (by rw [List.length_append, List.length_singleton] at hj; omega)]
      exact i3 j (by rw [List.length_append, List.length_singleton] at hj; omega)
    ·simp only [Sl.l_mk] at hj ⊢
     by_cases he : j = R.l.length
     ·subst he
      rw [qtf]; exact q2
     ·rw [qtp (by rw [List.length_append, List.length_singleton] at hj; omega)]
      exact i4 j (by rw [List.length_append, List.length_singleton] at hj; omega)
    ·simp only [Sl.l_mk, List.length_append, List.length_singleton]
     rw [em, i5]; omega
    ·simp only [Sl.l_mk, List.length_append, List.length_singleton]
     rw [q6k, Nat.add_sub_cancel, i5]
   ·have hb := hlenS.2 hc
    refine ⟨(tm, to, R), ?_, i1, fun x => ?_, i3, i4, i5, i6⟩
    ·simp only [q3g, hcond, q4n hn, cond_true, q1, Option.bind_some, hb, qa8 (show n < 9223372036854775807 by omega)]
    ·simp only
     rw [i2]
     constructor
     ·rintro ⟨h, hm⟩; exact ⟨by omega, hm⟩
     ·rintro ⟨h, hm⟩
      by_cases he : x = (n : Int)
      ·exact absurd (he ▸ hm) hc
      ·exact ⟨by omega, hm⟩)
  (fun q ⟨i1, i2, i3, i4, i5, i6⟩ => by
   obtain ⟨tm, to, R⟩ := q
   refine ⟨_, by simp only [q3g, hcond, q77, cond_false], R, to, rfl, ⟨i1, fun x => ?_, i3, fun j hj => by rw [← hs]; exact i4 j hj⟩, i6⟩
   have i2 := i2 x
   simp only at i2
   rw [i2, hs]
   refine ⟨fun h => h.2, fun h => ⟨?_, h⟩⟩
   obtain ⟨m, hm, rfl⟩ := h
   have := qgh hN hm
   omega) 0 (q1s t at' miss lead, 0, .nil) (Nat.zero_le _) ⟨by simp, fun x => by simp; omega, fun j hj => by simp at hj, fun j hj => by simp at hj, by simp, fun h => by simp at h⟩
 obtain ⟨b, h1, R, to, rfl, h2, h3⟩ := h
 have hp : 0 < R.l.length := by
  have hm := List.head_mem hz
  have : ((qa0 t old now).head hz).2.2.2 ∈ R.l.map fun x => x.1 := (h2.mem _).2 ⟨_, hm, rfl⟩
  have := List.length_pos_of_mem this
  simpa using this
 rw [h3 hp] at h1
 exact ⟨R, h1, h2, hp⟩
theorem qe6 {at' miss lead : Int} : ((((((decide (at' < 0)) || (decide (at' > 1099511627776))) || (decide (miss < 0))) || (decide (miss > 1048576))) || (decide (lead < 0))) || (decide (lead > 1048576))) = decide (¬ In at' miss lead) := by
 rw [Bool.eq_iff_iff, decide_eq_true_eq (p := ¬ In at' miss lead)]
 simp only [Bool.or_eq_true, decide_eq_true_eq]
 unfold In
 omega
theorem qjk (hS1 : q65 t old) (hS2 : q65 t now) (hO : GoodP t old) (hN : GoodP t now) {at' miss lead : Int} (hI : In at' miss lead) : ∃ p e, q40 t old now at' miss lead = some (p, e) ∧ Made t old now at' miss lead p e := by
 have hV := hN.1.topo
 obtain ⟨s, h1, h2⟩ := qij hS1 hS2 hO hN
 have hnI : decide (¬ In at' miss lead) = false := decide_eq_false fun h => h hI
 by_cases hz : qa0 t old now = []
 ·refine ⟨q4c, 7, ?_, fun _ => ⟨rfl, rfl⟩, fun h => absurd hz h⟩
  have hl : ((s.l.length : Int) == 0) = true := by rw [h2, hz]; rfl
  unfold q40
  rw [qe6, hnI]
  simp only [Option.bind_some, cond_false, h1, bne_self_eq_false, hl, cond_true]
  rfl
 ·have hl : ((s.l.length : Int) == 0) = false := by
   have : 0 < (qa0 t old now).length := List.length_pos_iff.2 hz
   rw [h2, beq_eq_false_iff_ne]; omega
  obtain ⟨R, h3, h4, h5⟩ := qjb hN hI h2 hz
  have hlf := q8g hV
  have hI2 := hI
  unfold In at hI2
  have w1 : wr .i64 (wr .i64 (wr .i64 (wr .i64 (at' + lead) + miss) + q2f t) + 1) = q1s t at' miss lead := by
   unfold q1s
   rw [q2l (n := at' + lead) (by omega) (by omega), q2l (n := at' + lead + miss) (by omega) (by omega), q2l (n := at' + lead + miss + q2f t) (by omega) (by omega), q2l (by omega) (by omega)]
  have w2 : wr .i64 (wr .i64 (at' + lead) + 1) = at' + lead + 1 := by rw [q2l (n := at' + lead) (by omega) (by omega), q2l (by omega) (by omega)]
  have hrun : q40 t old now at' miss lead = some (bif decide (q6k t at' miss lead R.l.length > 1099511627776) then (q4c, 11) else ((s, R, miss, q2f t, at' + lead + 1, q6k t at' miss lead R.l.length), 0)) := by
   unfold q40
   rw [qe6, hnI]
   simp only [Option.bind_some, cond_false, h1, bne_self_eq_false, hl, qlk hV, w1, w2, h3]
   cases decide (q6k t at' miss lead R.l.length > 1099511627776) <;> rfl
  by_cases ho : q6k t at' miss lead R.l.length > 1099511627776
  ·rw [decide_eq_true ho] at hrun
   exact ⟨_, _, hrun, fun h => absurd h hz, fun _ => ⟨s, R, h2, h4, h5, .inl ⟨ho, rfl, rfl⟩⟩⟩
  ·rw [decide_eq_false ho] at hrun
   exact ⟨_, _, hrun, fun h => absurd h hz, fun _ => ⟨s, R, h2, h4, h5, .inr ⟨by omega, rfl, rfl⟩⟩⟩
theorem qlc (hS1 : q65 t old) (hS2 : q65 t now) {at' miss lead : Int} (h : ¬ (In at' miss lead ∧ GoodP t old ∧ GoodP t now)) : q40 t old now at' miss lead = some (q4c, 2) := by
 unfold q40
 rw [qe6]
 by_cases hI : In at' miss lead
 ·rw [decide_eq_false (fun h => h hI)]
  have hm := qis hS1 hS2 fun hG => h ⟨hI, hG⟩
  simp only [Option.bind_some, cond_false, hm]
  rfl
 ·rw [decide_eq_true hI]; rfl
theorem quh {s : Sl level_Move} (hl : s.l.length ≤ 1000) : ∃ z, q9o s = some z ∧ z.l = s.l := by
 obtain ⟨z, h1, h2⟩ := qho (f := q5k s) s.l (fun m => [m]) .nil (by omega) (fun i z hi hz => by
  have hlen : z.l.length ≤ 1000 := by
   have e : z.l = (s.l.take i).flatMap fun m => [m] := hz
   rw [e, List.flatMap_singleton', List.length_take]; omega
  refine ⟨.mk (z.l ++ [gt s.l i]), ?_, rfl⟩
  simp only [q5k, q4n hi, cond_true, q07 hi, Option.bind_some]
  rw [q2v (by rw [List.length_append, List.length_singleton]; omega)]
  rfl) (fun s => by simp only [q5k, q77, cond_false])
 refine ⟨z, by simp only [q9o, h1, Option.bind_some], ?_⟩
 have e : z.l = s.l.flatMap fun m => [m] := h2
 rw [e, List.flatMap_singleton']
theorem qi5 {a b : Sl level_Move} (h : a.l = b.l) (hl : b.l.length ≤ 1000) : q7d a b = some true := by
 obtain ⟨z, h1, h2⟩ := quh hl
 have h3 := qbs (f := q5m a z) (β := Bool) (γ := Unit) a.l (fun _ _ => none) () (by rw [h]; omega) (fun i hi => by
  have hb : i < z.l.length := by rw [h2, ← h]; exact hi
  have e : decide (gt a.l i = gt z.l i) = true := by rw [decide_eq_true_eq, h2, h]
  simp only [q5m, q4n hi, cond_true, q07 hi, q07 hb, Option.bind_some, e, Bool.not_true, cond_false]) (by simp only [q5m, q77, cond_false])
 have h4 : qap (β := Bool) (fun (_ : Nat) (_ : level_Move) => none) a.l 0 = none := q33.2 fun _ _ _ => rfl
 rw [h4] at h3
 have hc : ((a.l.length : Int) != (z.l.length : Int)) = false := by rw [h2, h]; simp
 simp only [q7d, h1, Option.bind_some, hc, cond_false, h3]
theorem quc (hN : GoodP t now) {a l miss : Int} {s s' : Sl level_Move} {R R' : Sl plan_Round} (hs : s.l = qa0 t old now) (hs' : s'.l = qa0 t old now) (hR : Rds (qa0 t old now) (q1s t a miss l) (q9t t miss) R.l) (hR' : Rds (qa0 t old now) (q1s t a miss l) (q9t t miss) R'.l) :
  q5u (s, R, miss, q2f t, a + l + 1, q6k t a miss l R.l.length) (s', R', miss, q2f t, a + l + 1, q6k t a miss l R'.l.length) = some true := by
 have hml := qnc (old := old) hN
 have h8 := hR.len hN
 obtain ⟨hlen, hel⟩ := hR.uniq hR'
 have h1 := qi5 (a := s) (b := s') (by rw [hs, hs']) (by rw [hs']; omega)
 have h3 := qbs (f := q46 (s, R, miss, q2f t, a + l + 1, q6k t a miss l R.l.length) (s', R', miss, q2f t, a + l + 1, q6k t a miss l R'.l.length)) (β := Bool) (γ := Unit) R'.l (fun _ _ => none) () (by omega) (fun i hi' => by
  have hi : i < R.l.length := hlen ▸ hi'
  obtain ⟨e1, e2, e3⟩ := hel i hi
  have c1 : ((gt R.l i).1 != (gt R'.l i).1) = false := by rw [e1]; simp
  have c2 : ((gt R.l i).2.1 != (gt R'.l i).2.1) = false := by rw [e2]; simp
  have c3 := qvs e3 (by have := q104 hR hi (q13y hN); omega)
  simp only [q46, q4n hi', cond_true, q07 hi, q07 hi', Option.bind_some, c1, c2, cond_false, c3, Bool.not_true]) (by simp only [q46, q77, cond_false])
 have h4 : qap (β := Bool) (fun (_ : Nat) (_ : plan_Round) => none) R'.l 0 = none := q33.2 fun _ _ _ => rfl
 rw [h4] at h3
 have d2 : ((R.l.length : Int) != (R'.l.length : Int)) = false := by rw [hlen]; simp
 have d4 : (q6k t a miss l R.l.length != q6k t a miss l R'.l.length) = false := by rw [hlen]; simp
 simp only [q5u, h1, Option.bind_some, Bool.not_true, d2, d4, bne_self_eq_false, Bool.or_self, cond_false, h3]
theorem qgi : q5u q4c q4c = some true := by
 have h1 := qi5 (a := .nil) (b := .nil) rfl (by decide)
 have h3 : q0e (q46 q4c q4c) 0 = some (.inr ()) := q0p rfl
 have e : q7d (plan_Plan.Moves q4c) (ref24_Plan.Moves q4c) = some true := h1
 simp only [q5u, e, Option.bind_some, h3]
 rfl
theorem qt2 (t : api_Topo) (old now : Sl (Sl Int)) (at' miss lead : Int) (ho : old.l.length < 9223372036854775808) (hn : now.l.length < 9223372036854775808) : q6b t old now at' miss lead = some true := by
 unfold q6b
 rw [qg4 ho]
 by_cases hS1 : q65 t old
 rotate_left
 ·rw [decide_eq_false hS1]; simp only [Option.bind_some, Bool.not_false, cond_true, q1v]
 rw [decide_eq_true hS1, qg4 hn]
 by_cases hS2 : q65 t now
 rotate_left
 ·rw [decide_eq_false hS2]; simp only [Option.bind_some, Bool.not_true, cond_false, Bool.not_false, cond_true, q1v]
 rw [decide_eq_true hS2]
 simp only [Option.bind_some, Bool.not_true, cond_false]
 by_cases hG : In at' miss lead ∧ GoodP t old ∧ GoodP t now
 rotate_left
 ·rw [qvf hS1 hS2 hG, qlc hS1 hS2 hG]
  simp only [Option.bind_some, qgi, beq_self_eq_true, Bool.and_self, cond_true, q1v]
 obtain ⟨hI, hO, hN⟩ := hG
 obtain ⟨p, e, h1, h2⟩ := qsb hO hN hI
 obtain ⟨q, f, h3, h4⟩ := qjk hS1 hS2 hO hN hI
 rw [h1, h3]
 by_cases hz : qa0 t old now = []
 ·obtain ⟨rfl, rfl⟩ := h2.none hz
  obtain ⟨rfl, rfl⟩ := h4.none hz
  simp only [Option.bind_some, qgi, beq_self_eq_true, Bool.and_self, cond_true, q1v]
 obtain ⟨s, R, hs, hR, hp, hc⟩ := h2.over hz
 obtain ⟨s', R', hs', hR', hp', hc'⟩ := h4.over hz
 have hlen := (hR.uniq hR').1
 rcases hc with ⟨ho1, rfl, rfl⟩ | ⟨ho1, rfl, rfl⟩ <;> rcases hc' with ⟨ho2, rfl, rfl⟩ | ⟨ho2, rfl, rfl⟩
 ·simp only [Option.bind_some, qgi, beq_self_eq_true, Bool.and_self, cond_true, q1v]
 ·rw [hlen] at ho1; omega
 ·rw [hlen] at ho1; omega
 ·simp only [Option.bind_some, quc hN hs hs' hR hR', beq_self_eq_true, Bool.and_self, cond_true, q1v]
end
end Go.Proofs.Ythcplpfiidlinaa.L
