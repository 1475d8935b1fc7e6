/- Plans: the least times of q48. Conditions: as stated. -/
import Derived.Test.YthcplpfiidlinaaLO
open Go.Ev Go
namespace Go.Proofs.Ythcplpfiidlinaa.L
theorem qat {N j : Nat} (f : Nat → Int) (hj : j < N) : gt ((List.range N).map f) j = f j := by
 rw [q22 (by simp [hj])]; simp
theorem qzm {N k : Nat} (f : Nat → Int) (v : Int) : ((List.range N).map f).set k v = (List.range N).map fun j => if j = k then v else f j := by
 apply List.ext_getElem (by simp)
 intro i h1 h2
 simp only [List.getElem_set, List.getElem_map, List.getElem_range]
 by_cases h : k = i
 ·rw [if_pos h, if_pos h.symm]
 ·rw [if_neg h, if_neg (Ne.symm h)]
def qa3 (gap : Int) (i j : Nat) : Int := if j ≤ i then (j : Int) * gap else 0
theorem qss (gap : Int) (i : Nat) : (fun j => if j = i + 1 then ((i + 1 : Nat) : Int) * gap else qa3 gap i j) = qa3 gap (i + 1) := by
 funext j
 unfold qa3
 by_cases h : j = i + 1
 ·rw [if_pos h, if_pos (by omega), h]
 ·rw [if_neg h]
  by_cases h2 : j ≤ i
  ·rw [if_pos h2, if_pos (by omega)]
  ·rw [if_neg h2, if_neg (by omega)]
section
variable {n : Nat} {gap : Int} {s : Sl diff_After}
theorem qmd (hs : s.l = q3i n gap) {i : Nat} (hi : i < n) : gt s.l i = ((i : Int), ((i + 1 : Nat) : Int), gap) := by
 have hl : i < s.l.length := by rw [hs]; simp [q3i, hi]
 rw [q22 hl]; simp only [hs, q3i, List.getElem_map, List.getElem_range]
theorem qs2 {i n : Nat} {gap : Int} (h0 : 0 < gap) (h1 : gap ≤ 1073741824) (hi : i ≤ n) (hn : n ≤ 64) : 0 ≤ (i : Int) * gap ∧ (i : Int) * gap ≤ 68719476736 := by
 refine ⟨Int.mul_nonneg (by omega) (by omega), ?_⟩
 have := Int.mul_le_mul (show (i : Int) ≤ 64 by omega) h1 (by omega) (by omega)
 omega
theorem q13s (hn : n ≤ 63) (h0 : 0 < gap) (h1 : gap ≤ 1073741824) (hs : s.l = q3i n gap) {b : List Int} (hb : b.length = n + 1) :
  ∃ b', q0e (q1k s) (-1, 0, .mk ((List.range (n + 1)).map (qa3 gap 0)), .mk b) = some (if n = 0 then -1 else (n : Int), .mk ((List.range (n + 1)).map (qa3 gap n)), .mk b') ∧ b'.length = n + 1 := by
 have hlen : s.l.length = n := by rw [hs]; simp [q3i]
 have h := qse (f := q1k s) (fun i (b : List Int) => (if i = 0 then -1 else (i : Int), (i : Int), Sl.mk ((List.range (n + 1)).map (qa3 gap i)), Sl.mk b)) n (fun _ b => b.length = n + 1)
  (fun r => ∃ b', r = (if n = 0 then -1 else (n : Int), Sl.mk ((List.range (n + 1)).map (qa3 gap n)), Sl.mk b') ∧ b'.length = n + 1) (fun i b hi hb => by
   left
   have hg := qmd hs hi
   have hil : i < s.l.length := by omega
   have l1 : i < (Sl.mk ((List.range (n + 1)).map (qa3 gap i))).l.length := by simp; omega
   have l2 : i + 1 < (Sl.mk ((List.range (n + 1)).map (qa3 gap i))).l.length := by simp; omega
   have l3 : i + 1 < (Sl.mk b).l.length := by rw [Sl.l_mk, hb]; omega
   have g1 : gt (Sl.mk ((List.range (n + 1)).map (qa3 gap i))).l i = (i : Int) * gap := by rw [Sl.l_mk, qat _ (by omega)]; simp [qa3]
   have g2 : gt (Sl.mk ((List.range (n + 1)).map (qa3 gap i))).l (i + 1) = 0 := by rw [Sl.l_mk, qat _ (by omega), qa3, if_neg (by omega)]
   have hm := qs2 h0 h1 (show i ≤ n by omega) (by omega)
   have em : (i : Int) * gap + gap = ((i + 1 : Nat) : Int) * gap := by rw [show ((i + 1 : Nat) : Int) = (i : Int) + 1 by omega, Int.add_mul, Int.one_mul]
   have hw : wr .i64 ((i : Int) * gap + gap) = ((i + 1 : Nat) : Int) * gap := by rw [q2l (by omega) (by omega), em]
   have hgt : decide (((i + 1 : Nat) : Int) * gap > 0) = true := by rw [decide_eq_true_eq]; omega
   refine ⟨b.set (i + 1) (i : Int), ?_, by simp [hb]⟩
   simp only [q1k, q4n hil, cond_true, q07 hil, hg, q07 l1, q07 l2, q07 l3, Option.bind_some, g1, g2, hw, hgt, qa8 (show i < 9223372036854775807 by omega)]
   simp only [Sl.l_mk, qzm, qss]
   rfl)
  (fun b hb => ⟨(if n = 0 then -1 else (n : Int), Sl.mk ((List.range (n + 1)).map (qa3 gap n)), Sl.mk b), by simp only [q1k, hlen, q77, cond_false], b, rfl, hb⟩) 0 b (Nat.zero_le _) hb
 obtain ⟨r, h2, b', rfl, h3⟩ := h
 exact ⟨b', h2, h3⟩
theorem q143 (hn : n ≤ 63) (h0 : 0 < gap) (h1 : gap ≤ 1073741824) (hs : s.l = q3i n gap) (b : Sl Int) :
  q0e (q1k s) (-1, 0, .mk ((List.range (n + 1)).map (qa3 gap n)), b) = some (-1, .mk ((List.range (n + 1)).map (qa3 gap n)), b) := by
 have hlen : s.l.length = n := by rw [hs]; simp [q3i]
 have h := qse (f := q1k s) (fun i (_ : Unit) => ((-1 : Int), (i : Int), Sl.mk ((List.range (n + 1)).map (qa3 gap n)), b)) n (fun _ _ => True)
  (fun r => r = ((-1 : Int), Sl.mk ((List.range (n + 1)).map (qa3 gap n)), b)) (fun i _ hi _ => by
   left
   have hg := qmd hs hi
   have hil : i < s.l.length := by omega
   have l1 : i < (Sl.mk ((List.range (n + 1)).map (qa3 gap n))).l.length := by simp; omega
   have l2 : i + 1 < (Sl.mk ((List.range (n + 1)).map (qa3 gap n))).l.length := by simp; omega
   have g1 : gt (Sl.mk ((List.range (n + 1)).map (qa3 gap n))).l i = (i : Int) * gap := by rw [Sl.l_mk, qat _ (by omega), qa3, if_pos (by omega)]
   have g2 : gt (Sl.mk ((List.range (n + 1)).map (qa3 gap n))).l (i + 1) = ((i + 1 : Nat) : Int) * gap := by rw [Sl.l_mk, qat _ (by omega), qa3, if_pos (by omega)]
   have hm := qs2 h0 h1 (show i ≤ n by omega) (by omega)
   have em : (i : Int) * gap + gap = ((i + 1 : Nat) : Int) * gap := by rw [show ((i + 1 : Nat) : Int) = (i : Int) + 1 by omega, Int.add_mul, Int.one_mul]
   have hw : wr .i64 ((i : Int) * gap + gap) = ((i + 1 : Nat) : Int) * gap := by rw [q2l (by omega) (by omega), em]
   have hgt : decide (((i + 1 : Nat) : Int) * gap > ((i + 1 : Nat) : Int) * gap) = false := by rw [decide_eq_false_iff_not]; omega
   refine ⟨(), ?_, trivial⟩
   simp only [q1k, q4n hil, cond_true, q07 hil, hg, q07 l1, q07 l2, Option.bind_some, g1, g2, hw, hgt, cond_false, qa8 (show i < 9223372036854775807 by omega)])
  (fun _ _ => ⟨_, by simp only [q1k, hlen, q77, cond_false], rfl⟩) 0 () (Nat.zero_le _) trivial
 obtain ⟨r, h2, rfl⟩ := h
 exact h2
theorem qu8 (hn : n ≤ 63) (h0 : 0 < gap) (h1 : gap ≤ 1073741824) (hs : s.l = q3i n gap) : ∃ b, q7f ((n + 1 : Nat) : Int) s = some (.mk (q5y (n + 1) gap), b, -1) := by
 have hmk : mkI (0 : Int) ((n + 1 : Nat) : Int) ((n + 1 : Nat) : Int) = some ((List.range (n + 1)).map (qa3 gap 0)) := by
  unfold mkI
  rw [if_pos ⟨by omega, Int.le_refl _, by omega⟩]
  congr 1
  rw [Int.toNat_natCast]
  apply List.ext_getElem (by simp)
  intro i _ _
  simp only [List.getElem_replicate, List.getElem_map, List.getElem_range, qa3]
  by_cases h : i ≤ 0
  ·rw [if_pos h, show i = 0 by omega]; simp
  ·rw [if_neg h]
 have ht : (List.range (n + 1)).map (qa3 gap n) = q5y (n + 1) gap := by
  unfold q5y
  apply List.map_congr_left
  intro j hj
  rw [qa3, if_pos (by have := List.mem_range.1 hj; omega)]
 have hw : wr .i64 (((n + 1 : Nat) : Int) + 1) = ((n + 2 : Nat) : Int) := by rw [q2l (by omega) (by omega)]; omega
 obtain ⟨b1, p1, p2⟩ := q13s hn h0 h1 hs (b := (List.range (n + 1)).map (qa3 gap 0)) (by simp)
 have hl : ∃ b, q0e (q39 ((n + 1 : Nat) : Int) s) (-1, 0, .mk ((List.range (n + 1)).map (qa3 gap 0)), .mk ((List.range (n + 1)).map (qa3 gap 0))) = some (-1, .mk (q5y (n + 1) gap), b) := by
  have c1 : decide ((0 : Int) < ((n + 2 : Nat) : Int)) = true := by rw [decide_eq_true_eq]; omega
  by_cases hz : n = 0
  ·rw [if_pos hz] at p1
   refine ⟨.mk b1, q0p ?_⟩
   simp only [q39, hw, c1, cond_true, p1, Option.bind_some, ht]
   rfl
  ·rw [if_neg hz] at p1
   have c2 : decide ((n : Int) < 0) = false := by rw [decide_eq_false_iff_not]; omega
   have c3 : decide ((1 : Int) < ((n + 2 : Nat) : Int)) = true := by rw [decide_eq_true_eq]; omega
   have p3 := q143 hn h0 h1 hs (.mk b1)
   rw [ht] at p3
   refine ⟨.mk b1, (q1z (a' := ((n : Int), (1 : Int), .mk ((List.range (n + 1)).map (qa3 gap n)), .mk b1)) ?_).trans (q0p ?_)⟩
   ·simp only [q39, hw, c1, cond_true, p1, Option.bind_some, c2, cond_false]
    rfl
   ·simp only [q39, hw, c3, cond_true, ht, p3, Option.bind_some]
    rfl
 obtain ⟨b, hl⟩ := hl
 exact ⟨b, by simp only [q7f, hmk, Option.bind_some, hl]⟩
theorem qru (hn : n ≤ 63) (h0 : 0 < gap) (h1 : gap ≤ 1073741824) : q4o ((n + 1 : Nat) : Int) gap = some (.mk (q5y (n + 1) gap)) := by
 obtain ⟨s, h2, h3⟩ := qnw hn gap
 obtain ⟨b, h4⟩ := qu8 hn h0 h1 h3
 simp only [q4o, h2, Option.bind_some, q43, qpj hn h0 h1 h3, Bool.not_true, cond_false, h4]
 rfl
end
end Go.Proofs.Ythcplpfiidlinaa.L
