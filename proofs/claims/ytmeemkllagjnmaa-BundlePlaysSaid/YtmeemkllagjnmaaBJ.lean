/- Changes of tables: the program's come to the same. Conditions: as stated. -/
import Derived.Test.YtmeemkllagjnmaaBH
open Go.Ev Go
namespace Go.Proofs.Ytmeemkllagjnmaa.B
theorem q9i {t : Sl api_Rule} (hn : t.l.length ≤ 2147483648) : q05 t = some t := by
 unfold q05
 cases t with
 | nil => rfl
 | mk l =>
  rw [List.nil_append, show (Sl.mk l).isNil = false from rfl, cond_false, qlu hn]
  cases l <;> rfl
theorem uniq {l : List api_Rule} (hs : Srt l) {x : api_Rule} {i k : Nat} (hi : i < l.length) (hk : k < l.length) (h1 : Key (gt l i) x) (h2 : Key (gt l k) x) : i = k := by
 have hs := qmv.1 hs
 have hq : Key (gt l i) (gt l k) := ⟨h1.1.trans h2.1.symm, h1.2.trans h2.2.symm⟩
 rcases Nat.lt_trichotomy i k with h | h | h
 ·exact absurd hq (hs k hk i h).2
 ·exact h
 ·exact absurd hq.symm (hs i hi k h).2
theorem qlg {l : List api_Rule} (hs : Srt l) {x : api_Rule} {k : Nat} (hk : k < l.length) (h : Key (gt l k) x) (a : Sl api_Act) : l.set k (withA (gt l k) a) = chg (fun y => tt (Key y x)) false a l := by
 rw [qh8]
 apply List.ext_getElem (by rw [List.length_set, List.length_map])
 intro i h1 h2
 rw [List.length_set] at h1
 rw [List.getElem_set, List.getElem_map, ← gt_eq h1]
 by_cases e : k = i
 ·subst e; rw [if_pos rfl, tt_t h]; rfl
 ·rw [if_neg e, tt_f fun hq => e (uniq hs h1 hk hq h).symm]; rfl
theorem qnk {l : List api_Rule} (hs : Srt l) {x : api_Rule} {k : Nat} (hk : k < l.length) (h : Key (gt l k) x) (a : Sl api_Act) : l.take k ++ l.drop (k + 1) = chg (fun y => tt (Key y x)) true a l := by
 rw [qds]
 have e : l = l.take k ++ gt l k :: l.drop (k + 1) := by rw [← qa5 hk, List.take_append_drop]
 conv => rhs; rw [e]
 rw [List.filter_append, List.filter_cons, tt_t h]
 rw [List.filter_eq_self.2, List.filter_eq_self.2]
 ·rfl
 ·intro y hy
  obtain ⟨j, hj, rfl⟩ := List.mem_iff_getElem.1 hy
  rw [List.getElem_drop]
  rw [List.length_drop] at hj
  rw [← gt_eq, tt_f fun hq => by have := uniq hs (by omega) hk hq h; omega]; rfl
 ·intro y hy
  obtain ⟨j, hj, rfl⟩ := List.mem_iff_getElem.1 hy
  rw [List.getElem_take]
  rw [List.length_take] at hj
  rw [← gt_eq, tt_f fun hq => by have := uniq hs (by omega) hk hq h; omega]; rfl
theorem qbm {t : Sl api_Rule} (hn : t.l.length ≤ 2147483648) {k : Nat} (hk : k < t.l.length) (a : Sl api_Act) : q2z t k a = some (Sl.mk (t.l.set k (withA (gt t.l k) a))) := by
 unfold q2z
 rw [q9i hn]
 simp only [Option.bind_some]
 rw [q0y hk]; rfl
theorem qrf {s : Sl api_Rule} {k : Nat} (hk : k ≤ s.l.length) (hn : s.l.length < 2147483648) (x : api_Rule) : insF s k (Sl.mk [x]) = some (Sl.mk (s.l.take k ++ x :: s.l.drop k)) := by
 cases s with
 | nil =>
  obtain rfl : k = 0 := Nat.le_zero.1 hk
  rfl
 | mk l =>
  have hk : k ≤ l.length := hk
  have hn : l.length < 2147483648 := hn
  simp only [insF]
  rw [show (decide (0 ≤ (k : Int)) && decide ((k : Int) ≤ (l.length : Int)) && Nat.ble (l.length + 1) 2147483648) = true by
   rw [decide_eq_true (by omega), decide_eq_true (by omega)]; exact Nat.ble_eq_true_of_le (by omega)]
  rfl
theorem qs6 {s : Sl api_Rule} {k : Nat} (hk : k < s.l.length) (hn : s.l.length ≤ 2147483648) : delF s k ((k + 1 : Nat) : Int) = some (Sl.mk (s.l.take k ++ s.l.drop (k + 1))) := by
 cases s with
 | nil => exact absurd hk (Nat.not_lt_zero _)
 | mk l =>
  have hk : k < l.length := hk
  have hn : l.length ≤ 2147483648 := hn
  simp only [delF]
  rw [show (decide (0 ≤ (k : Int)) && decide ((k : Int) ≤ ((k + 1 : Nat) : Int)) && decide (((k + 1 : Nat) : Int) ≤ (l.length : Int)) && Nat.ble l.length 2147483648) = true by
   rw [decide_eq_true (by omega), decide_eq_true (by omega), decide_eq_true (by omega)]; exact Nat.ble_eq_true_of_le (by omega)]
  rfl
theorem qog {l : List api_Rule} {x : api_Rule} : ∃ k : Nat, (bif decide (fi l (fun y => decide (api_Rule.Prio x > api_Rule.Prio y)) < 0) then (some (l.length : Int)) else (some (fi l (fun y => decide (api_Rule.Prio x > api_Rule.Prio y)))) : Option Int) = some (k : Int) ∧ k ≤ l.length ∧ l.take k ++ x :: l.drop k = ins x l := by
 rcases q9m l fun y => decide (api_Rule.Prio x > api_Rule.Prio y) with ⟨h, h2⟩ | ⟨k, h, hk, hp, hj⟩
 ·refine ⟨l.length, by rw [h]; rfl, Nat.le_refl _, ?_⟩
  have := qdy (x := x) (l := l) (r := []) fun y hy => by have := h2 y hy; rw [decide_eq_false_iff_not] at this; omega
  rw [List.append_nil] at this
  rw [this, List.take_length, List.drop_length]; rfl
 ·refine ⟨k, by rw [h, decide_eq_false (by omega), cond_false], by omega, ?_⟩
  have := qdy (x := x) (l := l.take k) (r := l.drop k) fun y hy => by
   obtain ⟨j, hj2, rfl⟩ := List.mem_iff_getElem.1 hy
   rw [List.length_take] at hj2
   rw [List.getElem_take, ← gt_eq]
   have := hj j (by omega)
   rw [decide_eq_false_iff_not] at this; omega
  rw [List.take_append_drop] at this
  rw [this, qa5 hk, ins, tt_f (by rw [decide_eq_true_eq] at hp; omega), cond_false]
theorem qkw {t : Sl api_Rule} {x : api_Rule} (hn : t.l.length ≤ 2147483648) (hM : ∀ y ∈ t.l, MOk (api_Rule.M y)) (hx : MOk (api_Rule.M x)) :
  ∃ s, q5e t x = some s ∧ s.l = chg (fun y => tt (Lies (api_Rule.M y) (api_Rule.M x))) false (api_Rule.Acts x) t.l := by
 rw [qh8]
 let f : api_Rule → api_Rule := fun y => bif tt (Lies (api_Rule.M y) (api_Rule.M x)) then withA y (api_Rule.Acts x) else y
 have h : ∃ r, loopO (q2p x t) (((0 : Nat) : Int), t) = some r ∧ r.l = t.l.map f := by
  refine forI (fun i (s : Sl api_Rule) => (((i : Nat) : Int), s)) t.l.length (fun i s => s.l = (t.l.take i).map f ++ t.l.drop i) _ (fun i s hi hI => .inl ?_) (fun s hI => ⟨s, ?_, ?_⟩) 0 t (by omega) (by simp)
  ·have hl : s.l.length = t.l.length := by rw [hI]; simp; omega
   have hg : gt s.l i = gt t.l i := by
    rw [gt_eq (by omega), gt_eq hi]
    simp only [hI]
    rw [List.getElem_append_right (by simp; omega)]
    simp only [List.length_map, List.length_take]
    rw [List.getElem_drop]
    congr 1; omega
   have hset : (t.l.take i).map f ++ f (gt t.l i) :: t.l.drop (i + 1) = (t.l.take (i + 1)).map f ++ t.l.drop (i + 1) := by
    rw [q4h hi, List.map_append, List.append_assoc]; rfl
   simp only [q2p]
   rw [decide_eq_true (by omega), cond_true, q0y (show i < s.l.length by omega), wrS (by omega)]
   simp only [Option.bind_some]
   rw [hg, qae (hM _ (q2i hi)) hx]
   simp only [Option.bind_some]
   by_cases hq : Lies (api_Rule.M (gt t.l i)) (api_Rule.M x)
   ·rw [tt_t hq, cond_true]
    refine ⟨Sl.mk _, rfl, ?_⟩
    show s.l.set i (withA (gt t.l i) (api_Rule.Acts x)) = _
    rw [← hset, hI, List.set_append_right _ _ (by simp; omega), qa5 hi]
    have e0 : i - ((t.l.take i).map f).length = 0 := by simp; omega
    rw [e0, List.set_cons_zero]
    simp only [f]
    rw [tt_t hq]; rfl
   ·rw [tt_f hq, cond_false]
    refine ⟨s, rfl, ?_⟩
    rw [← hset, hI, qa5 hi]
    simp only [f]
    rw [tt_f hq]; rfl
  ·simp only [q2p]
   rw [decide_eq_false (by omega), cond_false]
  ·rw [hI]; simp
 obtain ⟨r, h1, h2⟩ := h
 refine ⟨r, ?_, h2⟩
 unfold q5e
 rw [q9i hn]
 simp only [Option.bind_some]
 have h1 : loopO (q2p x t) (0, t) = some r := h1
 rw [h1]; rfl
end Go.Proofs.Ytmeemkllagjnmaa.B
