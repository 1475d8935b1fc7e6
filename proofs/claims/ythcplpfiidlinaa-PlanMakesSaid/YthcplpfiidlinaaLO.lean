/- Plans: how long a packet is on its way, which switches have moves in a round, and the times. Conditions: as stated. -/
import Derived.Test.YthcplpfiidlinaaLC
open Go.Ev Go
namespace Go.Proofs.Ythcplpfiidlinaa.L
def q8n (l : List api_Link) : Int := l.foldl (fun m x => if x.Most > m then x.Most else m) 0
theorem qj6 (l : List api_Link) {i : Nat} (hi : i < l.length) : q8n (l.take (i + 1)) = if (gt l i).Most > q8n (l.take i) then (gt l i).Most else q8n (l.take i) := by
 unfold q8n
 rw [q22 hi, ← List.take_append_getElem hi, List.foldl_append]; rfl
theorem qw0 {t : api_Topo} (hb : t.Links.l.length < 9223372036854775808) : q3w t = some (q8n t.Links.l) := by
 have e0 : ((0 : Nat) : Int) = 0 := rfl
 have h : q0e (q2d t) (0, 0) = some (q8n t.Links.l) := by
  have h1 := qse (f := q2d t) (fun i (m : Int) => (m, (i : Int))) t.Links.l.length (fun i m => m = q8n (t.Links.l.take i)) (fun b => b = q8n t.Links.l) (fun i m hi hm => by
   left
   refine ⟨_, ?_, (qj6 _ hi).symm⟩
   subst hm
   simp only [q2d, q4n hi, cond_true, q07 hi, Option.bind_some, qa8 (show i < 9223372036854775807 by omega)])
   (fun m hm => ⟨m, by simp only [q2d, q77, cond_false], by rw [hm, List.take_length]⟩) 0 0 (Nat.zero_le _) rfl
  obtain ⟨b, h1, rfl⟩ := h1
  exact h1
 simp only [q3w, h, Option.bind_some]
theorem qlv {t : api_Topo} (hb : t.Links.l.length < 9223372036854775808) : q5o t = some (q8n t.Links.l) := by
 have h : q0e (q2o t) (0, 0) = some (q8n t.Links.l) := by
  have h1 := qse (f := q2o t) (fun i (m : Int) => (m, (i : Int))) t.Links.l.length (fun i m => m = q8n (t.Links.l.take i)) (fun b => b = q8n t.Links.l) (fun i m hi hm => by
   left
   refine ⟨_, ?_, (qj6 _ hi).symm⟩
   subst hm
   simp only [q2o, q4n hi, cond_true, q07 hi, Option.bind_some, qa8 (show i < 9223372036854775807 by omega)]
   by_cases hc : (gt t.Links.l i).Most > q8n (t.Links.l.take i)
   ·rw [if_pos hc, decide_eq_true hc]; rfl
   ·rw [if_neg hc, decide_eq_false hc]; rfl)
   (fun m hm => ⟨m, by simp only [q2o, q77, cond_false], by rw [hm, List.take_length]⟩) 0 0 (Nat.zero_le _) rfl
  obtain ⟨b, h1, rfl⟩ := h1
  exact h1
 simp only [q5o, h, Option.bind_some]
theorem qzh {l : List api_Link} (h : ∀ x ∈ l, q9c x) : 0 ≤ q8n l ∧ q8n l ≤ 1000 := by
 have : ∀ (l : List api_Link) (m : Int), (∀ x ∈ l, q9c x) → 0 ≤ m ∧ m ≤ 1000 → 0 ≤ l.foldl (fun m x => if x.Most > m then x.Most else m) m ∧ l.foldl (fun m x => if x.Most > m then x.Most else m) m ≤ 1000 := by
  intro l
  induction l with
  | nil => intro m _ hm; exact hm
  | cons x l ih =>
   intro m h hm
   refine ih _ (fun y hy => h y (List.mem_cons_of_mem _ hy)) ?_
   have := h x (List.mem_cons_self ..)
   unfold q9c at this
   show 0 ≤ (if x.Most > m then x.Most else m) ∧ (if x.Most > m then x.Most else m) ≤ 1000
   split <;> omega
 exact this l 0 h ⟨by omega, by omega⟩
def q2f (t : api_Topo) : Int := t.Switches * q8n t.Links.l
theorem q8g {t : api_Topo} (hV : Valid t) : 0 ≤ q2f t ∧ q2f t ≤ 8000 := by
 obtain ⟨h1, h2⟩ := qzh hV.link
 obtain ⟨h3, h4⟩ := hV.sw
 unfold q2f
 generalize q8n t.Links.l = s at *
 generalize t.Switches = n at *
 refine ⟨Int.mul_nonneg (by omega) h1, ?_⟩
 have := Int.mul_le_mul h4 h2 h1 (by omega)
 omega
theorem qmg {t : api_Topo} (hV : Valid t) : q5x t = some (q2f t) := by
 have := q8g hV
 have hl := hV.links
 simp only [q5x, qw0 (show t.Links.l.length < 9223372036854775808 by omega), Option.bind_some]
 exact congrArg some (q2l (n := q2f t) (by omega) (by omega))
theorem qlk {t : api_Topo} (hV : Valid t) : q9r t = some (q2f t) := by
 have := q8g hV
 have hl := hV.links
 simp only [q9r, qlv (show t.Links.l.length < 9223372036854775808 by omega), Option.bind_some]
 exact congrArg some (q2l (n := q2f t) (by omega) (by omega))
theorem qzi {t : api_Topo} (hV : Valid t) {miss : Int} (h0 : 0 ≤ miss) (h1 : miss ≤ 1048576) : q7w t miss = some (2 * miss + q2f t + 1) := by
 have := q8g hV
 simp only [q7w, qmg hV, Option.bind_some]
 rw [q2l (n := 2 * miss) (by omega) (by omega), q2l (n := 2 * miss + q2f t) (by omega) (by omega), q2l (by omega) (by omega)]
def qmm (l : List level_Move) : Prop := l.Pairwise Bef
structure SwsOf (l : List level_Move) (round : Int) (s : List Int) : Prop where
 asc : s.Pairwise (· < ·)
 mem : ∀ x, x ∈ s ↔ ∃ m ∈ l, m.2.2.2 = round ∧ m.1 = x
theorem SwsOf.uniq {l : List level_Move} {round : Int} {a b : List Int} (ha : SwsOf l round a) (hb : SwsOf l round b) : a = b :=
 qx9 ha.asc hb.asc fun x => (ha.mem x).trans (hb.mem x).symm
theorem qhr {s : List Int} {x : Int} (h : s.Pairwise (· < ·)) (hx : ∀ y ∈ s, y < x) : (s ++ [x]).Pairwise (· < ·) :=
 List.pairwise_append.2 ⟨h, by simp, fun a ha b hb => by obtain rfl := List.mem_singleton.1 hb; exact hx a ha⟩
theorem qyv {l : Sl level_Move} (hs : qmm l.l) (hb : l.l.length ≤ 1000) (round : Int) : ∃ s, q9m l round = some s ∧ SwsOf l.l round s.l := by
 have h1 := qse (f := q2m l round) (fun i (s : Sl Int) => ((i : Int), s)) l.l.length (fun i s => s.l.length ≤ i ∧ SwsOf (l.l.take i) round s.l) (fun s => SwsOf l.l round s.l) (fun i s hi ⟨hlen, hI⟩ => by
  left
  have et : l.l.take (i + 1) = l.l.take i ++ [gt l.l i] := by rw [q22 hi, List.take_append_getElem hi]
  have hc := q5g (s := s) (gt l.l i).1 (by omega)
  have hpre : ∀ m ∈ l.l.take i, Bef m (gt l.l i) := fun m hm => by
   have := hs
   unfold qmm at this
   rw [← List.take_append_drop i l.l] at this
   refine (List.pairwise_append.1 this).2.2 m hm _ ?_
   rw [List.drop_eq_getElem_cons hi, ← q22 hi]
   exact List.mem_cons_self ..
  have hmem1 : ∀ x, (∃ m ∈ l.l.take (i + 1), m.2.2.2 = round ∧ m.1 = x) ↔ (∃ m ∈ l.l.take i, m.2.2.2 = round ∧ m.1 = x) ∨ ((gt l.l i).2.2.2 = round ∧ (gt l.l i).1 = x) := fun x => by
   rw [et]
   simp only [List.mem_append, List.mem_singleton]
   constructor
   ·rintro ⟨m, hm | rfl, h⟩
    ·exact .inl ⟨m, hm, h⟩
    ·exact .inr h
   ·rintro (⟨m, hm, h⟩ | h)
    ·exact ⟨m, .inl hm, h⟩
    ·exact ⟨_, .inr rfl, h⟩
  by_cases hr : (gt l.l i).2.2.2 = round
  ·by_cases hm : (gt l.l i).1 ∈ s.l
   ·refine ⟨s, ?_, by omega, hI.asc, fun x => ?_⟩
    ·rw [decide_eq_true hm] at hc
     simp only [q2m, q4n hi, cond_true, q07 hi, Option.bind_some, hr, beq_self_eq_true, hc, Bool.not_true, cond_false, qa8 (show i < 9223372036854775807 by omega)]
    ·rw [hmem1, hI.mem]
     refine ⟨.inl, fun h => h.elim id fun ⟨_, h2⟩ => ?_⟩
     rw [← hI.mem, ← h2]; exact hm
   ·refine ⟨.mk (s.l ++ [(gt l.l i).1]), ?_, by rw [Sl.l_mk, List.length_append, List.length_singleton]; omega, ?_, fun x => ?_⟩
    ·rw [decide_eq_false hm] at hc
     simp only [q2m, q4n hi, cond_true, q07 hi, Option.bind_some, hr, beq_self_eq_true, hc, Bool.not_false, q2v (show (s.l ++ [(gt l.l i).1]).length ≤ 2147483648 by rw [List.length_append, List.length_singleton]; omega), qa8 (show i < 9223372036854775807 by omega)]
    ·refine qhr hI.asc fun y hy => ?_
     obtain ⟨m, h1, h2, h3⟩ := (hI.mem y).1 hy
     have h4 := hpre m h1
     unfold Bef at h4
     have : y ≠ (gt l.l i).1 := fun e => hm (e ▸ hy)
     omega
    ·rw [hmem1, Sl.l_mk, List.mem_append, List.mem_singleton, hI.mem]
     refine or_congr Iff.rfl ⟨fun h => ⟨hr, h.symm⟩, fun h => h.2.symm⟩
  ·have hr2 : ((gt l.l i).2.2.2 == round) = false := by rw [beq_eq_false_iff_ne]; exact hr
   refine ⟨s, ?_, by omega, hI.asc, fun x => ?_⟩
   ·simp only [q2m, q4n hi, cond_true, q07 hi, Option.bind_some, hr2, cond_false, qa8 (show i < 9223372036854775807 by omega)]
   ·rw [hmem1, hI.mem]
    exact ⟨.inl, fun h => h.elim id fun h => absurd h.1 hr⟩)
  (fun s ⟨_, hI⟩ => ⟨s, by simp only [q2m, q77, cond_false], by rw [List.take_length] at hI; exact hI⟩) 0 .nil (Nat.zero_le _) ⟨Nat.le_refl _, by simp, fun x => by simp⟩
 obtain ⟨s, h1, h2⟩ := h1
 have h1 : q0e (q2m l round) (0, Sl.nil) = some s := h1
 exact ⟨s, by simp only [q9m, h1, Option.bind_some], h2⟩
def q5y (n : Nat) (gap : Int) : List Int := (List.range n).map fun (i : Nat) => (i : Int) * gap
theorem qvt {n i : Nat} {gap : Int} (hi : i < n) : gt (q5y n gap) i = (i : Int) * gap := by
 rw [q22 (by simp [q5y, hi])]; simp [q5y]
def q3i (n : Nat) (gap : Int) : List diff_After := (List.range n).map fun (i : Nat) => ((i : Int), ((i + 1 : Nat) : Int), gap)
theorem qnw {n : Nat} (hn : n ≤ 63) (gap : Int) : ∃ s, q0e (q3f ((n + 1 : Nat) : Int) gap) (1, Sl.nil) = some s ∧ s.l = q3i n gap := by
 have h1 := qse (f := q3f ((n + 1 : Nat) : Int) gap) (fun i (s : Sl diff_After) => (((i + 1 : Nat) : Int), s)) n (fun i s => s.l = q3i i gap) (fun s => s.l = q3i n gap) (fun i s hi hs => by
  left
  have hlen : s.l.length = i := by rw [hs]; simp [q3i]
  have hw : wr .i64 (((i + 1 : Nat) : Int) - 1) = (i : Int) := by rw [q2l (by omega) (by omega)]; omega
  exact ⟨.mk (s.l ++ [((i : Int), ((i + 1 : Nat) : Int), gap)]), by
   simp only [q3f, q4n (show i + 1 < n + 1 by omega), cond_true, hw, q2v (show (s.l ++ [(((i : Int), ((i + 1 : Nat) : Int), gap) : diff_After)]).length ≤ 2147483648 by rw [List.length_append, List.length_singleton]; omega), Option.bind_some, qa8 (show i + 1 < 9223372036854775807 by omega)], by
   rw [Sl.l_mk, hs]; simp [q3i, List.range_succ]⟩)
  (fun s hs => ⟨s, by simp only [q3f, q77, cond_false], hs⟩) 0 .nil (Nat.zero_le _) rfl
 exact h1
theorem qpj {n : Nat} (hn : n ≤ 63) {gap : Int} (h0 : 0 < gap) (h1 : gap ≤ 1073741824) {s : Sl diff_After} (hs : s.l = q3i n gap) : q5r ((n + 1 : Nat) : Int) s = some true := by
 have hlen : s.l.length = n := by rw [hs]; simp [q3i]
 have hi := qbs (f := q04 s ((n + 1 : Nat) : Int)) (β := Int) (γ := Unit) s.l (fun _ _ => none) () (by omega) (fun i hi => by
  have hg : gt s.l i = ((i : Int), ((i + 1 : Nat) : Int), gap) := by
   rw [q22 hi]; simp only [hs, q3i, List.getElem_map, List.getElem_range]
  have hc : ((((((decide ((i : Int) < 0)) || (decide ((i : Int) ≥ ((n + 1 : Nat) : Int)))) || (decide (((i + 1 : Nat) : Int) < 0))) || (decide (((i + 1 : Nat) : Int) ≥ ((n + 1 : Nat) : Int)))) || (decide (gap < (-1073741824)))) || (decide (gap > 1073741824))) = false := by
   simp only [Bool.or_eq_false_iff, decide_eq_false_iff_not]; omega
  simp only [q04, q4n hi, cond_true, q07 hi, Option.bind_some, q8q, hg, hc, cond_false]) (by simp only [q04, q77, cond_false])
 have h2 : qap (β := Int) (fun (_ : Nat) (_ : diff_After) => none) s.l 0 = none := q33.2 fun _ _ _ => rfl
 rw [h2] at hi
 have hc : (((decide (((n + 1 : Nat) : Int) < 0)) || (decide (((n + 1 : Nat) : Int) > 64))) || (decide ((s.l.length : Int) > 256))) = false := by
  simp only [Bool.or_eq_false_iff, decide_eq_false_iff_not]; omega
 simp only [q5r, hc, cond_false, q03, q05, hi, Option.bind_some]
 rfl
end Go.Proofs.Ythcplpfiidlinaa.L
