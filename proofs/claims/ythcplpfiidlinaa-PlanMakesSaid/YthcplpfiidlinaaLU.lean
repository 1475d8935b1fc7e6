/- Plans: what the document's Moves and Make answer. Conditions: as stated. -/
import Derived.Test.YthcplpfiidlinaaLZ
open Go.Ev Go
namespace Go.Proofs.Ythcplpfiidlinaa.L
section
variable {t : api_Topo} {old now : Sl (Sl Int)}
noncomputable def rmv (t : api_Topo) (old now : Sl (Sl Int)) (n i h : Nat) : List level_Move :=
 if dist t now h i = n ∧ q18 old h i ≠ q18 now h i then [((i : Int), (h : Int), q18 now h i, (n : Int))] else []
noncomputable def qxq (t : api_Topo) (old now : Sl (Sl Int)) (n i : Nat) : List level_Move := (List.range t.Hosts.l.length).flatMap (rmv t old now n i)
noncomputable def qv7 (t : api_Topo) (old now : Sl (Sl Int)) (n : Nat) : List level_Move := (List.range now.l.length).flatMap (qxq t old now n)
noncomputable def rmvs (t : api_Topo) (old now : Sl (Sl Int)) : List level_Move := (List.range now.l.length).flatMap (qv7 t old now)
theorem qah {n i h : Nat} {m : level_Move} (hm : m ∈ rmv t old now n i h) : m = ((i : Int), (h : Int), q18 now h i, (n : Int)) ∧ dist t now h i = n ∧ q18 old h i ≠ q18 now h i := by
 unfold rmv at hm
 split at hm
 ·rename_i hc
  exact ⟨by simpa using hm, hc⟩
 ·simp at hm
theorem qsd (n i h : Nat) : (rmv t old now n i h).length ≤ 1 := by unfold rmv; split <;> simp
theorem qn2 (n i : Nat) : (qxq t old now n i).length ≤ t.Hosts.l.length := by
 have := q2h (m := 1) (qsd (t := t) (old := old) (now := now) n i) (List.range t.Hosts.l.length)
 unfold qxq; simpa using this
theorem qu9 (n : Nat) : (qv7 t old now n).length ≤ t.Hosts.l.length * now.l.length := by
 have := q2h (m := t.Hosts.l.length) (qn2 (t := t) (old := old) (now := now) n) (List.range now.l.length)
 unfold qv7; simpa using this
theorem qm4 : (rmvs t old now).Pairwise Bef := by
 unfold rmvs
 rw [List.pairwise_flatMap]
 refine ⟨fun n _ => ?_, (List.pairwise_lt_range (n := now.l.length)).imp fun {a b} hab x hx y hy => ?_⟩
 ·unfold qv7
  rw [List.pairwise_flatMap]
  refine ⟨fun i _ => ?_, (List.pairwise_lt_range (n := now.l.length)).imp fun {a b} hab x hx y hy => ?_⟩
  ·unfold qxq
   rw [List.pairwise_flatMap]
   refine ⟨fun h _ => ?_, (List.pairwise_lt_range (n := t.Hosts.l.length)).imp fun {a b} hab x hx y hy => ?_⟩
   ·unfold rmv; split <;> simp
   ·obtain ⟨rfl, _⟩ := qah hx
    obtain ⟨rfl, _⟩ := qah hy
    exact .inr ⟨rfl, .inr ⟨rfl, by show (a : Int) < (b : Int); omega⟩⟩
  ·obtain ⟨h1, _, hx⟩ := List.mem_flatMap.1 hx
   obtain ⟨h2, _, hy⟩ := List.mem_flatMap.1 hy
   obtain ⟨rfl, _⟩ := qah hx
   obtain ⟨rfl, _⟩ := qah hy
   exact .inr ⟨rfl, .inl (by show (a : Int) < (b : Int); omega)⟩
 ·obtain ⟨i1, _, hx⟩ := List.mem_flatMap.1 hx
  obtain ⟨h1, _, hx⟩ := List.mem_flatMap.1 hx
  obtain ⟨i2, _, hy⟩ := List.mem_flatMap.1 hy
  obtain ⟨h2, _, hy⟩ := List.mem_flatMap.1 hy
  obtain ⟨rfl, _⟩ := qah hx
  obtain ⟨rfl, _⟩ := qah hy
  unfold Bef; simp only; omega
theorem qyy (hN : GoodP t now) : rmvs t old now = qa0 t old now := by
 refine qx2 (R := Bef) (fun x y h1 h2 => by unfold Bef at *; omega) qm4 qjj fun m => ?_
 rw [qna, qbt]
 simp only [rmvs, qv7, qxq, List.mem_flatMap, List.mem_range]
 constructor
 ·rintro ⟨n, _, i, hi, h, hh, hm⟩
  obtain ⟨rfl, hd, hne⟩ := qah hm
  exact ⟨h, i, hh, hi, fun e => hne e.symm, by rw [hd]⟩
 ·rintro ⟨h, i, hh, hi, hne, rfl⟩
  refine ⟨dist t now h i, hN.lt hi hh, i, hi, h, hh, ?_⟩
  rw [rmv, if_pos ⟨rfl, fun e => hne e.symm⟩]
  exact List.mem_cons_self ..
theorem qij (hS1 : q65 t old) (hS2 : q65 t now) (hO : GoodP t old) (hN : GoodP t now) : ∃ s, q4p t old now = some (s, 0) ∧ s.l = qa0 t old now := by
 have hsm := hN.1.small
 have hho := hN.1.hosts
 have hsw := hN.1.len
 have hle : old.l.length = now.l.length := by have := hO.1.len; omega
 have hcond : ∀ n : Nat, decide ((n : Int) < t.Switches) = decide ((n : Int) < (now.l.length : Int)) := fun n => by rw [hsw]
 have hin : ∀ (n i : Nat), n < 9 → i < now.l.length → ∀ s0 : Sl level_Move, s0.l.length ≤ 2000 → ∃ s, q0e (q23 t old now (n : Int) (i : Int)) (0, s0) = some s ∧ s.l = s0.l ++ qxq t old now n i := by
  intro n i hn hi s0 h0
  refine qho (f := q23 t old now (n : Int) (i : Int)) (List.range t.Hosts.l.length) (rmv t old now n i) s0 (by simp; omega) (fun h s hh hs => ?_) (fun s => by simp only [q23, List.length_range, q77, cond_false])
  have hh : h < t.Hosts.l.length := by simpa using hh
  rw [q9g hh]
  have hiO : i < old.l.length := by omega
  have hhn : h < (gt now.l i).l.length := by rw [hN.1.row hi]; exact hh
  have hhO : h < (gt old.l i).l.length := by rw [hO.1.row hiO]; exact hh
  obtain ⟨l, h1, h2⟩ := qcg hS2 hN.1 hh hi (hN.dist hi hh)
  have hlen : s.l.length ≤ 3000 := by
   have := q2h (m := 1) (qsd (t := t) (old := old) (now := now) n i) ((List.range t.Hosts.l.length).take h)
   rw [hs, List.length_append]
   rw [List.length_take, List.length_range] at this
   omega
  have hw : wr .i64 ((n : Int) + 1) = ((n + 1 : Nat) : Int) := qa8 (by omega)
  have hl : (((Sl.mk l).l.length : Int) == ((n + 1 : Nat) : Int)) = decide (dist t now h i = n) := by
   rw [Bool.eq_iff_iff, beq_iff_eq, decide_eq_true_eq, Sl.l_mk, h2]; omega
  have hp : (gt (gt old.l i).l h != gt (gt now.l i).l h) = decide (q18 old h i ≠ q18 now h i) := by
   rw [Bool.eq_iff_iff, bne_iff_ne, decide_eq_true_eq]; rfl
  by_cases hc : dist t now h i = n ∧ q18 old h i ≠ q18 now h i
  ·refine ⟨.mk (s.l ++ [((i : Int), (h : Int), gt (gt now.l i).l h, (n : Int))]), ?_, by rw [rmv, if_pos hc]; rfl⟩
   simp only [q23, q4n hh, cond_true, h1, Option.bind_some, hw, hl, decide_eq_true hc.1, q07 hi, q07 hiO, q07 hhn, q07 hhO, hp, decide_eq_true hc.2]
   rw [q2v (by rw [List.length_append, List.length_singleton]; omega)]
   rfl
  ·refine ⟨s, ?_, by rw [rmv, if_neg hc, List.append_nil]⟩
   by_cases hd : dist t now h i = n
   ·have hp2 : ¬ (q18 old h i ≠ q18 now h i) := fun h => hc ⟨hd, h⟩
    simp only [q23, q4n hh, cond_true, h1, Option.bind_some, hw, hl, decide_eq_true hd, q07 hi, q07 hiO, q07 hhn, q07 hhO, hp, decide_eq_false hp2, cond_false]
   ·simp only [q23, q4n hh, cond_true, h1, Option.bind_some, hw, hl, decide_eq_false hd, cond_false]
 have hmid : ∀ (n : Nat), n < 9 → ∀ s0 : Sl level_Move, s0.l.length ≤ 1000 → ∃ s, q0e (q3j t old now (n : Int)) (0, s0) = some s ∧ s.l = s0.l ++ qv7 t old now n := by
  intro n hn s0 h0
  refine qho (f := q3j t old now (n : Int)) (List.range now.l.length) (qxq t old now n) s0 (by simp; omega) (fun i s hi hs => ?_) (fun s => by simp only [q3j, List.length_range, hcond, q77, cond_false])
  have hi : i < now.l.length := by simpa using hi
  have hlen : s.l.length ≤ 2000 := by
   have := q2h (m := 8) (f := qxq t old now n) (fun i => Nat.le_trans (qn2 n i) hho) ((List.range now.l.length).take i)
   rw [hs, List.length_append]
   rw [List.length_take, List.length_range] at this
   omega
  obtain ⟨s', h1, h2⟩ := hin n i hn hi s hlen
  exact ⟨s', by simp only [q3j, hcond, q4n hi, cond_true, h1, Option.bind_some], by rw [h2, q9g hi]⟩
 obtain ⟨s, h1, h2⟩ := qho (f := q50 t old now) (List.range now.l.length) (qv7 t old now) .nil (by simp; omega) (fun n s hn hs => by
  have hn : n < now.l.length := by simpa using hn
  have hlen : s.l.length ≤ 1000 := by
   have := q2h (m := 64) (f := qv7 t old now) (fun n => Nat.le_trans (qu9 n) (Nat.le_trans (Nat.mul_le_mul hho hsm) (by decide))) ((List.range now.l.length).take n)
   rw [List.length_take, List.length_range] at this
   have e : s.l = ((List.range now.l.length).take n).flatMap (qv7 t old now) := hs
   rw [e]
   omega
  obtain ⟨s', h1, h2⟩ := hmid n (by omega) s hlen
  exact ⟨s', by simp only [q50, hcond, q4n hn, cond_true, h1, Option.bind_some], by rw [h2, q9g hn]⟩) (fun s => by simp only [q50, List.length_range, hcond, q77, cond_false])
 have h2 : s.l = rmvs t old now := h2
 exact ⟨s, by simp only [q4p, q8b hS1, q8b hS2, qrj hO, qrj hN, Option.bind_some, Bool.not_true, cond_false, h1], by rw [h2, qyy hN]⟩
theorem qis (hS1 : q65 t old) (hS2 : q65 t now) (hG : ¬ (GoodP t old ∧ GoodP t now)) : q4p t old now = some (.nil, 2) := by
 unfold q4p
 rw [q8b hS1, q8b hS2]
 by_cases h1 : GoodP t old
 ·rw [qrj h1, qkf fun h2 => hG ⟨h1, h2⟩]; rfl
 ·rw [qkf h1]; rfl
theorem qpe (hN : GoodP t now) {l : Sl level_Move} (hl : l.l = qa0 t old now) (n : Nat) : ∃ s, qb8 t l (n : Int) = some s ∧ SwsOf l.l (n : Int) s.l := by
 have hsm := hN.1.small
 have hsw := hN.1.len
 have hml := qnc (old := old) hN
 have hcond : ∀ n : Nat, decide ((n : Int) < t.Switches) = decide ((n : Int) < (now.l.length : Int)) := fun n => by rw [hsw]
 have hcount : ∀ i : Nat, ∃ c : Int, q0e (q35 l (n : Int) (i : Int)) (0, 0) = some c ∧ (c > 0 ↔ ∃ m ∈ l.l, m.2.2.2 = (n : Int) ∧ m.1 = (i : Int)) := by
  intro i
  have h := qse (f := q35 l (n : Int) (i : Int)) (fun k (c : Nat) => ((c : Int), (k : Int))) l.l.length (fun k c => c ≤ k ∧ (0 < c ↔ ∃ m ∈ l.l.take k, m.2.2.2 = (n : Int) ∧ m.1 = (i : Int))) (fun b => ∃ c : Nat, b = (c : Int) ∧ (0 < c ↔ ∃ m ∈ l.l, m.2.2.2 = (n : Int) ∧ m.1 = (i : Int))) (fun k c hk ⟨i1, i2⟩ => by
   left
   have et : l.l.take (k + 1) = l.l.take k ++ [gt l.l k] := by rw [q22 hk, List.take_append_getElem hk]
   have hkl : k < 100 := by rw [hl] at hk; omega
   have hw : wr .i64 ((c : Int) + 1) = ((c + 1 : Nat) : Int) := qa8 (by omega)
   by_cases h1 : (gt l.l k).1 = (i : Int)
   ·have b1 : ((gt l.l k).1 == (i : Int)) = true := by rw [beq_iff_eq]; exact h1
    by_cases h2 : (gt l.l k).2.2.2 = (n : Int)
    ·have b2 : ((gt l.l k).2.2.2 == (n : Int)) = true := by rw [beq_iff_eq]; exact h2
     refine ⟨c + 1, by simp only [q35, q4n hk, cond_true, q07 hk, Option.bind_some, b1, b2, hw, qa8 (show k < 9223372036854775807 by omega)], by omega, fun _ => ⟨gt l.l k, by rw [et]; simp, h2, h1⟩, fun _ => by omega⟩
    ·have b2 : ((gt l.l k).2.2.2 == (n : Int)) = false := by rw [beq_eq_false_iff_ne]; exact h2
     refine ⟨c, by simp only [q35, q4n hk, cond_true, q07 hk, Option.bind_some, b1, b2, cond_false, qa8 (show k < 9223372036854775807 by omega)], by omega, ?_⟩
     rw [i2, et]
     constructor
     ·rintro ⟨m, hm, h⟩; exact ⟨m, List.mem_append_left _ hm, h⟩
     ·rintro ⟨m, hm, h⟩
      rcases List.mem_append.1 hm with hm | hm
      ·exact ⟨m, hm, h⟩
      ·obtain rfl := List.mem_singleton.1 hm; exact absurd h.1 h2
   ·have b1 : ((gt l.l k).1 == (i : Int)) = false := by rw [beq_eq_false_iff_ne]; exact h1
    refine ⟨c, by simp only [q35, q4n hk, cond_true, q07 hk, Option.bind_some, b1, cond_false, qa8 (show k < 9223372036854775807 by omega)], by omega, ?_⟩
    rw [i2, et]
    constructor
    ·rintro ⟨m, hm, h⟩; exact ⟨m, List.mem_append_left _ hm, h⟩
    ·rintro ⟨m, hm, h⟩
     rcases List.mem_append.1 hm with hm | hm
     ·exact ⟨m, hm, h⟩
     ·obtain rfl := List.mem_singleton.1 hm; exact absurd h.2 h1)
   (fun c ⟨i1, i2⟩ => ⟨_, by simp only [q35, q77, cond_false], c, rfl, by rw [List.take_length] at i2; exact i2⟩) 0 0 (Nat.zero_le _) ⟨Nat.le_refl _, by simp⟩
  obtain ⟨b, h1, c, rfl, h2⟩ := h
  exact ⟨_, h1, by rw [← h2]; omega⟩
 have h := qse (f := q3x t l (n : Int)) (fun i (s : Sl Int) => ((i : Int), s)) now.l.length (fun i s => s.l.length ≤ i ∧ s.l.Pairwise (· < ·) ∧ ∀ x, x ∈ s.l ↔ (0 ≤ x ∧ x < (i : Int)) ∧ ∃ m ∈ l.l, m.2.2.2 = (n : Int) ∧ m.1 = x) (fun s => SwsOf l.l (n : Int) s.l) (fun i s hi ⟨i1, i2, i3⟩ => by
   left
   obtain ⟨c, h1, h2⟩ := hcount i
   by_cases hc : c > 0
   ·refine ⟨.mk (s.l ++ [(i : Int)]), by simp only [q3x, hcond, q4n hi, cond_true, h1, Option.bind_some, decide_eq_true hc, q2v (show (s.l ++ [(i : Int)]).length ≤ 2147483648 by rw [List.length_append, List.length_singleton]; omega), qa8 (show i < 9223372036854775807 by omega)], by simp; omega, qhr i2 fun y hy => by have := ((i3 y).1 hy).1; omega, fun x => ?_⟩
    rw [Sl.l_mk, List.mem_append, List.mem_singleton, i3]
    constructor
    ·rintro (⟨h, hm⟩ | rfl)
     ·exact ⟨by omega, hm⟩
     ·exact ⟨by omega, h2.1 hc⟩
    ·rintro ⟨h, hm⟩
     by_cases he : x = (i : Int)
     ·exact .inr he
     ·exact .inl ⟨by omega, hm⟩
   ·refine ⟨s, by simp only [q3x, hcond, q4n hi, cond_true, h1, Option.bind_some, decide_eq_false hc, cond_false, qa8 (show i < 9223372036854775807 by omega)], by omega, i2, fun x => ?_⟩
    rw [i3]
    constructor
    ·rintro ⟨h, hm⟩; exact ⟨by omega, hm⟩
    ·rintro ⟨h, hm⟩
     by_cases he : x = (i : Int)
     ·exact absurd (h2.2 (he ▸ hm)) hc
     ·exact ⟨by omega, hm⟩)
   (fun s ⟨i1, i2, i3⟩ => ⟨s, by simp only [q3x, hcond, q77, cond_false], i2, fun x => by
    rw [i3]
    refine ⟨fun h => h.2, fun h => ⟨?_, h⟩⟩
    obtain ⟨m, hm, _, rfl⟩ := h
    obtain ⟨h, i, _, hi, _, rfl⟩ := qbt.1 (qna.1 (hl ▸ hm))
    simp only; omega⟩) 0 .nil (Nat.zero_le _) ⟨Nat.le_refl _, by simp, fun x => by simp; omega⟩
 obtain ⟨s, h1, h2⟩ := h
 have h1 : q0e (q3x t l (n : Int)) (0, Sl.nil) = some s := h1
 exact ⟨s, by simp only [qb8, h1, Option.bind_some], h2⟩
end
end Go.Proofs.Ythcplpfiidlinaa.L
