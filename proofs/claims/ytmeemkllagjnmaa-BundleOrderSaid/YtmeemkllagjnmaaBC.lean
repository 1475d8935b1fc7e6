/- Matches: what two have in common, which lies within which; rules that overlap. Conditions: as stated. -/
import Derived.Test.YtmeemkllagjnmaaBB
open Go.Ev Go
namespace Go.Proofs.Ytmeemkllagjnmaa.B
theorem forI {S σ β : Type} {f : S → Option (Sum S β)} (st : Nat → σ → S) (n : Nat) (I : Nat → σ → Prop) (R : β → Prop)
  (hstep : ∀ i s, i < n → I i s → (∃ s', f (st i s) = some (.inl (st (i + 1) s')) ∧ I (i + 1) s') ∨ (∃ b, f (st i s) = some (.inr b) ∧ R b))
  (hend : ∀ s, I n s → ∃ b, f (st n s) = some (.inr b) ∧ R b) : ∀ i s, i ≤ n → I i s → ∃ b, loopO f (st i s) = some b ∧ R b := by
 have : ∀ (k i : Nat) (s : σ), i + k = n → I i s → ∃ b, loopO f (st i s) = some b ∧ R b := by
  intro k
  induction k with
  | zero =>
   intro i s hi hI
   obtain rfl : i = n := by omega
   obtain ⟨b, h1, h2⟩ := hend s hI
   exact ⟨b, loopO_inr h1, h2⟩
  | succ k ih =>
   intro i s hi hI
   rcases hstep i s (by omega) hI with ⟨s', h1, h2⟩ | ⟨b, h1, h2⟩
   ·obtain ⟨b, h4, h5⟩ := ih (i + 1) s' (by omega) h2
    exact ⟨b, (loopO_inl h1).trans h4, h5⟩
   ·exact ⟨b, loopO_inr h1, h2⟩
 exact fun i s hi => this (n - i) i s (by omega)
theorem gt_set {α : Type} [Inhabited α] {l : List α} {n m : Nat} {x : α} (hn : n < l.length) : gt (l.set n x) m = if n = m then x else gt l m := by
 simp only [gt, List.getD_eq_getElem?_getD, List.getElem?_set]
 by_cases h : n = m
 ·subst h; simp [hn]
 ·simp [h]
theorem arr_ext {a b : Arr 4 Int} (h : ∀ f, f < 4 → gt a.1 f = gt b.1 f) : a = b := by
 apply Subtype.ext
 apply List.ext_getElem (by rw [a.2, b.2])
 intro i h1 h2
 have := h i (by have := a.2; omega)
 rwa [gt_eq h1, gt_eq h2] at this
def setN : Nat → (Nat → Int) → Arr 4 Int → Arr 4 Int
 | 0, _, z => z
 | n + 1, g, z => Arr.set (setN n g z) n (g n)
theorem setN_gt (g : Nat → Int) (z : Arr 4 Int) : ∀ (n : Nat), n ≤ 4 → ∀ f, f < n → gt (setN n g z).1 f = g f := by
 intro n
 induction n with
 | zero => intro _ f h; omega
 | succ n ih =>
  intro hn f hf
  simp only [setN, Arr.set]
  rw [gt_set (by rw [(setN n g z).2]; omega)]
  by_cases e : n = f
  ·rw [if_pos e, e]
  ·rw [if_neg e, ih (by omega) f (by omega)]
theorem setN_eq {g : Nat → Int} {z a : Arr 4 Int} : setN 4 g z = a ↔ ∀ f, f < 4 → g f = gt a.1 f :=
 ⟨fun h f hf => by rw [← h, setN_gt g z 4 (by omega) f hf], fun h => arr_ext fun f hf => by rw [setN_gt g z 4 (by omega) f hf, h f hf]⟩
abbrev Z4 : Arr 4 Int := zeE (.ar 4 (.i .i64))
def Meets (a b : api_Match) : Prop :=
 (api_Match.Port a = api_Match.Port b ∨ api_Match.Port a = -1 ∨ api_Match.Port b = -1) ∧ ∀ f, f < 4 → ∀ i, bt (msk a f) i = true → bt (msk b f) i = true → bt (vl a f) i = bt (vl b f) i
def Lies (a b : api_Match) : Prop :=
 (api_Match.Port b = -1 ∨ api_Match.Port a = api_Match.Port b) ∧ ∀ f, f < 4 → ∀ i, bt (msk b f) i = true → bt (msk a f) i = true ∧ bt (vl a f) i = bt (vl b f) i
def both (a b : api_Match) : api_Match := (⟨(if (api_Match.Port b) > (api_Match.Port a) then (api_Match.Port b) else (api_Match.Port a)), setN 4 (fun f => bOr .i64 (vl a f) (vl b f)) Z4, setN 4 (fun f => bOr .i64 (msk a f) (msk b f)) Z4⟩ : api_Match)
theorem match_meet {a b : api_Match} (ha : MOk a) (hb : MOk b) : ∃ out, match_Meet a b = some (out, tt (Meets a b)) ∧ (Meets a b → out = both a b) := by
 unfold match_Meet
 by_cases hp : api_Match.Port a = api_Match.Port b ∨ api_Match.Port a = -1 ∨ api_Match.Port b = -1
 case neg =>
  refine ⟨(⟨0, Z4, Z4⟩ : api_Match), ?_, fun h => absurd h.1 hp⟩
  rw [tt_f fun h : Meets a b => hp h.1]
  rw [show ((((api_Match.Port a) != (api_Match.Port b)) && ((api_Match.Port a) != (-1))) && ((api_Match.Port b) != (-1))) = true by simp; omega, cond_true]
 rw [show ((((api_Match.Port a) != (api_Match.Port b)) && ((api_Match.Port a) != (-1))) && ((api_Match.Port b) != (-1))) = false by simp; omega, cond_false]
 let P : Nat → Prop := fun f => ∀ i, bt (msk a f) i = true → bt (msk b f) i = true → bt (vl a f) i = bt (vl b f) i
 let st : Nat → Int × api_Match × api_Match := fun j => ((j : Int), (⟨0, Z4, Z4⟩ : api_Match), (⟨(if (api_Match.Port b) > (api_Match.Port a) then (api_Match.Port b) else (api_Match.Port a)), setN j (fun f => bOr .i64 (vl a f) (vl b f)) Z4, setN j (fun f => bOr .i64 (msk a f) (msk b f)) Z4⟩ : api_Match))
 have e : ∀ f, f < 4 → (P f ↔ bAnd .i64 (bAnd .i64 (bXor .i64 (vl a f) (vl b f)) (msk a f)) (msk b f) = 0) := by
  intro f hf
  obtain ⟨k, v, hk, hv, k2, v2, _⟩ := ha.nat hf
  obtain ⟨k', v', hk', hv', k2', v2', _⟩ := hb.nat hf
  have hx : v ^^^ v' < 9223372036854775808 := lt64 fun j hj => by rw [Nat.testBit_xor, bit8 v2 (by omega), bit8 v2' (by omega)]; rfl
  have hy : (v ^^^ v') &&& k < 9223372036854775808 := lt64 fun j hj => by rw [Nat.testBit_and, bit8 k2 (by omega), Bool.and_false]
  show (∀ i, bt (msk a f) i = true → bt (msk b f) i = true → bt (vl a f) i = bt (vl b f) i) ↔ _
  rw [hk, hv, hk', hv', bXor64 (by omega) (by omega), bAnd64 hx (by omega), bAnd64 hy (by omega), Int.natCast_eq_zero, diff2]
  simp only [bt, Int.toNat_natCast]
 have hst : ∀ f, f < 4 → P f → match_Meet_L1 a b (st f) = some (.inl (st (f + 1))) := by
  intro f hf h
  simp only [match_Meet_L1, st]
  rw [decide_eq_true (by omega), cond_true, ix4 hf]
  simp only [Option.bind_some]
  rw [(e f hf).1 h, show ((0 : Int) != 0) = false from rfl, cond_false, wrS (by omega)]
  rfl
 rcases leastN (P := P) 4 with h | ⟨k, hk, hnp, hj⟩
 ·have hl := runL (f := match_Meet_L1 a b) st 4 (fun i hi => hst i hi (h i hi)) (b := .inr (⟨0, Z4, Z4⟩, both a b)) (by simp only [match_Meet_L1, st]; rfl)
  have hM : Meets a b := ⟨hp, h⟩
  refine ⟨both a b, ?_, fun _ => rfl⟩
  rw [tt_t hM]
  have hl : loopO (match_Meet_L1 a b) (0, (⟨0, Z4, Z4⟩ : api_Match), (⟨(if (api_Match.Port b) > (api_Match.Port a) then (api_Match.Port b) else (api_Match.Port a)), Z4, Z4⟩ : api_Match)) = _ := hl
  rw [hl]; rfl
 ·have hl := runL (f := match_Meet_L1 a b) st k (fun i hi => hst i (by omega) (hj i hi)) (b := .inl (false, ⟨0, Z4, Z4⟩)) (by
   simp only [match_Meet_L1, st]
   rw [decide_eq_true (by omega), cond_true, ix4 hk]
   simp only [Option.bind_some]
   rw [show ((bAnd .i64 (bAnd .i64 (bXor .i64 (vl a k) (vl b k)) (msk a k)) (msk b k)) != 0) = true by simpa using fun h => hnp ((e k hk).2 h), cond_true])
  have hM : ¬ Meets a b := fun h => hnp (h.2 k hk)
  refine ⟨⟨0, Z4, Z4⟩, ?_, fun h => absurd h hM⟩
  rw [tt_f hM]
  have hl : loopO (match_Meet_L1 a b) (0, (⟨0, Z4, Z4⟩ : api_Match), (⟨(if (api_Match.Port b) > (api_Match.Port a) then (api_Match.Port b) else (api_Match.Port a)), Z4, Z4⟩ : api_Match)) = _ := hl
  rw [hl]; rfl
theorem lies_meets {a b : api_Match} (h : Lies a b) : Meets a b := by
 refine ⟨?_, fun f hf i _ hb => (h.2 f hf i hb).2⟩
 rcases h.1 with h | h
 ·exact .inr (.inr h)
 ·exact .inl h
theorem both_eq {a b : api_Match} (ha : MOk a) (hb : MOk b) (hM : Meets a b) : both a b = a ↔ Lies a b := by
 have hn : ∀ f, f < 4 → ((bOr .i64 (vl a f) (vl b f) = vl a f ∧ bOr .i64 (msk a f) (msk b f) = msk a f) ↔ ∀ i, bt (msk b f) i = true → bt (msk a f) i = true ∧ bt (vl a f) i = bt (vl b f) i) := by
  intro f hf
  have hm := hM.2 f hf
  obtain ⟨k, v, hk, hv, k2, v2, _⟩ := ha.nat hf
  obtain ⟨k', v', hk', hv', k2', v2', hs'⟩ := hb.nat hf
  rw [hk, hv, hk', hv'] at hm ⊢
  rw [bOr64 (by omega) (by omega), bOr64 (by omega) (by omega), Int.natCast_inj, Int.natCast_inj, or_l, or_l]
  simp only [bt, Int.toNat_natCast] at hm ⊢
  constructor
  ·intro ⟨_, h2⟩ i hi
   exact ⟨h2 i hi, hm i (h2 i hi) hi⟩
  ·intro h
   exact ⟨fun i hi => by rw [(h i (hs' i hi)).2]; exact hi, fun i hi => (h i hi).1⟩
 have e : both a b = a ↔ (if (api_Match.Port b) > (api_Match.Port a) then (api_Match.Port b) else (api_Match.Port a)) = api_Match.Port a ∧ setN 4 (fun f => bOr .i64 (vl a f) (vl b f)) Z4 = api_Match.Val a ∧ setN 4 (fun f => bOr .i64 (msk a f) (msk b f)) Z4 = api_Match.Mask a := by
  obtain ⟨pa, va, ka⟩ := a
  simp only [both, Prod.mk.injEq]
 have := ha.lo
 have := hb.lo
 have h0 := hM.1
 rw [e, setN_eq, setN_eq]
 constructor
 ·intro ⟨h1, h2, h3⟩
  refine ⟨?_, fun f hf => (hn f hf).1 ⟨h2 f hf, h3 f hf⟩⟩
  split at h1 <;> omega
 ·intro ⟨h1, h2⟩
  refine ⟨?_, fun f hf => ((hn f hf).2 (h2 f hf)).1, fun f hf => ((hn f hf).2 (h2 f hf)).2⟩
  split <;> omega
theorem match_within {a b : api_Match} (ha : MOk a) (hb : MOk b) : match_Within a b = some (tt (Lies a b)) := by
 obtain ⟨out, h1, h2⟩ := match_meet ha hb
 simp only [match_Within, h1, Option.bind_some, Option.some.injEq]
 by_cases hM : Meets a b
 ·rw [h2 hM, tt_t hM, Bool.true_and, tt_dec, tt_congr (both_eq ha hb hM)]
 ·rw [tt_f hM, Bool.false_and, tt_f fun h => hM (lies_meets h)]
def Ovl (a b : api_Rule) : Prop := api_Rule.Prio a = api_Rule.Prio b ∧ api_Rule.M a ≠ api_Rule.M b ∧ Meets (api_Rule.M a) (api_Rule.M b)
theorem ovl_comm {a b : api_Rule} : Ovl a b ↔ Ovl b a := by
 have : ∀ {a b : api_Rule}, Ovl a b → Ovl b a := fun {a b} h => ⟨h.1.symm, h.2.1.symm, ⟨by have := h.2.2.1; omega, fun f hf i x y => (h.2.2.2 f hf i y x).symm⟩⟩
 exact ⟨this, this⟩
theorem rule_overlaps {a b : api_Rule} (ha : MOk (api_Rule.M a)) (hb : MOk (api_Rule.M b)) : rule_Overlaps a b = some (tt (Ovl a b)) := by
 obtain ⟨out, h1, _⟩ := match_meet ha hb
 simp only [rule_Overlaps, h1, Option.bind_some, Option.some.injEq]
 rw [show (api_Rule.Prio a == api_Rule.Prio b) = tt (api_Rule.Prio a = api_Rule.Prio b) from tt_dec, tt_dec, tt_not, tt_and, tt_and, tt_congr]
 exact and_assoc
end Go.Proofs.Ytmeemkllagjnmaa.B
