/- Matches: what two have in common, which lies within which; rules that overlap. Conditions: as stated. -/
import Derived.Test.YtmeemkllagjnmaaBB
open Go.Ev Go
namespace Go.Proofs.Ytmeemkllagjnmaa.B
theorem forI {S σ β : Type} {f : S → Option (Sum S β)} (st : Nat → σ → S) (n : Nat) (I : Nat → σ → Prop) (R : β → Prop)
  (hstep : ∀ i s, i < n → I i s → (∃ s', f (st i s) = some (.inl (st (i + 1) s')) ∧ I (i + 1) s') ∨ (∃ b, f (st i s) = some (.inr b) ∧ R b))
  (hend : ∀ s, I n s → ∃ b, f (st n s) = some (.inr b) ∧ R b) : ∀ i s, i ≤ n → I i s → ∃ b, loopO f (st i s) = some b ∧ R b := by
 have : ∀ (k i : Nat) (s : σ), i + k = n → I i s → ∃ b, loopO f (st i s) = some b ∧ R b := by
  intro k
  induction k with
  | zero =>
   intro i s hi hI
   obtain rfl : i = n := by omega
   obtain ⟨b, h1, h2⟩ := hend s hI
   exact ⟨b, q34 h1, h2⟩
  | succ k ih =>
   intro i s hi hI
   rcases hstep i s (by omega) hI with ⟨s', h1, h2⟩ | ⟨b, h1, h2⟩
   ·obtain ⟨b, h4, h5⟩ := ih (i + 1) s' (by omega) h2
    exact ⟨b, (q7c h1).trans h4, h5⟩
   ·exact ⟨b, q34 h1, h2⟩
 exact fun i s hi => this (n - i) i s (by omega)
theorem qnf {α : Type} [Inhabited α] {l : List α} {n m : Nat} {x : α} (hn : n < l.length) : gt (l.set n x) m = if n = m then x else gt l m := by
 simp only [gt, List.getD_eq_getElem?_getD, List.getElem?_set]
 by_cases h : n = m
 ·subst h; simp [hn]
 ·simp [h]
theorem qsn {a b : Arr 4 Int} (h : ∀ f, f < 4 → gt a.1 f = gt b.1 f) : a = b := by
 apply Subtype.ext
 apply List.ext_getElem (by rw [a.2, b.2])
 intro i h1 h2
 have := h i (by have := a.2; omega)
 rwa [gt_eq h1, gt_eq h2] at this
def setN : Nat → (Nat → Int) → Arr 4 Int → Arr 4 Int
 | 0, _, z => z
 | n + 1, g, z => Arr.set (setN n g z) n (g n)
theorem ql8 (g : Nat → Int) (z : Arr 4 Int) : ∀ (n : Nat), n ≤ 4 → ∀ f, f < n → gt (setN n g z).1 f = g f := by
 intro n
 induction n with
 | zero => intro _ f h; omega
 | succ n ih =>
  intro hn f hf
  simp only [setN, Arr.set]
  rw [qnf (by rw [(setN n g z).2]; omega)]
  by_cases e : n = f
  ·rw [if_pos e, e]
  ·rw [if_neg e, ih (by omega) f (by omega)]
theorem qkr {g : Nat → Int} {z a : Arr 4 Int} : setN 4 g z = a ↔ ∀ f, f < 4 → g f = gt a.1 f :=
 ⟨fun h f hf => by rw [← h, ql8 g z 4 (by omega) f hf], fun h => qsn fun f hf => by rw [ql8 g z 4 (by omega) f hf, h f hf]⟩
abbrev Z4 : Arr 4 Int := zeE (.ar 4 (.i .i64))
def Meets (a b : api_Match) : Prop :=
 (api_Match.Port a = api_Match.Port b ∨ api_Match.Port a = -1 ∨ api_Match.Port b = -1) ∧ ∀ f, f < 4 → ∀ i, bt (msk a f) i = true → bt (msk b f) i = true → bt (vl a f) i = bt (vl b f) i
def Lies (a b : api_Match) : Prop :=
 (api_Match.Port b = -1 ∨ api_Match.Port a = api_Match.Port b) ∧ ∀ f, f < 4 → ∀ i, bt (msk b f) i = true → bt (msk a f) i = true ∧ bt (vl a f) i = bt (vl b f) i
def both (a b : api_Match) : api_Match := (⟨(if (api_Match.Port b) > (api_Match.Port a) then (api_Match.Port b) else (api_Match.Port a)), setN 4 (fun f => bOr .i64 (vl a f) (vl b f)) Z4, setN 4 (fun f => bOr .i64 (msk a f) (msk b f)) Z4⟩ : api_Match)
theorem qd0 {a b : api_Match} (ha : MOk a) (hb : MOk b) : ∃ out, q5x a b = some (out, tt (Meets a b)) ∧ (Meets a b → out = both a b) := by
 unfold q5x
 by_cases hp : api_Match.Port a = api_Match.Port b ∨ api_Match.Port a = -1 ∨ api_Match.Port b = -1
 case neg =>
  refine ⟨(⟨0, Z4, Z4⟩ : api_Match), ?_, fun h => absurd h.1 hp⟩
  rw [tt_f fun h : Meets a b => hp h.1]
  rw [show ((((api_Match.Port a) != (api_Match.Port b)) && ((api_Match.Port a) != (-1))) && ((api_Match.Port b) != (-1))) = true by simp; omega, cond_true]
 rw [show ((((api_Match.Port a) != (api_Match.Port b)) && ((api_Match.Port a) != (-1))) && ((api_Match.Port b) != (-1))) = false by simp; omega, cond_false]
 let P : Nat → Prop := fun f => ∀ i, bt (msk a f) i = true → bt (msk b f) i = true → bt (vl a f) i = bt (vl b f) i
 let st : Nat → Int × api_Match × api_Match := fun j => ((j : Int), (⟨0, Z4, Z4⟩ : api_Match), (⟨(if (api_Match.Port b) > (api_Match.Port a) then (api_Match.Port b) else (api_Match.Port a)), setN j (fun f => bOr .i64 (vl a f) (vl b f)) Z4, setN j (fun f => bOr .i64 (msk a f) (msk b f)) Z4⟩ : api_Match))
 have e : ∀ f, f < 4 → (P f ↔ bAnd .i64 (bAnd .i64 (bXor .i64 (vl a f) (vl b f)) (msk a f)) (msk b f) = 0) := by
  intro f hf
  obtain ⟨k, v, hk, hv, k2, v2, _⟩ := ha.nat hf
  obtain ⟨k', v', hk', hv', k2', v2', _⟩ := hb.nat hf
  have hx : v ^^^ v' < 9223372036854775808 := lt64 fun j hj => by rw [Nat.testBit_xor, bit8 v2 (by omega), bit8 v2' (by omega)]; rfl
  have hy : (v ^^^ v') &&& k < 9223372036854775808 := lt64 fun j hj => by rw [Nat.testBit_and, bit8 k2 (by omega), Bool.and_false]
  show (∀ i, bt (msk a f) i = true → bt (msk b f) i = true → bt (vl a f) i = bt (vl b f) i) ↔ _
  rw [hk, hv, hk', hv', qub (by omega) (by omega), qqe hx (by omega), qqe hy (by omega), Int.natCast_eq_zero, diff2]
  simp only [bt, Int.toNat_natCast]
 have hst : ∀ f, f < 4 → P f → q1o a b (st f) = some (.inl (st (f + 1))) := by
  intro f hf h
  simp only [q1o, st]
  rw [decide_eq_true (by omega), cond_true, ix4 hf]
  simp only [Option.bind_some]
  rw [(e f hf).1 h, show ((0 : Int) != 0) = false from rfl, cond_false, wrS (by omega)]
  rfl
 rcases qiu (P := P) 4 with h | ⟨k, hk, hnp, hj⟩
 ·have hl := runL (f := q1o a b) st 4 (fun i hi => hst i hi (h i hi)) (b := .inr (⟨0, Z4, Z4⟩, both a b)) (by simp only [q1o, st]; rfl)
  have hM : Meets a b := ⟨hp, h⟩
  refine ⟨both a b, ?_, fun _ => rfl⟩
  rw [tt_t hM]
  have hl : loopO (q1o a b) (0, (⟨0, Z4, Z4⟩ : api_Match), (⟨(if (api_Match.Port b) > (api_Match.Port a) then (api_Match.Port b) else (api_Match.Port a)), Z4, Z4⟩ : api_Match)) = _ := hl
  rw [hl]; rfl
 ·have hl := runL (f := q1o a b) st k (fun i hi => hst i (by omega) (hj i hi)) (b := .inl (false, ⟨0, Z4, Z4⟩)) (by
   simp only [q1o, st]
   rw [decide_eq_true (by omega), cond_true, ix4 hk]
   simp only [Option.bind_some]
   rw [show ((bAnd .i64 (bAnd .i64 (bXor .i64 (vl a k) (vl b k)) (msk a k)) (msk b k)) != 0) = true by simpa using fun h => hnp ((e k hk).2 h), cond_true])
  have hM : ¬ Meets a b := fun h => hnp (h.2 k hk)
  refine ⟨⟨0, Z4, Z4⟩, ?_, fun h => absurd h hM⟩
  rw [tt_f hM]
  have hl : loopO (q1o a b) (0, (⟨0, Z4, Z4⟩ : api_Match), (⟨(if (api_Match.Port b) > (api_Match.Port a) then (api_Match.Port b) else (api_Match.Port a)), Z4, Z4⟩ : api_Match)) = _ := hl
  rw [hl]; rfl
theorem qj8 {a b : api_Match} (h : Lies a b) : Meets a b := by
 refine ⟨?_, fun f hf i _ hb => (h.2 f hf i hb).2⟩
 rcases h.1 with h | h
 ·exact .inr (.inr h)
 ·exact .inl h
theorem qr4 {a b : api_Match} (ha : MOk a) (hb : MOk b) (hM : Meets a b) : both a b = a ↔ Lies a b := by
 have hn : ∀ f, f < 4 → ((bOr .i64 (vl a f) (vl b f) = vl a f ∧ bOr .i64 (msk a f) (msk b f) = msk a f) ↔ ∀ i, bt (msk b f) i = true → bt (msk a f) i = true ∧ bt (vl a f) i = bt (vl b f) i) := by
  intro f hf
  have hm := hM.2 f hf
  obtain ⟨k, v, hk, hv, k2, v2, _⟩ := ha.nat hf
  obtain ⟨k', v', hk', hv', k2', v2', hs'⟩ := hb.nat hf
  rw [hk, hv, hk', hv'] at hm ⊢
  rw [bOr64 (by omega) (by omega), bOr64 (by omega) (by omega), Int.natCast_inj, Int.natCast_inj, or_l, or_l]
  simp only [bt, Int.toNat_natCast] at hm ⊢
  constructor
  ·intro ⟨_, h2⟩ i hi
   exact ⟨h2 i hi, hm i (h2 i hi) hi⟩
  ·intro h
   exact ⟨fun i hi => by rw [(h i (hs' i hi)).2]; exact hi, fun i hi => (h i hi).1⟩
 have e : both a b = a ↔ (if (api_Match.Port b) > (api_Match.Port a) then (api_Match.Port b) else (api_Match.Port a)) = api_Match.Port a ∧ setN 4 (fun f => bOr .i64 (vl a f) (vl b f)) Z4 = api_Match.Val a ∧ setN 4 (fun f => bOr .i64 (msk a f) (msk b f)) Z4 = api_Match.Mask a := by
  obtain ⟨pa, va, ka⟩ := a
  simp only [both, Prod.mk.injEq]
 have := ha.lo
 have := hb.lo
 have h0 := hM.1
 rw [e, qkr, qkr]
 constructor
 ·intro ⟨h1, h2, h3⟩
  refine ⟨?_, fun f hf => (hn f hf).1 ⟨h2 f hf, h3 f hf⟩⟩
  split at h1 <;> omega
 ·intro ⟨h1, h2⟩
  refine ⟨?_, fun f hf => ((hn f hf).2 (h2 f hf)).1, fun f hf => ((hn f hf).2 (h2 f hf)).2⟩
  split <;> omega
theorem qae {a b : api_Match} (ha : MOk a) (hb : MOk b) : q4f a b = some (tt (Lies a b)) := by
 obtain ⟨out, h1, h2⟩ := qd0 ha hb
 simp only [q4f, h1, Option.bind_some, Option.some.injEq]
 by_cases hM : Meets a b
 ·rw [h2 hM, tt_t hM, Bool.true_and, q1m, q0n (qr4 ha hb hM)]
 ·rw [tt_f hM, Bool.false_and, tt_f fun h => hM (qj8 h)]
theorem qeo {a b : api_Match} (ha : MOk a) (hb : MOk b) : q5h a b = some (tt (Lies a b)) := by
 unfold q5h
 by_cases h : api_Match.Port b = -1 ∨ api_Match.Port a = api_Match.Port b
 case neg => rw [show (((api_Match.Port b) != (-1)) && ((api_Match.Port a) != (api_Match.Port b))) = true by simp; omega, cond_true, tt_f fun h2 => h h2.1]
 rw [show (((api_Match.Port b) != (-1)) && ((api_Match.Port a) != (api_Match.Port b))) = false by simp; omega, cond_false]
 rw [allL (f := q4s a b) 4 (by omega) (fun f => ∀ i, i < 8 → bt (msk b f) i = true → bt (msk a f) i = true ∧ bt (vl a f) i = bt (vl b f) i) () (fun f hf => ?_) rfl]
 ·have : Lies a b ↔ ∀ f, f < 4 → ∀ i, i < 8 → bt (msk b f) i = true → bt (msk a f) i = true ∧ bt (vl a f) i = bt (vl b f) i := by
   constructor
   ·exact fun h f hf i _ => h.2 f hf i
   ·refine fun h2 => ⟨h, fun f hf i hx => ?_⟩
    by_cases hi : i < 8
    ·exact h2 f hf i hi hx
    ·have := (hb.b f hf).2.1
     rw [qko (Int.le_trans this (qah f)) (by omega)] at hx; cases hx
  rw [q0n this]
  cases hc : tt _ <;> simp only [cond_true, cond_false, Option.bind_some]
 ·simp only [q4s]
  rw [decide_eq_true (by omega), cond_true]
  have t := qah f
  obtain ⟨h1, h2, h3, h4⟩ := ha.b f hf
  have h5 := bt_le h3 h1 h4
  obtain ⟨g1, g2, g3, g4⟩ := hb.b f hf
  have g5 := bt_le g3 g1 g4
  rw [allL (f := q4u a b (f : Int)) 8 (by omega) (fun i => bt (msk b f) i = true → bt (msk a f) i = true ∧ bt (vl a f) i = bt (vl b f) i) () (fun i hi => ?_) rfl]
  ·cases hc : tt _ <;> simp only [cond_true, cond_false, Option.bind_some]
  ·simp only [q4u]
   rw [decide_eq_true (by omega), cond_true, ix4 hf]
   simp only [Option.bind_some]
   rw [q5m h1 (by omega) (by omega), q5m h3 (by omega) (by omega), q5m g1 (by omega) (by omega), q5m g3 (by omega) (by omega)]
   simp only [Option.bind_some]
   cases bt (msk a f) i <;> cases bt (vl a f) i <;> cases bt (msk b f) i <;> cases bt (vl b f) i <;> simp [tt]
theorem qjz {a b : api_Match} (ha : MOk a) (hb : MOk b) : ∃ out, q85 a b = some (out, tt (Meets a b)) := by
 unfold q85
 have hx : ∃ x1 : api_Match, (bif ((api_Match.Port a) == (-1)) then (some (⟨api_Match.Port b, api_Match.Val a, api_Match.Mask a⟩ : api_Match)) else (some a) : Option api_Match) = some x1 ∧ ((((api_Match.Port b) != (-1)) && ((api_Match.Port x1) != (api_Match.Port b))) = true ↔ ¬ (api_Match.Port a = api_Match.Port b ∨ api_Match.Port a = -1 ∨ api_Match.Port b = -1)) := by
  by_cases h : api_Match.Port a = -1
  ·refine ⟨_, by rw [show ((api_Match.Port a) == (-1)) = true by simpa using h, cond_true], ?_⟩
   simp [h]
  ·refine ⟨_, by rw [show ((api_Match.Port a) == (-1)) = false by simpa using h, cond_false], ?_⟩
   simp; omega
 obtain ⟨x1, h1, h2⟩ := hx
 rw [h1]
 simp only [Option.bind_some]
 by_cases hp : api_Match.Port a = api_Match.Port b ∨ api_Match.Port a = -1 ∨ api_Match.Port b = -1
 case neg =>
  rw [h2.2 hp, cond_true, tt_f fun h : Meets a b => hp h.1]
  exact ⟨_, rfl⟩
 rw [show (((api_Match.Port b) != (-1)) && ((api_Match.Port x1) != (api_Match.Port b))) = false from Bool.eq_false_iff.2 fun h => (h2.1 h) hp, cond_false]
 let Q : Nat → Nat → Prop := fun f i => bt (msk b f) i = true → bt (msk a f) i = true → bt (vl a f) i = bt (vl b f) i
 have inner : ∀ (f : Nat), f < 4 → ∀ s : Int × api_Match × api_Match, ∃ r, loopO (q6g a b (f : Int)) (s.1, 0, s.2.1, s.2.2) = some r ∧ (match r with | .inl (ok, _) => ok = false ∧ ¬ ∀ i, i < 8 → Q f i | .inr _ => ∀ i, i < 8 → Q f i) := by
  intro f hf s
  have t := qah f
  obtain ⟨a1, a2, a3, a4⟩ := ha.b f hf
  have a5 := bt_le a3 a1 a4
  obtain ⟨g1, g2, g3, g4⟩ := hb.b f hf
  have g5 := bt_le g3 g1 g4
  refine forI (fun i (s : Int × api_Match × api_Match) => (s.1, ((i : Nat) : Int), s.2.1, s.2.2)) 8 (fun i _ => ∀ j, j < i → Q f j) _ (fun i s hi hI => ?_) (fun s hI => ⟨_, rfl, hI⟩) 0 s (by omega) (fun j hj => by omega)
  simp only [q6g]
  rw [decide_eq_true (by omega), cond_true, ix4 hf, wrS (by omega)]
  simp only [Option.bind_some]
  rw [q5m a1 (by omega) (by omega), q5m a3 (by omega) (by omega), q5m g1 (by omega) (by omega), q5m g3 (by omega) (by omega)]
  simp only [Option.bind_some]
  by_cases hq : Q f i
  ·left
   have hI2 : ∀ j, j < i + 1 → Q f j := fun j hj => by
    by_cases e : j = i
    ·exact e ▸ hq
    ·exact hI j (by omega)
   simp only [Q] at hq
   cases h1 : bt (msk a f) i <;> cases h2 : bt (vl a f) i <;> cases h3 : bt (msk b f) i <;> cases h4 : bt (vl b f) i <;> simp only [h1, h2, h3, h4] at hq <;> first | (exact ⟨(_, _, _), rfl, hI2⟩) | (exact ⟨(wr .i64 (s.1 * 2), s.2.1, (⟨api_Match.Port s.2.2, Arr.set (api_Match.Val s.2.2) f (wr .i64 (gt (api_Match.Val s.2.2).1 f + wr .i64 (s.1 * 0))), Arr.set (api_Match.Mask s.2.2) f (wr .i64 (gt (api_Match.Mask s.2.2).1 f + s.1))⟩ : api_Match)), rfl, hI2⟩) | (exact ⟨(wr .i64 (s.1 * 2), s.2.1, (⟨api_Match.Port s.2.2, Arr.set (api_Match.Val s.2.2) f (wr .i64 (gt (api_Match.Val s.2.2).1 f + wr .i64 (s.1 * 1))), Arr.set (api_Match.Mask s.2.2) f (wr .i64 (gt (api_Match.Mask s.2.2).1 f + s.1))⟩ : api_Match)), rfl, hI2⟩) | (simp at hq)
  ·right
   have hI2 : ¬ ∀ i, i < 8 → Q f i := fun h => hq (h i hi)
   simp only [Q] at hq
   cases h1 : bt (msk a f) i <;> cases h2 : bt (vl a f) i <;> cases h3 : bt (msk b f) i <;> cases h4 : bt (vl b f) i <;> simp only [h1, h2, h3, h4] at hq <;> first | (exact ⟨_, rfl, rfl, hI2⟩) | (simp at hq)
 have outer : ∃ r, loopO (q6f a b) (0, (⟨0, Z4, Z4⟩ : api_Match), x1) = some r ∧ (match r with | .inl (ok, _) => ok = false ∧ ¬ ∀ f, f < 4 → ∀ i, i < 8 → Q f i | .inr _ => ∀ f, f < 4 → ∀ i, i < 8 → Q f i) := by
  refine forI (fun i (s : api_Match × api_Match) => (((i : Nat) : Int), s.1, s.2)) 4 (fun i _ => ∀ f, f < i → ∀ j, j < 8 → Q f j) _ (fun f s hf hI => ?_) (fun s hI => ⟨_, rfl, hI⟩) 0 (_, x1) (by omega) (fun j hj => by omega)
  obtain ⟨r, hr, hq⟩ := inner f hf (1, s.1, s.2)
  simp only [q6f]
  rw [decide_eq_true (by omega), cond_true, hr, wrS (by omega)]
  cases r with
  | inl r => exact .inr ⟨_, rfl, hq.1, fun h => hq.2 (h f hf)⟩
  | inr r => exact .inl ⟨_, rfl, fun f' hf' => by
    by_cases e : f' = f
    ·exact e ▸ hq
    ·exact hI f' (by omega)⟩
 obtain ⟨r, hr, hq⟩ := outer
 have key : Meets a b ↔ ∀ f, f < 4 → ∀ i, i < 8 → Q f i := by
  constructor
  ·exact fun h f hf i _ x y => h.2 f hf i y x
  ·refine fun h => ⟨hp, fun f hf i x y => ?_⟩
   by_cases hi : i < 8
   ·exact h f hf i hi y x
   ·have := (hb.b f hf).2.1
    rw [qko (Int.le_trans this (qah f)) (by omega)] at y; cases y
 rw [hr]
 cases r with
 | inl r =>
  obtain ⟨ok, y⟩ := r
  obtain ⟨rfl, h⟩ := hq
  exact ⟨y, by rw [tt_f fun h2 => h (key.1 h2)]; rfl⟩
 | inr r => exact ⟨r.2, by rw [tt_t (key.2 hq)]; rfl⟩
def Ovl (a b : api_Rule) : Prop := api_Rule.Prio a = api_Rule.Prio b ∧ api_Rule.M a ≠ api_Rule.M b ∧ Meets (api_Rule.M a) (api_Rule.M b)
theorem qpk {a b : api_Rule} : Ovl a b ↔ Ovl b a := by
 have : ∀ {a b : api_Rule}, Ovl a b → Ovl b a := fun {a b} h => ⟨h.1.symm, h.2.1.symm, ⟨by have := h.2.2.1; omega, fun f hf i x y => (h.2.2.2 f hf i y x).symm⟩⟩
 exact ⟨this, this⟩
theorem qdh {a b : api_Rule} (ha : MOk (api_Rule.M a)) (hb : MOk (api_Rule.M b)) : q4m a b = some (tt (Ovl a b)) := by
 obtain ⟨out, h1, _⟩ := qd0 ha hb
 simp only [q4m, h1, Option.bind_some, Option.some.injEq]
 rw [show (api_Rule.Prio a == api_Rule.Prio b) = tt (api_Rule.Prio a = api_Rule.Prio b) from q1m, q1m, qkx, q7j, q7j, q0n]
 exact and_assoc
theorem q5j {a b : api_Rule} (ha : MOk (api_Rule.M a)) (hb : MOk (api_Rule.M b)) : q48 a b = some (tt (Ovl a b)) := by
 obtain ⟨out, h1⟩ := qjz ha hb
 unfold q48
 by_cases h : api_Rule.Prio a ≠ api_Rule.Prio b ∨ api_Rule.M a = api_Rule.M b
 ·rw [show ((api_Rule.Prio a != api_Rule.Prio b) || decide (api_Rule.M a = api_Rule.M b)) = true by simpa using h, cond_true, tt_f]
  rintro ⟨h2, h3, _⟩
  rcases h with h | h
  ·exact h h2
  ·exact h3 h
 ·rw [show ((api_Rule.Prio a != api_Rule.Prio b) || decide (api_Rule.M a = api_Rule.M b)) = false by simpa using h, cond_false, h1]
  simp only [Option.bind_some, Option.some.injEq]
  rw [not_or] at h
  exact q0n ⟨fun h2 => ⟨Classical.not_not.1 h.1, h.2, h2⟩, fun h2 => h2.2.2⟩
end Go.Proofs.Ytmeemkllagjnmaa.B
