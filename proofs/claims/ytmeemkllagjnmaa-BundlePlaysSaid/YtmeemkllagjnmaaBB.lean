/- Matches and packets: which may be, which packets a match hits. Conditions: as stated. -/
import Derived.Test.YtmeemkllagjnmaaBA
open Go.Ev Go
namespace Go.Proofs.Ytmeemkllagjnmaa.B
def top (f : Nat) : Int := if f = 2 then 15 else 255
theorem qlw {f : Nat} (hf : f < 4) : q7b (f : Int) = some (top f) := by
 obtain rfl | rfl | rfl | rfl : f = 0 ∨ f = 1 ∨ f = 2 ∨ f = 3 := by omega
 all_goals rfl
theorem qi7 {f : Nat} (hf : f < 4) : q3h (f : Int) = some (top f) := by
 obtain rfl | rfl | rfl | rfl : f = 0 ∨ f = 1 ∨ f = 2 ∨ f = 3 := by omega
 all_goals decide
theorem qah (f : Nat) : top f ≤ 255 := by unfold top; split <;> omega
abbrev msk (m : api_Match) (f : Nat) : Int := gt (api_Match.Mask m).1 f
abbrev vl (m : api_Match) (f : Nat) : Int := gt (api_Match.Val m).1 f
structure MOk (m : api_Match) : Prop where
 lo : -1 ≤ api_Match.Port m
 hi : api_Match.Port m ≤ 7
 b : ∀ f, f < 4 → 0 ≤ msk m f ∧ msk m f ≤ top f ∧ 0 ≤ vl m f ∧ ∀ i, bt (vl m f) i = true → bt (msk m f) i = true
theorem ix4 {f : Nat} (h : f < 4) : ixI (f : Int) 4 = some f := q0y h
theorem bt_le {v m : Int} (hv : 0 ≤ v) (hm : 0 ≤ m) (h : ∀ i, bt v i = true → bt m i = true) : v ≤ m := by
 have := qts (v := v.toNat) (m := m.toNat) h
 omega
theorem qko {v : Int} (h1 : v ≤ 255) {i : Nat} (hi : 8 ≤ i) : bt v i = false := bit8 (by omega) hi
theorem rR_L1 {m : api_Match} {f : Nat} (hf : f < 4) (h1 : 0 ≤ msk m f) (h2 : msk m f ≤ 255) (h3 : 0 ≤ vl m f) (h4 : vl m f ≤ 255) :
  loopO (q5k m (f : Int)) 0 = some (bif tt (∀ i, i < 8 → bt (vl m f) i = true → bt (msk m f) i = true) then .inr () else .inl false) := by
 refine allL 8 (by omega) (fun i => bt (vl m f) i = true → bt (msk m f) i = true) () (fun i hi => ?_) ?_
 ·simp only [q5k]
  rw [decide_eq_true (by omega), cond_true, ix4 hf]
  simp only [Option.bind_some]
  rw [q5m h3 (by omega) (by omega), q5m h1 (by omega) (by omega)]
  simp only [Option.bind_some]
  cases bt (vl m f) i <;> cases bt (msk m f) i <;> simp [tt]
 ·rfl
theorem qgr (m : api_Match) : q6u m = some (tt (MOk m)) := by
 unfold q6u
 by_cases hp : api_Match.Port m < -1 ∨ api_Match.Port m > 7
 ·rw [q1m, q1m, tt_or, tt_t hp, cond_true, tt_f fun h => by have := h.lo; have := h.hi; omega]
 rw [q1m, q1m, tt_or, tt_f hp, cond_false]
 rw [allL (f := q5p m) 4 (by omega) (fun f => 0 ≤ msk m f ∧ msk m f ≤ top f ∧ 0 ≤ vl m f ∧ vl m f ≤ top f ∧ ∀ i, i < 8 → bt (vl m f) i = true → bt (msk m f) i = true) () (fun f hf => ?_) rfl]
 ·have : MOk m ↔ ∀ f, f < 4 → 0 ≤ msk m f ∧ msk m f ≤ top f ∧ 0 ≤ vl m f ∧ vl m f ≤ top f ∧ ∀ i, i < 8 → bt (vl m f) i = true → bt (msk m f) i = true := by
   constructor
   ·intro h f hf
    obtain ⟨h1, h2, h3, h4⟩ := h.b f hf
    exact ⟨h1, h2, h3, Int.le_trans (bt_le h3 h1 h4) h2, fun i _ => h4 i⟩
   ·intro h
    refine ⟨by omega, by omega, fun f hf => ?_⟩
    obtain ⟨h1, h2, h3, h4, h5⟩ := h f hf
    refine ⟨h1, h2, h3, fun i hb => ?_⟩
    by_cases hi : i < 8
    ·exact h5 i hi hb
    ·rw [qko (Int.le_trans h4 (qah f)) (by omega)] at hb; cases hb
  rw [q0n this]
  cases hc : tt _ <;> simp only [cond_true, cond_false, Option.bind_some]
 ·simp only [q5p]
  rw [decide_eq_true (by omega), cond_true, ix4 hf, qlw hf]
  simp only [Option.bind_some]
  by_cases h1 : msk m f < 0
  ·rw [decide_eq_true h1, tt_f (by omega)]; rfl
  rw [decide_eq_false h1, cond_false]
  by_cases h2 : msk m f > top f
  ·rw [decide_eq_true h2, tt_f (by omega)]; rfl
  rw [decide_eq_false h2, cond_false]
  by_cases h3 : vl m f < 0
  ·rw [decide_eq_true h3, tt_f (by omega)]; rfl
  rw [decide_eq_false h3, cond_false]
  by_cases h4 : vl m f > top f
  ·rw [decide_eq_true h4, tt_f (by omega)]; rfl
  rw [decide_eq_false h4]
  simp only [Option.bind_some, cond_false]
  have := qah f
  rw [rR_L1 hf (by omega) (by omega) (by omega) (by omega)]
  have e : (0 ≤ msk m f ∧ msk m f ≤ top f ∧ 0 ≤ vl m f ∧ vl m f ≤ top f ∧ ∀ i, i < 8 → bt (vl m f) i = true → bt (msk m f) i = true) ↔ ∀ i, i < 8 → bt (vl m f) i = true → bt (msk m f) i = true :=
   ⟨fun h => h.2.2.2.2, fun h => ⟨by omega, by omega, by omega, by omega, h⟩⟩
  rw [q0n e]
  cases tt _ <;> simp only [cond_true, cond_false, Option.bind_some]
theorem qgc (m : api_Match) (hfit : ∀ f, f < 4 → vl m f < 9223372036854775808) : q6y m = some (tt (MOk m)) := by
 unfold q6y
 by_cases hp : api_Match.Port m < -1 ∨ api_Match.Port m ≥ 8
 ·rw [q1m, q1m, tt_or, tt_t hp, cond_true, tt_f fun h => by have := h.lo; have := h.hi; omega]
 rw [q1m, q1m, tt_or, tt_f hp, cond_false]
 rw [allL (f := q5l m) 4 (by omega) (fun f => 0 ≤ msk m f ∧ msk m f ≤ top f ∧ 0 ≤ vl m f ∧ ∀ i, bt (vl m f) i = true → bt (msk m f) i = true) () (fun f hf => ?_) rfl]
 ·have : MOk m ↔ ∀ f, f < 4 → 0 ≤ msk m f ∧ msk m f ≤ top f ∧ 0 ≤ vl m f ∧ ∀ i, bt (vl m f) i = true → bt (msk m f) i = true :=
   ⟨fun h => h.b, fun h => ⟨by omega, by omega, h⟩⟩
  rw [q0n this]
  cases hc : tt _ <;> simp only [cond_true, cond_false, Option.bind_some]
 ·simp only [q5l]
  rw [decide_eq_true (by omega), cond_true, ix4 hf, qi7 hf]
  simp only [Option.bind_some]
  by_cases h1 : msk m f < 0
  ·rw [decide_eq_true h1, tt_f (by omega)]; rfl
  rw [decide_eq_false h1, cond_false]
  by_cases h2 : msk m f > top f
  ·rw [decide_eq_true h2, tt_f (by omega)]; rfl
  rw [decide_eq_false h2, cond_false]
  by_cases h3 : vl m f < 0
  ·rw [decide_eq_true h3, tt_f (by omega)]; rfl
  rw [decide_eq_false h3]
  simp only [cond_false, Option.bind_some]
  have := qah f
  have hv := hfit f hf
  have e : (0 ≤ msk m f ∧ msk m f ≤ top f ∧ 0 ≤ vl m f ∧ ∀ i, bt (vl m f) i = true → bt (msk m f) i = true) ↔ (q9y .i64 (vl m f) (msk m f) = 0) := by
   obtain ⟨v, hv2⟩ := Int.eq_ofNat_of_zero_le (a := vl m f) (by omega)
   obtain ⟨k, hk2⟩ := Int.eq_ofNat_of_zero_le (a := msk m f) (by omega)
   rw [hv2, hk2]
   rw [qlf (by omega) (by omega), Int.natCast_eq_zero, sub0]
   simp only [bt, Int.toNat_natCast]
   exact ⟨fun h => h.2.2.2, fun h => ⟨by omega, by omega, by omega, h⟩⟩
  rw [q0n e]
  by_cases hc : q9y .i64 (vl m f) (msk m f) = 0
  ·rw [tt_t hc, hc]; rfl
  ·rw [tt_f hc, show (q9y .i64 (vl m f) (msk m f) != 0) = true by simpa using hc]; rfl
theorem MOk.nat {m : api_Match} (h : MOk m) {f : Nat} (hf : f < 4) : ∃ k v : Nat, msk m f = k ∧ vl m f = v ∧ k < 256 ∧ v < 256 ∧ ∀ i, v.testBit i = true → k.testBit i = true := by
 obtain ⟨h1, h2, h3, h4⟩ := h.b f hf
 have := qah f
 have := bt_le h3 h1 h4
 obtain ⟨k, hk⟩ := Int.eq_ofNat_of_zero_le h1
 obtain ⟨v, hv⟩ := Int.eq_ofNat_of_zero_le h3
 refine ⟨k, v, hk, hv, by omega, by omega, fun i hi => ?_⟩
 have := h4 i
 rw [hk, hv] at this
 exact this hi
end Go.Proofs.Ytmeemkllagjnmaa.B
