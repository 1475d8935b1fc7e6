/- Matches and packets: which may be, which packets a match hits. Conditions: as stated. -/
import Derived.Test.YtmeemkllagjnmaaBA
open Go.Ev Go
namespace Go.Proofs.Ytmeemkllagjnmaa.B
def top (f : Nat) : Int := if f = 2 then 15 else 255
theorem top_run {f : Nat} (hf : f < 4) : ref07_Top (f : Int) = some (top f) := by
 obtain rfl | rfl | rfl | rfl : f = 0 ∨ f = 1 ∨ f = 2 ∨ f = 3 := by omega
 all_goals rfl
theorem top_run2 {f : Nat} (hf : f < 4) : packet_Top (f : Int) = some (top f) := by
 obtain rfl | rfl | rfl | rfl : f = 0 ∨ f = 1 ∨ f = 2 ∨ f = 3 := by omega
 all_goals decide
theorem top_le (f : Nat) : top f ≤ 255 := by unfold top; split <;> omega
abbrev msk (m : api_Match) (f : Nat) : Int := gt (api_Match.Mask m).1 f
abbrev vl (m : api_Match) (f : Nat) : Int := gt (api_Match.Val m).1 f
structure MOk (m : api_Match) : Prop where
 lo : -1 ≤ api_Match.Port m
 hi : api_Match.Port m ≤ 7
 b : ∀ f, f < 4 → 0 ≤ msk m f ∧ msk m f ≤ top f ∧ 0 ≤ vl m f ∧ ∀ i, bt (vl m f) i = true → bt (msk m f) i = true
theorem ix4 {f : Nat} (h : f < 4) : ixI (f : Int) 4 = some f := ixI_of h
theorem bt_le {v m : Int} (hv : 0 ≤ v) (hm : 0 ≤ m) (h : ∀ i, bt v i = true → bt m i = true) : v ≤ m := by
 have := sub_le (v := v.toNat) (m := m.toNat) h
 omega
theorem bt_out {v : Int} (h1 : v ≤ 255) {i : Nat} (hi : 8 ≤ i) : bt v i = false := bit8 (by omega) hi
theorem rR_L1 {m : api_Match} {f : Nat} (hf : f < 4) (h1 : 0 ≤ msk m f) (h2 : msk m f ≤ 255) (h3 : 0 ≤ vl m f) (h4 : vl m f ≤ 255) :
  loopO (ref08_Right_L1 m (f : Int)) 0 = some (bif tt (∀ i, i < 8 → bt (vl m f) i = true → bt (msk m f) i = true) then .inr () else .inl false) := by
 refine allL 8 (by omega) (fun i => bt (vl m f) i = true → bt (msk m f) i = true) () (fun i hi => ?_) ?_
 ·simp only [ref08_Right_L1]
  rw [decide_eq_true (by omega), cond_true, ix4 hf]
  simp only [Option.bind_some]
  rw [bit_run h3 (by omega) (by omega), bit_run h1 (by omega) (by omega)]
  simp only [Option.bind_some]
  cases bt (vl m f) i <;> cases bt (msk m f) i <;> simp [tt]
 ·rfl
theorem ref08_right (m : api_Match) : ref08_Right m = some (tt (MOk m)) := by
 unfold ref08_Right
 by_cases hp : api_Match.Port m < -1 ∨ api_Match.Port m > 7
 ·rw [tt_dec, tt_dec, tt_or, tt_t hp, cond_true, tt_f fun h => by have := h.lo; have := h.hi; omega]
 rw [tt_dec, tt_dec, tt_or, tt_f hp, cond_false]
 rw [allL (f := ref08_Right_L2 m) 4 (by omega) (fun f => 0 ≤ msk m f ∧ msk m f ≤ top f ∧ 0 ≤ vl m f ∧ vl m f ≤ top f ∧ ∀ i, i < 8 → bt (vl m f) i = true → bt (msk m f) i = true) () (fun f hf => ?_) rfl]
 ·have : MOk m ↔ ∀ f, f < 4 → 0 ≤ msk m f ∧ msk m f ≤ top f ∧ 0 ≤ vl m f ∧ vl m f ≤ top f ∧ ∀ i, i < 8 → bt (vl m f) i = true → bt (msk m f) i = true := by
   constructor
   ·intro h f hf
    obtain ⟨h1, h2, h3, h4⟩ := h.b f hf
    exact ⟨h1, h2, h3, Int.le_trans (bt_le h3 h1 h4) h2, fun i _ => h4 i⟩
   ·intro h
    refine ⟨by omega, by omega, fun f hf => ?_⟩
    obtain ⟨h1, h2, h3, h4, h5⟩ := h f hf
    refine ⟨h1, h2, h3, fun i hb => ?_⟩
    by_cases hi : i < 8
    ·exact h5 i hi hb
    ·rw [bt_out (Int.le_trans h4 (top_le f)) (by omega)] at hb; cases hb
  rw [tt_congr this]
  cases hc : tt _ <;> simp only [cond_true, cond_false, Option.bind_some]
 ·simp only [ref08_Right_L2]
  rw [decide_eq_true (by omega), cond_true, ix4 hf, top_run hf]
  simp only [Option.bind_some]
  by_cases h1 : msk m f < 0
  ·rw [decide_eq_true h1, tt_f (by omega)]; rfl
  rw [decide_eq_false h1, cond_false]
  by_cases h2 : msk m f > top f
  ·rw [decide_eq_true h2, tt_f (by omega)]; rfl
  rw [decide_eq_false h2, cond_false]
  by_cases h3 : vl m f < 0
  ·rw [decide_eq_true h3, tt_f (by omega)]; rfl
  rw [decide_eq_false h3, cond_false]
  by_cases h4 : vl m f > top f
  ·rw [decide_eq_true h4, tt_f (by omega)]; rfl
  rw [decide_eq_false h4]
  simp only [Option.bind_some, cond_false]
  have := top_le f
  rw [rR_L1 hf (by omega) (by omega) (by omega) (by omega)]
  have e : (0 ≤ msk m f ∧ msk m f ≤ top f ∧ 0 ≤ vl m f ∧ vl m f ≤ top f ∧ ∀ i, i < 8 → bt (vl m f) i = true → bt (msk m f) i = true) ↔ ∀ i, i < 8 → bt (vl m f) i = true → bt (msk m f) i = true :=
   ⟨fun h => h.2.2.2.2, fun h => ⟨by omega, by omega, by omega, by omega, h⟩⟩
  rw [tt_congr e]
  cases tt _ <;> simp only [cond_true, cond_false, Option.bind_some]
theorem match_right (m : api_Match) (hfit : ∀ f, f < 4 → vl m f < 9223372036854775808) : match_Right m = some (tt (MOk m)) := by
 unfold match_Right
 by_cases hp : api_Match.Port m < -1 ∨ api_Match.Port m ≥ 8
 ·rw [tt_dec, tt_dec, tt_or, tt_t hp, cond_true, tt_f fun h => by have := h.lo; have := h.hi; omega]
 rw [tt_dec, tt_dec, tt_or, tt_f hp, cond_false]
 rw [allL (f := match_Right_L1 m) 4 (by omega) (fun f => 0 ≤ msk m f ∧ msk m f ≤ top f ∧ 0 ≤ vl m f ∧ ∀ i, bt (vl m f) i = true → bt (msk m f) i = true) () (fun f hf => ?_) rfl]
 ·have : MOk m ↔ ∀ f, f < 4 → 0 ≤ msk m f ∧ msk m f ≤ top f ∧ 0 ≤ vl m f ∧ ∀ i, bt (vl m f) i = true → bt (msk m f) i = true :=
   ⟨fun h => h.b, fun h => ⟨by omega, by omega, h⟩⟩
  rw [tt_congr this]
  cases hc : tt _ <;> simp only [cond_true, cond_false, Option.bind_some]
 ·simp only [match_Right_L1]
  rw [decide_eq_true (by omega), cond_true, ix4 hf, top_run2 hf]
  simp only [Option.bind_some]
  by_cases h1 : msk m f < 0
  ·rw [decide_eq_true h1, tt_f (by omega)]; rfl
  rw [decide_eq_false h1, cond_false]
  by_cases h2 : msk m f > top f
  ·rw [decide_eq_true h2, tt_f (by omega)]; rfl
  rw [decide_eq_false h2, cond_false]
  by_cases h3 : vl m f < 0
  ·rw [decide_eq_true h3, tt_f (by omega)]; rfl
  rw [decide_eq_false h3]
  simp only [cond_false, Option.bind_some]
  have := top_le f
  have hv := hfit f hf
  have e : (0 ≤ msk m f ∧ msk m f ≤ top f ∧ 0 ≤ vl m f ∧ ∀ i, bt (vl m f) i = true → bt (msk m f) i = true) ↔ (bAndNot .i64 (vl m f) (msk m f) = 0) := by
   obtain ⟨v, hv2⟩ := Int.eq_ofNat_of_zero_le (a := vl m f) (by omega)
   obtain ⟨k, hk2⟩ := Int.eq_ofNat_of_zero_le (a := msk m f) (by omega)
   rw [hv2, hk2]
   rw [bAndNot64 (by omega) (by omega), Int.natCast_eq_zero, sub0]
   simp only [bt, Int.toNat_natCast]
   exact ⟨fun h => h.2.2.2, fun h => ⟨by omega, by omega, by omega, h⟩⟩
  rw [tt_congr e]
  by_cases hc : bAndNot .i64 (vl m f) (msk m f) = 0
  ·rw [tt_t hc, hc]; rfl
  ·rw [tt_f hc, show (bAndNot .i64 (vl m f) (msk m f) != 0) = true by simpa using hc]; rfl
theorem MOk.nat {m : api_Match} (h : MOk m) {f : Nat} (hf : f < 4) : ∃ k v : Nat, msk m f = k ∧ vl m f = v ∧ k < 256 ∧ v < 256 ∧ ∀ i, v.testBit i = true → k.testBit i = true := by
 obtain ⟨h1, h2, h3, h4⟩ := h.b f hf
 have := top_le f
 have := bt_le h3 h1 h4
 obtain ⟨k, hk⟩ := Int.eq_ofNat_of_zero_le h1
 obtain ⟨v, hv⟩ := Int.eq_ofNat_of_zero_le h3
 refine ⟨k, v, hk, hv, by omega, by omega, fun i hi => ?_⟩
 have := h4 i
 rw [hk, hv] at this
 exact this hi
def POk (p : Arr 4 Int) : Prop := ∀ f, f < 4 → 0 ≤ gt p.1 f ∧ gt p.1 f ≤ top f
theorem ref07_right (p : Arr 4 Int) : ref07_Right p = some (tt (POk p)) := by
 unfold ref07_Right
 rw [allL (f := ref07_Right_L1 p) 4 (by omega) (fun f => 0 ≤ gt p.1 f ∧ gt p.1 f ≤ top f) () (fun f hf => ?_) rfl]
 ·unfold POk
  cases hc : tt _ <;> simp only [cond_true, cond_false, Option.bind_some]
 ·simp only [ref07_Right_L1]
  rw [decide_eq_true (by omega), cond_true, ix4 hf, top_run hf]
  simp only [Option.bind_some]
  by_cases h1 : gt p.1 f < 0
  ·rw [decide_eq_true h1, tt_f (by omega)]; rfl
  rw [decide_eq_false h1, cond_false]
  by_cases h2 : gt p.1 f > top f
  ·rw [decide_eq_true h2, tt_f (by omega)]; rfl
  rw [decide_eq_false h2, tt_t (by omega)]; rfl
theorem POk.nat {p : Arr 4 Int} (h : POk p) {f : Nat} (hf : f < 4) : ∃ k : Nat, gt p.1 f = k ∧ k < 256 := by
 obtain ⟨h1, h2⟩ := h f hf
 have := top_le f
 obtain ⟨k, hk⟩ := Int.eq_ofNat_of_zero_le h1
 exact ⟨k, hk, by omega⟩
def Hit (m : api_Match) (port : Int) (p : Arr 4 Int) : Prop :=
 (api_Match.Port m = -1 ∨ api_Match.Port m = port) ∧ ∀ f, f < 4 → ∀ i, bt (msk m f) i = true → bt (vl m f) i = bt (gt p.1 f) i
theorem hit_port {m : api_Match} {port : Int} : ((api_Match.Port m != (-1)) && (api_Match.Port m != port)) = tt (¬ (api_Match.Port m = -1 ∨ api_Match.Port m = port)) := by
 by_cases h1 : api_Match.Port m = -1
 ·simp [h1, tt]
 ·by_cases h2 : api_Match.Port m = port <;> simp [h1, h2, tt]
theorem match_hits {m : api_Match} (hm : MOk m) (port : Int) {p : Arr 4 Int} (hp : POk p) : match_Hits m port p = some (tt (Hit m port p)) := by
 unfold match_Hits
 rw [hit_port]
 by_cases h : api_Match.Port m = -1 ∨ api_Match.Port m = port
 case neg => rw [tt_t h, cond_true, tt_f fun h2 => h h2.1]
 rw [tt_f (not_not_intro h), cond_false]
 rw [allL (f := match_Hits_L1 m p) 4 (by omega) (fun f => ∀ i, bt (msk m f) i = true → bt (vl m f) i = bt (gt p.1 f) i) () (fun f hf => ?_) rfl]
 ·have : Hit m port p ↔ ∀ f, f < 4 → ∀ i, bt (msk m f) i = true → bt (vl m f) i = bt (gt p.1 f) i := ⟨fun h => h.2, fun h2 => ⟨h, h2⟩⟩
  rw [tt_congr this]
  cases hc : tt _ <;> simp only [cond_true, cond_false, Option.bind_some]
 ·simp only [match_Hits_L1]
  rw [decide_eq_true (by omega), cond_true, ix4 hf]
  simp only [Option.bind_some]
  obtain ⟨k, v, hk, hv, k2, v2, _⟩ := hm.nat hf
  obtain ⟨q, hq, q2⟩ := hp.nat hf
  have hx : q ^^^ v < 9223372036854775808 := lt64 fun j hj => by rw [Nat.testBit_xor, bit8 q2 (by omega), bit8 v2 (by omega)]; rfl
  have e : (∀ i, bt (msk m f) i = true → bt (vl m f) i = bt (gt p.1 f) i) ↔ (bAnd .i64 (bXor .i64 (gt p.1 f) (vl m f)) (msk m f) = 0) := by
   rw [hk, hv, hq, bXor64 (by omega) (by omega), bAnd64 hx (by omega), Int.natCast_eq_zero, diff0]
   simp only [bt, Int.toNat_natCast]
   exact forall_congr' fun i => ⟨fun h a => (h a).symm, fun h a => (h a).symm⟩
  rw [tt_congr e]
  by_cases hc : bAnd .i64 (bXor .i64 (gt p.1 f) (vl m f)) (msk m f) = 0
  ·rw [tt_t hc, hc]; rfl
  ·rw [tt_f hc, show (bAnd .i64 (bXor .i64 (gt p.1 f) (vl m f)) (msk m f) != 0) = true by simpa using hc]; rfl
theorem ref08_hits {m : api_Match} (hm : MOk m) (port : Int) {p : Arr 4 Int} (hp : POk p) : ref08_Hits m port p = some (tt (Hit m port p)) := by
 unfold ref08_Hits
 rw [hit_port]
 by_cases h : api_Match.Port m = -1 ∨ api_Match.Port m = port
 case neg => rw [tt_t h, cond_true, tt_f fun h2 => h h2.1]
 rw [tt_f (not_not_intro h), cond_false]
 rw [allL (f := ref08_Hits_L2 m p) 4 (by omega) (fun f => ∀ i, i < 8 → bt (msk m f) i = true → bt (vl m f) i = bt (gt p.1 f) i) () (fun f hf => ?_) rfl]
 ·have : Hit m port p ↔ ∀ f, f < 4 → ∀ i, i < 8 → bt (msk m f) i = true → bt (vl m f) i = bt (gt p.1 f) i := by
   constructor
   ·exact fun h f hf i _ => h.2 f hf i
   ·refine fun h2 => ⟨h, fun f hf i hb => ?_⟩
    by_cases hi : i < 8
    ·exact h2 f hf i hi hb
    ·have := (hm.b f hf).2.1
     rw [bt_out (Int.le_trans this (top_le f)) (by omega)] at hb; cases hb
  rw [tt_congr this]
  cases hc : tt _ <;> simp only [cond_true, cond_false, Option.bind_some]
 ·simp only [ref08_Hits_L2]
  rw [decide_eq_true (by omega), cond_true]
  have t := top_le f
  obtain ⟨h1, h2, h3, h4⟩ := hm.b f hf
  have h5 := bt_le h3 h1 h4
  obtain ⟨h6, h7⟩ := hp f hf
  rw [allL (f := ref08_Hits_L1 m p (f : Int)) 8 (by omega) (fun i => bt (msk m f) i = true → bt (vl m f) i = bt (gt p.1 f) i) () (fun i hi => ?_) rfl]
  ·cases hc : tt _ <;> simp only [cond_true, cond_false, Option.bind_some]
  ·simp only [ref08_Hits_L1]
   rw [decide_eq_true (by omega), cond_true, ix4 hf]
   simp only [Option.bind_some]
   rw [bit_run h1 (by omega) (by omega), bit_run h3 (by omega) (by omega), bit_run h6 (by omega) (by omega)]
   simp only [Option.bind_some]
   cases bt (msk m f) i <;> cases bt (vl m f) i <;> cases bt (gt p.1 f) i <;> simp [tt]
end Go.Proofs.Ytmeemkllagjnmaa.B
