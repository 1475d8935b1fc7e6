/- Loops, numbers and bits for the laws of tables. Conditions: as stated. -/
import Derived.Test.YtmeemkllagjnmaaB
open Go.Ev Go
namespace Go.Proofs.Ytmeemkllagjnmaa.B
open Classical in
noncomputable def tt (p : Prop) : Bool := decide p
theorem tt_true {p : Prop} : tt p = true ↔ p := by simp [tt]
theorem tt_false {p : Prop} : tt p = false ↔ ¬ p := by simp [tt]
theorem tt_t {p : Prop} (h : p) : tt p = true := tt_true.2 h
theorem tt_f {p : Prop} (h : ¬ p) : tt p = false := tt_false.2 h
theorem tt_dec {p : Prop} [Decidable p] : decide p = tt p := by by_cases h : p <;> simp [tt, h]
theorem tt_and {p q : Prop} : (tt p && tt q) = tt (p ∧ q) := by by_cases h : p <;> by_cases h2 : q <;> simp [tt, h, h2]
theorem tt_or {p q : Prop} : (tt p || tt q) = tt (p ∨ q) := by by_cases h : p <;> by_cases h2 : q <;> simp [tt, h, h2]
theorem tt_not {p : Prop} : (!tt p) = tt (¬ p) := by by_cases h : p <;> simp [tt, h]
theorem tt_congr {p q : Prop} (h : p ↔ q) : tt p = tt q := by rw [propext h]
theorem wr64 {n : Int} (h0 : -9223372036854775808 ≤ n) (h1 : n < 9223372036854775808) : wr .i64 n = n := by
 simp [wr, IntKind.wrap, IntKind.bits, IntKind.signed]; omega
theorem wrS {n : Nat} (h : n < 9223372036854775807) : wr .i64 ((n : Int) + 1) = ((n + 1 : Nat) : Int) := by
 rw [wr64 (by omega) (by omega)]; rfl
theorem runL {S β : Type} {f : S → Option (S ⊕ β)} (st : Nat → S) (k : Nat) {b : β} (h1 : ∀ i, i < k → f (st i) = some (.inl (st (i + 1)))) (h2 : f (st k) = some (.inr b)) : loopO f (st 0) = some b := by
 have : ∀ (d a : Nat), a + d = k → loopO f (st a) = some b := by
  intro d
  induction d with
  | zero => intro a h; obtain rfl : a = k := by omega
            exact loopO_inr h2
  | succ d ih => intro a h; exact (loopO_inl (h1 a (by omega))).trans (ih (a + 1) (by omega))
 exact this k 0 (by omega)
theorem leastN {P : Nat → Prop} (n : Nat) : (∀ i, i < n → P i) ∨ ∃ k, k < n ∧ ¬ P k ∧ ∀ j, j < k → P j := by
 induction n with
 | zero => exact .inl fun i h => by omega
 | succ n ih =>
  rcases ih with h | ⟨k, h1, h2, h3⟩
  ·by_cases hp : P n
   ·exact .inl fun i hi => by
     by_cases e : i = n
     ·exact e ▸ hp
     ·exact h i (by omega)
   ·exact .inr ⟨n, by omega, hp, h⟩
  ·exact .inr ⟨k, by omega, h2, h3⟩
theorem findL {β γ : Type} {f : Int → Option (Int ⊕ (β ⊕ γ))} (n : Nat) (hn : n < 9223372036854775808) (P : Nat → Prop) (g : Nat → β) (u : γ)
  (h1 : ∀ i : Nat, i < n → P i → f i = some (.inl (wr .i64 ((i : Int) + 1)))) (h2 : ∀ i : Nat, i < n → ¬ P i → f i = some (.inr (.inl (g i)))) (h3 : f n = some (.inr (.inr u))) :
  ((∀ i, i < n → P i) ∧ loopO f 0 = some (.inr u)) ∨ ∃ k, k < n ∧ ¬ P k ∧ (∀ j, j < k → P j) ∧ loopO f 0 = some (.inl (g k)) := by
 have hs : ∀ i, i < n → P i → f ((i : Nat) : Int) = some (.inl ((i + 1 : Nat) : Int)) := fun i hi hp => by rw [h1 i hi hp, wrS (by omega)]
 rcases leastN (P := P) n with h | ⟨k, hk, hp, hj⟩
 ·exact .inl ⟨h, runL (fun i => (i : Int)) n (fun i hi => hs i hi (h i hi)) h3⟩
 ·exact .inr ⟨k, hk, hp, hj, runL (fun i => (i : Int)) k (fun i hi => hs i (by omega) (hj i hi)) (h2 k hk hp)⟩
theorem allL {γ : Type} {f : Int → Option (Int ⊕ (Bool ⊕ γ))} (n : Nat) (hn : n < 9223372036854775808) (P : Nat → Prop) (u : γ)
  (h1 : ∀ i : Nat, i < n → f i = some (bif tt (P i) then .inl (wr .i64 ((i : Int) + 1)) else .inr (.inl false))) (h3 : f n = some (.inr (.inr u))) :
  loopO f 0 = some (bif tt (∀ i, i < n → P i) then .inr u else .inl false) := by
 rcases findL n hn P (fun _ => false) u (fun i hi hp => by rw [h1 i hi, tt_t hp, cond_true]) (fun i hi hp => by rw [h1 i hi, tt_f hp, cond_false]) h3 with ⟨h, e⟩ | ⟨k, hk, hp, _, e⟩
 ·rw [e, tt_t h, cond_true]
 ·rw [e, tt_f (fun h => hp (h k hk)), cond_false]
theorem all_gt {α : Type} [Inhabited α] {l : List α} {P : α → Prop} : (∀ i, i < l.length → P (gt l i)) ↔ ∀ x ∈ l, P x := by
 constructor
 ·intro h x hx
  obtain ⟨i, hi, rfl⟩ := List.mem_iff_getElem.1 hx
  rw [← gt_eq hi]; exact h i hi
 ·intro h i hi
  rw [gt_eq hi]; exact h _ (List.getElem_mem hi)
theorem idxL {α γ : Type} [Inhabited α] {l : List α} {f : Int → Option (Int ⊕ (Int ⊕ γ))} (hn : l.length < 9223372036854775808) (p : α → Bool) (u : γ)
  (h1 : ∀ i : Nat, i < l.length → f i = some (bif p (gt l i) then .inr (.inl i) else .inl (wr .i64 ((i : Int) + 1)))) (h3 : f l.length = some (.inr (.inr u))) :
  loopO f 0 = some (match l.findIdx? p with | some k => .inl (k : Int) | none => .inr u) := by
 rcases findL l.length hn (fun i => p (gt l i) = false) (fun i => (i : Int)) u (fun i hi hp => by rw [h1 i hi, hp, cond_false]) (fun i hi hp => by rw [h1 i hi, show p (gt l i) = true by simpa using hp, cond_true]) h3 with ⟨h, e⟩ | ⟨k, hk, hp, hj, e⟩
 ·rw [e, List.findIdx?_eq_none_iff.2 (all_gt.1 h)]
 ·have : l.findIdx? p = some k := by
   rw [List.findIdx?_eq_some_iff_getElem]
   exact ⟨hk, by rw [← gt_eq hk]; simpa using hp, fun j hjk => by rw [← gt_eq (by omega)]; simpa using hj j hjk⟩
  rw [e, this]
def bt (x : Int) (i : Nat) : Bool := x.toNat.testBit i
theorem bit_run {x : Int} (h0 : 0 ≤ x) (h1 : x < 9223372036854775808) {k : Nat} (hk : k < 9223372036854775807) : ref08_Bit x k = some (bif bt x k then 1 else 0) := by
 obtain ⟨m, rfl⟩ := Int.eq_ofNat_of_zero_le h0
 have hle : ∀ j, m / 2 ^ j ≤ m := fun j => Nat.div_le_self _ _
 have e := runL (f := ref08_Bit_L1 (k : Int)) (b := ((m / 2 ^ k : Nat) : Int)) (fun j => (((m / 2 ^ j : Nat) : Int), ((j : Nat) : Int))) k (fun i hi => by
  simp only [ref08_Bit_L1]
  have ht : (((m / 2 ^ i : Nat) : Int)).tdiv 2 = ((m / 2 ^ (i + 1) : Nat) : Int) := by
   rw [Nat.pow_succ, ← Nat.div_div_eq_div_mul]; rfl
  have h2 : m / 2 ^ (i + 1) < 9223372036854775808 := Nat.lt_of_le_of_lt (hle _) (by omega)
  generalize m / 2 ^ (i + 1) = q at ht h2
  rw [decide_eq_true (by omega), cond_true, wrS (by omega), ht, wr64 (by omega) (by omega)]) (by
  simp only [ref08_Bit_L1]
  rw [decide_eq_false (by omega), cond_false])
 simp only [Nat.pow_zero, Nat.div_one] at e
 have e : loopO (ref08_Bit_L1 (k : Int)) ((m : Int), 0) = _ := e
 simp only [ref08_Bit, e, Option.bind_some, bt, Int.toNat_natCast, Nat.testBit_eq_decide_div_mod_eq, Option.some.injEq]
 have ht : (((m / 2 ^ k : Nat) : Int)).tmod 2 = ((m / 2 ^ k % 2 : Nat) : Int) := rfl
 rw [ht]
 by_cases h : m / 2 ^ k % 2 = 1
 ·rw [h, decide_eq_true rfl]; rfl
 ·rw [show m / 2 ^ k % 2 = 0 by omega]; rfl
theorem lt64 {n : Nat} (h : ∀ j, 63 ≤ j → n.testBit j = false) : n < 9223372036854775808 := Nat.lt_pow_two_of_testBit (n := 63) n h
theorem bit64 {n j : Nat} (h : n < 9223372036854775808) (hj : 63 ≤ j) : n.testBit j = false := Nat.testBit_lt_two_pow (Nat.lt_of_lt_of_le h (Nat.pow_le_pow_right (n := 2) (by decide) hj : 2 ^ 63 ≤ 2 ^ j))
theorem bit8 {n j : Nat} (h : n < 256) (hj : 8 ≤ j) : n.testBit j = false := Nat.testBit_lt_two_pow (Nat.lt_of_lt_of_le h (Nat.pow_le_pow_right (n := 2) (by decide) hj : 2 ^ 8 ≤ 2 ^ j))
theorem of64 {n : Nat} (h : n < 9223372036854775808) : (BitVec.ofInt 64 (n : Int)).toNat = n := by simp; omega
theorem wn64 {n : Nat} (h : n < 9223372036854775808) : IntKind.i64.wrap ((n : Nat) : Int) = (n : Int) := wr64 (by omega) (by omega)
theorem bAnd64 {a b : Nat} (ha : a < 9223372036854775808) (hb : b < 9223372036854775808) : bAnd .i64 (a : Int) (b : Int) = ((a &&& b : Nat) : Int) := by
 show IntKind.i64.wrap (((BitVec.ofInt 64 (a : Int) &&& BitVec.ofInt 64 (b : Int)).toNat : Nat) : Int) = _
 rw [BitVec.toNat_and, of64 ha, of64 hb, wn64 (lt64 fun j hj => by rw [Nat.testBit_and, bit64 ha hj]; rfl)]
theorem bXor64 {a b : Nat} (ha : a < 9223372036854775808) (hb : b < 9223372036854775808) : bXor .i64 (a : Int) (b : Int) = ((a ^^^ b : Nat) : Int) := by
 show IntKind.i64.wrap (((BitVec.ofInt 64 (a : Int) ^^^ BitVec.ofInt 64 (b : Int)).toNat : Nat) : Int) = _
 rw [BitVec.toNat_xor, of64 ha, of64 hb, wn64 (lt64 fun j hj => by rw [Nat.testBit_xor, bit64 ha hj, bit64 hb hj]; rfl)]
theorem bAndNot64 {a b : Nat} (ha : a < 9223372036854775808) (hb : b < 9223372036854775808) : bAndNot .i64 (a : Int) (b : Int) = ((a ^^^ (a &&& b) : Nat) : Int) := by
 have e : (BitVec.ofInt 64 (a : Int) &&& ~~~BitVec.ofInt 64 (b : Int)).toNat = a ^^^ (a &&& b) := by
  apply Nat.eq_of_testBit_eq
  intro j
  rw [BitVec.testBit_toNat, BitVec.getLsbD_and, BitVec.getLsbD_not, ← BitVec.testBit_toNat, of64 ha, ← BitVec.testBit_toNat, of64 hb, Nat.testBit_xor, Nat.testBit_and]
  by_cases hj : j < 64
  ·simp only [hj, decide_true, Bool.true_and]; cases a.testBit j <;> cases b.testBit j <;> rfl
  ·rw [bit64 ha (by omega)]; simp
 show IntKind.i64.wrap (((BitVec.ofInt 64 (a : Int) &&& ~~~BitVec.ofInt 64 (b : Int)).toNat : Nat) : Int) = _
 rw [e, wn64 (lt64 fun j hj => by rw [Nat.testBit_xor, Nat.testBit_and, bit64 ha hj]; rfl)]
theorem nat0 {n : Nat} : n = 0 ↔ ∀ i, n.testBit i = false :=
 ⟨fun h i => by rw [h]; exact Nat.zero_testBit i, fun h => Nat.eq_of_testBit_eq fun i => by rw [h i, Nat.zero_testBit]⟩
theorem diff0 {p v m : Nat} : (p ^^^ v) &&& m = 0 ↔ ∀ i, m.testBit i = true → p.testBit i = v.testBit i := by
 rw [nat0]
 refine forall_congr' fun i => ?_
 rw [Nat.testBit_and, Nat.testBit_xor]
 cases p.testBit i <;> cases v.testBit i <;> cases m.testBit i <;> decide
theorem sub0 {v m : Nat} : v ^^^ (v &&& m) = 0 ↔ ∀ i, v.testBit i = true → m.testBit i = true := by
 rw [nat0]
 refine forall_congr' fun i => ?_
 rw [Nat.testBit_xor, Nat.testBit_and]
 cases v.testBit i <;> cases m.testBit i <;> decide
theorem sub_le {v m : Nat} (h : ∀ i, v.testBit i = true → m.testBit i = true) : v ≤ m := by
 have : v ||| m = m := by
  apply Nat.eq_of_testBit_eq
  intro i
  rw [Nat.testBit_or]
  cases hb : v.testBit i
  ·rw [Bool.false_or]
  ·rw [h i hb]; rfl
 rw [← this]; exact Nat.left_le_or
end Go.Proofs.Ytmeemkllagjnmaa.B
