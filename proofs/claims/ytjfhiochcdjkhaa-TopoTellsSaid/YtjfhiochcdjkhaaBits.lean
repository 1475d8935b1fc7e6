/- Sets of small numbers as bits of sixteen, and rules for loops. Conditions: as stated. -/
import Derived.Test.YtjfhiochcdjkhaaEvX
open Go.Ev Go
namespace Go.Ev

/-! ### loops -/

theorem whileI {S β : Type} {f : S → Option (Sum S β)} (m : S → Nat) (I : S → Prop) (R : β → Prop)
    (hstep : ∀ s, I s → (∃ s', f s = some (.inl s') ∧ I s' ∧ m s' < m s) ∨ (∃ b, f s = some (.inr b) ∧ R b)) : ∀ s, I s → ∃ b, loopO f s = some b ∧ R b := by
  have : ∀ (n : Nat) (s : S), m s ≤ n → I s → ∃ b, loopO f s = some b ∧ R b := by
    intro n
    induction n with
    | zero =>
      intro s hn hI
      rcases hstep s hI with ⟨s', _, _, h⟩ | ⟨b, h1, h2⟩
      · omega
      · exact ⟨b, loopO_inr h1, h2⟩
    | succ n ih =>
      intro s hn hI
      rcases hstep s hI with ⟨s', h1, h2, h3⟩ | ⟨b, h1, h2⟩
      · obtain ⟨b, h4, h5⟩ := ih s' (by omega) h2
        exact ⟨b, (loopO_inl h1).trans h4, h5⟩
      · exact ⟨b, loopO_inr h1, h2⟩
  exact fun s => this (m s) s (Nat.le_refl _)

/-- a loop that counts from i to n -/
theorem forI {S σ β : Type} {f : S → Option (Sum S β)} (st : Nat → σ → S) (n : Nat) (I : Nat → σ → Prop) (R : β → Prop)
    (hstep : ∀ i s, i < n → I i s → (∃ s', f (st i s) = some (.inl (st (i + 1) s')) ∧ I (i + 1) s') ∨ (∃ b, f (st i s) = some (.inr b) ∧ R b))
    (hend : ∀ s, I n s → ∃ b, f (st n s) = some (.inr b) ∧ R b) : ∀ i s, i ≤ n → I i s → ∃ b, loopO f (st i s) = some b ∧ R b := by
  have : ∀ (k i : Nat) (s : σ), i + k = n → I i s → ∃ b, loopO f (st i s) = some b ∧ R b := by
    intro k
    induction k with
    | zero =>
      intro i s hi hI
      obtain rfl : i = n := by omega
      obtain ⟨b, h1, h2⟩ := hend s hI
      exact ⟨b, loopO_inr h1, h2⟩
    | succ k ih =>
      intro i s hi hI
      rcases hstep i s (by omega) hI with ⟨s', h1, h2⟩ | ⟨b, h1, h2⟩
      · obtain ⟨b, h4, h5⟩ := ih (i + 1) s' (by omega) h2
        exact ⟨b, (loopO_inl h1).trans h4, h5⟩
      · exact ⟨b, loopO_inr h1, h2⟩
  exact fun i s hi => this (n - i) i s (by omega)

theorem forE {S σ β : Type} {goal : Prop} {f : S → Option (Sum S β)} (st : Nat → σ → S) (n : Nat) (I : Nat → σ → Prop) (R : β → Prop)
    (hstep : ∀ i s, i < n → I i s → (∃ s', f (st i s) = some (.inl (st (i + 1) s')) ∧ I (i + 1) s') ∨ (∃ b, f (st i s) = some (.inr b) ∧ R b))
    (hend : ∀ s, I n s → ∃ b, f (st n s) = some (.inr b) ∧ R b) (i : Nat) (s : σ) (hi : i ≤ n) (hI : I i s) (k : ∀ b, loopO f (st i s) = some b → R b → goal) : goal :=
  let ⟨b, h1, h2⟩ := forI st n I R hstep hend i s hi hI
  k b h1 h2

theorem whileE {S β : Type} {goal : Prop} {f : S → Option (Sum S β)} (m : S → Nat) (I : S → Prop) (R : β → Prop)
    (hstep : ∀ s, I s → (∃ s', f s = some (.inl s') ∧ I s' ∧ m s' < m s) ∨ (∃ b, f s = some (.inr b) ∧ R b)) (s : S) (hI : I s) (k : ∀ b, loopO f s = some b → R b → goal) : goal :=
  let ⟨b, h1, h2⟩ := whileI m I R hstep s hI
  k b h1 h2

/-! ### bits -/

theorem wr16 {n : Nat} (h : n < 65536) : wr .u16 (n : Int) = (n : Int) := by simp [wr, IntKind.wrap, IntKind.bits, IntKind.signed]; omega
theorem of16 {n : Nat} (h : n < 65536) : (BitVec.ofInt 16 (n : Int)).toNat = n := by simp; omega

theorem lt16 {n : Nat} (h : ∀ j, 16 ≤ j → n.testBit j = false) : n < 65536 := Nat.lt_pow_two_of_testBit n h
theorem bit16 {n j : Nat} (h : n < 65536) (hj : 16 ≤ j) : n.testBit j = false := Nat.testBit_lt_two_pow (Nat.lt_of_lt_of_le h (Nat.pow_le_pow_right (n := 2) (by decide) hj : 2 ^ 16 ≤ 2 ^ j))

def andNot (a b : Nat) : Nat := a ^^^ (a &&& b)
theorem andNot_bit (a b j : Nat) : (andNot a b).testBit j = (a.testBit j && !b.testBit j) := by
  simp only [andNot, Nat.testBit_xor, Nat.testBit_and]; cases a.testBit j <;> cases b.testBit j <;> rfl
theorem andNot_lt {a b : Nat} (h : a < 65536) : andNot a b < 65536 := lt16 fun j hj => by rw [andNot_bit, bit16 h hj]; rfl
theorem or_lt {a b : Nat} (ha : a < 65536) (hb : b < 65536) : a ||| b < 65536 := lt16 fun j hj => by rw [Nat.testBit_or, bit16 ha hj, bit16 hb hj]; rfl
theorem and_lt {a b : Nat} (ha : a < 65536) : a &&& b < 65536 := lt16 fun j hj => by rw [Nat.testBit_and, bit16 ha hj]; rfl

theorem bv16 (a : Nat) (h : a < 65536) (j : Nat) : (BitVec.ofInt 16 (a : Int)).getLsbD j = a.testBit j := by
  rw [← BitVec.testBit_toNat, of16 h]

theorem bOr16 {a b : Nat} (ha : a < 65536) (hb : b < 65536) : bOr .u16 (a : Int) (b : Int) = ((a ||| b : Nat) : Int) := by
  have e : (BitVec.ofInt 16 (a : Int) ||| BitVec.ofInt 16 (b : Int)).toNat = a ||| b := by rw [BitVec.toNat_or, of16 ha, of16 hb]
  show wr .u16 (((BitVec.ofInt 16 (a : Int) ||| BitVec.ofInt 16 (b : Int)).toNat : Nat) : Int) = _
  rw [e, wr16 (or_lt ha hb)]
theorem bAnd16 {a b : Nat} (ha : a < 65536) (hb : b < 65536) : bAnd .u16 (a : Int) (b : Int) = ((a &&& b : Nat) : Int) := by
  have e : (BitVec.ofInt 16 (a : Int) &&& BitVec.ofInt 16 (b : Int)).toNat = a &&& b := by rw [BitVec.toNat_and, of16 ha, of16 hb]
  show wr .u16 (((BitVec.ofInt 16 (a : Int) &&& BitVec.ofInt 16 (b : Int)).toNat : Nat) : Int) = _
  rw [e, wr16 (and_lt ha)]
theorem bAndNot16 {a b : Nat} (ha : a < 65536) (hb : b < 65536) : bAndNot .u16 (a : Int) (b : Int) = ((andNot a b : Nat) : Int) := by
  have e : (BitVec.ofInt 16 (a : Int) &&& ~~~BitVec.ofInt 16 (b : Int)).toNat = andNot a b := by
    apply Nat.eq_of_testBit_eq
    intro j
    rw [BitVec.testBit_toNat, BitVec.getLsbD_and, BitVec.getLsbD_not, bv16 a ha, bv16 b hb, andNot_bit]
    by_cases hj : j < 16
    · simp [hj]
    · rw [bit16 ha (by omega)]; simp
  show wr .u16 (((BitVec.ofInt 16 (a : Int) &&& ~~~BitVec.ofInt 16 (b : Int)).toNat : Nat) : Int) = _
  rw [e, wr16 (andNot_lt ha)]

theorem shl16 {i : Nat} (h : i < 16) : shlI .u16 1 (i : Int) = some (((2 ^ i : Nat)) : Int) := by
  have : i = 0 ∨ i = 1 ∨ i = 2 ∨ i = 3 ∨ i = 4 ∨ i = 5 ∨ i = 6 ∨ i = 7 ∨ i = 8 ∨ i = 9 ∨ i = 10 ∨ i = 11 ∨ i = 12 ∨ i = 13 ∨ i = 14 ∨ i = 15 := by omega
  rcases this with rfl | rfl | rfl | rfl | rfl | rfl | rfl | rfl | rfl | rfl | rfl | rfl | rfl | rfl | rfl | rfl <;> decide

theorem pow_bit (i j : Nat) : (2 ^ i).testBit j = decide (i = j) := Nat.testBit_two_pow

/-- the lowest bit -/
theorem low_form : ∀ (x : Nat), x ≠ 0 → ∃ k m, x = 2 ^ (k + 1) * m + 2 ^ k := by
  intro x
  induction x using Nat.strongRecOn with
  | _ x ih =>
    intro h
    by_cases he : x % 2 = 0
    · obtain ⟨k, m, e⟩ := ih (x / 2) (by omega) (by omega)
      refine ⟨k + 1, m, ?_⟩
      have : x = 2 * (x / 2) := by omega
      rw [this, e, Nat.pow_succ 2 (k + 1), Nat.pow_succ 2 k, Nat.mul_add]
      have h2 : 2 * (2 ^ k * 2 * m) = 2 ^ k * 2 * 2 * m := by rw [Nat.mul_comm 2, Nat.mul_assoc, Nat.mul_assoc, Nat.mul_assoc, Nat.mul_assoc]; congr 2; omega
      rw [h2, Nat.mul_comm 2 (2 ^ k)]
    · exact ⟨0, x / 2, by simp; omega⟩

theorem form_bit {k m b j : Nat} (hb : b < 2 ^ (k + 1)) : (2 ^ (k + 1) * m + b).testBit j = if j < k + 1 then b.testBit j else m.testBit (j - (k + 1)) := Nat.testBit_two_pow_mul_add m hb j

theorem form_low {x k m : Nat} (h : x = 2 ^ (k + 1) * m + 2 ^ k) (j : Nat) : x.testBit j = if j < k then false else if j = k then true else m.testBit (j - (k + 1)) := by
  rw [h, form_bit (by rw [Nat.pow_succ]; have := Nat.two_pow_pos k; omega), pow_bit]
  by_cases h1 : j < k
  · rw [if_pos (by omega), if_pos h1, decide_eq_false (by omega)]
  · by_cases h2 : j = k
    · subst h2; simp
    · rw [if_neg (by omega), if_neg h1, if_neg h2]

theorem form_pred {x k m : Nat} (h : x = 2 ^ (k + 1) * m + 2 ^ k) (j : Nat) : (x &&& (x - 1)).testBit j = (x.testBit j && decide (j ≠ k)) := by
  have hp := Nat.two_pow_pos k
  have e : x - 1 = 2 ^ (k + 1) * m + (2 ^ k - 1) := by omega
  rw [Nat.testBit_and, form_low h, e, form_bit (by rw [Nat.pow_succ]; omega), Nat.testBit_two_pow_sub_one]
  by_cases h1 : j < k
  · simp [h1]
  · by_cases h2 : j = k
    · subst h2; simp
    · rw [if_neg h1, if_neg h2, if_neg (by omega)]; simp [h2]

theorem form_neg {x k m : Nat} (hx : x < 65536) (h : x = 2 ^ (k + 1) * m + 2 ^ k) : x &&& (65536 - x) = 2 ^ k := by
  apply Nat.eq_of_testBit_eq
  intro j
  have hp := Nat.two_pow_pos k
  have e : 65536 - x = 2 ^ 16 - ((x - 1) + 1) := by omega
  have e1 : x - 1 = 2 ^ (k + 1) * m + (2 ^ k - 1) := by omega
  rw [Nat.testBit_and, e, Nat.testBit_two_pow_sub_succ (by omega), pow_bit, form_low h, e1, form_bit (by rw [Nat.pow_succ]; omega), Nat.testBit_two_pow_sub_one]
  have hj : x.testBit j = true → j < 16 := fun hj => by
    rcases Nat.lt_or_ge j 16 with h | h
    · exact h
    · rw [bit16 hx h] at hj; simp at hj
  rw [form_low h] at hj
  by_cases h1 : j < k
  · simp [h1]; omega
  · by_cases h2 : j = k
    · subst h2; simp at hj ⊢; exact hj
    · rw [if_neg h1, if_neg h2, if_neg (by omega)] at *
      cases m.testBit (j - (k + 1)) <;> simp_all <;> omega

/-- the numbers of a set, rising -/
def bitsOf (x : Nat) : List Nat := (List.range 16).filter x.testBit

theorem mem_bits {x j : Nat} (hx : x < 65536) : j ∈ bitsOf x ↔ x.testBit j = true := by
  simp only [bitsOf, List.mem_filter, List.mem_range]
  refine ⟨fun h => h.2, fun h => ⟨?_, h⟩⟩
  rcases Nat.lt_or_ge j 16 with h1 | h1
  · exact h1
  · rw [bit16 hx h1] at h; simp at h

theorem bits_sorted (x : Nat) : (bitsOf x).Pairwise (· < ·) := List.Pairwise.filter _ List.pairwise_lt_range

theorem bits_zero : bitsOf 0 = [] := by decide

theorem bits_step {x k m : Nat} (hx : x < 65536) (h : x = 2 ^ (k + 1) * m + 2 ^ k) : bitsOf x = k :: bitsOf (x &&& (x - 1)) := by
  have hk : k ∈ bitsOf x := (mem_bits hx).2 (by rw [form_low h]; simp)
  have s1 := bits_sorted x
  have s2 : (k :: bitsOf (x &&& (x - 1))).Pairwise (· < ·) := by
    refine List.pairwise_cons.2 ⟨fun j hj => ?_, bits_sorted _⟩
    have := (mem_bits (and_lt hx)).1 hj
    rw [form_pred h, form_low h] at this
    by_cases h1 : j < k
    · simp [h1] at this
    · by_cases h2 : j = k
      · simp [h2] at this
      · omega
  refine List.Perm.eq_of_pairwise (fun a b _ _ h1 h2 => by omega) s1 s2 ?_
  refine (List.perm_ext_iff_of_nodup (s1.imp fun h => by omega) (s2.imp fun h => by omega)).2 fun j => ?_
  rw [mem_bits hx, List.mem_cons, mem_bits (and_lt hx), form_pred h]
  by_cases h2 : j = k
  · subst h2; simp [form_low h]
  · simp [h2]
end Go.Ev
