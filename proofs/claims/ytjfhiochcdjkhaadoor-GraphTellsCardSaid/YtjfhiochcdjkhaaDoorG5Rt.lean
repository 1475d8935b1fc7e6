/- Graphs: what the program's Reach tells. Conditions: as stated. -/
import Derived.Test.YtjfhiochcdjkhaaDoorG5C
open Go.Ev Go
namespace Go.Proofs.YtjfhiochcdjkhaaDoor.G

inductive Rt (l : List graph_Edge) : Nat → Nat → Prop
  | refl (i : Nat) : Rt l i i
  | step {i j k : Nat} (h : Rt l i j) (e : Ed l j k) : Rt l i k

theorem Rt.trans {l : List graph_Edge} {i j k : Nat} (h : Rt l i j) (h2 : Rt l j k) : Rt l i k := by
  induction h2 with
  | refl => exact h
  | step _ e ih => exact ih.step e

theorem Rt.mono {l m : List graph_Edge} (hs : ∀ e ∈ l, e ∈ m) {i j : Nat} (h : Rt l i j) : Rt m i j := by
  induction h with
  | refl => exact .refl _
  | step _ e ih => obtain ⟨e, he, h⟩ := e; exact ih.step ⟨e, hs e he, h⟩

/-- what Reach tells -/
def Told (l : List graph_Edge) (a : Nat) (s : List Int) : Prop := ∃ x : Nat, x < 65536 ∧ s = ints (bitsOf x) ∧ ∀ j, x.testBit j = true ↔ Rt l a j

theorem reach_spec {n a : Nat} {l : Sl graph_Edge} (hb : l.l.length < 1000000) (hF : Fits n l.l) (ha : a < n) : ∃ s, graph_Reach (n : Int) l (a : Int) = some s ∧ Told l.l a s.l := by
  have hn16 : n ≤ 16 := by have := hF.1; omega
  obtain ⟨to, h1, hN⟩ := next_spec hb hF
  have hp : 2 ^ a < 65536 := by
    have := Nat.pow_lt_pow_right (a := 2) (by decide) (show a < 16 by omega)
    omega
  have hlt : ∀ {x : Nat}, (∀ j, x.testBit j = true → Rt l.l a j) → ∀ j, x.testBit j = true → j < n := fun h j hj => by
    cases h j hj with
    | refl => exact ha
    | step _ e => exact (hF.lt e).2
  refine whileE (f := graph_Reach_L1 (.mk (ints to))) (fun s => 65536 - s.toNat) (fun s => ∃ x : Nat, s = (x : Int) ∧ x < 65536 ∧ x.testBit a = true ∧ ∀ j, x.testBit j = true → Rt l.l a j) (fun s => Told l.l a s.l) ?_
    ((2 ^ a : Nat) : Int) ⟨2 ^ a, rfl, hp, by rw [pow_bit]; simp, fun j hj => ?_⟩ (fun b h2 h3 => ?_)
  · rintro _ ⟨x, rfl, hx, hxa, hxr⟩
    obtain ⟨o, ho, ho16, hob⟩ := over_spec hN hn16 (hlt hxr)
    by_cases he : x ||| o = x
    · right
      obtain ⟨r, hr, hrl⟩ := list_spec hx
      have e1 : (((x ||| o : Nat) : Int) == (x : Int)) = true := by rw [he]; simp
      refine ⟨r, by simp only [graph_Reach_L1, ho, Option.bind_some, bOr16 hx ho16, e1, cond_true, hr], x, hx, hrl, fun j => ⟨hxr j, fun h => ?_⟩⟩
      induction h with
      | refl => exact hxa
      | step _ e ih =>
        rw [← he, Nat.testBit_or, (hob _).2 ⟨_, ih, e⟩, Bool.or_true]
    · left
      have e1 : (((x ||| o : Nat) : Int) == (x : Int)) = false := by rw [beq_eq_false_iff_ne]; omega
      have hle : x ≤ x ||| o := Nat.left_le_or
      have hlt2 := or_lt hx ho16
      refine ⟨((x ||| o : Nat) : Int), by simp only [graph_Reach_L1, ho, Option.bind_some, bOr16 hx ho16, e1, cond_false], ⟨_, rfl, hlt2, by rw [Nat.testBit_or, hxa]; rfl, fun j hj => ?_⟩, ?_⟩
      · rw [Nat.testBit_or, Bool.or_eq_true] at hj
        rcases hj with hj | hj
        · exact hxr j hj
        · obtain ⟨i, hi, e⟩ := (hob j).1 hj
          exact (hxr i hi).step e
      · simp only [Int.toNat_natCast]; omega
  · rw [pow_bit, decide_eq_true_eq] at hj; subst hj; exact .refl _
  · refine ⟨b, ?_, h3⟩
    have hc : ((!(decide (Fits n l.l))) || ((decide ((a : Int) < 0)) || (decide ((a : Int) ≥ (n : Int))))) = false := by
      simp only [hF, decide_true, Bool.not_true, Bool.false_or, Bool.or_eq_false_iff, decide_eq_false_iff_not]; omega
    simp only [graph_Reach, right_spec hb, Option.bind_some, hc, cond_false, h1, shl16 (show a < 16 by omega), h2]

theorem Told.mem {l : List graph_Edge} {a : Nat} {s : List Int} (h : Told l a s) {j : Int} : j ∈ s ↔ ∃ k : Nat, j = k ∧ Rt l a k := by
  obtain ⟨x, hx, rfl, hb⟩ := h
  rw [ints_mem]
  constructor
  · rintro ⟨y, hy, rfl⟩; exact ⟨y, rfl, (hb y).1 ((mem_bits hx).1 hy)⟩
  · rintro ⟨k, rfl, h⟩; exact ⟨k, (mem_bits hx).2 ((hb k).2 h), rfl⟩

theorem Told.len {l : List graph_Edge} {a : Nat} {s : List Int} (h : Told l a s) : s.length ≤ 16 := by
  obtain ⟨x, hx, rfl, hb⟩ := h
  rw [ints_len]; exact bits_len x

theorem Told.up {l : List graph_Edge} {a : Nat} {s : List Int} (h : Told l a s) {i j : Nat} (hij : i < j) (hj : j < s.length) : gt s i < gt s j := by
  obtain ⟨x, hx, rfl, hb⟩ := h
  rw [ints_len] at hj
  rw [ints_gt, ints_gt, gt_eq hj, gt_eq (show i < (bitsOf x).length by omega)]
  have := List.pairwise_iff_getElem.1 (bits_sorted x) i j (by omega) hj hij
  omega

end Go.Proofs.YtjfhiochcdjkhaaDoor.G
