/- Graphs of at most sixteen nodes: what the program's functions compute. Conditions: as stated. -/
import Derived.Test.YtjfhiochcdjkhaaDoorG5
import Derived.Test.YtjfhiochcdjkhaaDoorBits
import Derived.Test.YtjfhiochcdjkhaaDoorHeapM
open Go.Ev Go
namespace Go.Proofs.YtjfhiochcdjkhaaDoor.G

/-! ### the lowest bit, and the list of the bits -/

theorem tz_pow (k : Nat) (h : k < 16) : ((ixI (bShr .u32 (wr .u32 ((wr .u32 ((2 ^ k : Nat) : Int)) * 125613361)) 27) tab0.length).bind fun n2 => some (wr .i64 (gt tab0 n2))) = some (k : Int) := by
  have : k = 0 ∨ k = 1 ∨ k = 2 ∨ k = 3 ∨ k = 4 ∨ k = 5 ∨ k = 6 ∨ k = 7 ∨ k = 8 ∨ k = 9 ∨ k = 10 ∨ k = 11 ∨ k = 12 ∨ k = 13 ∨ k = 14 ∨ k = 15 := by omega
  rcases this with rfl | rfl | rfl | rfl | rfl | rfl | rfl | rfl | rfl | rfl | rfl | rfl | rfl | rfl | rfl | rfl <;> decide +kernel

theorem tz {x k m : Nat} (hx : x < 65536) (h : x = 2 ^ (k + 1) * m + 2 ^ k) : math_bits_TrailingZeros16 (x : Int) = some (k : Int) ∧ k < 16 := by
  have hp := Nat.two_pow_pos k
  have hk : k < 16 := by
    rcases Nat.lt_or_ge k 16 with h1 | h1
    · exact h1
    · have := Nat.pow_le_pow_right (n := 2) (by decide) h1
      omega
  refine ⟨?_, hk⟩
  have h0 : ((x : Int) == 0) = false := by simp; omega
  have e1 : wr .u16 (0 - (x : Int)) = ((65536 - x : Nat) : Int) := by simp [wr, IntKind.wrap, IntKind.bits, IntKind.signed]; omega
  rw [math_bits_TrailingZeros16, h0, cond_false, e1, bAnd16 hx (by omega), form_neg hx h]
  exact tz_pow k hk

def ints (l : List Nat) : List Int := l.map fun (x : Nat) => (x : Int)
theorem ints_len (l : List Nat) : (ints l).length = l.length := by simp [ints]
theorem ints_gt (l : List Nat) (i : Nat) : gt (ints l) i = ((gt l i : Nat) : Int) := by
  simp only [gt, ints, List.getD_eq_getElem?_getD, List.getElem?_map]
  cases l[i]? <;> rfl
theorem ints_set (l : List Nat) (i v : Nat) : (ints l).set i (v : Int) = ints (l.set i v) := by rw [ints, ints, List.map_set]
theorem ints_mem {l : List Nat} {x : Int} : x ∈ ints l ↔ ∃ y ∈ l, (y : Int) = x := by simp [ints]

theorem list_go : ∀ (n x : Nat) (s : Sl Int), (bitsOf x).length ≤ n → x < 65536 → s.l.length + n ≤ 16 → ∃ s', loopO graph_list_L1 ((x : Int), s) = some s' ∧ s'.l = s.l ++ ints (bitsOf x) := by
  intro n
  induction n with
  | zero =>
    intro x s hn hx hs
    have hb : bitsOf x = [] := List.length_eq_zero_iff.1 (Nat.le_zero.1 hn)
    by_cases h0 : x = 0
    · subst h0; exact ⟨s, loopO_inr rfl, by simp [ints, bits_zero]⟩
    · obtain ⟨k, m, h⟩ := low_form x h0
      rw [bits_step hx h] at hb; simp at hb
  | succ n ih =>
    intro x s hn hx hs
    by_cases h0 : x = 0
    · subst h0; exact ⟨s, loopO_inr rfl, by simp [ints, bits_zero]⟩
    · obtain ⟨k, m, h⟩ := low_form x h0
      obtain ⟨h1, hk⟩ := tz hx h
      have hb := bits_step hx h
      have e1 : wr .u16 ((x : Int) - 1) = ((x - 1 : Nat) : Int) := by simp [wr, IntKind.wrap, IntKind.bits, IntKind.signed]; omega
      have hcap : capI (s.l ++ [(k : Int)]) = some (s.l ++ [(k : Int)]) := capI_of (by simp; omega)
      have hstep : graph_list_L1 ((x : Int), s) = some (.inl (((x &&& (x - 1) : Nat) : Int), .mk (s.l ++ [(k : Int)]))) := by
        have h2 : ((x : Int) != 0) = true := by simp; omega
        simp only [graph_list_L1, h2, cond_true, h1, Option.bind_some, hcap, e1, bAnd16 hx (show x - 1 < 65536 by omega)]
      rw [loopO_inl hstep]
      rw [hb] at hn
      obtain ⟨s', h3, h4⟩ := ih (x &&& (x - 1)) (.mk (s.l ++ [(k : Int)])) (by simpa using hn) (and_lt hx) (by simp; omega)
      exact ⟨s', h3, by rw [h4, hb]; simp [ints]⟩

theorem bits_len (x : Nat) : (bitsOf x).length ≤ 16 := by
  have := List.length_filter_le x.testBit (List.range 16)
  simpa [bitsOf] using this

theorem list_spec {x : Nat} (hx : x < 65536) : ∃ s, graph_list (x : Int) = some s ∧ s.l = ints (bitsOf x) := by
  obtain ⟨s, h1, h2⟩ := list_go 16 x .nil (bits_len x) hx (by simp)
  exact ⟨s, by simp only [graph_list, h1, Option.bind_some], by simpa using h2⟩

/-! ### a graph -/

def Fits (n : Int) (l : List graph_Edge) : Prop := (0 ≤ n ∧ n ≤ 16) ∧ ∀ e ∈ l, (0 ≤ e.From ∧ e.From < n) ∧ (0 ≤ e.To ∧ e.To < n)
instance (n : Int) (l : List graph_Edge) : Decidable (Fits n l) := by unfold Fits; infer_instance

theorem right_spec {n : Int} {l : Sl graph_Edge} (hb : l.l.length < 1000000) : graph_Right n l = some (decide (Fits n l.l)) := by
  unfold graph_Right
  by_cases hn : 0 ≤ n ∧ n ≤ 16
  · have h1 : ((decide (n < 0)) || (decide (n > 16))) = false := by rw [Bool.or_eq_false_iff]; simp; omega
    rw [h1, cond_false]
    let ok (e : graph_Edge) : Prop := (0 ≤ e.From ∧ e.From < n) ∧ (0 ≤ e.To ∧ e.To < n)
    refine forE (f := graph_Right_L1 n l) (fun i (_ : Unit) => (i : Int)) l.l.length (fun i _ => ∀ j < i, ok (gt l.l j)) (fun b => match b with | .inl _ => ¬ ∀ e ∈ l.l, ok e | .inr _ => ∀ e ∈ l.l, ok e) ?_ ?_ 0 () (Nat.zero_le _) (fun j hj => by omega) (fun b h2 h3 => ?_)
    · intro i _ hi hI
      have hd : decide ((i : Int) < (l.l.length : Int)) = true := by rw [decide_eq_true_eq]; omega
      have hw : wr .i64 ((i : Int) + 1) = ((i + 1 : Nat) : Int) := by rw [wr_id (by omega) (by omega)]; omega
      have hc : ((decide (((gt l.l i).From) < 0)) || ((decide (((gt l.l i).From) ≥ n)) || ((decide (((gt l.l i).To) < 0)) || (decide (((gt l.l i).To) ≥ n))))) = decide (¬ ok (gt l.l i)) := by
        rw [Bool.eq_iff_iff]; simp only [Bool.or_eq_true, decide_eq_true_eq, ok]; omega
      by_cases ho : ok (gt l.l i)
      · refine .inl ⟨(), ?_, fun j hj => ?_⟩
        · simp only [graph_Right_L1, hd, cond_true, ixI_of hi, Option.bind_some, hc, ho, not_true_eq_false, decide_false, cond_false, hw]
        · rcases Nat.lt_succ_iff_lt_or_eq.1 hj with h | rfl
          · exact hI j h
          · exact ho
      · refine .inr ⟨.inl (), ?_, fun h => ho (h _ (by rw [gt_eq hi]; exact List.getElem_mem _))⟩
        simp only [graph_Right_L1, hd, cond_true, ixI_of hi, Option.bind_some, hc, ho, not_false_eq_true, decide_true]
    · intro _ hI
      have hd : decide ((l.l.length : Int) < (l.l.length : Int)) = false := by rw [decide_eq_false_iff_not]; omega
      refine ⟨.inr (), by simp only [graph_Right_L1, hd, cond_false], fun e he => ?_⟩
      obtain ⟨j, hj, rfl⟩ := List.getElem_of_mem he
      rw [← gt_eq hj]; exact hI j hj
    · have e0 : ((0 : Nat) : Int) = 0 := rfl
      rw [e0] at h2
      rw [h2, Option.bind_some]
      cases b with
      | inl _ => simp only [Option.some.injEq]; exact (decide_eq_false fun h => h3 h.2).symm
      | inr _ => simp only [Option.some.injEq]; exact (decide_eq_true ⟨hn, h3⟩).symm
  · have h1 : ((decide (n < 0)) || (decide (n > 16))) = true := by rw [Bool.or_eq_true]; simp; omega
    rw [h1, cond_true]
    simp only [Option.some.injEq]
    exact (decide_eq_false fun h => hn h.1).symm

/-- an edge -/
def Ed (l : List graph_Edge) (i j : Nat) : Prop := ∃ e ∈ l, e.From = (i : Int) ∧ e.To = (j : Int)

theorem Fits.lt {n : Nat} {l : List graph_Edge} (h : Fits n l) {i j : Nat} (he : Ed l i j) : i < n ∧ j < n := by
  obtain ⟨e, he, h1, h2⟩ := he
  have := h.2 e he
  omega

/-- where the edges of each node lead, as sets -/
structure Nx (n : Nat) (l : List graph_Edge) (to : List Nat) : Prop where
  len : to.length = n
  lt : ∀ i, gt to i < 65536
  bit : ∀ i j, (gt to i).testBit j = true ↔ Ed l i j

theorem gt_out {α : Type} [Inhabited α] {l : List α} {i : Nat} (h : l.length ≤ i) : gt l i = default := by simp [gt, List.getD, h]

theorem next_spec {n : Nat} {l : Sl graph_Edge} (hb : l.l.length < 1000000) (hF : Fits n l.l) : ∃ to, graph_next (n : Int) l = some (.mk (ints to)) ∧ Nx n l.l to := by
  have hn16 : n ≤ 16 := by have := hF.1; omega
  have hmk : mkI (0 : Int) (n : Int) (n : Int) = some (ints (List.replicate n 0)) := by
    rw [mkI, if_pos (by omega)]; simp [ints]
  refine forE (f := graph_next_L1 l) (fun i (to : List Nat) => (ints to, (i : Int))) l.l.length (fun i to => Nx n (l.l.take i) to) (fun b => ∃ to, b = ints to ∧ Nx n l.l to) ?_ ?_ 0 (List.replicate n 0) (Nat.zero_le _) ⟨by simp, fun i => ?_, fun i j => ?_⟩ (fun b h2 h3 => ?_)
  · intro i to hi hI
    refine .inl ?_
    have hd : decide ((i : Int) < (l.l.length : Int)) = true := by rw [decide_eq_true_eq]; omega
    have hw : wr .i64 ((i : Int) + 1) = ((i + 1 : Nat) : Int) := by rw [wr_id (by omega) (by omega)]; omega
    have hm : gt l.l i ∈ l.l := by rw [gt_eq hi]; exact List.getElem_mem _
    obtain ⟨⟨f0, f1⟩, t0, t1⟩ := hF.2 _ hm
    obtain ⟨f, hf⟩ : ∃ f : Nat, (gt l.l i).From = (f : Int) := ⟨(gt l.l i).From.toNat, by omega⟩
    obtain ⟨t, ht⟩ : ∃ t : Nat, (gt l.l i).To = (t : Int) := ⟨(gt l.l i).To.toNat, by omega⟩
    have hfl : f < (ints to).length := by rw [ints_len, hI.len]; omega
    have hpl : (2 ^ t : Nat) < 65536 := by
      have := Nat.pow_lt_pow_right (a := 2) (by decide) (show t < 16 by omega)
      omega
    refine ⟨to.set f (gt to f ||| 2 ^ t), ?_, ?_⟩
    · simp only [graph_next_L1, hd, cond_true, ixI_of hi, Option.bind_some, hf, ixI_of hfl, ht, shl16 (show t < 16 by omega), ints_gt, bOr16 (hI.lt f) hpl, ints_set, hw]
    · have hft : f < to.length := by rw [← ints_len]; exact hfl
      have et : l.l.take (i + 1) = l.l.take i ++ [gt l.l i] := by rw [gt_eq hi, List.take_append_getElem hi]
      have hg : ∀ j, gt (to.set f (gt to f ||| 2 ^ t)) j = if f = j then gt to f ||| 2 ^ t else gt to j := fun j => gt_set hft
      refine ⟨by rw [List.length_set]; exact hI.len, fun j => ?_, fun j k => ?_⟩
      · rw [hg]; split
        · exact or_lt (hI.lt f) hpl
        · exact hI.lt j
      · rw [hg, et]
        have hE : Ed (l.l.take i ++ [gt l.l i]) j k ↔ Ed (l.l.take i) j k ∨ (f = j ∧ t = k) := by
          unfold Ed
          constructor
          · rintro ⟨e, he, h1, h2⟩
            rcases List.mem_append.1 he with he | he
            · exact .inl ⟨e, he, h1, h2⟩
            · rw [List.mem_singleton] at he; subst he; exact .inr ⟨by omega, by omega⟩
          · rintro (⟨e, he, h1, h2⟩ | ⟨rfl, rfl⟩)
            · exact ⟨e, List.mem_append_left _ he, h1, h2⟩
            · exact ⟨_, List.mem_append_right _ (List.mem_singleton.2 rfl), hf, ht⟩
        rw [hE]
        by_cases hfj : f = j
        · subst hfj
          rw [if_pos rfl, Nat.testBit_or, Bool.or_eq_true, hI.bit, pow_bit, decide_eq_true_eq]
          simp
        · rw [if_neg hfj, hI.bit]; simp [hfj]
  · intro to hI
    have hd : decide ((l.l.length : Int) < (l.l.length : Int)) = false := by rw [decide_eq_false_iff_not]; omega
    refine ⟨ints to, by simp only [graph_next_L1, hd, cond_false], to, rfl, ?_⟩
    rw [List.take_length] at hI; exact hI
  · rcases Nat.lt_or_ge i n with h | h
    · rw [gt_eq (by simpa using h)]; simp
    · rw [gt_out (by simpa using h)]; decide
  · have : gt (List.replicate n 0) i = 0 := by
      rcases Nat.lt_or_ge i n with h | h
      · rw [gt_eq (by simpa using h)]; simp
      · rw [gt_out (by simpa using h)]; rfl
    rw [this]; simp [Ed]
  · obtain ⟨to, rfl, h4⟩ := h3
    refine ⟨to, ?_, h4⟩
    have e0 : ((0 : Nat) : Int) = 0 := rfl
    rw [e0] at h2
    simp only [graph_next, hmk, Option.bind_some, h2]

/-- all to which an edge leads from some -/
theorem over_spec {n : Nat} {l : List graph_Edge} {to : List Nat} (hN : Nx n l to) (hn : n ≤ 16) {s : Nat} (hs : ∀ i, s.testBit i = true → i < n) :
    ∃ o : Nat, graph_over (.mk (ints to)) (s : Int) = some (o : Int) ∧ o < 65536 ∧ ∀ j, o.testBit j = true ↔ ∃ i, s.testBit i = true ∧ Ed l i j := by
  have hs16 : s < 65536 := lt16 fun j hj => by
    cases h : s.testBit j with
    | false => rfl
    | true => have := hs j h; omega
  obtain ⟨r, hr, hrl⟩ := list_spec hs16
  have hbl := bits_len s
  refine forE (f := graph_over_L1 (.mk (ints to)) r) (fun i (o : Nat) => ((o : Int), (i : Int))) r.l.length (fun i o => o < 65536 ∧ ∀ j, o.testBit j = true ↔ ∃ k ∈ (bitsOf s).take i, Ed l k j) (fun b => ∃ o : Nat, b = (o : Int) ∧ o < 65536 ∧ ∀ j, o.testBit j = true ↔ ∃ k ∈ bitsOf s, Ed l k j) ?_ ?_ 0 0 (Nat.zero_le _) ⟨by decide, fun j => by simp⟩ (fun b h2 h3 => ?_)
  · intro i o hi hI
    refine .inl ?_
    have hi2 : i < (bitsOf s).length := by rw [hrl, ints_len] at hi; exact hi
    have hd : decide ((i : Int) < (r.l.length : Int)) = true := by rw [decide_eq_true_eq]; omega
    have hw : wr .i64 ((i : Int) + 1) = ((i + 1 : Nat) : Int) := by rw [wr_id (by omega) (by omega)]; omega
    have hm : gt (bitsOf s) i ∈ bitsOf s := by rw [gt_eq hi2]; exact List.getElem_mem _
    have hk := hs _ ((mem_bits hs16).1 hm)
    have hkl : gt (bitsOf s) i < (Sl.mk (ints to)).l.length := by simp only [Sl.l_mk]; rw [ints_len, hN.len]; exact hk
    refine ⟨o ||| gt to (gt (bitsOf s) i), ?_, or_lt hI.1 (hN.lt _), fun j => ?_⟩
    · have hg : gt r.l i = ((gt (bitsOf s) i : Nat) : Int) := by rw [hrl, ints_gt]
      have hkl' : gt (bitsOf s) i < (ints to).length := hkl
      simp only [graph_over_L1, hd, cond_true, ixI_of hi, Option.bind_some, hg, Sl.l_mk, ixI_of hkl', ints_gt, bOr16 hI.1 (hN.lt _), hw]
    · have et : (bitsOf s).take (i + 1) = (bitsOf s).take i ++ [gt (bitsOf s) i] := by rw [gt_eq hi2, List.take_append_getElem hi2]
      rw [Nat.testBit_or, Bool.or_eq_true, hI.2, hN.bit, et]
      constructor
      · rintro (⟨k, hk, h⟩ | h)
        · exact ⟨k, List.mem_append_left _ hk, h⟩
        · exact ⟨_, List.mem_append_right _ (List.mem_singleton.2 rfl), h⟩
      · rintro ⟨k, hk, h⟩
        rcases List.mem_append.1 hk with hk | hk
        · exact .inl ⟨k, hk, h⟩
        · rw [List.mem_singleton] at hk; subst hk; exact .inr h
  · intro o hI
    have hd : decide ((r.l.length : Int) < (r.l.length : Int)) = false := by rw [decide_eq_false_iff_not]; omega
    refine ⟨(o : Int), by simp only [graph_over_L1, hd, cond_false], o, rfl, hI.1, ?_⟩
    have : (bitsOf s).take r.l.length = bitsOf s := List.take_of_length_le (by rw [hrl, ints_len]; exact Nat.le_refl _)
    rw [this] at hI; exact hI.2
  · obtain ⟨o, rfl, ho, hb⟩ := h3
    refine ⟨o, ?_, ho, fun j => ?_⟩
    · have e0 : ((0 : Nat) : Int) = 0 := rfl
      rw [e0] at h2
      simp only [graph_over, hr, Option.bind_some, h2]
    · rw [hb]
      constructor
      · rintro ⟨k, hk, h⟩; exact ⟨k, (mem_bits hs16).1 hk, h⟩
      · rintro ⟨k, hk, h⟩; exact ⟨k, (mem_bits hs16).2 hk, h⟩
end Go.Proofs.YtjfhiochcdjkhaaDoor.G
