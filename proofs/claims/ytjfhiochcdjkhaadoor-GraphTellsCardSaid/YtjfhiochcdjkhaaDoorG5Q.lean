/- Graphs: Loop. Conditions: as stated. -/
import Derived.Test.YtjfhiochcdjkhaaDoorG5P
open Go.Ev Go
namespace Go.Proofs.YtjfhiochcdjkhaaDoor.G

/-- a ring, as Loop tells it -/
structure Ring (n : Nat) (l : List graph_Edge) (g : Nat) (f o : List Nat) : Prop where
  pos : 0 < o.length
  le : o.length ≤ n
  hd : gt o 0 = g
  edge : ∀ p, p + 1 < o.length → Ed l (gt o p) (gt o (p + 1))
  back : Ed l (gt o (o.length - 1)) g
  far : ∀ p, 0 < p → p < o.length → gt f (gt o p) + p = o.length
  first : ∀ k, Ed l g k → o.length ≤ gt f k + 1
  least : ∀ p, p + 1 < o.length → ∀ k, k < gt o (p + 1) → Ed l (gt o p) k → gt f k + (p + 1) ≠ o.length

/-- where it goes on: the least of the nearest -/
theorem least_spec {n g : Nat} {l : List graph_Edge} {to f : List Nat} (hn16 : n ≤ 16) (hF : Fits n l) (hN : Nx n l to) (hD : Dist n l g f) (i : Nat) :
    ∃ r, graph_list ((gt to i : Nat) : Int) = some r ∧ ((loopO (graph_Loop_L2 (.mk (ints f)) r) ((-1), (n : Int), 0) = some (-1) ∧ ∀ k, Ed l i k → n ≤ gt f k) ∨
      ∃ a : Nat, loopO (graph_Loop_L2 (.mk (ints f)) r) ((-1), (n : Int), 0) = some (a : Int) ∧ Ed l i a ∧ gt f a < n ∧ (∀ k, Ed l i k → gt f a ≤ gt f k) ∧ ∀ k, k < a → Ed l i k → gt f a < gt f k) := by
  obtain ⟨r, hr, hrl⟩ := list_spec (hN.lt i)
  have hbl := bits_len (gt to i)
  have hrlen : r.l.length = (bitsOf (gt to i)).length := by rw [hrl, ints_len]
  have hmem : ∀ k, k ∈ bitsOf (gt to i) ↔ Ed l i k := fun k => (mem_bits (hN.lt _)).trans (hN.bit _ _)
  have e0 : ((0 : Nat) : Int) = 0 := rfl
  refine ⟨r, hr, ?_⟩
  let I (t : Nat) (x : Int × Int) : Prop := (x = (-1, (n : Int)) ∧ ∀ k ∈ (bitsOf (gt to i)).take t, n ≤ gt f k) ∨
    ∃ a : Nat, x = ((a : Int), ((gt f a : Nat) : Int)) ∧ a ∈ (bitsOf (gt to i)).take t ∧ gt f a < n ∧ (∀ k ∈ (bitsOf (gt to i)).take t, gt f a ≤ gt f k) ∧ ∀ k ∈ (bitsOf (gt to i)).take t, k < a → gt f a < gt f k
  refine forE (f := graph_Loop_L2 (.mk (ints f)) r) (fun t (x : Int × Int) => (x.1, x.2, (t : Int))) r.l.length I (fun b => ∃ y, I r.l.length (b, y)) ?_ ?_ 0 (-1, (n : Int)) (Nat.zero_le _) (.inl ⟨rfl, by simp⟩) (fun b q1 q2 => ?_)
  · rintro t ⟨x, y⟩ ht hI
    have ht2 : t < (bitsOf (gt to i)).length := by rw [← hrlen]; exact ht
    have hd : decide ((t : Int) < (r.l.length : Int)) = true := by rw [decide_eq_true_eq]; omega
    have hw : wr .i64 ((t : Int) + 1) = ((t + 1 : Nat) : Int) := by rw [wr_id (by omega) (by omega)]; omega
    have et : (bitsOf (gt to i)).take (t + 1) = (bitsOf (gt to i)).take t ++ [gt (bitsOf (gt to i)) t] := by rw [gt_eq ht2, List.take_append_getElem ht2]
    have hup : ∀ k ∈ (bitsOf (gt to i)).take t, k < gt (bitsOf (gt to i)) t := by
      intro k hk
      obtain ⟨q, hq, rfl⟩ := List.getElem_of_mem hk
      rw [List.length_take] at hq
      rw [List.getElem_take, gt_eq ht2]
      exact List.pairwise_iff_getElem.1 (bits_sorted _) q t (by omega) ht2 (by omega)
    have hkm := gt_mem ht2
    generalize hk : gt (bitsOf (gt to i)) t = k at et hup hkm
    have hgk : gt r.l t = (k : Int) := by rw [hrl, ints_gt, hk]
    have hkn := (hF.lt ((hmem k).1 hkm)).2
    have hkl : k < (Sl.mk (ints f)).l.length := by rw [Sl.l_mk, ints_len, hD.len]; exact hkn
    have hgf : gt (Sl.mk (ints f)).l k = ((gt f k : Nat) : Int) := ints_gt f k
    by_cases hlt : ((gt f k : Nat) : Int) < y
    · have hdl : decide (((gt f k : Nat) : Int) < y) = true := by rw [decide_eq_true_eq]; exact hlt
      refine .inl ⟨((k : Int), ((gt f k : Nat) : Int)), by simp only [graph_Loop_L2, hd, cond_true, ixI_of ht, Option.bind_some, hgk, ixI_of hkl, hgf, hdl, hw], .inr ⟨k, rfl, ?_, ?_, fun q hq => ?_, fun q hq hqk => ?_⟩⟩
      · rw [et]; exact List.mem_append_right _ (List.mem_singleton.2 rfl)
      · rcases hI with ⟨e, h1⟩ | ⟨a, e, h1, h2, h3, h4⟩
        · have := (Prod.mk.inj e).2; omega
        · have := (Prod.mk.inj e).2; omega
      · rw [et] at hq
        rcases List.mem_append.1 hq with hq | hq
        · rcases hI with ⟨e, h1⟩ | ⟨a, e, h1, h2, h3, h4⟩
          · have := (Prod.mk.inj e).2; have := h1 q hq; omega
          · have := (Prod.mk.inj e).2; have := h3 q hq; omega
        · rw [List.mem_singleton] at hq; subst hq; exact Nat.le_refl _
      · rw [et] at hq
        rcases List.mem_append.1 hq with hq | hq
        · rcases hI with ⟨e, h1⟩ | ⟨a, e, h1, h2, h3, h4⟩
          · have := (Prod.mk.inj e).2; have := h1 q hq; omega
          · have := (Prod.mk.inj e).2; have := h3 q hq; omega
        · rw [List.mem_singleton] at hq; omega
    · have hdl : decide (((gt f k : Nat) : Int) < y) = false := by rw [decide_eq_false_iff_not]; exact hlt
      refine .inl ⟨(x, y), by simp only [graph_Loop_L2, hd, cond_true, ixI_of ht, Option.bind_some, hgk, ixI_of hkl, hgf, hdl, cond_false, hw], ?_⟩
      rcases hI with ⟨e, h1⟩ | ⟨a, e, h1, h2, h3, h4⟩
      · refine .inl ⟨e, fun q hq => ?_⟩
        rw [et] at hq
        rcases List.mem_append.1 hq with hq | hq
        · exact h1 q hq
        · rw [List.mem_singleton] at hq; subst hq; have := (Prod.mk.inj e).2; omega
      · refine .inr ⟨a, e, by rw [et]; exact List.mem_append_left _ h1, h2, fun q hq => ?_, fun q hq hqa => ?_⟩
        · rw [et] at hq
          rcases List.mem_append.1 hq with hq | hq
          · exact h3 q hq
          · rw [List.mem_singleton] at hq; subst hq; have := (Prod.mk.inj e).2; omega
        · rw [et] at hq
          rcases List.mem_append.1 hq with hq | hq
          · exact h4 q hq hqa
          · rw [List.mem_singleton] at hq; subst hq; have := hup a h1; omega
  · rintro ⟨x, y⟩ hI
    have hd : decide ((r.l.length : Int) < (r.l.length : Int)) = false := by rw [decide_eq_false_iff_not]; omega
    exact ⟨x, by simp only [graph_Loop_L2, hd, cond_false], y, hI⟩
  · rw [e0] at q1
    obtain ⟨y, hI⟩ := q2
    have htk : (bitsOf (gt to i)).take r.l.length = bitsOf (gt to i) := List.take_of_length_le (by omega)
    rcases hI with ⟨e, h1⟩ | ⟨a, e, h1, h2, h3, h4⟩
    · rw [htk] at h1
      have := (Prod.mk.inj e).1
      subst this
      exact .inl ⟨q1, fun k hk => h1 k ((hmem k).2 hk)⟩
    · rw [htk] at h1 h3 h4
      have := (Prod.mk.inj e).1
      subst this
      exact .inr ⟨a, q1, (hmem a).1 h1, h2, fun k hk => h3 k ((hmem k).2 hk), fun k hka hk => h4 k ((hmem k).2 hk) hka⟩

/-- the next one nearer -/
theorem near_spec {n g a : Nat} {l : List graph_Edge} {to f : List Nat} (hn16 : n ≤ 16) (hF : Fits n l) (hN : Nx n l to) (hD : Dist n l g f) (ha : a < n) (hag : a ≠ g) (haf : gt f a < n) :
    ∃ r, graph_list ((gt to a : Nat) : Int) = some r ∧ ∃ k : Nat, loopO (graph_Loop_L4 (.mk (ints f)) (a : Int) r) 0 = some (k : Int) ∧ Ed l a k ∧ gt f k + 1 = gt f a ∧ ∀ j, j < k → Ed l a j → gt f j + 1 ≠ gt f a := by
  obtain ⟨r, hr, hrl⟩ := list_spec (hN.lt a)
  have hbl := bits_len (gt to a)
  have hrlen : r.l.length = (bitsOf (gt to a)).length := by rw [hrl, ints_len]
  have hmem : ∀ k, k ∈ bitsOf (gt to a) ↔ Ed l a k := fun k => (mem_bits (hN.lt _)).trans (hN.bit _ _)
  have e0 : ((0 : Nat) : Int) = 0 := rfl
  -- there is one
  obtain ⟨z, hz, hzf⟩ : ∃ z, Ed l a z ∧ gt f z + 1 = gt f a := by
    have h := hD.is a ha haf
    generalize hd : gt f a = d at h
    cases h with
    | zero => exact absurd rfl hag
    | @step d' _ k e h' =>
      have h1 := hD.least k d' h'
      have h2 := hD.least a (gt f k + 1) (.step e (hD.is k (hF.lt e).2 (by omega)))
      exact ⟨k, e, by omega⟩
  refine ⟨r, hr, ?_⟩
  refine forE (f := graph_Loop_L4 (.mk (ints f)) (a : Int) r) (fun t (_ : Unit) => (t : Int)) r.l.length (fun t _ => ∀ k ∈ (bitsOf (gt to a)).take t, gt f k + 1 ≠ gt f a)
    (fun b => ∃ k : Nat, b = (k : Int) ∧ Ed l a k ∧ gt f k + 1 = gt f a ∧ ∀ j, j < k → Ed l a j → gt f j + 1 ≠ gt f a) ?_ ?_ 0 () (Nat.zero_le _) (by simp) (fun b q1 q2 => ?_)
  · intro t _ ht hI
    have ht2 : t < (bitsOf (gt to a)).length := by rw [← hrlen]; exact ht
    have hd : decide ((t : Int) < (r.l.length : Int)) = true := by rw [decide_eq_true_eq]; omega
    have hw : wr .i64 ((t : Int) + 1) = ((t + 1 : Nat) : Int) := by rw [wr_id (by omega) (by omega)]; omega
    have et : (bitsOf (gt to a)).take (t + 1) = (bitsOf (gt to a)).take t ++ [gt (bitsOf (gt to a)) t] := by rw [gt_eq ht2, List.take_append_getElem ht2]
    have hkm := gt_mem ht2
    have hless : ∀ j, j < gt (bitsOf (gt to a)) t → j ∈ bitsOf (gt to a) → j ∈ (bitsOf (gt to a)).take t := by
      intro j hj hm
      obtain ⟨q, hq, rfl⟩ := List.getElem_of_mem hm
      have hqt : q < t := by
        rcases Nat.lt_or_ge q t with h | h
        · exact h
        · rw [gt_eq ht2] at hj
          rcases Nat.lt_or_ge t q with h2 | h2
          · have := List.pairwise_iff_getElem.1 (bits_sorted (gt to a)) t q ht2 hq h2
            omega
          · obtain rfl : q = t := by omega
            omega
      exact List.mem_take_iff_getElem.2 ⟨q, by omega, rfl⟩
    generalize hk : gt (bitsOf (gt to a)) t = k at et hkm hless
    have hgk : gt r.l t = (k : Int) := by rw [hrl, ints_gt, hk]
    have hkn := (hF.lt ((hmem k).1 hkm)).2
    have hkl : k < (Sl.mk (ints f)).l.length := by rw [Sl.l_mk, ints_len, hD.len]; exact hkn
    have hal : a < (Sl.mk (ints f)).l.length := by rw [Sl.l_mk, ints_len, hD.len]; exact ha
    have hgf : ∀ k, gt (Sl.mk (ints f)).l k = ((gt f k : Nat) : Int) := fun k => ints_gt f k
    have hw2 : wr .i64 (((gt f a : Nat) : Int) - 1) = ((gt f a : Nat) : Int) - 1 := by rw [wr_id (by omega) (by omega)]
    by_cases he : gt f k + 1 = gt f a
    · have hb : (((gt f k : Nat) : Int) == ((gt f a : Nat) : Int) - 1) = true := by rw [beq_iff_eq]; omega
      refine .inr ⟨(k : Int), by simp only [graph_Loop_L4, hd, cond_true, ixI_of ht, Option.bind_some, hgk, ixI_of hkl, ixI_of hal, hgf, hw2, hb], k, rfl, (hmem k).1 hkm, he, fun j hj hje => hI j (hless j hj ((hmem j).2 hje))⟩
    · have hb : (((gt f k : Nat) : Int) == ((gt f a : Nat) : Int) - 1) = false := by rw [beq_eq_false_iff_ne]; omega
      refine .inl ⟨(), by simp only [graph_Loop_L4, hd, cond_true, ixI_of ht, Option.bind_some, hgk, ixI_of hkl, ixI_of hal, hgf, hw2, hb, cond_false, hw], fun q hq => ?_⟩
      rw [et] at hq
      rcases List.mem_append.1 hq with hq | hq
      · exact hI q hq
      · rw [List.mem_singleton] at hq; subst hq; exact he
  · intro _ hI
    rw [List.take_of_length_le (by omega)] at hI
    exact absurd hzf (hI z ((hmem z).2 hz))
  · rw [e0] at q1
    obtain ⟨k, rfl, h⟩ := q2
    exact ⟨k, q1, h⟩
end Go.Proofs.YtjfhiochcdjkhaaDoor.G
