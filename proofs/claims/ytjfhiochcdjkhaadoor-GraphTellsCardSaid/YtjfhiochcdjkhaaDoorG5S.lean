/- Graphs: Loop. Conditions: as stated. -/
import Derived.Test.YtjfhiochcdjkhaaDoorG5Q
open Go.Ev Go
namespace Go.Proofs.YtjfhiochcdjkhaaDoor.G

theorem walk_spec {n g a : Nat} {l : List graph_Edge} {to f : List Nat} (hn16 : n ≤ 16) (hF : Fits n l) (hN : Nx n l to) (hD : Dist n l g f) (hg : g < n)
    (hga : Ed l g a) (haf : gt f a < n) (hle : ∀ k, Ed l g k → gt f a ≤ gt f k) (hlt : ∀ k, k < a → Ed l g k → gt f a < gt f k) :
    ∃ o, loopO (graph_Loop_L3 (.mk (ints to)) (g : Int) (.mk (ints f))) ((a : Int), [(g : Int)]) = some (ints o) ∧ Ring n l g f o := by
  let c := gt f a + 1
  -- a ring that is not closed yet
  let I (s : Int × List Int) : Prop := ∃ (b : Nat) (o : List Nat), s = ((b : Int), ints o) ∧ 0 < o.length ∧ gt f b + o.length = c ∧ gt o 0 = g ∧ b < n ∧
    (∀ p, p + 1 < o.length → Ed l (gt o p) (gt o (p + 1))) ∧ Ed l (gt o (o.length - 1)) b ∧ (∀ p, 0 < p → p < o.length → gt f (gt o p) + p = c) ∧
    (∀ p, p + 1 < o.length → ∀ k, k < gt o (p + 1) → Ed l (gt o p) k → gt f k + (p + 1) ≠ c) ∧ ∀ k, k < b → Ed l (gt o (o.length - 1)) k → gt f k + o.length ≠ c
  refine whileE (f := graph_Loop_L3 (.mk (ints to)) (g : Int) (.mk (ints f))) (fun s => gt f s.1.toNat) I (fun b => ∃ o, b = ints o ∧ Ring n l g f o) ?_ ((a : Int), [(g : Int)])
    ⟨a, [g], rfl, by simp, by simp [c], rfl, (hF.lt hga).2, fun p hp => by simp at hp, hga, fun p h1 h2 => by simp at h2; omega, fun p hp => by simp at hp, fun k hk he => ?_⟩ (fun b q1 q2 => ?_)
  · rintro _ ⟨b, o, rfl, o1, o2, o3, o4, o5, o6, o7, o8, o9⟩
    by_cases hbg : b = g
    · subst hbg
      have e1 : ((b : Int) != (b : Int)) = false := by simp
      have hz := hD.goal
      have hoc : o.length = c := by omega
      refine .inr ⟨ints o, by simp only [graph_Loop_L3, e1, cond_false], o, rfl, o1, by omega, o3, o5, o6, fun p h1 h2 => by rw [hoc]; exact o7 p h1 h2, fun k he => by have := hle k he; omega, fun p h1 k hk he => by rw [hoc]; exact o8 p h1 k hk he⟩
    · left
      have e1 : ((b : Int) != (g : Int)) = true := by rw [bne_iff_ne]; omega
      have hbf : gt f b < n := by omega
      obtain ⟨r, hr, k, hk, k1, k2, k3⟩ := near_spec hn16 hF hN hD o4 hbg hbf
      have hcap : capI (ints o ++ [(b : Int)]) = some (ints (o ++ [b])) := by rw [capI_of (by rw [List.length_append, ints_len, List.length_singleton]; omega)]; simp [ints]
      have hbl : b < (Sl.mk (ints to)).l.length := by rw [Sl.l_mk, ints_len, hN.len]; exact o4
      have hgt : gt (Sl.mk (ints to)).l b = ((gt to b : Nat) : Int) := ints_gt to b
      refine ⟨((k : Int), ints (o ++ [b])), by simp only [graph_Loop_L3, e1, cond_true, hcap, Option.bind_some, ixI_of hbl, hgt, hr, hk], ⟨k, o ++ [b], rfl, by simp, by simp; omega, by rw [gt_app_lt o1]; exact o3, (hF.lt k1).2, fun p hp => ?_, ?_, fun p h1 h2 => ?_, fun p hp q hq he => ?_, fun q hq he => ?_⟩, by simp only [Int.toNat_natCast]; omega⟩
      · rw [List.length_append, List.length_singleton] at hp
        rw [gt_app_lt (by omega)]
        by_cases h : p + 1 < o.length
        · rw [gt_app_lt h]; exact o5 p h
        · obtain rfl : p = o.length - 1 := by omega
          rw [show o.length - 1 + 1 = o.length by omega, gt_app_eq]; exact o6
      · rw [List.length_append, List.length_singleton, Nat.add_sub_cancel, gt_app_eq]; exact k1
      · rw [List.length_append, List.length_singleton] at h2
        by_cases h : p < o.length
        · rw [gt_app_lt h]; exact o7 p h1 h
        · obtain rfl : p = o.length := by omega
          rw [gt_app_eq]; exact o2
      · rw [List.length_append, List.length_singleton] at hp
        rw [gt_app_lt (show p < o.length by omega)] at he
        by_cases h : p + 1 < o.length
        · rw [gt_app_lt h] at hq; exact o8 p h q hq he
        · obtain rfl : p = o.length - 1 := by omega
          rw [show o.length - 1 + 1 = o.length by omega, gt_app_eq] at hq
          have := o9 q hq he
          omega
      · rw [List.length_append, List.length_singleton, Nat.add_sub_cancel, gt_app_eq] at he
        rw [List.length_append, List.length_singleton]
        have := k3 q hq he
        omega
  · have h1 : Ed l g k := he
    have := hlt k hk h1
    simp only [List.length_singleton, c]; omega
  · obtain ⟨o, rfl, h⟩ := q2
    exact ⟨o, q1, h⟩

/-- no ring leads through it -/
def Free (n : Nat) (l : List graph_Edge) (g : Nat) : Prop := ∀ k d, Ed l g k → Pth l g d k → n ≤ d

theorem loop_spec {n : Nat} {l : Sl graph_Edge} (hb : l.l.length < 1000000) (hF : Fits n l.l) :
    (∃ o g f, graph_Loop (n : Int) l = some (.mk (ints o)) ∧ g < n ∧ Dist n l.l g f ∧ Ring n l.l g f o ∧ ∀ g', g' < g → Free n l.l g') ∨ (graph_Loop (n : Int) l = some .nil ∧ ∀ g, g < n → Free n l.l g) := by
  have hn16 : n ≤ 16 := by have := hF.1; omega
  obtain ⟨to, h1, hN⟩ := next_spec hb hF
  have hr : graph_Right (n : Int) l = some true := by rw [right_spec hb, decide_eq_true hF]
  have e0 : ((0 : Nat) : Int) = 0 := rfl
  refine forE (f := graph_Loop_L1 (n : Int) (.mk (ints to))) (fun i (_ : Unit) => (i : Int)) n (fun i _ => ∀ g', g' < i → Free n l.l g')
    (fun b => match b with | .inl s => ∃ o g f, s = ints o ∧ g < n ∧ Dist n l.l g f ∧ Ring n l.l g f o ∧ ∀ g', g' < g → Free n l.l g' | .inr _ => ∀ g, g < n → Free n l.l g) ?_ ?_ 0 () (Nat.zero_le _) (fun g' h => by omega) (fun b q1 q2 => ?_)
  · intro g _ hg hI
    have hd : decide ((g : Int) < (n : Int)) = true := by rw [decide_eq_true_eq]; omega
    have hw : wr .i64 ((g : Int) + 1) = ((g + 1 : Nat) : Int) := by rw [wr_id (by omega) (by omega)]; omega
    obtain ⟨f, hf, hD⟩ := edges_spec hF hN hg
    have hgl : g < (Sl.mk (ints to)).l.length := by rw [Sl.l_mk, ints_len, hN.len]; exact hg
    have hgt : gt (Sl.mk (ints to)).l g = ((gt to g : Nat) : Int) := ints_gt to g
    obtain ⟨r, hr, ⟨h2, h3⟩ | ⟨a, h2, a1, a2, a3, a4⟩⟩ := least_spec hn16 hF hN hD g
    · refine .inl ⟨(), ?_, fun g' hg' => ?_⟩
      · have hm : decide ((-1 : Int) < 0) = true := rfl
        simp only [graph_Loop_L1, hd, cond_true, hf, Option.bind_some, ixI_of hgl, hgt, hr, h2, hm, hw]
      · rcases Nat.lt_succ_iff_lt_or_eq.1 hg' with h | rfl
        · exact hI g' h
        · intro k d he hp
          exact Nat.le_trans (h3 k he) (hD.least k d hp)
    · obtain ⟨o, ho, hR⟩ := walk_spec hn16 hF hN hD hg a1 a2 a3 a4
      have hm : decide ((a : Int) < 0) = false := by rw [decide_eq_false_iff_not]; omega
      exact .inr ⟨.inl (ints o), by simp only [graph_Loop_L1, hd, cond_true, hf, Option.bind_some, ixI_of hgl, hgt, hr, h2, hm, cond_false, ho], o, g, f, rfl, hg, hD, hR, hI⟩
  · intro _ hI
    have hd : decide ((n : Int) < (n : Int)) = false := by rw [decide_eq_false_iff_not]; omega
    exact ⟨.inr (), by simp only [graph_Loop_L1, hd, cond_false], hI⟩
  · rw [e0] at q1
    cases b with
    | inl s =>
      obtain ⟨o, g, f, rfl, h⟩ := q2
      exact .inl ⟨o, g, f, by simp only [graph_Loop, hr, Option.bind_some, Bool.not_true, cond_false, h1, q1], h⟩
    | inr _ => exact .inr ⟨by simp only [graph_Loop, hr, Option.bind_some, Bool.not_true, cond_false, h1, q1], q2⟩

/-! ### a stuck set has a ring, an order has none -/

theorem stuck_ring {n x : Nat} {l : List graph_Edge} {o : List Nat} (hP : Part n l x o) (hS : Stuck l x) : ∃ g, g < n ∧ ¬ Free n l g := by
  obtain ⟨j0, hj0⟩ : ∃ j, x.testBit j = true := by
    obtain ⟨k, m, h⟩ := low_form x hS.ne
    exact ⟨k, by rw [form_low h]; simp⟩
  let nx (j : {j : Nat // x.testBit j = true}) : {j : Nat // x.testBit j = true} := ⟨Classical.choose (hS.pre j.1 j.2), (Classical.choose_spec (hS.pre j.1 j.2)).1⟩
  have hnx : ∀ j, Ed l (nx j).1 j.1 := fun j => (Classical.choose_spec (hS.pre j.1 j.2)).2
  let h : Nat → {j : Nat // x.testBit j = true} := fun t => Nat.rec ⟨j0, hj0⟩ (fun _ j => nx j) t
  have hs : ∀ t, Ed l (h (t + 1)).1 (h t).1 := fun t => hnx (h t)
  have hlt : ∀ t, (h t).1 < n := fun t => (hP.all _).1 (.inl (h t).2)
  have hpig : ¬ ((List.range (n + 1)).map fun t => (h t).1).Nodup := by
    intro hnd
    have hsub : ((List.range (n + 1)).map fun t => (h t).1) ⊆ List.range n := by
      intro y hy
      obtain ⟨t, _, rfl⟩ := List.mem_map.1 hy
      exact List.mem_range.2 (hlt t)
    have := hnd.length_le_of_subset hsub
    simp at this
    omega
  obtain ⟨i, j, hij, hjn, he⟩ : ∃ i j, i < j ∧ j ≤ n ∧ (h i).1 = (h j).1 := by
    apply Classical.byContradiction
    intro hno
    apply hpig
    rw [List.Nodup, List.pairwise_iff_getElem]
    intro i j hi hj hij e
    simp only [List.getElem_map, List.getElem_range] at e
    simp only [List.length_map, List.length_range] at hj
    exact hno ⟨i, j, hij, by omega, e⟩
  have hw : ∀ d, Pth l (h i).1 d (h (i + d)).1 := by
    intro d
    induction d with
    | zero => exact .zero
    | succ d ih => exact .step (hs (i + d)) ih
  refine ⟨(h i).1, hlt i, fun hfree => ?_⟩
  have h1 := hs (j - 1)
  rw [show j - 1 + 1 = j by omega, ← he] at h1
  have h2 := hw (j - 1 - i)
  rw [show i + (j - 1 - i) = j - 1 by omega] at h2
  have := hfree _ _ h1 h2
  omega

theorem ring_up {n g : Nat} {l : List graph_Edge} {f o F : List Nat} (hR : Ring n l g f o) (hU : ∀ i j, Ed l i j → gt F i < gt F j) : False := by
  have h : ∀ p, p < o.length → gt F g ≤ gt F (gt o p) := by
    intro p
    induction p with
    | zero => intro _; rw [hR.hd]; exact Nat.le_refl _
    | succ p ih =>
      intro hp
      exact Nat.le_trans (ih (by omega)) (Nat.le_of_lt (hU _ _ (hR.edge p hp)))
  have h1 := h (o.length - 1) (by have := hR.pos; omega)
  have h2 := hU _ _ hR.back
  omega
end Go.Proofs.YtjfhiochcdjkhaaDoor.G
