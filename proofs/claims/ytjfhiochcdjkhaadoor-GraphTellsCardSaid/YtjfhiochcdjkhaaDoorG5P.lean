/- Graphs: edges, and Loop. Conditions: as stated. -/
import Derived.Test.YtjfhiochcdjkhaaDoorG5O
open Go.Ev Go
namespace Go.Proofs.YtjfhiochcdjkhaaDoor.G

/-- a walk of so many edges to a goal -/
inductive Pth (l : List graph_Edge) (g : Nat) : Nat → Nat → Prop
  | zero : Pth l g 0 g
  | step {d i k : Nat} (e : Ed l i k) (h : Pth l g d k) : Pth l g (d + 1) i

/-- in how many edges one comes from each node to a goal; n: not in less -/
structure Dist (n : Nat) (l : List graph_Edge) (g : Nat) (f : List Nat) : Prop where
  len : f.length = n
  goal : gt f g = 0
  le : ∀ i, gt f i ≤ n
  is : ∀ i, i < n → gt f i < n → Pth l g (gt f i) i
  least : ∀ i d, Pth l g d i → gt f i ≤ d

theorem Pth.lt {n g d i : Nat} {l : List graph_Edge} (hF : Fits n l) (hg : g < n) (h : Pth l g d i) : i < n := by
  cases h with
  | zero => exact hg
  | step e _ => exact (hF.lt e).1

theorem edges_spec {n g : Nat} {l : List graph_Edge} {to : List Nat} (hF : Fits n l) (hN : Nx n l to) (hg : g < n) : ∃ f, graph_edges (.mk (ints to)) (g : Int) = some (.mk (ints f)) ∧ Dist n l g f := by
  have hn16 : n ≤ 16 := by have := hF.1; omega
  have htl : (Sl.mk (ints to)).l.length = n := by rw [Sl.l_mk, ints_len, hN.len]
  have hmk : mkI (0 : Int) (((Sl.mk (ints to)).l.length : Nat) : Int) (((Sl.mk (ints to)).l.length : Nat) : Int) = some (ints (List.replicate n 0)) := by
    rw [htl, mkI, if_pos (by omega)]; simp [ints]
  have e0 : ((0 : Nat) : Int) = 0 := rfl
  -- all begin at n
  have k1 : loopO (graph_edges_L1 (.mk (ints to)) (ints (List.replicate n 0))) (ints (List.replicate n 0), 0) = some (ints (List.replicate n n)) := by
    refine forE (f := graph_edges_L1 (.mk (ints to)) (ints (List.replicate n 0))) (fun i (f : List Nat) => (ints f, (i : Int))) n (fun i f => f.length = n ∧ ∀ j < i, gt f j = n) (fun b => b = ints (List.replicate n n)) ?_ ?_ 0 (List.replicate n 0) (Nat.zero_le _) ⟨by simp, fun j hj => by omega⟩ (fun b q1 q2 => ?_)
    · intro i f hi ⟨i1, i2⟩
      have hl : (ints (List.replicate n 0)).length = n := by rw [ints_len]; simp
      have hd : decide ((i : Int) < (((ints (List.replicate n 0)).length : Nat) : Int)) = true := by rw [hl, decide_eq_true_eq]; omega
      have hw : wr .i64 ((i : Int) + 1) = ((i + 1 : Nat) : Int) := by rw [wr_id (by omega) (by omega)]; omega
      have hil : i < (ints f).length := by rw [ints_len, i1]; exact hi
      refine .inl ⟨f.set i n, ?_, by rw [List.length_set]; exact i1, fun j hj => ?_⟩
      · simp only [graph_edges_L1, hd, cond_true, ixI_of hil, Option.bind_some, htl, ints_set, hw]
      · rw [gt_set (by omega)]
        split
        · rfl
        · exact i2 j (by omega)
    · intro f ⟨i1, i2⟩
      have hl : (ints (List.replicate n 0)).length = n := by rw [ints_len]; simp
      have hd : decide ((n : Int) < (((ints (List.replicate n 0)).length : Nat) : Int)) = false := by rw [hl, decide_eq_false_iff_not]; omega
      refine ⟨ints f, by simp only [graph_edges_L1, hd, cond_false], ?_⟩
      have : f = List.replicate n n := by
        refine List.ext_getElem (by simp [i1]) fun j h1 h2 => ?_
        rw [← gt_eq h1, i2 j (by omega)]; simp
      rw [this]
    · rw [e0] at q1; rw [q1, q2]
  -- what is always so
  let S (f : List Nat) : Prop := f.length = n ∧ gt f g = 0 ∧ (∀ i, gt f i ≤ n) ∧ ∀ i, i < n → gt f i < n → Pth l g (gt f i) i
  have hgn : g < (ints (List.replicate n n)).length := by rw [ints_len]; simpa using hg
  have hset0 : ((ints (List.replicate n n)).set g 0) = ints ((List.replicate n n).set g 0) := ints_set _ g 0
  have hrep : ∀ i, gt (List.replicate n n) i ≤ n := fun i => by
    rcases Nat.lt_or_ge i n with h | h
    · rw [gt_eq (by simpa using h)]; simp
    · rw [gt_out (by simpa using h)]; exact Nat.zero_le _
  have hS0 : S ((List.replicate n n).set g 0) := by
    have hgt : ∀ i, gt ((List.replicate n n).set g 0) i = if g = i then 0 else gt (List.replicate n n) i := fun i => gt_set (by simpa using hg)
    refine ⟨by simp, by rw [hgt, if_pos rfl], fun i => ?_, fun i hi h => ?_⟩
    · rw [hgt]; split
      · omega
      · exact hrep i
    · rw [hgt] at h ⊢
      split at h
      · rename_i e; subst e; rw [if_pos rfl]; exact .zero
      · rw [gt_eq (by simpa using hi)] at h; simp at h
  refine forE (f := graph_edges_L2 (.mk (ints to)) (g : Int)) (fun i (f : List Nat) => (ints f, (i : Int))) n (fun t f => S f ∧ ∀ i d, d ≤ t → Pth l g d i → gt f i ≤ d) (fun b => ∃ f, b = ints f ∧ S f ∧ ∀ i d, d ≤ n → Pth l g d i → gt f i ≤ d) ?_ ?_ 0 ((List.replicate n n).set g 0) (Nat.zero_le _) ⟨hS0, fun i d hd h => ?_⟩ (fun b q1 q2 => ?_)
  · intro t F ht ⟨hS, hC⟩
    have hd : decide ((t : Int) < (((Sl.mk (ints to)).l.length : Nat) : Int)) = true := by rw [htl, decide_eq_true_eq]; omega
    have hw : wr .i64 ((t : Int) + 1) = ((t + 1 : Nat) : Int) := by rw [wr_id (by omega) (by omega)]; omega
    -- a round
    refine forE (f := graph_edges_L3 (.mk (ints to)) (g : Int)) (fun i (f : List Nat) => (ints f, (i : Int))) n (fun i f => S f ∧ (∀ j, gt f j ≤ gt F j) ∧ ∀ i' < i, i' ≠ g → ∀ k, Ed l i' k → gt f i' ≤ gt F k + 1)
      (fun b => ∃ f, b = ints f ∧ S f ∧ (∀ j, gt f j ≤ gt F j) ∧ ∀ i' < n, i' ≠ g → ∀ k, Ed l i' k → gt f i' ≤ gt F k + 1) ?_ ?_ 0 F (Nat.zero_le _) ⟨hS, fun j => Nat.le_refl _, fun i' h => by omega⟩ (fun b r1 r2 => ?_)
    · intro i f hi ⟨j1, j2, j3⟩
      have hd : decide ((i : Int) < (((Sl.mk (ints to)).l.length : Nat) : Int)) = true := by rw [htl, decide_eq_true_eq]; omega
      have hw : wr .i64 ((i : Int) + 1) = ((i + 1 : Nat) : Int) := by rw [wr_id (by omega) (by omega)]; omega
      have hil : i < (Sl.mk (ints to)).l.length := by rw [htl]; exact hi
      have hgt : gt (Sl.mk (ints to)).l i = ((gt to i : Nat) : Int) := ints_gt to _
      obtain ⟨r, hr, hrl⟩ := list_spec (hN.lt i)
      have hbl := bits_len (gt to i)
      have hrlen : r.l.length = (bitsOf (gt to i)).length := by rw [hrl, ints_len]
      -- the edges of one node
      refine forE (f := graph_edges_L4 (g : Int) (i : Int) r) (fun s (h : List Nat) => (ints h, (s : Int))) r.l.length (fun s h => S h ∧ (∀ j, gt h j ≤ gt f j) ∧ (∀ j, j ≠ i → gt h j = gt f j) ∧ (i ≠ g → ∀ k ∈ (bitsOf (gt to i)).take s, gt h i ≤ gt F k + 1))
        (fun b => ∃ h, b = ints h ∧ S h ∧ (∀ j, gt h j ≤ gt f j) ∧ (∀ j, j ≠ i → gt h j = gt f j) ∧ (i ≠ g → ∀ k ∈ bitsOf (gt to i), gt h i ≤ gt F k + 1)) ?_ ?_ 0 f (Nat.zero_le _) ⟨j1, fun j => Nat.le_refl _, fun j _ => rfl, fun _ k hk => by simp at hk⟩ (fun b s1 s2 => ?_)
      · intro s h hs ⟨m1, m2, m3, m4⟩
        obtain ⟨a1, a2, a3, a4⟩ := m1
        have hs2 : s < (bitsOf (gt to i)).length := by rw [← hrlen]; exact hs
        have hd : decide ((s : Int) < (r.l.length : Int)) = true := by rw [decide_eq_true_eq]; omega
        have hw : wr .i64 ((s : Int) + 1) = ((s + 1 : Nat) : Int) := by rw [wr_id (by omega) (by omega)]; omega
        have et : (bitsOf (gt to i)).take (s + 1) = (bitsOf (gt to i)).take s ++ [gt (bitsOf (gt to i)) s] := by rw [gt_eq hs2, List.take_append_getElem hs2]
        by_cases hig : i = g
        · have e1 : ((i : Int) != (g : Int)) = false := by rw [hig]; simp
          exact .inl ⟨h, by simp only [graph_edges_L4, hd, cond_true, ixI_of hs, Option.bind_some, e1, cond_false, hw], ⟨a1, a2, a3, a4⟩, m2, m3, fun hne => absurd hig hne⟩
        · have e1 : ((i : Int) != (g : Int)) = true := by rw [bne_iff_ne]; omega
          generalize hk : gt (bitsOf (gt to i)) s = k at et
          have hgk : gt r.l s = (k : Int) := by rw [hrl, ints_gt, hk]
          have hkm : k ∈ bitsOf (gt to i) := by rw [← hk]; exact gt_mem hs2
          have hke : Ed l i k := (hN.bit _ _).1 ((mem_bits (hN.lt _)).1 hkm)
          have hkn := (hF.lt hke).2
          have hkl : k < (ints h).length := by rw [ints_len, a1]; exact hkn
          have hil : i < (ints h).length := by rw [ints_len, a1]; exact hi
          have hkle := a3 k
          have hile := a3 i
          have hw2 : wr .i64 (((gt h k : Nat) : Int) + 1) = ((gt h k + 1 : Nat) : Int) := by rw [wr_id (by omega) (by omega)]; omega
          have hmin : (if ((gt h k + 1 : Nat) : Int) < ((gt h i : Nat) : Int) then ((gt h k + 1 : Nat) : Int) else ((gt h i : Nat) : Int)) = ((min (gt h i) (gt h k + 1) : Nat) : Int) := by split <;> omega
          have hset : ∀ j, gt (h.set i (min (gt h i) (gt h k + 1))) j = if i = j then min (gt h i) (gt h k + 1) else gt h j := fun j => gt_set (by rw [← ints_len]; exact hil)
          refine .inl ⟨h.set i (min (gt h i) (gt h k + 1)), ?_, ⟨by rw [List.length_set]; exact a1, ?_, fun j => ?_, fun j hj hlt => ?_⟩, fun j => ?_, fun j hj => ?_, fun _ q hq => ?_⟩
          · simp only [graph_edges_L4, hd, cond_true, ixI_of hs, Option.bind_some, e1, hgk, ixI_of hil, ixI_of hkl, ints_gt, hw2, hmin, ints_set, hw]
          · rw [hset, if_neg hig]; exact a2
          · rw [hset]; have := a3 j; split <;> omega
          · rw [hset] at hlt ⊢
            split at hlt
            · rename_i e; subst e
              rw [if_pos rfl]
              by_cases hc : gt h i ≤ gt h k + 1
              · rw [Nat.min_eq_left hc] at hlt ⊢; exact a4 i hi hlt
              · rw [Nat.min_eq_right (by omega)]; exact .step hke (a4 k hkn (by omega))
            · rename_i e; rw [if_neg e]; exact a4 j hj hlt
          · rw [hset]; have := m2 j; split
            · rename_i e; subst e; omega
            · exact this
          · rw [hset, if_neg (fun e => hj e.symm)]; exact m3 j hj
          · rw [hset, if_pos rfl]
            rw [et] at hq
            rcases List.mem_append.1 hq with hq | hq
            · have := m4 hig q hq; omega
            · rw [List.mem_singleton] at hq; subst hq
              have := m2 q; have := j2 q; omega
      · intro h ⟨m1, m2, m3, m4⟩
        have hd : decide ((r.l.length : Int) < (r.l.length : Int)) = false := by rw [decide_eq_false_iff_not]; omega
        refine ⟨ints h, by simp only [graph_edges_L4, hd, cond_false], h, rfl, m1, m2, m3, ?_⟩
        rw [List.take_of_length_le (by omega)] at m4; exact m4
      · obtain ⟨h, rfl, m1, m2, m3, m4⟩ := s2
        rw [e0] at s1
        refine .inl ⟨h, by simp only [graph_edges_L3, hd, cond_true, ixI_of hil, Option.bind_some, hgt, hr, s1, hw], m1, fun j => Nat.le_trans (m2 j) (j2 j), fun i' hi' hne k he => ?_⟩
        by_cases hii : i' = i
        · subst hii
          exact m4 hne k ((mem_bits (hN.lt _)).2 ((hN.bit _ _).2 he))
        · rw [m3 i' hii]; exact j3 i' (by omega) hne k he
    · intro f ⟨j1, j2, j3⟩
      have hd : decide ((n : Int) < (((Sl.mk (ints to)).l.length : Nat) : Int)) = false := by rw [htl, decide_eq_false_iff_not]; omega
      exact ⟨ints f, by simp only [graph_edges_L3, hd, cond_false], f, rfl, j1, j2, j3⟩
    · obtain ⟨f, rfl, j1, j2, j3⟩ := r2
      rw [e0] at r1
      refine .inl ⟨f, by simp only [graph_edges_L2, hd, cond_true, r1, Option.bind_some, hw], j1, fun i d hdt h => ?_⟩
      cases h with
      | zero => rw [j1.2.1]; omega
      | @step d' _ k e h' =>
        by_cases hig : i = g
        · rw [hig, j1.2.1]; omega
        · have h1 := j3 i (hF.lt e).1 hig k e
          have h2 := hC k d' (by omega) h'
          omega
  · intro f ⟨j1, j2⟩
    have hd : decide ((n : Int) < (((Sl.mk (ints to)).l.length : Nat) : Int)) = false := by rw [htl, decide_eq_false_iff_not]; omega
    exact ⟨ints f, by simp only [graph_edges_L2, hd, cond_false], f, rfl, j1, j2⟩
  · obtain rfl : d = 0 := by omega
    cases h
    rw [hS0.2.1]; omega
  · obtain ⟨f, rfl, ⟨a1, a2, a3, a4⟩, hC⟩ := q2
    rw [e0] at q1
    refine ⟨f, by simp only [graph_edges, hmk, Option.bind_some, k1, ixI_of hgn, hset0, q1], a1, a2, a3, a4, fun i d h => ?_⟩
    rcases Nat.lt_or_ge n d with h1 | h1
    · have := a3 i; omega
    · exact hC i d h1 h
end Go.Proofs.YtjfhiochcdjkhaaDoor.G
