/- The law GraphOrder: there is an order just if there is no ring; an order leads on, and further; a ring is one. Conditions: none. -/
import Derived.Test.YtkhmijgbbbpddaaDoorG3S
import Derived.Test.YtkhmijgbbbpddaaDoorG3t
open Go.Ev Go
namespace Go.Proofs.YtkhmijgbbbpddaaDoor.G

theorem joined_spec (l : Sl ref20_Edge) (a b : Int) (hb : l.l.length < 1000000) (he : ∃ e ∈ l.l, e.From = a ∧ e.To = b) : law20_joined l a b = some true := by
  have e0 : ((0 : Nat) : Int) = 0 := rfl
  refine forE (f := law20_joined_L1 l a b) (fun i (_ : Unit) => (i : Int)) l.l.length (fun i _ => ∀ j < i, ¬ ((gt l.l j).From = a ∧ (gt l.l j).To = b)) (fun r => r = .inl ()) ?_ ?_ 0 () (Nat.zero_le _) (fun j hj => by omega) (fun r q1 q2 => ?_)
  · intro i _ hi hI
    have hd : decide ((i : Int) < (l.l.length : Int)) = true := by rw [decide_eq_true_eq]; omega
    have hw : wr .i64 ((i : Int) + 1) = ((i + 1 : Nat) : Int) := by rw [wr_id (by omega) (by omega)]; omega
    by_cases h : (gt l.l i).From = a ∧ (gt l.l i).To = b
    · have hc : ((((gt l.l i).From) == a) && (((gt l.l i).To) == b)) = true := by simpa using h
      exact .inr ⟨.inl (), by simp only [law20_joined_L1, hd, cond_true, ixI_of hi, Option.bind_some, hc], rfl⟩
    · have hc : ((((gt l.l i).From) == a) && (((gt l.l i).To) == b)) = false := by
        rw [Bool.and_eq_false_iff, beq_eq_false_iff_ne, beq_eq_false_iff_ne]
        by_cases h1 : (gt l.l i).From = a
        · exact .inr fun h2 => h ⟨h1, h2⟩
        · exact .inl h1
      refine .inl ⟨(), by simp only [law20_joined_L1, hd, cond_true, ixI_of hi, Option.bind_some, hc, cond_false, hw], fun j hj => ?_⟩
      rcases Nat.lt_succ_iff_lt_or_eq.1 hj with h2 | rfl
      · exact hI j h2
      · exact h
  · intro _ hI
    obtain ⟨e, hm, h⟩ := he
    obtain ⟨j, hj, rfl⟩ := List.getElem_of_mem hm
    exact absurd (by rw [gt_eq hj]; exact h) (hI j hj)
  · rw [e0] at q1
    subst q2
    simp only [law20_joined, q1, Option.bind_some]

theorem Ed.conv {l : List ref20_Edge} {i j : Nat} (h : Ed (l.map conv) i j) : ∃ e ∈ l, e.From = (i : Int) ∧ e.To = (j : Int) := by
  obtain ⟨e, he, h1, h2⟩ := h
  obtain ⟨e', he', rfl⟩ := List.mem_map.1 he
  exact ⟨e', he', h1, h2⟩

theorem Place.uniq {l : List Int} {x p : Int} {i : Nat} (h : Place l x p) (hi : i < l.length) (hx : gt l i = x) (hu : ∀ j, j < l.length → gt l j = x → j = i) : p = i := by
  rcases h with ⟨_, h⟩ | ⟨k, rfl, h1, h2, _⟩
  · exact absurd (by rw [← hx, gt_eq hi]; exact List.getElem_mem _) h
  · rw [hu k h1 h2]

theorem ring_uniq {n g : Nat} {l : List graph_Edge} {f o : List Nat} (hD : Dist n l g f) (hR : Ring n l g f o) {i j : Nat} (hi : i < o.length) (hj : j < o.length) (e : gt o i = gt o j) : i = j := by
  have h : ∀ p, p < o.length → (p = 0 → gt f (gt o p) = 0) ∧ (0 < p → gt f (gt o p) + p = o.length) := fun p hp =>
    ⟨fun h => by subst h; rw [hR.hd]; exact hD.goal, fun h => hR.far p h hp⟩
  have h1 := h i hi
  have h2 := h j hj
  rw [e] at h1
  rcases Nat.eq_zero_or_pos i with hi0 | hi0
  · rcases Nat.eq_zero_or_pos j with hj0 | hj0
    · omega
    · have := h1.1 hi0; have := h2.2 hj0; omega
  · rcases Nat.eq_zero_or_pos j with hj0 | hj0
    · have := h1.2 hi0; have := h2.1 hj0; omega
    · have := h1.2 hi0; have := h2.2 hj0; omega

theorem order (n : Int) (l : Sl ref20_Edge) : law20_GraphOrder n l = some true := by
  have aw := law20_awake_runs
  have e0 : ((0 : Nat) : Int) = 0 := rfl
  unfold law20_GraphOrder
  by_cases hl : l.l.length ≤ 60
  rotate_left
  · have hd : decide ((l.l.length : Int) > 60) = true := by rw [decide_eq_true_eq]; omega
    simp only [hd, cond_true, Option.bind_some, aw]
  have hd : decide ((l.l.length : Int) > 60) = false := by rw [decide_eq_false_iff_not]; omega
  have hr := rright_spec (n := n) (l := l) (by omega)
  by_cases hF : Fits n (l.l.map conv)
  rotate_left
  · simp only [hd, cond_false, hr, hF, decide_false, Option.bind_some, Bool.not_false, cond_true, aw]
  obtain ⟨m, hm, hml⟩ := mine_spec l hl
  have hmlen : m.l.length ≤ 60 := by rw [hml, List.length_map]; exact hl
  have hn0 : (0 ≤ n ∧ n ≤ 16) := hF.1
  obtain ⟨N, rfl⟩ : ∃ N : Nat, n = (N : Int) := ⟨n.toNat, by omega⟩
  have hFm : Fits N m.l := by rw [hml]; exact hF
  simp only [hd, cond_false, hr, hF, decide_true, Option.bind_some, Bool.not_true, hm]
  rcases order_spec (by omega) hFm with ⟨s, o, hO, hs, hP⟩ | ⟨hO, x, o, hP, hS⟩
  · obtain ⟨F, hFar, hFl, hU⟩ := far_spec (by omega) hFm hO hs hP
    rcases loop_spec (by omega) hFm with ⟨o', g, f, hL, hg, hD, hR, _⟩ | ⟨hL, _⟩
    · exact (ring_up hR hU).elim
    have hz : (((Sl.nil : Sl Int).l.length : Int) == 0) = true := rfl
    simp only [hO, hFar, hL, Option.bind_some, hz, beq_self_eq_true, Bool.not_true, Bool.or_self, cond_false]
    have hol : o.length = N := by
      refine Nat.le_antisymm hP.len ?_
      have hsub : List.range N ⊆ o := fun j hj => by
        rcases (hP.all j).2 (List.mem_range.1 hj) with h | h
        · simp at h
        · exact h
      have := List.nodup_range.length_le_of_subset hsub
      simpa using this
    have hsl : s.l.length = N := by rw [hs, ints_len, hol]
    have hall : ∀ j, j < N → (j : Int) ∈ s.l := fun j hj => by
      rw [hs]
      rcases (hP.all j).2 hj with h | h
      · simp at h
      · exact ints_mem.2 ⟨j, h, rfl⟩
    have k2 : loopO (law20_GraphOrder_L2 (N : Int) s) 0 = some (.inr ()) := by
      refine forE (f := law20_GraphOrder_L2 (N : Int) s) (fun i (_ : Unit) => (i : Int)) N (fun _ _ => True) (fun b => b = .inr ()) ?_ ?_ 0 () (Nat.zero_le _) trivial (fun b q1 q2 => ?_)
      · intro i _ hi _
        have hd : decide ((i : Int) < (N : Int)) = true := by rw [decide_eq_true_eq]; omega
        have hw : wr .i64 ((i : Int) + 1) = ((i + 1 : Nat) : Int) := by rw [wr_id (by omega) (by omega)]; omega
        obtain ⟨p, hp, hpl⟩ := place_spec s (i : Int) (by omega)
        have hp0 : decide (p < 0) = false := by rw [decide_eq_false_iff_not, hpl.neg]; exact fun h => h (hall i hi)
        exact .inl ⟨(), by simp only [law20_GraphOrder_L2, hd, cond_true, hp, Option.bind_some, hp0, cond_false, hw], trivial⟩
      · intro _ _
        have hd : decide ((N : Int) < (N : Int)) = false := by rw [decide_eq_false_iff_not]; omega
        exact ⟨_, by simp only [law20_GraphOrder_L2, hd, cond_false], rfl⟩
      · subst q2; exact q1
    have hlen : (((s.l.length : Int) != (N : Int)) || ((((Sl.mk (ints F)).l.length : Nat) : Int) != (N : Int))) = false := by
      rw [hsl, Sl.l_mk, ints_len, hFl]; simp
    have hpos : ∀ j (p : Int), j < N → Place s.l (j : Int) p → ∃ q : Nat, p = q ∧ q < o.length ∧ gt o q = j := by
      intro j p hj hp
      rcases hp with ⟨_, h⟩ | ⟨k, rfl, h1, h2, _⟩
      · exact absurd (hall j hj) h
      · rw [hs, ints_gt] at h2
        exact ⟨k, rfl, by omega, by omega⟩
    have k3 : loopO (law20_GraphOrder_L3 l s (.mk (ints F))) 0 = some (.inr ()) := by
      refine forE (f := law20_GraphOrder_L3 l s (.mk (ints F))) (fun i (_ : Unit) => (i : Int)) l.l.length (fun _ _ => True) (fun b => b = .inr ()) ?_ ?_ 0 () (Nat.zero_le _) trivial (fun b q1 q2 => ?_)
      · intro i _ hi _
        have hd : decide ((i : Int) < (l.l.length : Int)) = true := by rw [decide_eq_true_eq]; omega
        have hw : wr .i64 ((i : Int) + 1) = ((i + 1 : Nat) : Int) := by rw [wr_id (by omega) (by omega)]; omega
        have hin : conv (gt l.l i) ∈ m.l := by rw [hml, gt_eq hi]; exact List.mem_map_of_mem (List.getElem_mem _)
        have hfit := hFm.2 _ hin
        have hfit' : (0 ≤ (gt l.l i).From ∧ (gt l.l i).From < N) ∧ (0 ≤ (gt l.l i).To ∧ (gt l.l i).To < N) := hfit
        obtain ⟨a, ha⟩ : ∃ a : Nat, (gt l.l i).From = (a : Int) := ⟨(gt l.l i).From.toNat, by omega⟩
        obtain ⟨b, hb⟩ : ∃ b : Nat, (gt l.l i).To = (b : Int) := ⟨(gt l.l i).To.toNat, by omega⟩
        have hE : Ed m.l a b := ⟨_, hin, ha, hb⟩
        obtain ⟨p, hp, hpl⟩ := place_spec s (a : Int) (by omega)
        obtain ⟨q, hq, hql⟩ := place_spec s (b : Int) (by omega)
        obtain ⟨P, rfl, hP1, hP2⟩ := hpos a p (by omega) hpl
        obtain ⟨Q, rfl, hQ1, hQ2⟩ := hpos b q (by omega) hql
        obtain ⟨R, hR1, hR2⟩ := hP.topo Q hQ1 a (by rw [hQ2]; exact hE)
        have hPR : R = P := (List.getElem_inj (i := R) (j := P) (h₀ := by omega) (h₁ := hP1) hP.nd).1 (by rw [← gt_eq (show R < o.length by omega), ← gt_eq hP1, hR2, hP2])
        have hc : decide ((P : Int) ≥ (Q : Int)) = false := by rw [decide_eq_false_iff_not]; omega
        have hbl : b < (Sl.mk (ints F)).l.length := by rw [Sl.l_mk, ints_len, hFl]; omega
        have hal : a < (Sl.mk (ints F)).l.length := by rw [Sl.l_mk, ints_len, hFl]; omega
        have hgF : ∀ k, gt (Sl.mk (ints F)).l k = ((gt F k : Nat) : Int) := fun k => ints_gt F k
        have hUab := hU a b hE
        have hf : decide (((gt F b : Nat) : Int) ≤ ((gt F a : Nat) : Int)) = false := by rw [decide_eq_false_iff_not]; omega
        exact .inl ⟨(), by simp only [law20_GraphOrder_L3, hd, cond_true, ixI_of hi, Option.bind_some, ha, hb, hp, hq, hc, cond_false, ixI_of hbl, ixI_of hal, hgF, hf, hw], trivial⟩
      · intro _ _
        have hd : decide ((l.l.length : Int) < (l.l.length : Int)) = false := by rw [decide_eq_false_iff_not]; omega
        exact ⟨_, by simp only [law20_GraphOrder_L3, hd, cond_false], rfl⟩
      · subst q2; exact q1
    simp only [k2, k3, Option.bind_some, hlen, cond_false, aw]
  · obtain ⟨g0, hg0, hnf⟩ := stuck_ring hP hS
    have hFar : graph_Far (N : Int) m = some (.nil, false) := by simp only [graph_Far, hO, Option.bind_some, Bool.not_false, cond_true]
    rcases loop_spec (by omega) hFm with ⟨c, g, f, hL, hg, hD, hR, _⟩ | ⟨_, hno⟩
    rotate_left
    · exact absurd (hno g0 hg0) hnf
    have hcp := hR.pos
    have hcl := hR.le
    have hz : (((((Sl.mk (ints c)).l.length : Nat) : Int)) == 0) = false := by rw [beq_eq_false_iff_ne, Sl.l_mk, ints_len]; omega
    have k1 : loopO (law20_GraphOrder_L1 l (.mk (ints c))) 0 = some (.inr ()) := by
      have hll : (Sl.mk (ints c)).l.length = c.length := ints_len c
      refine forE (f := law20_GraphOrder_L1 l (.mk (ints c))) (fun i (_ : Unit) => (i : Int)) c.length (fun _ _ => True) (fun b => b = .inr ()) ?_ ?_ 0 () (Nat.zero_le _) trivial (fun b q1 q2 => ?_)
      · intro i _ hi _
        have hd : decide ((i : Int) < (((Sl.mk (ints c)).l.length : Nat) : Int)) = true := by rw [hll, decide_eq_true_eq]; omega
        have hw : wr .i64 ((i : Int) + 1) = ((i + 1 : Nat) : Int) := by rw [wr_id (by omega) (by omega)]; omega
        have h0l : ixI 0 (Sl.mk (ints c)).l.length = some 0 := ixI_of (i := 0) (by rw [hll]; exact hcp)
        have hil : i < (Sl.mk (ints c)).l.length := by rw [hll]; exact hi
        have hgc : ∀ k, gt (Sl.mk (ints c)).l k = ((gt c k : Nat) : Int) := fun k => ints_gt c k
        obtain ⟨p, hp, hpl⟩ := place_spec (.mk (ints c)) ((gt c i : Nat) : Int) (by rw [hll]; omega)
        have hpi : p = (i : Int) := hpl.uniq hil (hgc i) fun j hj e => by
          rw [hgc] at e
          exact ring_uniq hD hR (by rw [hll] at hj; exact hj) hi (by omega)
        subst hpi
        have hne : ((i : Int) != (i : Int)) = false := by simp
        by_cases hi1 : i + 1 < c.length
        · have hd1 : decide (((i + 1 : Nat) : Int) < (((Sl.mk (ints c)).l.length : Nat) : Int)) = true := by rw [hll, decide_eq_true_eq]; omega
          have hil1 : i + 1 < (Sl.mk (ints c)).l.length := by rw [hll]; exact hi1
          have hE := hR.edge i hi1
          rw [hml] at hE
          have hj := joined_spec l _ _ (by omega) hE.conv
          exact .inl ⟨(), by simp only [law20_GraphOrder_L1, hd, cond_true, h0l, Option.bind_some, hw, hd1, ixI_of hil1, ixI_of hil, hgc, hj, Bool.not_true, cond_false, hp, hne], trivial⟩
        · have hd1 : decide (((i + 1 : Nat) : Int) < (((Sl.mk (ints c)).l.length : Nat) : Int)) = false := by rw [hll, decide_eq_false_iff_not]; omega
          have hE := hR.back
          rw [show c.length - 1 = i by omega, hml, ← hR.hd] at hE
          have hj := joined_spec l _ _ (by omega) hE.conv
          exact .inl ⟨(), by simp only [law20_GraphOrder_L1, hd, cond_true, h0l, Option.bind_some, hw, hd1, ixI_of hil, hgc, hj, Bool.not_true, cond_false, hp, hne], trivial⟩
      · intro _ _
        have hd : decide ((c.length : Int) < (((Sl.mk (ints c)).l.length : Nat) : Int)) = false := by rw [hll, decide_eq_false_iff_not]; omega
        exact ⟨_, by simp only [law20_GraphOrder_L1, hd, cond_false], rfl⟩
      · subst q2; exact q1
    simp only [hO, hFar, hL, Option.bind_some, hz, beq_self_eq_true, Bool.not_true, Bool.or_self, cond_false, Bool.not_false, cond_true, k1, aw]
end Go.Proofs.YtkhmijgbbbpddaaDoor.G
