/- Graphs: the reference's Reach is the program's. Conditions: as stated. -/
import Derived.Test.YtjfhiochcdjkhaaDoorG5F
import Derived.Test.YtjfhiochcdjkhaaDoorG5Rt
open Go.Ev Go
namespace Go.Proofs.YtjfhiochcdjkhaaDoor.G

theorem lt_t {i n : Nat} (h : i < n) : decide ((i : Int) < (n : Int)) = true := by rw [decide_eq_true_eq]; omega
theorem lt_f {n : Nat} : decide ((n : Int) < (n : Int)) = false := by rw [decide_eq_false_iff_not]; omega
theorem wr_s {i : Nat} (h : i < 1000000) : wr .i64 ((i : Int) + 1) = ((i + 1 : Nat) : Int) := by rw [wr_id (by omega) (by omega)]; omega
theorem mem_ints {l : List Nat} {k : Nat} : (k : Int) ∈ ints l ↔ k ∈ l := by
  rw [ints_mem]
  exact ⟨fun ⟨y, hy, e⟩ => by rw [show k = y by omega]; exact hy, fun h => ⟨k, h, rfl⟩⟩
theorem ints_app (l : List Nat) (k : Nat) : ints l ++ [(k : Int)] = ints (l ++ [k]) := by simp [ints]

theorem up_eq : ∀ (a b : List Nat), a.Pairwise (· < ·) → b.Pairwise (· < ·) → (∀ j, j ∈ a ↔ j ∈ b) → a = b := by
  intro a
  induction a with
  | nil =>
    intro b _ _ h
    cases b with
    | nil => rfl
    | cons y b => exact absurd ((h y).2 (List.mem_cons_self ..)) (by simp)
  | cons x a ih =>
    intro b ha hb h
    cases b with
    | nil => exact absurd ((h x).1 (List.mem_cons_self ..)) (by simp)
    | cons y b =>
      rw [List.pairwise_cons] at ha hb
      have hxy : x = y := by
        have h1 := (h x).1 (List.mem_cons_self ..)
        have h2 := (h y).2 (List.mem_cons_self ..)
        rcases List.mem_cons.1 h1 with e | h1
        · exact e
        · rcases List.mem_cons.1 h2 with e | h2
          · exact e.symm
          · have := hb.1 x h1
            have := ha.1 y h2
            omega
      subst hxy
      rw [ih b ha.2 hb.2 fun j => ?_]
      constructor
      · intro hj
        rcases List.mem_cons.1 ((h j).1 (List.mem_cons_of_mem _ hj)) with e | h3
        · subst e; have := ha.1 j hj; omega
        · exact h3
      · intro hj
        rcases List.mem_cons.1 ((h j).2 (List.mem_cons_of_mem _ hj)) with e | h3
        · subst e; have := hb.1 j hj; omega
        · exact h3

theorem Rt.lt {n a j : Nat} {l : List graph_Edge} (hF : Fits n l) (ha : a < n) (h : Rt l a j) : j < n := by
  cases h with
  | refl => exact ha
  | step _ e => exact (hF.lt e).2

/-- one comes from a node to its next ones -/
theorem reach_row {n k : Nat} {l : Sl ref20_Edge} {g : List Nat} (hn : n ≤ 16) (hb : l.l.length < 1000000) (hg : g.length ≤ n) (hk : k < g.length) (hlt : ∀ x ∈ g, x < n) (hnd : g.Nodup) :
    ∃ t, loopO (ref20_Reach_L2 n l (k : Int)) (ints g, 0) = some (ints (g ++ t)) ∧ (g ++ t).Nodup ∧ (∀ x ∈ t, x < n ∧ Ed (l.l.map conv) (gt g k) x) ∧ ∀ j, j < n → Ed (l.l.map conv) (gt g k) j → j ∈ g ++ t := by
  refine forE (f := ref20_Reach_L2 n l (k : Int)) (fun i (t : List Nat) => (ints (g ++ t), (i : Int))) n
    (fun i t => (g ++ t).Nodup ∧ (∀ x ∈ t, x < n ∧ Ed (l.l.map conv) (gt g k) x) ∧ ∀ j, j < i → Ed (l.l.map conv) (gt g k) j → j ∈ g ++ t)
    (fun b => ∃ t, b = ints (g ++ t) ∧ (g ++ t).Nodup ∧ (∀ x ∈ t, x < n ∧ Ed (l.l.map conv) (gt g k) x) ∧ ∀ j, j < n → Ed (l.l.map conv) (gt g k) j → j ∈ g ++ t) ?_ ?_ 0 [] (Nat.zero_le _) ⟨by simpa using hnd, by simp, fun j hj => by omega⟩ (fun b q1 q2 => ?_)
  · intro i t hi ⟨i1, i2, i3⟩
    have hlen : (g ++ t).length ≤ n := by
      have hs : (g ++ t) ⊆ List.range n := fun x hx => by
        rcases List.mem_append.1 hx with hx | hx
        · exact List.mem_range.2 (hlt x hx)
        · exact List.mem_range.2 (i2 x hx).1
      simpa using i1.length_le_of_subset hs
    have hkl : k < (ints (g ++ t)).length := by rw [ints_len, List.length_append]; omega
    have hgk : gt (ints (g ++ t)) k = ((gt g k : Nat) : Int) := by rw [ints_gt, gt_eq (by rw [List.length_append]; omega), List.getElem_append_left hk, gt_eq hk]
    have hh : (Sl.mk (ints (g ++ t))).l.length < 1000000 := by rw [Sl.l_mk, ints_len]; omega
    have hm : (Sl.mk (ints (g ++ t))).l = ints (g ++ t) := rfl
    left
    by_cases he : REd l.l ((gt g k : Nat) : Int) (i : Int)
    · by_cases hi2 : i ∈ g ++ t
      · have hin : (i : Int) ∈ (Sl.mk (ints (g ++ t))).l := mem_ints.2 hi2
        refine ⟨t, by simp only [ref20_Reach_L2, lt_t hi, cond_true, ixI_of hkl, Option.bind_some, hgk, edge_spec l _ _ hb, decide_eq_true he, has_spec _ _ hh, decide_eq_true hin, Bool.not_true, cond_false, wr_s (show i < 1000000 by omega)], i1, i2, fun j hj e => ?_⟩
        rcases Nat.lt_succ_iff_lt_or_eq.1 hj with h | rfl
        · exact i3 j h e
        · exact hi2
      · have hin : ¬ (i : Int) ∈ (Sl.mk (ints (g ++ t))).l := fun h => hi2 (mem_ints.1 h)
        have hcap : capI (ints (g ++ t) ++ [(i : Int)]) = some (ints (g ++ (t ++ [i]))) := by
          rw [capI_of (by rw [List.length_append, ints_len, List.length_singleton]; omega), ints_app, List.append_assoc]
        refine ⟨t ++ [i], by simp only [ref20_Reach_L2, lt_t hi, cond_true, ixI_of hkl, Option.bind_some, hgk, edge_spec l _ _ hb, decide_eq_true he, has_spec _ _ hh, decide_eq_false hin, Bool.not_false, hcap, wr_s (show i < 1000000 by omega)], ?_, fun x hx => ?_, fun j hj e => ?_⟩
        · rw [← List.append_assoc]
          exact List.nodup_append.2 ⟨i1, by simp, fun a ha b hb => by rw [List.mem_singleton] at hb; subst hb; exact fun e => hi2 (e ▸ ha)⟩
        · rcases List.mem_append.1 hx with hx | hx
          · exact i2 x hx
          · rw [List.mem_singleton] at hx; subst hx; exact ⟨hi, red_ed.1 he⟩
        · rw [← List.append_assoc]
          rcases Nat.lt_succ_iff_lt_or_eq.1 hj with h | rfl
          · exact List.mem_append_left _ (i3 j h e)
          · exact List.mem_append_right _ (List.mem_singleton.2 rfl)
    · refine ⟨t, by simp only [ref20_Reach_L2, lt_t hi, cond_true, ixI_of hkl, Option.bind_some, hgk, edge_spec l _ _ hb, decide_eq_false he, cond_false, wr_s (show i < 1000000 by omega)], i1, i2, fun j hj e => ?_⟩
      rcases Nat.lt_succ_iff_lt_or_eq.1 hj with h | rfl
      · exact i3 j h e
      · exact absurd (red_ed.2 e) he
  · intro t hI
    exact ⟨_, by simp only [ref20_Reach_L2, lt_f, cond_false], t, rfl, hI⟩
  · obtain ⟨t, rfl, h⟩ := q2
    rw [List.append_nil] at q1
    exact ⟨t, q1, h⟩

theorem ref_reach {n a : Nat} {l : Sl ref20_Edge} (hb : l.l.length < 1000000) (hF : Fits n (l.l.map conv)) (ha : a < n) :
    ∃ s r, ref20_Reach (n : Int) l (a : Int) = some s ∧ s.l = ints r ∧ r.Pairwise (· < ·) ∧ ∀ j, j ∈ r ↔ Rt (l.l.map conv) a j := by
  have hn16 : n ≤ 16 := by have := hF.1; omega
  have e0 : ((0 : Nat) : Int) = 0 := rfl
  let I (g : List Nat) (k : Nat) : Prop := g.Nodup ∧ a ∈ g ∧ (∀ x ∈ g, Rt (l.l.map conv) a x) ∧ ∀ p, p < k → ∀ j, Ed (l.l.map conv) (gt g p) j → j ∈ g
  refine whileE (f := ref20_Reach_L1 n l) (fun s => n - s.2.toNat) (fun s => ∃ g k, s = (ints g, ((k : Nat) : Int)) ∧ k ≤ g.length ∧ I g k)
    (fun b => ∃ g, b = ints g ∧ g.Nodup ∧ ∀ j, j ∈ g ↔ Rt (l.l.map conv) a j) ?_ ([(a : Int)], 0) ⟨[a], 0, rfl, by simp, by simp, by simp, fun x hx => by rw [List.mem_singleton] at hx; subst hx; exact .refl _, fun p hp => by omega⟩ (fun b q1 q2 => ?_)
  · rintro _ ⟨g, k, rfl, hk, i1, i2, i3, i4⟩
    have hlt : ∀ x ∈ g, x < n := fun x hx => (i3 x hx).lt hF ha
    have hlen : g.length ≤ n := by
      simpa using i1.length_le_of_subset (fun x hx => List.mem_range.2 (hlt x hx) : g ⊆ List.range n)
    have hil : (ints g).length = g.length := ints_len g
    by_cases hkl : k < g.length
    · left
      obtain ⟨t, h1, h2, h3, h4⟩ := reach_row (n := n) (l := l) hn16 hb hlen hkl hlt i1
      have hga := gt_eq hkl
      have hgm : gt g k ∈ g := by rw [hga]; exact List.getElem_mem _
      have hgt : ∀ p, p < g.length → gt (g ++ t) p = gt g p := fun p hp => by rw [gt_eq (by rw [List.length_append]; omega), List.getElem_append_left hp, gt_eq hp]
      refine ⟨(ints (g ++ t), ((k + 1 : Nat) : Int)), by simp only [ref20_Reach_L1, hil, lt_t hkl, cond_true, h1, Option.bind_some, wr_s (show k < 1000000 by omega)], ⟨g ++ t, k + 1, rfl, by rw [List.length_append]; omega, h2, List.mem_append_left _ i2, fun x hx => ?_, fun p hp j e => ?_⟩, ?_⟩
      · rcases List.mem_append.1 hx with hx | hx
        · exact i3 x hx
        · exact (i3 _ hgm).step (h3 x hx).2
      · rw [hgt p (by omega)] at e
        by_cases hpk : p = k
        · subst hpk; exact h4 j (hF.lt e).2 e
        · exact List.mem_append_left _ (i4 p (by omega) j e)
      · simp only [Int.toNat_natCast]; omega
    · right
      have hkk : k = g.length := by omega
      subst hkk
      refine ⟨ints g, by simp only [ref20_Reach_L1, hil, lt_f, cond_false], g, rfl, i1, fun j => ⟨i3 j, fun h => ?_⟩⟩
      induction h with
      | refl => exact i2
      | step _ e ih =>
        obtain ⟨p, hp, e2⟩ := List.getElem_of_mem ih
        rw [← gt_eq hp] at e2
        exact i4 p hp _ (e2 ▸ e)
  · obtain ⟨g, rfl, g1, g2⟩ := q2
    have hlen : g.length ≤ n := by
      simpa using g1.length_le_of_subset (fun x hx => List.mem_range.2 (((g2 x).1 hx).lt hF ha) : g ⊆ List.range n)
    have hh : (Sl.mk (ints g)).l.length < 1000000 := by rw [Sl.l_mk, ints_len]; omega
    refine forE (f := ref20_Reach_L3 n (ints g)) (fun i (s : Sl Int) => (s, (i : Int))) n (fun i s => s.l = ints ((List.range i).filter (· ∈ g))) (fun b => b.l = ints ((List.range n).filter (· ∈ g))) ?_ ?_ 0 .nil (Nat.zero_le _) rfl (fun b k1 k2 => ?_)
    · intro i s hi hs
      left
      have hsl : s.l.length ≤ i := by
        rw [hs, ints_len]
        simpa using List.length_filter_le (fun x => decide (x ∈ g)) (List.range i)
      by_cases hm : i ∈ g
      · have hin : (i : Int) ∈ (Sl.mk (ints g)).l := mem_ints.2 hm
        have hcap : capI (s.l ++ [(i : Int)]) = some (s.l ++ [(i : Int)]) := capI_of (by rw [List.length_append, List.length_singleton]; omega)
        refine ⟨.mk (s.l ++ [(i : Int)]), by simp only [ref20_Reach_L3, lt_t hi, cond_true, has_spec _ _ hh, decide_eq_true hin, Option.bind_some, hcap, wr_s (show i < 1000000 by omega)], ?_⟩
        rw [Sl.l_mk, hs, ints_app, List.range_succ, List.filter_append]
        simp [hm]
      · have hin : ¬ (i : Int) ∈ (Sl.mk (ints g)).l := fun h => hm (mem_ints.1 h)
        refine ⟨s, by simp only [ref20_Reach_L3, lt_t hi, cond_true, has_spec _ _ hh, decide_eq_false hin, Option.bind_some, cond_false, wr_s (show i < 1000000 by omega)], ?_⟩
        rw [hs, List.range_succ, List.filter_append]
        simp [hm]
    · intro s hs
      exact ⟨s, by simp only [ref20_Reach_L3, lt_f, cond_false], hs⟩
    · rw [e0] at k1
      refine ⟨b, (List.range n).filter (· ∈ g), ?_, k2, List.Pairwise.filter _ List.pairwise_lt_range, fun j => ?_⟩
      · have hc : ((!(decide (Fits n (l.l.map conv)))) || ((decide ((a : Int) < 0)) || (decide ((a : Int) ≥ (n : Int))))) = false := by
          simp only [hF, decide_true, Bool.not_true, Bool.false_or, Bool.or_eq_false_iff, decide_eq_false_iff_not]; omega
        simp only [ref20_Reach, rright_spec hb, Option.bind_some, hc, cond_false, q1, k1]
      · rw [List.mem_filter, List.mem_range, decide_eq_true_eq, g2]
        exact ⟨fun h => h.2, fun h => ⟨h.lt hF ha, h⟩⟩

theorem reach_same {n a : Nat} {l : Sl ref20_Edge} {m : Sl graph_Edge} (hb : l.l.length < 1000000) (hm : m.l = l.l.map conv) (hF : Fits n m.l) (ha : a < n) :
    ∃ s t, graph_Reach (n : Int) m (a : Int) = some s ∧ ref20_Reach (n : Int) l (a : Int) = some t ∧ s.l = t.l ∧ s.l.length ≤ 16 := by
  obtain ⟨s, h1, x, hx, h2, h3⟩ := reach_spec (l := m) (by rw [hm, List.length_map]; exact hb) hF ha
  rw [hm] at hF h3
  obtain ⟨t, r, h4, h5, h6, h7⟩ := ref_reach hb hF ha
  refine ⟨s, t, h1, h4, ?_, by rw [h2, ints_len]; exact bits_len x⟩
  rw [h2, h5, up_eq (bitsOf x) r (bits_sorted x) h6 fun j => ?_]
  rw [mem_bits hx, h3, h7]
end Go.Proofs.YtjfhiochcdjkhaaDoor.G
