/- Graphs: the reference's Loop is the program's. Conditions: as stated. -/
import Derived.Test.YtjfhiochcdjkhaaDoorG5S
import Derived.Test.YtjfhiochcdjkhaaDoorG5RR
open Go.Ev Go
namespace Go.Proofs.YtjfhiochcdjkhaaDoor.G

theorem Pth.snoc {l : List graph_Edge} {d i j k : Nat} (h : Pth l j d i) (e : Ed l j k) : Pth l k (d + 1) i := by
  induction h with
  | zero => exact .step e .zero
  | step e2 _ ih => exact .step e2 ih

theorem Pth.last {l : List graph_Edge} {k : Nat} : ∀ (d i : Nat), Pth l k (d + 1) i → ∃ j, Pth l j d i ∧ Ed l j k := by
  intro d
  induction d with
  | zero =>
    intro i h
    cases h with
    | step e h => cases h; exact ⟨i, .zero, e⟩
  | succ d ih =>
    intro i h
    cases h with
    | step e h =>
      obtain ⟨j, h1, h2⟩ := ih _ h
      exact ⟨j, .step e h1, h2⟩

/-- the nodes of a round -/
theorem ways_row {n : Nat} {l : Sl ref20_Edge} {s : Sl Int} {at_ : List Nat} (hn : n ≤ 16) (hb : l.l.length < 1000000) (hs : s.l = ints at_) (hl : at_.length ≤ n) :
    ∃ t r, loopO (ref20_ways_L2 n l s) (.nil, 0) = some t ∧ t.l = ints r ∧ r.length ≤ n ∧ ∀ x, x ∈ r ↔ x < n ∧ ∃ a ∈ at_, Ed (l.l.map conv) a x := by
  have e0 : ((0 : Nat) : Int) = 0 := rfl
  have hsl : s.l.length = at_.length := by rw [hs, ints_len]
  refine forE (f := ref20_ways_L2 n l s) (fun i (t : Sl Int) => (t, (i : Int))) n (fun i t => ∃ r, t.l = ints r ∧ r.length ≤ i ∧ ∀ x, x ∈ r ↔ x < i ∧ ∃ a ∈ at_, Ed (l.l.map conv) a x)
    (fun t => ∃ r, t.l = ints r ∧ r.length ≤ n ∧ ∀ x, x ∈ r ↔ x < n ∧ ∃ a ∈ at_, Ed (l.l.map conv) a x) ?_ ?_ 0 .nil (Nat.zero_le _) ⟨[], rfl, Nat.le_refl _, fun x => by simp⟩ (fun b q1 q2 => ?_)
  · rintro i t hi ⟨r, r1, r2, r3⟩
    have hir : i ∉ r := fun h => by have := (r3 i).1 h; omega
    refine forE (f := ref20_ways_L3 l s (i : Int)) (fun j (t : Sl Int) => (t, (j : Int))) s.l.length
      (fun j u => (u.l = ints r ∧ ∀ p, p < j → ¬ Ed (l.l.map conv) (gt at_ p) i) ∨ (u.l = ints (r ++ [i]) ∧ ∃ a ∈ at_, Ed (l.l.map conv) a i))
      (fun u => (u.l = ints r ∧ ∀ p, p < s.l.length → ¬ Ed (l.l.map conv) (gt at_ p) i) ∨ (u.l = ints (r ++ [i]) ∧ ∃ a ∈ at_, Ed (l.l.map conv) a i)) ?_ ?_ 0 t (Nat.zero_le _) (.inl ⟨r1, fun p hp => by omega⟩) (fun b k1 k2 => ?_)
    · intro j u hj hI
      have hg : gt s.l j = ((gt at_ j : Nat) : Int) := by rw [hs, ints_gt]
      have hja : gt at_ j ∈ at_ := by rw [gt_eq (by omega)]; exact List.getElem_mem _
      have hul : u.l.length ≤ i + 1 := by
        rcases hI with ⟨h, _⟩ | ⟨h, _⟩
        · rw [h, ints_len]; omega
        · rw [h, ints_len, List.length_append, List.length_singleton]; omega
      have hh : u.l.length < 1000000 := by omega
      left
      by_cases he : REd l.l ((gt at_ j : Nat) : Int) (i : Int)
      · have he2 := red_ed.1 he
        by_cases hm : (i : Int) ∈ u.l
        · refine ⟨u, by simp only [ref20_ways_L3, lt_t hj, cond_true, ixI_of hj, Option.bind_some, hg, edge_spec l _ _ hb, decide_eq_true he, has_spec _ _ hh, decide_eq_true hm, Bool.not_true, cond_false, wr_s (show j < 1000000 by omega)], ?_⟩
          rcases hI with ⟨h, _⟩ | h
          · rw [h] at hm; exact absurd (mem_ints.1 hm) hir
          · exact .inr h
        · rcases hI with ⟨h, _⟩ | ⟨h, _⟩
          · have hcap : capI (u.l ++ [(i : Int)]) = some (u.l ++ [(i : Int)]) := capI_of (by rw [List.length_append, List.length_singleton]; omega)
            refine ⟨.mk (u.l ++ [(i : Int)]), by simp only [ref20_ways_L3, lt_t hj, cond_true, ixI_of hj, Option.bind_some, hg, edge_spec l _ _ hb, decide_eq_true he, has_spec _ _ hh, decide_eq_false hm, Bool.not_false, hcap, wr_s (show j < 1000000 by omega)], .inr ⟨?_, _, hja, he2⟩⟩
            rw [Sl.l_mk, h, ints_app]
          · exact absurd (by rw [h]; exact mem_ints.2 (List.mem_append_right _ (List.mem_singleton.2 rfl))) hm
      · refine ⟨u, by simp only [ref20_ways_L3, lt_t hj, cond_true, ixI_of hj, Option.bind_some, hg, edge_spec l _ _ hb, decide_eq_false he, cond_false, wr_s (show j < 1000000 by omega)], ?_⟩
        rcases hI with ⟨h, h2⟩ | h
        · refine .inl ⟨h, fun p hp => ?_⟩
          rcases Nat.lt_succ_iff_lt_or_eq.1 hp with h3 | rfl
          · exact h2 p h3
          · exact fun h4 => he (red_ed.2 h4)
        · exact .inr h
    · intro u hI
      exact ⟨u, by simp only [ref20_ways_L3, lt_f, cond_false], hI⟩
    · rw [e0] at k1
      left
      refine ⟨b, by simp only [ref20_ways_L2, lt_t hi, cond_true, k1, Option.bind_some, wr_s (show i < 1000000 by omega)], ?_⟩
      rcases k2 with ⟨h, h2⟩ | ⟨h, h2⟩
      · refine ⟨r, h, by omega, fun x => ?_⟩
        rw [r3]
        constructor
        · rintro ⟨h3, h4⟩; exact ⟨by omega, h4⟩
        · rintro ⟨h3, a, h4, h5⟩
          refine ⟨?_, a, h4, h5⟩
          rcases Nat.lt_succ_iff_lt_or_eq.1 h3 with h6 | rfl
          · exact h6
          · obtain ⟨p, hp, e⟩ := List.getElem_of_mem h4
            rw [← gt_eq hp] at e
            exact absurd (e ▸ h5) (h2 p (by omega))
      · refine ⟨r ++ [i], h, by rw [List.length_append, List.length_singleton]; omega, fun x => ?_⟩
        rw [List.mem_append, r3, List.mem_singleton]
        constructor
        · rintro (⟨h3, h4⟩ | rfl)
          · exact ⟨by omega, h4⟩
          · exact ⟨by omega, h2⟩
        · rintro ⟨h3, h4⟩
          rcases Nat.lt_succ_iff_lt_or_eq.1 h3 with h6 | h6
          · exact .inl ⟨h6, h4⟩
          · exact .inr h6
  · intro t hI
    exact ⟨t, by simp only [ref20_ways_L2, lt_f, cond_false], hI⟩
  · rw [e0] at q1
    obtain ⟨r, h⟩ := q2
    exact ⟨b, r, q1, h⟩

theorem ways_spec {n i g : Nat} {l : Sl ref20_Edge} (hb : l.l.length < 1000000) (hF : Fits n (l.l.map conv)) (hi : i < n) :
    ∃ k : Nat, ref20_ways n l (i : Int) (g : Int) = some (k : Int) ∧ ((k = 0 ∧ ∀ d, 1 ≤ d → d ≤ n → ¬ Pth (l.l.map conv) g d i) ∨ (1 ≤ k ∧ k ≤ n ∧ Pth (l.l.map conv) g k i ∧ ∀ d, 1 ≤ d → d < k → ¬ Pth (l.l.map conv) g d i)) := by
  have hn16 : n ≤ 16 := by have := hF.1; omega
  refine forE (f := ref20_ways_L1 n l (g : Int)) (fun k (s : Sl Int) => (s, ((k + 1 : Nat) : Int))) n
    (fun k s => (∃ a, s.l = ints a ∧ a.length ≤ n ∧ ∀ x, x ∈ a ↔ Pth (l.l.map conv) x k i) ∧ ∀ d, 1 ≤ d → d ≤ k → ¬ Pth (l.l.map conv) g d i)
    (fun b => match b with | .inl z => ∃ k : Nat, z = (k : Int) ∧ 1 ≤ k ∧ k ≤ n ∧ Pth (l.l.map conv) g k i ∧ ∀ d, 1 ≤ d → d < k → ¬ Pth (l.l.map conv) g d i | .inr _ => ∀ d, 1 ≤ d → d ≤ n → ¬ Pth (l.l.map conv) g d i)
    ?_ ?_ 0 (.mk [(i : Int)]) (Nat.zero_le _) ⟨⟨[i], rfl, by simp; omega, fun x => ?_⟩, fun d h1 h2 => by omega⟩ (fun b q1 q2 => ?_)
  · rintro k s hk ⟨⟨a, a1, a2, a3⟩, hno⟩
    have hd : decide (((k + 1 : Nat) : Int) ≤ (n : Int)) = true := by rw [decide_eq_true_eq]; omega
    obtain ⟨t, r, h1, h2, h3, h4⟩ := ways_row (l := l) hn16 hb a1 a2
    have hr : ∀ x, x ∈ r ↔ Pth (l.l.map conv) x (k + 1) i := fun x => by
      rw [h4]
      constructor
      · rintro ⟨_, y, hy, e⟩; exact ((a3 y).1 hy).snoc e
      · intro h
        obtain ⟨j, h5, e⟩ := Pth.last _ _ h
        exact ⟨(hF.lt e).2, j, (a3 j).2 h5, e⟩
    have hh : t.l.length < 1000000 := by rw [h2, ints_len]; omega
    by_cases hm : (g : Int) ∈ t.l
    · right
      refine ⟨.inl ((k + 1 : Nat) : Int), by simp only [ref20_ways_L1, hd, cond_true, h1, Option.bind_some, has_spec _ _ hh, decide_eq_true hm], k + 1, rfl, by omega, hk, ?_, fun d h5 h6 => hno d h5 (by omega)⟩
      rw [h2] at hm
      exact (hr g).1 (mem_ints.1 hm)
    · left
      refine ⟨t, by simp only [ref20_ways_L1, hd, cond_true, h1, Option.bind_some, has_spec _ _ hh, decide_eq_false hm, cond_false, wr_s (show k + 1 < 1000000 by omega)], ⟨r, h2, h3, hr⟩, fun d h5 h6 h7 => ?_⟩
      by_cases hdk : d = k + 1
      · subst hdk; exact hm (by rw [h2]; exact mem_ints.2 ((hr g).2 h7))
      · exact hno d h5 (by omega) h7
  · rintro s ⟨_, hno⟩
    have hd : decide (((n + 1 : Nat) : Int) ≤ (n : Int)) = false := by rw [decide_eq_false_iff_not]; omega
    exact ⟨.inr (), by simp only [ref20_ways_L1, hd, cond_false], hno⟩
  · rw [List.mem_singleton]
    constructor
    · rintro rfl; exact .zero
    · intro h; cases h; rfl
  · have e1 : ((0 + 1 : Nat) : Int) = 1 := rfl
    rw [e1] at q1
    cases b with
    | inl z =>
      obtain ⟨k, rfl, h⟩ := q2
      exact ⟨k, by simp only [ref20_ways, q1, Option.bind_some], .inr h⟩
    | inr _ => exact ⟨0, by simp only [ref20_ways, q1, Option.bind_some]; rfl, .inl ⟨rfl, q2⟩⟩

/-- a loop downwards that keeps the last that is so: the least -/
theorem downE {f : Int × Int → Option (Sum (Int × Int) Int)} {n : Nat} (hn : n ≤ 1000000) (P : Nat → Prop) 
    (hstep : ∀ (x : Int) (i : Nat), i < n → (P i ∧ f (x, (i : Int)) = some (.inl ((i : Int), (i : Int) - 1))) ∨ (¬ P i ∧ f (x, (i : Int)) = some (.inl (x, (i : Int) - 1)))) (hend : ∀ x, f (x, -1) = some (.inr x)) :
    (loopO f ((-1), wr .i64 ((n : Int) - 1)) = some (-1) ∧ ∀ i : Nat, i < n → ¬ P i) ∨
    ∃ a : Nat, loopO f ((-1), wr .i64 ((n : Int) - 1)) = some (a : Int) ∧ a < n ∧ P a ∧ ∀ i : Nat, i < a → ¬ P i := by
  have hw0 : wr .i64 ((n : Int) - 1) = (n : Int) - 1 - ((0 : Nat) : Int) := by rw [wr_id (by omega) (by omega)]; omega
  rw [hw0]
  let I (t : Nat) (x : Int) : Prop := (x = -1 ∧ ∀ i : Nat, n ≤ i + t → i < n → ¬ P i) ∨ ∃ a : Nat, x = a ∧ a < n ∧ P a ∧ ∀ i : Nat, n ≤ i + t → i < a → ¬ P i
  refine forE (f := f) (fun t (x : Int) => (x, (n : Int) - 1 - (t : Int))) n I (fun b => I n b) ?_ ?_ 0 (-1) (Nat.zero_le _) (.inl ⟨rfl, fun i h1 h2 => by omega⟩) (fun b q1 q2 => ?_)
  · intro t x ht hI
    have hc : (n : Int) - 1 - (t : Int) = ((n - 1 - t : Nat) : Int) := by omega
    have hc2 : ((n - 1 - t : Nat) : Int) - 1 = (n : Int) - 1 - ((t + 1 : Nat) : Int) := by omega
    left
    rcases hstep x (n - 1 - t) (by omega) with ⟨h1, h2⟩ | ⟨h1, h2⟩
    · exact ⟨((n - 1 - t : Nat) : Int), by rw [hc, h2, hc2], .inr ⟨n - 1 - t, rfl, by omega, h1, fun i h3 h4 => by omega⟩⟩
    · refine ⟨x, by rw [hc, h2, hc2], ?_⟩
      rcases hI with ⟨e, h3⟩ | ⟨a, e, h3, h4, h5⟩
      · refine .inl ⟨e, fun i h6 h7 => ?_⟩
        by_cases hi : i = n - 1 - t
        · subst hi; exact h1
        · exact h3 i (by omega) h7
      · refine .inr ⟨a, e, h3, h4, fun i h6 h7 => ?_⟩
        by_cases hi : i = n - 1 - t
        · subst hi; exact h1
        · exact h5 i (by omega) h7
  · intro x hI
    have : (n : Int) - 1 - (n : Int) = -1 := by omega
    exact ⟨x, by rw [this]; exact hend x, hI⟩
  · rcases q2 with ⟨rfl, h3⟩ | ⟨a, rfl, h3, h4, h5⟩
    · exact .inl ⟨q1, fun i hi => h3 i (by omega) hi⟩
    · exact .inr ⟨a, q1, h3, h4, fun i hi => h5 i (by omega) hi⟩

/-- which ways are so long -/
theorem ways_is {n i g k c : Nat} {l : Sl ref20_Edge} {f : List Nat} (hb : l.l.length < 1000000) (hF : Fits n (l.l.map conv)) (hD : Dist n (l.l.map conv) g f) (hi : i < n)
    (hc : c ≤ n) (hg : ∀ d, Pth (l.l.map conv) g d g → 1 ≤ d → c ≤ d) (hk : 1 ≤ k) (hkc : k < c) :
    ∃ z : Int, ref20_ways n l (i : Int) (g : Int) = some z ∧ (z = (k : Int) ↔ gt f i = k) := by
  obtain ⟨w, h1, h2⟩ := ways_spec (g := g) hb hF hi
  refine ⟨_, h1, ?_⟩
  have hz := hD.goal
  have hle := hD.le i
  constructor
  · intro e
    obtain rfl : w = k := by omega
    rcases h2 with ⟨h3, _⟩ | ⟨_, _, h3, h4⟩
    · omega
    · have hig : i ≠ g := fun e => by subst e; have := hg _ h3 hk; omega
      have h5 := hD.least _ _ h3
      have h6 := hD.is i hi (by omega)
      have h7 : gt f i ≠ 0 := fun e => by rw [e] at h6; cases h6; exact hig rfl
      rcases Nat.lt_or_ge (gt f i) w with h8 | h8
      · exact absurd h6 (h4 _ (by omega) h8)
      · omega
  · intro e
    have h6 := hD.is i hi (by omega)
    rw [e] at h6
    rcases h2 with ⟨_, h3⟩ | ⟨h5, _, h3, h4⟩
    · exact absurd h6 (h3 k hk (by omega))
    · have h7 := hD.least _ _ h3
      rcases Nat.lt_or_ge k w with h8 | h8
      · exact absurd h6 (h4 k hk h8)
      · omega

theorem ints_take' (o : List Nat) (p : Nat) : ints (o.take p) = (ints o).take p := by simp [ints, List.map_take]

theorem ref_ring {n g : Nat} {l : Sl ref20_Edge} {f o : List Nat} (hb : l.l.length < 1000000) (hF : Fits n (l.l.map conv)) (hg : g < n) (hD : Dist n (l.l.map conv) g f) (hR : Ring n (l.l.map conv) g f o) :
    loopO (ref20_Loop_L2 n l (g : Int)) ((o.length : Int), [(g : Int)]) = some (ints o) := by
  have hn16 : n ≤ 16 := by have := hF.1; omega
  have hpos := hR.pos
  have hle := hR.le
  have hmin : ∀ d, Pth (l.l.map conv) g d g → 1 ≤ d → o.length ≤ d := by
    intro d h h1
    cases h with
    | zero => omega
    | @step d' _ k e h =>
      have h2 := hR.first k e
      have h3 := hD.least _ _ h
      omega
  refine forE (f := ref20_Loop_L2 n l (g : Int)) (fun p (_ : Unit) => (((o.length - p : Nat) : Int), ints (o.take (p + 1)))) (o.length - 1) (fun _ _ => True) (fun b => b = ints o) ?_ ?_ 0 () (Nat.zero_le _) trivial (fun b q1 q2 => ?_)
  · intro p _ hp _
    left
    have hd : decide (((o.length - p : Nat) : Int) > 1) = true := by rw [decide_eq_true_eq]; omega
    have hw : wr .i64 (((o.length - p : Nat) : Int) - 1) = ((o.length - (p + 1) : Nat) : Int) := by rw [wr_id (by omega) (by omega)]; omega
    have htl : (ints (o.take (p + 1))).length = p + 1 := by rw [ints_len, List.length_take]; omega
    have hw2 : wr .i64 ((((ints (o.take (p + 1))).length : Nat) : Int) - 1) = (p : Int) := by rw [htl, wr_id (by omega) (by omega)]; omega
    have hgl : gt (ints (o.take (p + 1))) p = ((gt o p : Nat) : Int) := by
      rw [ints_gt, gt_eq (show p < (o.take (p + 1)).length by rw [List.length_take]; omega), List.getElem_take, gt_eq]
    have hpt : p < (ints (o.take (p + 1))).length := by omega
    have hE := hR.edge p (by omega)
    have hfar := hR.far (p + 1) (by omega) (by omega)
    have hdn := downE (f := ref20_Loop_L3 n l (g : Int) ((o.length - p : Nat) : Int) (ints (o.take (p + 1)))) (n := n) (by omega) (fun i => Ed (l.l.map conv) (gt o p) i ∧ gt f i = o.length - (p + 1)) ?_ ?_
    · have ha : loopO (ref20_Loop_L3 n l (g : Int) ((o.length - p : Nat) : Int) (ints (o.take (p + 1)))) ((-1), wr .i64 ((n : Int) - 1)) = some ((gt o (p + 1) : Nat) : Int) := by
        rcases hdn with ⟨_, h2⟩ | ⟨a, h1, h2, h3, h4⟩
        · exact absurd ⟨hE, by omega⟩ (h2 _ (hF.lt hE).2)
        · rw [h1]
          have : a = gt o (p + 1) := by
            rcases Nat.lt_or_ge a (gt o (p + 1)) with h | h
            · have := hR.least p (by omega) a h h3.1
              omega
            · rcases Nat.lt_or_ge (gt o (p + 1)) a with h' | h'
              · exact absurd ⟨hE, by omega⟩ (h4 _ h')
              · omega
          rw [this]
      have hcap : capI (ints (o.take (p + 1)) ++ [((gt o (p + 1) : Nat) : Int)]) = some (ints (o.take (p + 1 + 1))) := by
        rw [capI_of (by rw [List.length_append, htl, List.length_singleton]; omega), ints_app, gt_eq (show p + 1 < o.length by omega), List.take_append_getElem]
      exact ⟨(), by simp only [ref20_Loop_L2, hd, cond_true, ha, Option.bind_some, hcap, hw], trivial⟩
    · intro x i hi
      have hge : decide ((i : Int) ≥ 0) = true := by rw [decide_eq_true_eq]; omega
      have hwi : wr .i64 ((i : Int) - 1) = (i : Int) - 1 := by rw [wr_id (by omega) (by omega)]
      by_cases he : REd l.l ((gt o p : Nat) : Int) (i : Int)
      · obtain ⟨z, h1, h2⟩ := ways_is (k := o.length - (p + 1)) hb hF hD hi hle hmin (by omega) (by omega)
        by_cases hz : z = ((o.length - (p + 1) : Nat) : Int)
        · have hzb : (z == ((o.length - (p + 1) : Nat) : Int)) = true := by rw [beq_iff_eq]; exact hz
          exact .inl ⟨⟨red_ed.1 he, h2.1 hz⟩, by simp only [ref20_Loop_L3, hge, cond_true, hw2, ixI_of hpt, Option.bind_some, hgl, edge_spec l _ _ hb, decide_eq_true he, h1, hw, hzb, hwi]⟩
        · have hzb : (z == ((o.length - (p + 1) : Nat) : Int)) = false := by rw [beq_eq_false_iff_ne]; exact hz
          exact .inr ⟨fun h => hz (h2.2 h.2), by simp only [ref20_Loop_L3, hge, cond_true, hw2, ixI_of hpt, Option.bind_some, hgl, edge_spec l _ _ hb, decide_eq_true he, h1, hw, hzb, cond_false, hwi]⟩
      · exact .inr ⟨fun h => he (red_ed.2 h.1), by simp only [ref20_Loop_L3, hge, cond_true, hw2, ixI_of hpt, Option.bind_some, hgl, edge_spec l _ _ hb, decide_eq_false he, cond_false, hwi]⟩
    · intro x
      have : decide ((-1 : Int) ≥ 0) = false := rfl
      simp only [ref20_Loop_L3, this, cond_false]
  · intro _ _
    have hd : decide (((o.length - (o.length - 1) : Nat) : Int) > 1) = false := by rw [decide_eq_false_iff_not]; omega
    refine ⟨ints (o.take (o.length - 1 + 1)), by simp only [ref20_Loop_L2, hd, cond_false], ?_⟩
    rw [List.take_of_length_le (by omega)]
  · subst q2
    have e1 : ints (o.take (0 + 1)) = [(g : Int)] := by
      have h0 := hR.hd
      cases o with
      | nil => simp at hpos
      | cons x o => simp only [gt, List.getD_cons_zero] at h0; subst h0; rfl
    rw [e1, Nat.sub_zero] at q1
    exact q1

theorem loop_same {n : Nat} {l : Sl ref20_Edge} {m : Sl graph_Edge} (hb : l.l.length < 1000000) (hm : m.l = l.l.map conv) (hF : Fits n m.l) :
    ∃ s t, graph_Loop (n : Int) m = some s ∧ ref20_Loop (n : Int) l = some t ∧ s.l = t.l ∧ s.l.length ≤ 16 := by
  have hn16 : n ≤ 16 := by have := hF.1; omega
  have e0 : ((0 : Nat) : Int) = 0 := rfl
  have hfree : ∀ g, g < n → Free n m.l g → ref20_ways (n : Int) l (g : Int) (g : Int) = some 0 := by
    intro g hg hfr
    rw [hm] at hF hfr
    obtain ⟨k, h1, ⟨rfl, _⟩ | ⟨h2, h3, h4, _⟩⟩ := ways_spec (g := g) hb hF hg
    · exact h1
    · cases h4 with
      | zero => omega
      | step e h => have := hfr _ _ e h; omega
  have hr : ref20_Right (n : Int) l = some true := by rw [rright_spec hb, decide_eq_true (by rw [← hm]; exact hF)]
  rcases loop_spec (l := m) (by rw [hm, List.length_map]; exact hb) hF with ⟨o, g, f, h1, hg, hD, hR, hfr⟩ | ⟨h1, hfr⟩
  · have hol := hR.le
    rw [hm] at hD hR
    have hring := ref_ring hb (by rw [← hm]; exact hF) hg hD hR
    have hw : ref20_ways (n : Int) l (g : Int) (g : Int) = some (o.length : Int) := by
      have hF' := hF
      rw [hm] at hF'
      have hpos := hR.pos
      have hP : ∃ d, Pth (l.l.map conv) g d g ∧ d = o.length := by
        by_cases h1 : o.length = 1
        · have := hR.back
          rw [h1, Nat.sub_self, hR.hd] at this
          exact ⟨1, .step this .zero, h1.symm⟩
        · have h2 := hR.far 1 (by omega) (by omega)
          have h3 : Ed _ (gt o 0) (gt o 1) := hR.edge 0 (by omega)
          rw [hR.hd] at h3
          have h4 := hD.is _ (hF'.lt h3).2 (by omega)
          exact ⟨_, .step h3 h4, h2⟩
      obtain ⟨d, hd, rfl⟩ := hP
      have hmin : ∀ d, Pth (l.l.map conv) g d g → 1 ≤ d → o.length ≤ d := by
        intro d h h1
        cases h with
        | zero => omega
        | @step d' _ k e h =>
          have h2 := hR.first k e
          have h3 := hD.least _ _ h
          omega
      obtain ⟨k, h1, ⟨rfl, h2⟩ | ⟨h2, h3, h4, h5⟩⟩ := ways_spec (g := g) hb hF' hg
      · exact absurd hd (h2 _ hpos hol)
      · have h6 := hmin k h4 h2
        rw [h1]
        rcases Nat.lt_or_ge o.length k with h7 | h7
        · exact absurd hd (h5 _ hpos h7)
        · congr 1; omega
    refine forE (f := ref20_Loop_L1 n l) (fun i (_ : Unit) => (i : Int)) g (fun _ _ => True) (fun b => b = .inl (ints o)) ?_ ?_ 0 () (Nat.zero_le _) trivial (fun b q1 q2 => ?_)
    · intro i _ hi _
      refine .inl ⟨(), ?_, trivial⟩
      have hz : ((0 : Int) == 0) = true := rfl
      simp only [ref20_Loop_L1, lt_t (show i < n by omega), cond_true, hfree i (by omega) (hfr i hi), Option.bind_some, hz, wr_s (show i < 1000000 by omega)]
    · intro _ _
      have hz : ((o.length : Int) == 0) = false := by rw [beq_eq_false_iff_ne]; have := hR.pos; omega
      exact ⟨_, by simp only [ref20_Loop_L1, lt_t hg, cond_true, hw, Option.bind_some, hz, cond_false, hring], rfl⟩
    · subst q2
      rw [e0] at q1
      exact ⟨_, .mk (ints o), h1, by simp only [ref20_Loop, hr, Option.bind_some, Bool.not_true, cond_false, q1], rfl, by rw [Sl.l_mk, ints_len]; omega⟩
  · refine forE (f := ref20_Loop_L1 n l) (fun i (_ : Unit) => (i : Int)) n (fun _ _ => True) (fun b => b = .inr ()) ?_ ?_ 0 () (Nat.zero_le _) trivial (fun b q1 q2 => ?_)
    · intro i _ hi _
      refine .inl ⟨(), ?_, trivial⟩
      have hz : ((0 : Int) == 0) = true := rfl
      simp only [ref20_Loop_L1, lt_t hi, cond_true, hfree i hi (hfr i hi), Option.bind_some, hz, wr_s (show i < 1000000 by omega)]
    · intro _ _
      exact ⟨_, by simp only [ref20_Loop_L1, lt_f, cond_false], rfl⟩
    · subst q2
      rw [e0] at q1
      exact ⟨.nil, .nil, h1, by simp only [ref20_Loop, hr, Option.bind_some, Bool.not_true, cond_false, q1], rfl, by simp⟩
end Go.Proofs.YtjfhiochcdjkhaaDoor.G
