/- Graphs: Order, and Far. Conditions: as stated. -/
import Derived.Test.YtjfhiochcdjkhaaDoorG5M
open Go.Ev Go
namespace Go.Proofs.YtjfhiochcdjkhaaDoor.G

theorem ones16 {n : Nat} (h : n ≤ 16) : ∃ x, shlI .u16 1 (n : Int) = some x ∧ wr .u16 (x - 1) = ((2 ^ n - 1 : Nat) : Int) := by
  have : n = 0 ∨ n = 1 ∨ n = 2 ∨ n = 3 ∨ n = 4 ∨ n = 5 ∨ n = 6 ∨ n = 7 ∨ n = 8 ∨ n = 9 ∨ n = 10 ∨ n = 11 ∨ n = 12 ∨ n = 13 ∨ n = 14 ∨ n = 15 ∨ n = 16 := by omega
  rcases this with rfl | rfl | rfl | rfl | rfl | rfl | rfl | rfl | rfl | rfl | rfl | rfl | rfl | rfl | rfl | rfl | rfl <;> exact ⟨_, rfl, by decide⟩

/-- some nodes in an order, the others left -/
structure Part (n : Nat) (l : List graph_Edge) (x : Nat) (o : List Nat) : Prop where
  lt : x < 65536
  all : ∀ j, (x.testBit j = true ∨ j ∈ o) ↔ j < n
  not : ∀ j ∈ o, x.testBit j = false
  nd : o.Nodup
  topo : ∀ p, p < o.length → ∀ i, Ed l i (gt o p) → ∃ q, q < p ∧ gt o q = i
  least : ∀ p, p < o.length → ∀ j, j < gt o p → j ∉ o.take p → ∃ i, Ed l i j ∧ i ∉ o.take p

theorem gt_app_lt {o : List Nat} {k p : Nat} (h : p < o.length) : gt (o ++ [k]) p = gt o p := by
  rw [gt_eq h, gt_eq (by simp; omega), List.getElem_append_left h]
theorem gt_app_eq {o : List Nat} {k : Nat} : gt (o ++ [k]) o.length = k := by
  rw [gt_eq (by simp)]; simp
theorem mem_gt {o : List Nat} {i : Nat} (h : i ∈ o) : ∃ q, q < o.length ∧ gt o q = i := by
  obtain ⟨q, hq, rfl⟩ := List.getElem_of_mem h
  exact ⟨q, hq, gt_eq hq⟩
theorem gt_mem {o : List Nat} {q : Nat} (h : q < o.length) : gt o q ∈ o := by rw [gt_eq h]; exact List.getElem_mem _

/-- the next one -/
theorem Part.add {n x k : Nat} {l : List graph_Edge} {o : List Nat} (h : Part n l x o) (hF : Fits n l) (hk : x.testBit k = true) (hp : ∀ i, Ed l i k → x.testBit i = false)
    (hl : ∀ j, j < k → x.testBit j = true → ∃ i, x.testBit i = true ∧ Ed l i j) : Part n l (andNot x (2 ^ k)) (o ++ [k]) := by
  have hb : ∀ j, (andNot x (2 ^ k)).testBit j = (x.testBit j && !decide (k = j)) := fun j => by rw [andNot_bit, pow_bit]
  have hko : k ∉ o := fun hm => by rw [h.not k hm] at hk; simp at hk
  refine ⟨andNot_lt h.lt, fun j => ?_, fun j hj => ?_, ?_, fun p hpl i he => ?_, fun p hpl j hj hn => ?_⟩
  · rw [← h.all j, hb]
    by_cases hkj : k = j
    · subst hkj; simp [hk]
    · have : ¬ j = k := fun e => hkj e.symm
      simp [hkj, this]
  · rw [hb]
    rcases List.mem_append.1 hj with hj | hj
    · rw [h.not j hj]; rfl
    · rw [List.mem_singleton] at hj; subst hj; simp
  · exact List.nodup_append.2 ⟨h.nd, by simp, fun a ha b hb => by rw [List.mem_singleton] at hb; subst hb; exact fun e => hko (e ▸ ha)⟩
  · rw [List.length_append, List.length_singleton] at hpl
    by_cases hp2 : p < o.length
    · rw [gt_app_lt hp2] at he
      obtain ⟨q, hq, e⟩ := h.topo p hp2 i he
      exact ⟨q, hq, by rw [gt_app_lt (by omega)]; exact e⟩
    · obtain rfl : p = o.length := by omega
      rw [gt_app_eq] at he
      have hx := hp i he
      have hi := (hF.lt he).1
      rcases (h.all i).2 hi with h1 | h1
      · rw [hx] at h1; simp at h1
      · obtain ⟨q, hq, e⟩ := mem_gt h1
        exact ⟨q, hq, by rw [gt_app_lt hq]; exact e⟩
  · rw [List.length_append, List.length_singleton] at hpl
    by_cases hp2 : p < o.length
    · rw [gt_app_lt hp2] at hj
      rw [List.take_append_of_le_length (by omega)] at hn ⊢
      exact h.least p hp2 j hj hn
    · obtain rfl : p = o.length := by omega
      rw [gt_app_eq] at hj
      rw [List.take_left'  rfl] at hn ⊢
      have hkn : k < n := (h.all k).1 (.inl hk)
      rcases (h.all j).2 (by omega) with h1 | h1
      · obtain ⟨i, h2, h3⟩ := hl j hj h1
        exact ⟨i, h3, fun hm => by rw [h.not i hm] at h2; simp at h2⟩
      · exact absurd h1 hn

/-- nothing is free -/
structure Stuck (l : List graph_Edge) (x : Nat) : Prop where
  ne : x ≠ 0
  pre : ∀ j, x.testBit j = true → ∃ i, x.testBit i = true ∧ Ed l i j

theorem Part.len {n x : Nat} {l : List graph_Edge} {o : List Nat} (h : Part n l x o) : o.length ≤ n := by
  have hs : o ⊆ List.range n := fun j hj => List.mem_range.2 ((h.all j).1 (.inr hj))
  have := h.nd.length_le_of_subset hs
  simpa using this

theorem bits_less {x k : Nat} (hx : x < 65536) (hk : x.testBit k = true) : (bitsOf (andNot x (2 ^ k))).length < (bitsOf x).length := by
  have nd : (k :: bitsOf (andNot x (2 ^ k))).Nodup := by
    refine List.nodup_cons.2 ⟨fun h => ?_, (bits_sorted _).imp fun h => by omega⟩
    have := (mem_bits (andNot_lt hx)).1 h
    rw [andNot_bit, pow_bit] at this
    simp at this
  have hs : (k :: bitsOf (andNot x (2 ^ k))) ⊆ bitsOf x := by
    intro j hj
    rcases List.mem_cons.1 hj with rfl | hj
    · exact (mem_bits hx).2 hk
    · have := (mem_bits (andNot_lt hx)).1 hj
      rw [andNot_bit, Bool.and_eq_true] at this
      exact (mem_bits hx).2 this.1
  have := nd.length_le_of_subset hs
  rw [List.length_cons] at this
  omega

theorem order_spec {n : Nat} {l : Sl graph_Edge} (hb : l.l.length < 1000000) (hF : Fits n l.l) :
    (∃ s o, graph_Order (n : Int) l = some (s, true) ∧ s.l = ints o ∧ Part n l.l 0 o) ∨ (graph_Order (n : Int) l = some (.nil, false) ∧ ∃ x o, Part n l.l x o ∧ Stuck l.l x) := by
  have hn16 : n ≤ 16 := by have := hF.1; omega
  obtain ⟨to, h1, hN⟩ := next_spec hb hF
  obtain ⟨x6, h6, h7⟩ := ones16 hn16
  have hp2 : 2 ^ n ≤ 2 ^ 16 := Nat.pow_le_pow_right (by decide) hn16
  refine whileE (f := graph_Order_L1 (.mk (ints to))) (fun s => (bitsOf s.1.toNat).length) (fun s => ∃ x o, s.1 = ((x : Nat) : Int) ∧ s.2.l = ints o ∧ Part n l.l x o)
    (fun b => match b with | .inl _ => ∃ x o, Part n l.l x o ∧ Stuck l.l x | .inr s => ∃ o, s.l = ints o ∧ Part n l.l 0 o) ?_
    (((2 ^ n - 1 : Nat) : Int), .nil) ⟨_, [], rfl, rfl, ⟨by omega, fun j => by rw [Nat.testBit_two_pow_sub_one]; simp, fun j hj => by simp at hj, by simp, fun p hp => by simp at hp, fun p hp => by simp at hp⟩⟩ (fun b h2 h3 => ?_)
  · rintro ⟨i8, s9⟩ ⟨x, o, hx, hs, hP⟩
    simp only at hx hs
    subst hx
    by_cases h0 : x = 0
    · subst h0
      exact .inr ⟨.inr s9, by simp [graph_Order_L1], o, hs, hP⟩
    · have hne : ((x : Int) != 0) = true := by simp; omega
      obtain ⟨ov, ho, ho16, hob⟩ := over_spec hN hn16 (s := x) fun i hi => (hP.all i).1 (.inl hi)
      by_cases hy : andNot x ov = 0
      · right
        have e1 : (((andNot x ov : Nat) : Int) == 0) = true := by rw [hy]; rfl
        refine ⟨.inl (), by simp only [graph_Order_L1, hne, cond_true, ho, Option.bind_some, bAndNot16 hP.lt ho16, e1], x, o, hP, h0, fun j hj => (hob j).1 ?_⟩
        have := andNot_bit x ov j
        rw [hy, hj, Nat.zero_testBit] at this
        simpa using this.symm
      · left
        obtain ⟨k, m, hf⟩ := low_form _ hy
        obtain ⟨hz, hk16⟩ := tz (andNot_lt hP.lt) hf
        have e1 : (((andNot x ov : Nat) : Int) == 0) = false := by rw [beq_eq_false_iff_ne]; omega
        have hkb : (andNot x ov).testBit k = true := by rw [form_low hf]; simp
        rw [andNot_bit] at hkb
        simp only [Bool.and_eq_true, Bool.not_eq_true'] at hkb
        have hol := hP.len
        have hcap : capI (s9.l ++ [(k : Int)]) = some (s9.l ++ [(k : Int)]) := capI_of (by rw [hs, List.length_append, ints_len, List.length_singleton]; omega)
        have hpl : (2 ^ k : Nat) < 65536 := by
          have := Nat.pow_lt_pow_right (a := 2) (by decide) hk16
          omega
        refine ⟨(((andNot x (2 ^ k) : Nat) : Int), .mk (s9.l ++ [(k : Int)])), ?_, ⟨_, o ++ [k], rfl, by simp [hs, ints], ?_⟩, ?_⟩
        · simp only [graph_Order_L1, hne, cond_true, ho, Option.bind_some, bAndNot16 hP.lt ho16, e1, cond_false, hz, hcap, shl16 hk16, bAndNot16 hP.lt hpl]
        · refine hP.add hF hkb.1 (fun i he => ?_) fun j hj hxj => ?_
          · cases hxi : x.testBit i with
            | false => rfl
            | true => have := (hob k).2 ⟨i, hxi, he⟩; rw [hkb.2] at this; simp at this
          · have h4 : (andNot x ov).testBit j = false := by rw [form_low hf, if_pos hj]
            rw [andNot_bit, hxj] at h4
            exact (hob j).1 (by simpa using h4)
        · simp only [Int.toNat_natCast]
          exact bits_less hP.lt hkb.1
  · have hr : graph_Right (n : Int) l = some true := by rw [right_spec hb, decide_eq_true hF]
    cases b with
    | inl _ => exact .inr ⟨by simp only [graph_Order, hr, Option.bind_some, Bool.not_true, cond_false, h1, h6, h7, h2], h3⟩
    | inr s =>
      obtain ⟨o, h4, h5⟩ := h3
      exact .inl ⟨s, o, by simp only [graph_Order, hr, Option.bind_some, Bool.not_true, cond_false, h1, h6, h7, h2], h4, h5⟩

/-! ### Far -/

/-- a walk of so many edges that ends there -/
inductive Wk (l : List graph_Edge) : Nat → Nat → Prop
  | zero (i : Nat) : Wk l 0 i
  | step {d i j : Nat} (h : Wk l d i) (e : Ed l i j) : Wk l (d + 1) j

/-- how far each node is: each edge leads further, and there is a walk so long -/
theorem far_exact {n : Nat} {l : Sl graph_Edge} (hb : l.l.length < 1000000) (hF : Fits n l.l) {s : Sl Int} {o : List Nat} (hO : graph_Order (n : Int) l = some (s, true)) (hs : s.l = ints o) (hP : Part n l.l 0 o) :
    ∃ f : List Nat, graph_Far (n : Int) l = some (.mk (ints f), true) ∧ f.length = n ∧ (∀ i j, Ed l.l i j → gt f i < gt f j) ∧ ∀ i, Wk l.l (gt f i) i := by
  have hn16 : n ≤ 16 := by have := hF.1; omega
  obtain ⟨to, h1, hN⟩ := next_spec hb hF
  have hmk : mkI (0 : Int) (n : Int) (n : Int) = some (ints (List.replicate n 0)) := by
    rw [mkI, if_pos (by omega)]; simp [ints]
  have hol := hP.len
  have hsl : s.l.length = o.length := by rw [hs, ints_len]
  -- the state: each edge from an earlier node leads further
  let I (p : Nat) (f : List Nat) : Prop := f.length = n ∧ (∀ i, gt f i ≤ p) ∧ (∀ i, Wk l.l (gt f i) i) ∧ ∀ q, q < p → ∀ j, Ed l.l (gt o q) j → gt f (gt o q) < gt f j
  refine forE (f := graph_Far_L1 s (.mk (ints to))) (fun i (f : List Nat) => (ints f, (i : Int))) s.l.length I (fun b => ∃ f, b = ints f ∧ I s.l.length f) ?_ ?_ 0 (List.replicate n 0) (Nat.zero_le _) ⟨by simp, fun i => ?_, fun i => ?_, fun q hq => by omega⟩ (fun b h2 h3 => ?_)
  · intro p f hp ⟨i1, i2, i0, i3⟩
    have hpo : p < o.length := by rw [← hsl]; exact hp
    have hd : decide ((p : Int) < (s.l.length : Int)) = true := by rw [decide_eq_true_eq]; omega
    have hw : wr .i64 ((p : Int) + 1) = ((p + 1 : Nat) : Int) := by rw [wr_id (by omega) (by omega)]; omega
    have hg : gt s.l p = ((gt o p : Nat) : Int) := by rw [hs, ints_gt]
    have hon : gt o p < n := (hP.all _).1 (.inr (gt_mem hpo))
    have hkl : gt o p < (ints to).length := by rw [ints_len, hN.len]; exact hon
    obtain ⟨r, hr, hrl⟩ := list_spec (hN.lt (gt o p))
    have hbl := bits_len (gt to (gt o p))
    have hrlen : r.l.length = (bitsOf (gt to (gt o p))).length := by rw [hrl, ints_len]
    -- the nodes behind this one
    have hfwd : ∀ q j, q ≤ p → Ed l.l (gt o p) j → j ≠ gt o q := by
      intro q j hq he e
      subst e
      obtain ⟨q', hq', e⟩ := hP.topo q (by omega) _ he
      have := (List.getElem_inj (i := q') (j := p) (h₀ := by omega) (h₁ := hpo) hP.nd).1 (by rw [← gt_eq (show q' < o.length by omega), ← gt_eq hpo]; exact e)
      omega
    let J (t : Nat) (g : List Nat) : Prop := g.length = n ∧ (∀ i, gt g i ≤ p + 1) ∧ (∀ i, gt f i ≤ gt g i) ∧ (∀ q, q ≤ p → gt g (gt o q) = gt f (gt o q)) ∧ (∀ i, Wk l.l (gt g i) i) ∧ ∀ j ∈ (bitsOf (gt to (gt o p))).take t, gt f (gt o p) < gt g j
    refine forE (f := graph_Far_L2 s p r) (fun i (g : List Nat) => (ints g, (i : Int))) r.l.length J (fun b => ∃ g, b = ints g ∧ J r.l.length g) ?_ ?_ 0 f (Nat.zero_le _) ⟨i1, fun i => Nat.le_succ_of_le (i2 i), fun i => Nat.le_refl _, fun q hq => rfl, i0, by simp⟩ (fun b k2 k3 => ?_)
    · intro t g ht ⟨j1, j2, j3, j4, j0, j5⟩
      refine .inl ?_
      have ht2 : t < (bitsOf (gt to (gt o p))).length := by rw [← hrlen]; exact ht
      have hd : decide ((t : Int) < (r.l.length : Int)) = true := by rw [decide_eq_true_eq]; omega
      have hw : wr .i64 ((t : Int) + 1) = ((t + 1 : Nat) : Int) := by rw [wr_id (by omega) (by omega)]; omega
      generalize hk : gt (bitsOf (gt to (gt o p))) t = k
      have hgk : gt r.l t = (k : Int) := by rw [hrl, ints_gt, hk]
      have hkm : k ∈ bitsOf (gt to (gt o p)) := by rw [← hk]; exact gt_mem ht2
      have hke : Ed l.l (gt o p) k := (hN.bit _ _).1 ((mem_bits (hN.lt _)).1 hkm)
      have hkn := (hF.lt hke).2
      have hkg : k < (ints g).length := by rw [ints_len, j1]; exact hkn
      have hog : gt o p < (ints g).length := by rw [ints_len, j1]; exact hon
      have hgf : gt g (gt o p) = gt f (gt o p) := j4 p (Nat.le_refl _)
      have hfp := i2 (gt o p)
      have hw2 : wr .i64 (((gt g (gt o p) : Nat) : Int) + 1) = ((gt g (gt o p) + 1 : Nat) : Int) := by rw [wr_id (by omega) (by omega)]; omega
      have hmax : (if ((gt g (gt o p) + 1 : Nat) : Int) > ((gt g k : Nat) : Int) then ((gt g (gt o p) + 1 : Nat) : Int) else ((gt g k : Nat) : Int)) = ((max (gt g k) (gt g (gt o p) + 1) : Nat) : Int) := by
        split <;> omega
      have hset : ∀ j, gt (g.set k (max (gt g k) (gt g (gt o p) + 1))) j = if k = j then max (gt g k) (gt g (gt o p) + 1) else gt g j := fun j => gt_set (by rw [← ints_len]; exact hkg)
      refine ⟨g.set k (max (gt g k) (gt g (gt o p) + 1)), ?_, by rw [List.length_set]; exact j1, fun i => ?_, fun i => ?_, fun q hq => ?_, fun i => ?_, fun j hj => ?_⟩
      · simp only [graph_Far_L2, hd, cond_true, ixI_of ht, Option.bind_some, hgk, ixI_of hkg, hg, ixI_of hog, ints_gt, hw2, hmax, ints_set, hw]
      · rw [hset]; have := j2 i; have := j2 k; split <;> omega
      · rw [hset]; have := j3 i; split
        · rename_i e; subst e; omega
        · exact this
      · rw [hset, if_neg (hfwd q k hq hke)]; exact j4 q hq
      · rw [hset]
        split
        · rename_i e; subst e
          rcases Nat.le_total (gt g k) (gt g (gt o p) + 1) with h | h
          · rw [Nat.max_eq_right h]; exact (j0 _).step hke
          · rw [Nat.max_eq_left h]; exact j0 k
        · exact j0 i
      · rw [hset]
        have et : (bitsOf (gt to (gt o p))).take (t + 1) = (bitsOf (gt to (gt o p))).take t ++ [k] := by rw [← hk, gt_eq ht2, List.take_append_getElem ht2]
        rw [et] at hj
        split
        · rename_i e; subst e; omega
        · rename_i e
          rcases List.mem_append.1 hj with hj | hj
          · exact j5 j hj
          · rw [List.mem_singleton] at hj; exact absurd hj.symm e
    · intro g hJ
      have hd : decide ((r.l.length : Int) < (r.l.length : Int)) = false := by rw [decide_eq_false_iff_not]; omega
      exact ⟨ints g, by simp only [graph_Far_L2, hd, cond_false], g, rfl, hJ⟩
    · obtain ⟨g, rfl, j1, j2, j3, j4, j0, j5⟩ := k3
      have e0 : ((0 : Nat) : Int) = 0 := rfl
      rw [e0] at k2
      refine .inl ⟨g, ?_, j1, j2, j0, fun q hq j he => ?_⟩
      · have hkl' : gt o p < (Sl.mk (ints to)).l.length := hkl
        have hgt : gt (Sl.mk (ints to)).l (gt o p) = ((gt to (gt o p) : Nat) : Int) := ints_gt to _
        simp only [graph_Far_L1, hd, cond_true, ixI_of hp, Option.bind_some, hg, ixI_of hkl', hgt, hr, k2, hw]
      · rw [j4 q (by omega)]
        by_cases hqp : q = p
        · subst hqp
          refine j5 j ?_
          rw [List.take_of_length_le (by omega)]
          exact (mem_bits (hN.lt _)).2 ((hN.bit _ _).2 he)
        · exact Nat.lt_of_lt_of_le (i3 q (by omega) j he) (j3 j)
  · intro f hI
    have hd : decide ((s.l.length : Int) < (s.l.length : Int)) = false := by rw [decide_eq_false_iff_not]; omega
    exact ⟨ints f, by simp only [graph_Far_L1, hd, cond_false], f, rfl, hI⟩
  · have : gt (List.replicate n 0) i = 0 := by
      rcases Nat.lt_or_ge i n with h | h
      · rw [gt_eq (by simpa using h)]; simp
      · rw [gt_out (by simpa using h)]; rfl
    omega
  · have : gt (List.replicate n 0) i = 0 := by
      rcases Nat.lt_or_ge i n with h | h
      · rw [gt_eq (by simpa using h)]; simp
      · rw [gt_out (by simpa using h)]; rfl
    rw [this]; exact .zero i
  · obtain ⟨f, rfl, f1, f2, f0, f3⟩ := h3
    have e0 : ((0 : Nat) : Int) = 0 := rfl
    rw [e0] at h2
    refine ⟨f, by simp only [graph_Far, hO, Option.bind_some, Bool.not_true, cond_false, hmk, h1, h2], f1, fun i j he => ?_, f0⟩
    have hi := (hF.lt he).1
    rcases (hP.all i).2 hi with h | h
    · simp at h
    · obtain ⟨q, hq, rfl⟩ := mem_gt h
      exact f3 q (by rw [hsl]; exact hq) j he

theorem far_spec {n : Nat} {l : Sl graph_Edge} (hb : l.l.length < 1000000) (hF : Fits n l.l) {s : Sl Int} {o : List Nat} (hO : graph_Order (n : Int) l = some (s, true)) (hs : s.l = ints o) (hP : Part n l.l 0 o) :
    ∃ f : List Nat, graph_Far (n : Int) l = some (.mk (ints f), true) ∧ f.length = n ∧ ∀ i j, Ed l.l i j → gt f i < gt f j :=
  let ⟨f, h1, h2, h3, _⟩ := far_exact hb hF hO hs hP
  ⟨f, h1, h2, h3⟩
end Go.Proofs.YtjfhiochcdjkhaaDoor.G
