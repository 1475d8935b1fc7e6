/- The law GraphReach: what is reached is closed under edges, and transitive; more edges lead not to less. Conditions: none. -/
import Derived.Test.YtkhmijgbbbpddaaDoorG4L
import Derived.Test.YtkhmijgbbbpddaaDoorG4t
open Go.Ev Go
namespace Go.Proofs.YtkhmijgbbbpddaaDoor.G

inductive Rt (l : List graph_Edge) : Nat → Nat → Prop
  | refl (i : Nat) : Rt l i i
  | step {i j k : Nat} (h : Rt l i j) (e : Ed l j k) : Rt l i k

theorem Rt.trans {l : List graph_Edge} {i j k : Nat} (h : Rt l i j) (h2 : Rt l j k) : Rt l i k := by
  induction h2 with
  | refl => exact h
  | step _ e ih => exact ih.step e

theorem Rt.mono {l m : List graph_Edge} (hs : ∀ e ∈ l, e ∈ m) {i j : Nat} (h : Rt l i j) : Rt m i j := by
  induction h with
  | refl => exact .refl _
  | step _ e ih => obtain ⟨e, he, h⟩ := e; exact ih.step ⟨e, hs e he, h⟩

/-- what Reach tells -/
def Told (l : List graph_Edge) (a : Nat) (s : List Int) : Prop := ∃ x : Nat, x < 65536 ∧ s = ints (bitsOf x) ∧ ∀ j, x.testBit j = true ↔ Rt l a j

theorem reach_spec {n a : Nat} {l : Sl graph_Edge} (hb : l.l.length < 1000000) (hF : Fits n l.l) (ha : a < n) : ∃ s, graph_Reach (n : Int) l (a : Int) = some s ∧ Told l.l a s.l := by
  have hn16 : n ≤ 16 := by have := hF.1; omega
  obtain ⟨to, h1, hN⟩ := next_spec hb hF
  have hp : 2 ^ a < 65536 := by
    have := Nat.pow_lt_pow_right (a := 2) (by decide) (show a < 16 by omega)
    omega
  have hlt : ∀ {x : Nat}, (∀ j, x.testBit j = true → Rt l.l a j) → ∀ j, x.testBit j = true → j < n := fun h j hj => by
    cases h j hj with
    | refl => exact ha
    | step _ e => exact (hF.lt e).2
  refine whileE (f := graph_Reach_L1 (.mk (ints to))) (fun s => 65536 - s.toNat) (fun s => ∃ x : Nat, s = (x : Int) ∧ x < 65536 ∧ x.testBit a = true ∧ ∀ j, x.testBit j = true → Rt l.l a j) (fun s => Told l.l a s.l) ?_
    ((2 ^ a : Nat) : Int) ⟨2 ^ a, rfl, hp, by rw [pow_bit]; simp, fun j hj => ?_⟩ (fun b h2 h3 => ?_)
  · rintro _ ⟨x, rfl, hx, hxa, hxr⟩
    obtain ⟨o, ho, ho16, hob⟩ := over_spec hN hn16 (hlt hxr)
    by_cases he : x ||| o = x
    · right
      obtain ⟨r, hr, hrl⟩ := list_spec hx
      have e1 : (((x ||| o : Nat) : Int) == (x : Int)) = true := by rw [he]; simp
      refine ⟨r, by simp only [graph_Reach_L1, ho, Option.bind_some, bOr16 hx ho16, e1, cond_true, hr], x, hx, hrl, fun j => ⟨hxr j, fun h => ?_⟩⟩
      induction h with
      | refl => exact hxa
      | step _ e ih =>
        rw [← he, Nat.testBit_or, (hob _).2 ⟨_, ih, e⟩, Bool.or_true]
    · left
      have e1 : (((x ||| o : Nat) : Int) == (x : Int)) = false := by rw [beq_eq_false_iff_ne]; omega
      have hle : x ≤ x ||| o := Nat.left_le_or
      have hlt2 := or_lt hx ho16
      refine ⟨((x ||| o : Nat) : Int), by simp only [graph_Reach_L1, ho, Option.bind_some, bOr16 hx ho16, e1, cond_false], ⟨_, rfl, hlt2, by rw [Nat.testBit_or, hxa]; rfl, fun j hj => ?_⟩, ?_⟩
      · rw [Nat.testBit_or, Bool.or_eq_true] at hj
        rcases hj with hj | hj
        · exact hxr j hj
        · obtain ⟨i, hi, e⟩ := (hob j).1 hj
          exact (hxr i hi).step e
      · simp only [Int.toNat_natCast]; omega
  · rw [pow_bit, decide_eq_true_eq] at hj; subst hj; exact .refl _
  · refine ⟨b, ?_, h3⟩
    have hc : ((!(decide (Fits n l.l))) || ((decide ((a : Int) < 0)) || (decide ((a : Int) ≥ (n : Int))))) = false := by
      simp only [hF, decide_true, Bool.not_true, Bool.false_or, Bool.or_eq_false_iff, decide_eq_false_iff_not]; omega
    simp only [graph_Reach, right_spec hb, Option.bind_some, hc, cond_false, h1, shl16 (show a < 16 by omega), h2]

theorem Told.mem {l : List graph_Edge} {a : Nat} {s : List Int} (h : Told l a s) {j : Int} : j ∈ s ↔ ∃ k : Nat, j = k ∧ Rt l a k := by
  obtain ⟨x, hx, rfl, hb⟩ := h
  rw [ints_mem]
  constructor
  · rintro ⟨y, hy, rfl⟩; exact ⟨y, rfl, (hb y).1 ((mem_bits hx).1 hy)⟩
  · rintro ⟨k, rfl, h⟩; exact ⟨k, (mem_bits hx).2 ((hb k).2 h), rfl⟩

theorem Told.len {l : List graph_Edge} {a : Nat} {s : List Int} (h : Told l a s) : s.length ≤ 16 := by
  obtain ⟨x, hx, rfl, hb⟩ := h
  rw [ints_len]; exact bits_len x

theorem Told.up {l : List graph_Edge} {a : Nat} {s : List Int} (h : Told l a s) {i j : Nat} (hij : i < j) (hj : j < s.length) : gt s i < gt s j := by
  obtain ⟨x, hx, rfl, hb⟩ := h
  rw [ints_len] at hj
  rw [ints_gt, ints_gt, gt_eq hj, gt_eq (show i < (bitsOf x).length by omega)]
  have := List.pairwise_iff_getElem.1 (bits_sorted x) i j (by omega) hj hij
  omega

theorem reach (n : Int) (l : Sl ref20_Edge) (a t : Int) (more : ref20_Edge) : law20_GraphReach n l a t more = some true := by
  have aw := law20_awake_runs
  unfold law20_GraphReach
  by_cases hl : l.l.length ≤ 60
  rotate_left
  · have hd : decide ((l.l.length : Int) > 60) = true := by rw [decide_eq_true_eq]; omega
    simp only [hd, cond_true, Option.bind_some, aw]
  have hd : decide ((l.l.length : Int) > 60) = false := by rw [decide_eq_false_iff_not]; omega
  have hr := rright_spec (n := n) (l := l) (by omega)
  have hr2 : ref20_Right n (.mk [more]) = some (decide (Fits n [conv more])) := rright_spec (l := .mk [more]) (by simp)
  by_cases hF : Fits n (l.l.map conv)
  rotate_left
  · simp only [hd, cond_false, hr, hF, decide_false, Option.bind_some, Bool.not_false, cond_true, aw]
  by_cases ha : 0 ≤ a ∧ a < n
  rotate_left
  · have : decide (a < 0) = true ∨ decide (a ≥ n) = true := by simp only [decide_eq_true_eq]; omega
    rcases Decidable.em (a < 0) with h | h
    · simp only [hd, cond_false, hr, hF, decide_true, Option.bind_some, Bool.not_true, h, cond_true, aw]
    · have h2 : a ≥ n := by omega
      simp only [hd, cond_false, hr, hF, decide_true, Option.bind_some, Bool.not_true, h, decide_false, h2, cond_true, aw]
  have ha1 : decide (a < 0) = false := by rw [decide_eq_false_iff_not]; omega
  have ha2 : decide (a ≥ n) = false := by rw [decide_eq_false_iff_not]; omega
  by_cases hF2 : Fits n [conv more]
  rotate_left
  · have hr3 : ref20_Right n (.mk [more]) = some false := by rw [hr2, decide_eq_false hF2]
    simp only [hd, cond_false, hr, hF, decide_true, Option.bind_some, Bool.not_true, ha1, ha2, hr3, Bool.not_false, cond_true, aw]
  have hr3 : ref20_Right n (.mk [more]) = some true := by rw [hr2, decide_eq_true hF2]
  obtain ⟨m, hm, hml⟩ := mine_spec l hl
  have hmlen : m.l.length ≤ 60 := by rw [hml, List.length_map]; exact hl
  obtain ⟨N, rfl⟩ : ∃ N : Nat, n = (N : Int) := ⟨n.toNat, by omega⟩
  obtain ⟨A, rfl⟩ : ∃ A : Nat, a = (A : Int) := ⟨a.toNat, by omega⟩
  have hFm : Fits N m.l := by rw [hml]; exact hF
  have hFm2 : Fits N (m.l ++ [conv more]) := ⟨hFm.1, fun e he => by
    rcases List.mem_append.1 he with he | he
    · exact hFm.2 e he
    · exact hF2.2 e he⟩
  obtain ⟨r1, h1, t1⟩ := reach_spec (l := m) (by omega) hFm (show A < N by omega)
  obtain ⟨r2, h2, t2⟩ := reach_spec (l := .mk (m.l ++ [conv more])) (by simp; omega) hFm2 (show A < N by omega)
  have hcap : capI (m.l ++ [(⟨more.From, more.To⟩ : graph_Edge)]) = some (m.l ++ [conv more]) := capI_of (by simp; omega)
  have hl1 := t1.len
  have hl2 := t2.len
  simp only [hd, cond_false, hr, hF, decide_true, Option.bind_some, Bool.not_true, ha1, ha2, hr3, hm, h1, hcap, h2]
  have k1 : loopO (law20_GraphReach_L1 r1 r2) 0 = some (.inr ()) := by
    refine forE (f := law20_GraphReach_L1 r1 r2) (fun i (_ : Unit) => (i : Int)) r1.l.length (fun _ _ => True) (fun b => b = .inr ()) ?_ ?_ 0 () (Nat.zero_le _) trivial (fun b q1 q2 => ?_)
    · intro i _ hi _
      refine .inl ⟨(), ?_, trivial⟩
      have hd : decide ((i : Int) < (r1.l.length : Int)) = true := by rw [decide_eq_true_eq]; omega
      have hw : wr .i64 ((i : Int) + 1) = ((i + 1 : Nat) : Int) := by rw [wr_id (by omega) (by omega)]; omega
      obtain ⟨p, hp, hpl⟩ := place_spec r2 (gt r1.l i) (by omega)
      have hmem : gt r1.l i ∈ r2.l := by
        obtain ⟨k, hk, hkr⟩ := t1.mem.1 (show gt r1.l i ∈ r1.l by rw [gt_eq hi]; exact List.getElem_mem _)
        exact t2.mem.2 ⟨k, hk, hkr.mono fun e he => List.mem_append_left _ he⟩
      have hp0 : decide (p < 0) = false := by rw [decide_eq_false_iff_not, hpl.neg]; exact fun h => h hmem
      by_cases hi0 : 0 < i
      · have hi1 : decide ((i : Int) > 0) = true := by rw [decide_eq_true_eq]; omega
        have hw2 : wr .i64 ((i : Int) - 1) = ((i - 1 : Nat) : Int) := by rw [wr_id (by omega) (by omega)]; omega
        have hj : i - 1 < r1.l.length := by omega
        have hup := t1.up (i := i - 1) (j := i) (by omega) hi
        have hge : decide ((gt r1.l (i - 1)) ≥ (gt r1.l i)) = false := by rw [decide_eq_false_iff_not]; omega
        simp only [law20_GraphReach_L1, hd, cond_true, ixI_of hi, Option.bind_some, hp, hp0, cond_false, hi1, hw2, ixI_of hj, hge, hw]
      · have hi1 : decide ((i : Int) > 0) = false := by rw [decide_eq_false_iff_not]; omega
        simp only [law20_GraphReach_L1, hd, cond_true, ixI_of hi, Option.bind_some, hp, hp0, cond_false, hi1, hw]
    · intro _ _
      have hd : decide ((r1.l.length : Int) < (r1.l.length : Int)) = false := by rw [decide_eq_false_iff_not]; omega
      exact ⟨_, by simp only [law20_GraphReach_L1, hd, cond_false], rfl⟩
    · subst q2; exact q1
  have k2 : loopO (law20_GraphReach_L2 l r1) 0 = some (.inr ()) := by
    refine forE (f := law20_GraphReach_L2 l r1) (fun i (_ : Unit) => (i : Int)) l.l.length (fun _ _ => True) (fun b => b = .inr ()) ?_ ?_ 0 () (Nat.zero_le _) trivial (fun b q1 q2 => ?_)
    · intro i _ hi _
      refine .inl ⟨(), ?_, trivial⟩
      have hd : decide ((i : Int) < (l.l.length : Int)) = true := by rw [decide_eq_true_eq]; omega
      have hw : wr .i64 ((i : Int) + 1) = ((i + 1 : Nat) : Int) := by rw [wr_id (by omega) (by omega)]; omega
      obtain ⟨p, hp, hpl⟩ := place_spec r1 (gt l.l i).From (by omega)
      obtain ⟨q, hq, hql⟩ := place_spec r1 (gt l.l i).To (by omega)
      have hin : conv (gt l.l i) ∈ m.l := by rw [hml, gt_eq hi]; exact List.mem_map_of_mem (List.getElem_mem _)
      by_cases hp0 : p < 0
      · have hp1 : decide (p ≥ 0) = false := by rw [decide_eq_false_iff_not]; omega
        simp only [law20_GraphReach_L2, hd, cond_true, ixI_of hi, Option.bind_some, hp, hp1, cond_false, hw]
      · have hp1 : decide (p ≥ 0) = true := by rw [decide_eq_true_eq]; omega
        have hmem : (gt l.l i).From ∈ r1.l := by
          rw [hpl.neg] at hp0; exact Decidable.not_not.1 hp0
        have hmem2 : (gt l.l i).To ∈ r1.l := by
          obtain ⟨k, hk, hkr⟩ := t1.mem.1 hmem
          have hfit := (hFm.2 _ hin).2
          have hfit' : 0 ≤ (gt l.l i).To ∧ (gt l.l i).To < N := hfit
          refine t1.mem.2 ⟨(gt l.l i).To.toNat, by omega, hkr.step ⟨_, hin, hk, ?_⟩⟩
          show (gt l.l i).To = _
          omega
        have hq1 : decide (q < 0) = false := by rw [decide_eq_false_iff_not, hql.neg]; exact fun h => h hmem2
        simp only [law20_GraphReach_L2, hd, cond_true, ixI_of hi, Option.bind_some, hp, hp1, hq, hq1, cond_false, hw]
    · intro _ _
      have hd : decide ((l.l.length : Int) < (l.l.length : Int)) = false := by rw [decide_eq_false_iff_not]; omega
      exact ⟨_, by simp only [law20_GraphReach_L2, hd, cond_false], rfl⟩
    · subst q2; exact q1
  obtain ⟨p, hp, hpl⟩ := place_spec r1 (A : Int) (by omega)
  obtain ⟨q, hq, hql⟩ := place_spec r1 t (by omega)
  have hp0 : ¬ p < 0 := by rw [hpl.neg]; exact fun h => h (t1.mem.2 ⟨A, rfl, .refl _⟩)
  have hp1 : decide (p < 0) = false := by rw [decide_eq_false_iff_not]; exact hp0
  have hp2 : decide (p ≥ 0) = true := by rw [decide_eq_true_eq]; omega
  simp only [k1, k2, Option.bind_some, hp, hp1, cond_false, hq]
  by_cases hq0 : q < 0
  · have hq1 : decide (q < 0) = true := by rw [decide_eq_true_eq]; exact hq0
    simp only [hq1, cond_true, hp2, aw, Option.bind_some]
  · have hq1 : decide (q < 0) = false := by rw [decide_eq_false_iff_not]; exact hq0
    rw [hq1, cond_false]
    rw [hql.neg] at hq0
    obtain ⟨T, rfl, hT⟩ := t1.mem.1 (Decidable.not_not.1 hq0)
    have hTN : T < N := by
      cases hT with
      | refl => omega
      | step _ e => exact (hFm.lt e).2
    obtain ⟨r3, h3, t3⟩ := reach_spec (l := m) (by omega) hFm hTN
    have hl3 := t3.len
    have k3 : loopO (law20_GraphReach_L3 r1 r3) 0 = some (.inr ()) := by
      refine forE (f := law20_GraphReach_L3 r1 r3) (fun i (_ : Unit) => (i : Int)) r3.l.length (fun _ _ => True) (fun b => b = .inr ()) ?_ ?_ 0 () (Nat.zero_le _) trivial (fun b q1 q2 => ?_)
      · intro i _ hi _
        refine .inl ⟨(), ?_, trivial⟩
        have hd : decide ((i : Int) < (r3.l.length : Int)) = true := by rw [decide_eq_true_eq]; omega
        have hw : wr .i64 ((i : Int) + 1) = ((i + 1 : Nat) : Int) := by rw [wr_id (by omega) (by omega)]; omega
        obtain ⟨p, hp, hpl⟩ := place_spec r1 (gt r3.l i) (by omega)
        have hmem : gt r3.l i ∈ r1.l := by
          obtain ⟨k, hk, hkr⟩ := t3.mem.1 (show gt r3.l i ∈ r3.l by rw [gt_eq hi]; exact List.getElem_mem _)
          exact t1.mem.2 ⟨k, hk, hT.trans hkr⟩
        have hp0 : decide (p < 0) = false := by rw [decide_eq_false_iff_not, hpl.neg]; exact fun h => h hmem
        simp only [law20_GraphReach_L3, hd, cond_true, ixI_of hi, Option.bind_some, hp, hp0, cond_false, hw]
      · intro _ _
        have hd : decide ((r3.l.length : Int) < (r3.l.length : Int)) = false := by rw [decide_eq_false_iff_not]; omega
        exact ⟨_, by simp only [law20_GraphReach_L3, hd, cond_false], rfl⟩
      · subst q2; exact q1
    simp only [h3, Option.bind_some, k3, aw]
end Go.Proofs.YtkhmijgbbbpddaaDoor.G
