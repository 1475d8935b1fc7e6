/- The law HeapSorts: what was pushed is popped, rising, each as often as it was pushed. Conditions: none. -/
import Derived.Test.YtebcbdalaiefmaaHq
import Derived.Test.YtebcbdalaiefmaaHSame
import Derived.Test.YtebcbdalaiefmaaEvY
import Derived.Test.YtebcbdalaiefmaaRows
open Go.Ev Go
namespace Go.Proofs.Ytebcbdalaiefmaa.H

theorem awake : law13_awake = some true := by
  unfold law13_awake
  simp only [heap_New_int, Option.bind_some]
  obtain ⟨l1, h1, p1, q1⟩ := push_int (s := .nil) (x := 3) HeapM.hp_nil (by decide)
  simp only [h1, Option.bind_some]
  have n1 := p1.length_eq
  obtain ⟨l2, h2, p2, q2⟩ := push_int (s := .mk l1) (x := 1) q1 (by simp at n1 ⊢; omega)
  simp only [h2, Option.bind_some]
  have n2 := p2.length_eq
  obtain ⟨l3, h3, p3, q3⟩ := push_int (s := .mk l2) (x := 2) q2 (by simp at n1 n2 ⊢; omega)
  simp only [h3, Option.bind_some]
  have p : l3.Perm [2, 1, 3] := p3.trans (List.Perm.cons _ (p2.trans (List.Perm.cons _ p1)))
  have n3 := p.length_eq
  obtain ⟨l4, h4, p4, q4⟩ := pop_int (s := .mk l3) q3 (by intro h; simp at h; subst h; simp at n3) (by simp at n3 ⊢; omega)
  have m4 := least_int (s := .mk l3) q3
  simp only [Sl.l_mk] at h4 p4 m4
  have e4 : gt l3 0 = 1 := by
    have a := p4.symm.subset (p.symm.subset (show (1 : Int) ∈ [2, 1, 3] by simp))
    have b := p.subset (p4.subset (List.mem_cons_self))
    have c := m4 1 (p.symm.subset (by simp))
    simp only [lt_int, decide_eq_false_iff_not, List.mem_cons, List.not_mem_nil, or_false] at b c
    omega
  rw [e4] at h4 p4
  have p5 : l4.Perm [2, 3] := by
    have := p4.trans p
    exact List.Perm.cons_inv (this.trans (List.Perm.swap 1 2 [3]))
  have n5 := p5.length_eq
  simp only [h4, Option.bind_some]
  obtain ⟨l6, h6, p6, q6⟩ := pop_int (s := .mk l4) q4 (by intro h; simp at h; subst h; simp at n5) (by simp at n5 ⊢; omega)
  have m6 := least_int (s := .mk l4) q4
  simp only [Sl.l_mk] at h6 p6 m6
  have e6 : gt l4 0 = 2 := by
    have b := p5.subset (p6.subset (List.mem_cons_self))
    have c := m6 2 (p5.symm.subset (by simp))
    simp only [lt_int, decide_eq_false_iff_not, List.mem_cons, List.not_mem_nil, or_false] at b c
    omega
  rw [e6] at h6 p6
  have p7 : l6 = [3] := List.perm_singleton.1 (List.Perm.cons_inv (p6.trans p5))
  subst p7
  obtain ⟨s', o', h8, p8, q8, r8, t8, u8⟩ := drain_int 9 (s := .mk [3]) q6 (by simp)
  have e8 : s'.l = [] := by
    cases hs : s'.l with
    | nil => rfl
    | cons y r =>
      have a := u8 y (by rw [hs]; simp)
      have b := p8.subset (List.mem_append_right o'.l (show y ∈ s'.l by rw [hs]; simp))
      simp [lt_int] at a b
      omega
  rw [e8, List.append_nil] at p8
  have e9 : o'.l = [3] := List.perm_singleton.1 p8
  simp [h6, len_int, h8, same_eq, e9]

theorem sorts1 (l0 : Sl Int) (x : Int) (hb : l0.l.length ≤ 100) : ∀ (n i : Nat) (s : Sl Int), i + n = l0.l.length → Hq_int s → s.l.Perm (l0.l.take i) →
    ∃ s', loopO (law13_HeapSorts_L1 l0 x) (s, (((l0.l.take i).count x : Nat) : Int), (i : Int)) = some (s', ((l0.l.count x : Nat) : Int)) ∧ Hq_int s' ∧ s'.l.Perm l0.l := by
  intro n
  induction n with
  | zero =>
    intro i s hi hH hp
    have e : l0.l.take i = l0.l := List.take_of_length_le (by omega)
    rw [e] at hp ⊢
    refine ⟨s, loopO_inr (b := (s, _)) ?_, hH, hp⟩
    have : decide ((i : Int) < (l0.l.length : Int)) = false := by rw [decide_eq_false_iff_not]; omega
    simp only [law13_HeapSorts_L1, this, cond_false]
  | succ n ih =>
    intro i s hi hH hp
    have hi2 : i < l0.l.length := by omega
    have hd : decide ((i : Int) < (l0.l.length : Int)) = true := by rw [decide_eq_true_eq]; omega
    have hpl := hp.length_eq
    rw [List.length_take] at hpl
    obtain ⟨l', h1, h2, h3⟩ := push_int (x := gt l0.l i) hH (by omega)
    have hcl : (l0.l.take i).count x ≤ 100 := Nat.le_trans List.count_le_length (by rw [List.length_take]; omega)
    have et : l0.l.take (i + 1) = l0.l.take i ++ [gt l0.l i] := by rw [gt_eq hi2, List.take_append_getElem hi2]
    have hw : wr .i64 ((i : Int) + 1) = ((i + 1 : Nat) : Int) := by rw [wr_id (by omega) (by omega)]; omega
    have hstep : law13_HeapSorts_L1 l0 x (s, (((l0.l.take i).count x : Nat) : Int), (i : Int)) = some (.inl (.mk l', (((l0.l.take (i + 1)).count x : Nat) : Int), ((i + 1 : Nat) : Int))) := by
      simp only [law13_HeapSorts_L1, hd, cond_true, ixI_of hi2, Option.bind_some, h1, hw, et, List.count_append]
      by_cases hx : gt l0.l i = x
      · have : wr .i64 ((((l0.l.take i).count x : Nat) : Int) + 1) = (((l0.l.take i).count x + 1 : Nat) : Int) := by rw [wr_id (by omega) (by omega)]; omega
        simp [hx, this]
      · have : (gt l0.l i == x) = false := by simpa using hx
        simp [this, List.count_singleton]
    rw [loopO_inl hstep]
    refine ih (i + 1) (.mk l') (by omega) h3 ?_
    rw [et]
    exact h2.trans ((List.Perm.cons _ hp).trans (List.perm_append_singleton _ _).symm)

theorem sorts2 (l0 : Sl Int) (x : Int) (hb : l0.l.length ≤ 100) : ∀ (n i k : Nat) (s : Sl Int) (last : Int), i + n = l0.l.length → s.l.length = n → Hq_int s → k + s.l.count x = l0.l.count x → (0 < i → ∀ y ∈ s.l, last ≤ y) →
    ∃ s', loopO (law13_HeapSorts_L2 l0 x) (s, (k : Int), last, (i : Int)) = some (.inr (s', ((l0.l.count x : Nat) : Int))) ∧ s'.l = [] := by
  intro n
  induction n with
  | zero =>
    intro i k s last hi hs hH hk hlast
    have hs2 : s.l = [] := List.length_eq_zero_iff.1 hs
    refine ⟨s, loopO_inr (b := Sum.inr (s, _)) ?_, hs2⟩
    have : decide ((i : Int) < (l0.l.length : Int)) = false := by rw [decide_eq_false_iff_not]; omega
    rw [hs2] at hk
    simp only [law13_HeapSorts_L2, this, cond_false]
    have e : k = l0.l.count x := by simpa using hk
    rw [e]
  | succ n ih =>
    intro i k s last hi hs hH hk hlast
    have hd : decide ((i : Int) < (l0.l.length : Int)) = true := by rw [decide_eq_true_eq]; omega
    have h0 : s.l ≠ [] := by intro h; rw [h] at hs; simp at hs
    obtain ⟨l', h1, h2, h3⟩ := pop_int hH h0 (by omega)
    have hle := least_int hH
    have hmem : gt s.l 0 ∈ s.l := h2.subset List.mem_cons_self
    have hw : wr .i64 ((i : Int) + 1) = ((i + 1 : Nat) : Int) := by rw [wr_id (by omega) (by omega)]; omega
    have hcl : l0.l.count x ≤ 100 := Nat.le_trans List.count_le_length hb
    have hcount := h2.count_eq x
    rw [List.count_cons] at hcount
    have hbad : ((!true) || ((decide ((i : Int) > 0)) && (decide (gt s.l 0 < last)))) = false := by
      by_cases hi0 : 0 < i
      · have := hlast hi0 _ hmem
        have h5 : decide (gt s.l 0 < last) = false := by rw [decide_eq_false_iff_not]; omega
        rw [h5]; simp
      · have h5 : decide ((i : Int) > 0) = false := by rw [decide_eq_false_iff_not]; omega
        rw [h5]; simp
    have hlen := h2.length_eq
    simp only [List.length_cons] at hlen
    have hnext : ∀ y ∈ l', gt s.l 0 ≤ y := by
      intro y hy
      have := hle y (h2.subset (List.mem_cons_of_mem _ hy))
      simp only [lt_int, decide_eq_false_iff_not] at this
      omega
    by_cases hx : gt s.l 0 = x
    · have hstep : law13_HeapSorts_L2 l0 x (s, (k : Int), last, (i : Int)) = some (.inl (.mk l', ((k + 1 : Nat) : Int), gt s.l 0, ((i + 1 : Nat) : Int))) := by
        have : wr .i64 ((k : Int) + 1) = ((k + 1 : Nat) : Int) := by rw [wr_id (by omega) (by omega)]; omega
        have hbad' := hbad
        rw [hx] at hbad'
        simp only [law13_HeapSorts_L2, hd, cond_true, h1, Option.bind_some, cond_false, hw, this, hx, hbad', beq_self_eq_true]
      rw [loopO_inl hstep]
      refine ih (i + 1) (k + 1) (.mk l') _ (by omega) (by simp only [Sl.l_mk]; omega) h3 (by simp only [Sl.l_mk]; simp [hx] at hcount; omega) fun _ => hnext
    · have hstep : law13_HeapSorts_L2 l0 x (s, (k : Int), last, (i : Int)) = some (.inl (.mk l', (k : Int), gt s.l 0, ((i + 1 : Nat) : Int))) := by
        have : (gt s.l 0 == x) = false := by simpa using hx
        simp only [law13_HeapSorts_L2, hd, cond_true, h1, Option.bind_some, hbad, cond_false, hw, this]
      rw [loopO_inl hstep]
      refine ih (i + 1) k (.mk l') _ (by omega) (by simp only [Sl.l_mk]; omega) h3 (by simp only [Sl.l_mk]; simp [hx] at hcount; omega) fun _ => hnext

theorem sorts (l0 : Sl Int) (x : Int) : law13_HeapSorts l0 x = some true := by
  unfold law13_HeapSorts
  by_cases hb : l0.l.length ≤ 100
  · have hd : decide ((l0.l.length : Int) > 100) = false := by rw [decide_eq_false_iff_not]; omega
    rw [hd, cond_false]
    simp only [heap_New_int, Option.bind_some]
    obtain ⟨s1, h1, q1, p1⟩ := sorts1 l0 x hb l0.l.length 0 .nil (by omega) HeapM.hp_nil (by simp)
    have e : (((l0.l.take 0).count x : Nat) : Int) = 0 := by simp
    rw [e] at h1
    rw [show ((0 : Nat) : Int) = 0 from rfl] at h1
    simp only [h1, Option.bind_some]
    obtain ⟨s2, h2, e2⟩ := sorts2 l0 x hb l0.l.length 0 0 s1 0 (by omega) p1.length_eq q1 (by rw [p1.count_eq]; omega) (fun h => by omega)
    rw [show ((0 : Nat) : Int) = 0 from rfl] at h2
    simp only [h2, Option.bind_some, pop_none_int e2, awake]
    simp
  · have hd : decide ((l0.l.length : Int) > 100) = true := by rw [decide_eq_true_eq]; omega
    rw [hd, cond_true, awake]; rfl
end Go.Proofs.Ytebcbdalaiefmaa.H
