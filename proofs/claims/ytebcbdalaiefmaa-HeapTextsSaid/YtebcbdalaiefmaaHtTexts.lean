/- The law HeapTexts: a queue of texts drains what is not above, rising; a nil queue is empty. Conditions: none. -/
import Derived.Test.YtebcbdalaiefmaaHtqs
import Derived.Test.YtebcbdalaiefmaaHtAwake
open Go.Ev Go
namespace Go.Proofs.Ytebcbdalaiefmaa.H

theorem le_string (m x : ByteArray) : (Op.bytesLess x.toList m.toList || (x.toList == m.toList)) = !lt_string m x := by
  rw [Bool.eq_iff_iff]
  simp only [lt_string, bl_lt, Bool.or_eq_true, decide_eq_true_eq, beq_iff_eq, Bool.not_eq_true', decide_eq_false_iff_not, List.not_lt]
  constructor
  · rintro (h | h)
    · exact List.le_of_lt h
    · rw [h]; exact List.le_refl _
  · intro h
    rcases Decidable.em (x.toList < m.toList) with h2 | h2
    · exact .inl h2
    · exact .inr (List.le_antisymm h (List.not_lt.1 h2))

/-- how many are not above -/
abbrev cnt (m : ByteArray) (l : List ByteArray) : Nat := l.countP (fun x => !lt_string m x)

theorem texts1 (l0 : Sl ByteArray) (m : ByteArray) (hb : l0.l.length ≤ 40) : ∀ (n i : Nat) (s : Sl ByteArray), i + n = l0.l.length → Hq_string s → s.l.Perm (l0.l.take i) →
    loopO (law13_HeapTexts_L1 l0 m) (s, ((cnt m (l0.l.take i) : Nat) : Int), (i : Int)) = some (.inl true) ∨
    ∃ s', loopO (law13_HeapTexts_L1 l0 m) (s, ((cnt m (l0.l.take i) : Nat) : Int), (i : Int)) = some (.inr (s', ((cnt m l0.l : Nat) : Int))) ∧ Hq_string s' ∧ s'.l.Perm l0.l := by
  intro n
  induction n with
  | zero =>
    intro i s hi hH hp
    have e : l0.l.take i = l0.l := List.take_of_length_le (by omega)
    rw [e] at hp ⊢
    refine .inr ⟨s, loopO_inr (b := Sum.inr (s, _)) ?_, hH, hp⟩
    have : decide ((i : Int) < (l0.l.length : Int)) = false := by rw [decide_eq_false_iff_not]; omega
    simp only [law13_HeapTexts_L1, this, cond_false]
  | succ n ih =>
    intro i s hi hH hp
    have hi2 : i < l0.l.length := by omega
    have hd : decide ((i : Int) < (l0.l.length : Int)) = true := by rw [decide_eq_true_eq]; omega
    have hpl := hp.length_eq
    rw [List.length_take] at hpl
    obtain ⟨l', h1, h2, h3⟩ := push_string (x := gt l0.l i) hH (by omega)
    have hcl : cnt m (l0.l.take i) ≤ 40 := Nat.le_trans List.countP_le_length (by rw [List.length_take]; omega)
    have et : l0.l.take (i + 1) = l0.l.take i ++ [gt l0.l i] := by rw [gt_eq hi2, List.take_append_getElem hi2]
    have hw : wr .i64 ((i : Int) + 1) = ((i + 1 : Nat) : Int) := by rw [wr_id (by omega) (by omega)]; omega
    by_cases h60 : ((gt l0.l i).size : Int) > 60
    · left
      refine loopO_inr (b := Sum.inl true) ?_
      simp only [law13_HeapTexts_L1, hd, cond_true, ixI_of hi2, Option.bind_some, h60, decide_true, awake]
    · have hstep : law13_HeapTexts_L1 l0 m (s, ((cnt m (l0.l.take i) : Nat) : Int), (i : Int)) = some (.inl (.mk l', ((cnt m (l0.l.take (i + 1)) : Nat) : Int), ((i + 1 : Nat) : Int))) := by
        simp only [law13_HeapTexts_L1, hd, cond_true, ixI_of hi2, Option.bind_some, h60, decide_false, cond_false, h1, le_string, hw, et, cnt, List.countP_append]
        cases hx : lt_string m (gt l0.l i) with
        | true => simp [hx]
        | false =>
          have : wr .i64 (((List.countP (fun x => !lt_string m x) (l0.l.take i) : Nat) : Int) + 1) = ((List.countP (fun x => !lt_string m x) (l0.l.take i) + 1 : Nat) : Int) := by
            have : List.countP (fun x => !lt_string m x) (l0.l.take i) ≤ 40 := hcl
            rw [wr_id (by omega) (by omega)]; omega
          simp [hx, this]
      rw [loopO_inl hstep]
      refine ih (i + 1) (.mk l') (by omega) h3 ?_
      rw [et]
      exact h2.trans ((List.Perm.cons _ hp).trans (List.perm_append_singleton _ _).symm)

theorem texts2 (m : ByteArray) (o : Sl ByteArray) (hb : o.l.length ≤ 40) (hp : o.l.Pairwise (fun a b => lt_string b a = false)) (ho : ∀ x ∈ o.l, lt_string m x = false) :
    ∀ (n i : Nat), i + n = o.l.length → loopO (law13_HeapTexts_L2 m o) (i : Int) = some (.inr ()) := by
  intro n
  induction n with
  | zero =>
    intro i hi
    refine loopO_inr (b := Sum.inr ()) ?_
    have : decide ((i : Int) < (o.l.length : Int)) = false := by rw [decide_eq_false_iff_not]; omega
    simp only [law13_HeapTexts_L2, this, cond_false]
  | succ n ih =>
    intro i hi
    have hi2 : i < o.l.length := by omega
    have hd : decide ((i : Int) < (o.l.length : Int)) = true := by rw [decide_eq_true_eq]; omega
    have hw : wr .i64 ((i : Int) + 1) = ((i + 1 : Nat) : Int) := by rw [wr_id (by omega) (by omega)]; omega
    have hle : (!(Op.bytesLess (gt o.l i).toList m.toList || ((gt o.l i).toList == m.toList))) = false := by
      rw [le_string, ho _ (by rw [gt_eq hi2]; exact List.getElem_mem _)]; rfl
    have hstep : law13_HeapTexts_L2 m o (i : Int) = some (.inl ((i + 1 : Nat) : Int)) := by
      by_cases h0 : 0 < i
      · have hp0 : decide ((i : Int) > 0) = true := by rw [decide_eq_true_eq]; omega
        have hj : i - 1 < o.l.length := by omega
        have hw2 : wr .i64 ((i : Int) - 1) = ((i - 1 : Nat) : Int) := by rw [wr_id (by omega) (by omega)]; omega
        have hlt : Op.bytesLess (gt o.l i).toList (gt o.l (i - 1)).toList = false := by
          rw [gt_eq hi2, gt_eq hj]
          exact List.pairwise_iff_getElem.1 hp (i - 1) i hj hi2 (by omega)
        simp only [law13_HeapTexts_L2, hd, cond_true, ixI_of hi2, Option.bind_some, hle, cond_false, hp0, hw2, ixI_of hj, hlt, hw]
      · have hp0 : decide ((i : Int) > 0) = false := by rw [decide_eq_false_iff_not]; omega
        simp only [law13_HeapTexts_L2, hd, cond_true, ixI_of hi2, Option.bind_some, hle, cond_false, hp0, hw]
    rw [loopO_inl hstep]
    exact ih (i + 1) (by omega)

theorem drain_none (m : ByteArray) : heap_Queue_string_Drain_nil m = some .nil := by
  have : loopO (heap_Queue_string_Drain_nil_L1 m) Sl.nil = some .nil := by
    refine loopO_inr (b := Sl.nil) ?_
    simp [heap_Queue_string_Drain_nil_L1, heap_Queue_string_Peek_nil, heap_Queue_string_Len_nil]
  simp only [heap_Queue_string_Drain_nil, this, Option.bind_some]

theorem pop_none (m : ByteArray) : heap_Queue_string_Pop_nil = some ((⟨#[]⟩ : ByteArray), false) ∧ heap_Queue_string_Push_nil m = some () := by
  constructor
  · simp [heap_Queue_string_Pop_nil, heap_Queue_string_Peek_nil, heap_Queue_string_Len_nil]
  · rfl

theorem texts (l0 : Sl ByteArray) (m : ByteArray) : law13_HeapTexts l0 m = some true := by
  unfold law13_HeapTexts
  by_cases hb : l0.l.length ≤ 40
  · have hd : decide ((l0.l.length : Int) > 40) = false := by rw [decide_eq_false_iff_not]; omega
    rw [hd, cond_false]
    simp only [heap_New_string, Option.bind_some]
    have h1 := texts1 l0 m hb l0.l.length 0 .nil (by omega) HeapM.hp_nil (by simp)
    have e : ((cnt m (l0.l.take 0) : Nat) : Int) = 0 := by simp [cnt]
    rw [e, show ((0 : Nat) : Int) = 0 from rfl] at h1
    rcases h1 with h1 | ⟨s1, h1, q1, p1⟩
    · simp only [h1, Option.bind_some]
    · obtain ⟨s2, o2, h2, p2, q2, r2, t2, u2⟩ := drain_string m q1 (by have := p1.length_eq; omega)
      have hall := p2.trans p1
      have hlen := hall.length_eq
      rw [List.length_append] at hlen
      have hc : o2.l.length = cnt m l0.l := by
        have := hall.countP_eq (fun x => !lt_string m x)
        rw [List.countP_append, List.countP_eq_length.2 (fun x hx => by rw [t2 x hx]; rfl), List.countP_eq_zero.2 (fun x hx => by rw [u2 x hx]; simp)] at this
        simpa using this
      have h3 := texts2 m o2 (by omega) r2 t2 o2.l.length 0 (by omega)
      rw [show ((0 : Nat) : Int) = 0 from rfl] at h3
      have hw : wr .i64 ((l0.l.length : Int) - ((cnt m l0.l : Nat) : Int)) = (s2.l.length : Int) := by rw [wr_id (by omega) (by omega)]; omega
      have hlast : (⟨#[]⟩ : ByteArray).toList = (⟨#[]⟩ : ByteArray).toList := rfl
      simp only [h1, Option.bind_some, h2, h3, (pop_none m).1, (pop_none m).2, drain_none, len_string, hw, hc, awake, heap_Queue_string_Len_nil, heap_Queue_string_Drop_nil]
      simp
  · have hd : decide ((l0.l.length : Int) > 40) = true := by rw [decide_eq_true_eq]; omega
    rw [hd, cond_true, awake]; rfl
end Go.Proofs.Ytebcbdalaiefmaa.H
