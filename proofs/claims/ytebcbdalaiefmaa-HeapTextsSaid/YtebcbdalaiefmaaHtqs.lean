/- A queue of one type: pushing, popping, draining. Conditions: the queue is a heap; lengths below 2^31. -/
import Derived.Test.YtebcbdalaiefmaaH5
import Derived.Test.YtebcbdalaiefmaaHeapM
import Derived.Laws.Strings
open Go.Ev Go
namespace Go.Proofs.Ytebcbdalaiefmaa.H

def lt_string (a b : ByteArray) : Bool := Op.bytesLess a.toList b.toList

theorem bl_lt : ∀ (x y : List UInt8), Op.bytesLess x y = decide (x < y)
  | [], [] => by simp [Op.bytesLess]
  | _ :: _, [] => by simp [Op.bytesLess]
  | [], _ :: _ => by simp [Op.bytesLess]
  | a :: x, b :: y => by
    rw [Op.bytesLess, bl_lt x y]
    by_cases h : a < b
    · simp [h, List.cons_lt_cons_iff]
    · by_cases h2 : a = b
      · subst h2; simp [List.cons_lt_cons_iff]
      · simp [h, h2, List.cons_lt_cons_iff]

theorem bl_data (a : ByteArray) : a.toList = a.data.toList := ByteArray.toList_eq a

theorem bl_inj {a b : ByteArray} (h : a.toList = b.toList) : a = b := by
  rw [bl_data, bl_data] at h
  cases a; cases b
  simp only [ByteArray.mk.injEq]
  exact Array.toList_inj.1 h

theorem ord_string : Ordd lt_string where
  irr a := by simp only [lt_string, bl_lt, decide_eq_false_iff_not]; exact List.lt_irrefl _
  tr a b c h1 h2 := by
    simp only [lt_string, bl_lt, decide_eq_false_iff_not, List.not_lt] at *
    exact List.le_trans h2 h1
  asym a b h := by
    simp only [lt_string, bl_lt, decide_eq_false_iff_not, decide_eq_true_eq, List.not_lt] at *
    exact List.le_of_lt h
  tot a b h1 h2 := by
    simp only [lt_string, bl_lt, decide_eq_false_iff_not, List.not_lt] at *
    exact bl_inj (List.le_antisymm h2 h1)

theorem less_string (a b : ByteArray) : cmp_Less_string a b = some (lt_string a b) := by simp [cmp_Less_string, cmp_isNaN_string, lt_string]

/-- a queue is a heap -/
abbrev Hq_string (s : Sl ByteArray) : Prop := HeapM.Hp lt_string s.l

theorem push_string {s : Sl ByteArray} {x : ByteArray} (hH : Hq_string s) (hb : s.l.length < 2147483648) :
    ∃ l', heap_Queue_string_Push ⟨s⟩ x = some ⟨.mk l'⟩ ∧ l'.Perm (x :: s.l) ∧ Hq_string (.mk l') := by
  obtain ⟨l', h1, h2⟩ := HeapM.push_spec (s := s) ord_string less_string (x := x) hH hb
  refine ⟨l', ?_, h2⟩
  unfold HeapM.pushG at h1
  obtain ⟨l1, h3, h4⟩ := Option.bind_eq_some_iff.1 h1
  simp only [heap_Queue_string_Push, h3, Option.bind_some, heap_Queue_string_up, show heap_Queue_string_up_L1 = HeapM.upL cmp_Less_string from rfl, h4]

theorem take_string {l : List ByteArray} {i : Nat} (hH : Hq_string (.mk l)) (hi : i < l.length) (hb : l.length < 2147483648) :
    ∃ l', heap_Queue_string_take ⟨.mk l⟩ (i : Int) = some ⟨.mk l'⟩ ∧ (gt l i :: l').Perm l ∧ Hq_string (.mk l') := by
  obtain ⟨l', h1, h2⟩ := HeapM.take_spec (l := l) ord_string less_string hH hi hb
  refine ⟨l', ?_, h2⟩
  unfold HeapM.takeG at h1
  obtain ⟨n1, h3, h1⟩ := Option.bind_eq_some_iff.1 h1
  obtain ⟨n3, h4, h1⟩ := Option.bind_eq_some_iff.1 h1
  obtain ⟨l6, h5, h1⟩ := Option.bind_eq_some_iff.1 h1
  simp only [heap_Queue_string_take, h3, h4, h5, Option.bind_some]
  cases hc : decide ((i : Int) < wr .i64 (((Sl.mk l).l.length : Int) - 1)) with
  | false =>
    rw [hc, cond_false] at h1
    rw [cond_false]
    obtain rfl : l6 = l' := by simpa using h1
    rfl
  | true =>
    rw [hc, cond_true] at h1
    rw [cond_true]
    obtain ⟨q9, h6, h1⟩ := Option.bind_eq_some_iff.1 h1
    simp only [heap_Queue_string_up, heap_Queue_string_down, show heap_Queue_string_up_L1 = HeapM.upL cmp_Less_string from rfl, show heap_Queue_string_down_L1 = HeapM.downL1 cmp_Less_string from rfl, h6, Option.bind_some, h1]

theorem len_string (s : Sl ByteArray) : heap_Queue_string_Len ⟨s⟩ = some (s.l.length : Int) := rfl

theorem peek_string (s : Sl ByteArray) : heap_Queue_string_Peek ⟨s⟩ = some (if s.l = [] then ((⟨#[]⟩ : ByteArray), false) else (gt s.l 0, true)) := by
  unfold heap_Queue_string_Peek
  rw [len_string, Option.bind_some]
  cases hs : s.l with
  | nil => simp
  | cons x r =>
    have h1 : (((x :: r).length : Int) == 0) = false := by simp; omega
    have h2 : ixI 0 (x :: r).length = some 0 := ixI_of (i := 0) (by simp)
    simp only [h1, cond_false, h2, Option.bind_some, hs, reduceCtorEq, if_false]

theorem least_string {s : Sl ByteArray} (hH : Hq_string s) : ∀ y ∈ s.l, lt_string y (gt s.l 0) = false := by
  intro y hy
  obtain ⟨j, hj, rfl⟩ := List.getElem_of_mem hy
  rw [← gt_eq hj]
  exact HeapM.hp_min ord_string hH j hj

/-- draining: what is not above, rising; the others stay -/
theorem drain_go_string (m : ByteArray) : ∀ (n : Nat) (s o : Sl ByteArray), s.l.length ≤ n → Hq_string s → s.l.length + o.l.length < 2147483648 →
    o.l.Pairwise (fun a b => lt_string b a = false) → (∀ x ∈ o.l, ∀ y ∈ s.l, lt_string y x = false) → (∀ x ∈ o.l, lt_string m x = false) →
    ∃ s' o', loopO (heap_Queue_string_Drain_L1 m) (s, o) = some (s', o') ∧ (o'.l ++ s'.l).Perm (o.l ++ s.l) ∧ Hq_string s' ∧ o'.l.Pairwise (fun a b => lt_string b a = false) ∧
      (∀ x ∈ o'.l, lt_string m x = false) ∧ (∀ y ∈ s'.l, lt_string m y = true) := by
  intro n
  induction n with
  | zero =>
    intro s o hn hH hb hp h1 h2
    have hs : s.l = [] := List.length_eq_zero_iff.1 (Nat.le_zero.1 hn)
    refine ⟨s, o, loopO_inr (b := (s, o)) ?_, List.Perm.refl _, hH, hp, h2, by simp [hs]⟩
    simp [heap_Queue_string_Drain_L1, peek_string, hs]
  | succ n ih =>
    intro s o hn hH hb hp h1 h2
    by_cases hs : s.l = []
    · refine ⟨s, o, loopO_inr (b := (s, o)) ?_, List.Perm.refl _, hH, hp, h2, by simp [hs]⟩
      simp [heap_Queue_string_Drain_L1, peek_string, hs]
    · cases hm : lt_string m (gt s.l 0) with
      | true =>
        refine ⟨s, o, loopO_inr (b := (s, o)) ?_, List.Perm.refl _, hH, hp, h2, fun y hy => ?_⟩
        · simp [heap_Queue_string_Drain_L1, peek_string, hs, less_string, hm]
        · cases hy2 : lt_string m y with
          | true => rfl
          | false =>
            have := ord_string.tr _ _ _ hy2 (least_string hH y hy)
            rw [this] at hm; simp at hm
      | false =>
        cases s with
        | nil => exact absurd rfl hs
        | mk l =>
          have hlen : 0 < l.length := List.length_pos_iff.2 hs
          have hb' : l.length + o.l.length < 2147483648 := hb
          obtain ⟨l', h3, h4, h5⟩ := take_string (i := 0) hH hlen (by omega)
          have h3' : heap_Queue_string_take ⟨.mk l⟩ 0 = some ⟨.mk l'⟩ := h3
          have hl' : l'.length + 1 = l.length := by have := h4.length_eq; simpa using this
          have hl4 : l ≠ [] := hs
          have hm' : lt_string m (gt l 0) = false := hm
          have hcap : capI (o.l ++ [gt l 0]) = some (o.l ++ [gt l 0]) := capI_of (by simp; omega)
          obtain ⟨s', o', q1, q2, q3, q4, q5, q6⟩ := ih (.mk l') (.mk (o.l ++ [gt l 0])) (by have : l.length ≤ n + 1 := hn; show l'.length ≤ n; omega) h5 (by simp only [Sl.l_mk, List.length_append, List.length_singleton]; omega)
            (by
              simp only [Sl.l_mk]
              rw [List.pairwise_append]
              refine ⟨hp, by simp, fun a ha b hb2 => ?_⟩
              obtain rfl := List.mem_singleton.1 hb2
              exact h1 a ha _ (by simp only [Sl.l_mk]; rw [gt_eq hlen]; exact List.getElem_mem _))
            (by
              intro x hx y hy
              simp only [Sl.l_mk, List.mem_append, List.mem_singleton] at hx hy
              have hyl : y ∈ l := h4.subset (List.mem_cons_of_mem _ hy)
              rcases hx with hx | rfl
              · exact h1 x hx y hyl
              · exact least_string hH y hyl)
            (by
              intro x hx
              simp only [Sl.l_mk, List.mem_append, List.mem_singleton] at hx
              rcases hx with hx | rfl
              · exact h2 x hx
              · exact hm')
          refine ⟨s', o', ?_, q2.trans ?_, q3, q4, q5, q6⟩
          · rw [loopO_inl (a' := (.mk l', .mk (o.l ++ [gt l 0])))]
            · exact q1
            · simp [heap_Queue_string_Drain_L1, peek_string, hl4, less_string, hm', h3', hcap]
          · simp only [Sl.l_mk, List.append_assoc, List.singleton_append]
            exact List.Perm.append_left _ h4

theorem drain_string (m : ByteArray) {s : Sl ByteArray} (hH : Hq_string s) (hb : s.l.length < 2147483648) :
    ∃ s' o', heap_Queue_string_Drain ⟨s⟩ m = some (o', ⟨s'⟩) ∧ (o'.l ++ s'.l).Perm s.l ∧ Hq_string s' ∧ o'.l.Pairwise (fun a b => lt_string b a = false) ∧
      (∀ x ∈ o'.l, lt_string m x = false) ∧ (∀ y ∈ s'.l, lt_string m y = true) := by
  obtain ⟨s', o', h1, h2, h3⟩ := drain_go_string m s.l.length s .nil (Nat.le_refl _) hH (by simpa using hb) (by simp) (by simp) (by simp)
  refine ⟨s', o', ?_, h2, h3⟩
  simp only [heap_Queue_string_Drain, h1, Option.bind_some]
end Go.Proofs.Ytebcbdalaiefmaa.H
