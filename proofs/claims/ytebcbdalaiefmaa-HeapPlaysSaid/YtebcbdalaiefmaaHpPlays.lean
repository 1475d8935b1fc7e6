/- The law HeapPlays: a queue tells what a rising list tells. Conditions: none. -/
import Derived.Test.YtebcbdalaiefmaaHpq
import Derived.Test.YtebcbdalaiefmaaHpSame
import Derived.Test.YtebcbdalaiefmaaHpAwake
open Go.Ev Go
namespace Go.Proofs.Ytebcbdalaiefmaa.H

abbrev Rise (l : List Int) : Prop := l.Pairwise (fun a b => a ≤ b)

theorem rise_eq {a b : List Int} (h : a.Perm b) (ha : Rise a) (hb : Rise b) : a = b :=
  List.Perm.eq_of_pairwise (fun x y _ _ h1 h2 => by omega) ha hb h

theorem rise_of {l : List Int} (h : l.Pairwise (fun a b => lt_int b a = false)) : Rise l :=
  h.imp fun {a b} h => by simp only [lt_int, decide_eq_false_iff_not] at h; omega

/-! ### the reference -/

theorem rpush_go (l0 : Sl Int) (x : Int) (hR : Rise l0.l) (hb : l0.l.length < 1000000) : ∀ (n i : Nat) (s : Sl Int) (b : Bool), i + n = l0.l.length →
    (if b then s.l.Perm (x :: l0.l.take i) ∧ Rise s.l ∧ ∀ e ∈ s.l, ∀ f ∈ l0.l.drop i, e ≤ f else s.l = l0.l.take i ∧ ∀ e ∈ s.l, e ≤ x) →
    ∃ s' b', loopO (ref13_Push_L1 l0 x) (s, b, (i : Int)) = some (s', b') ∧ (if b' then s'.l.Perm (x :: l0.l) ∧ Rise s'.l else s'.l = l0.l ∧ ∀ e ∈ s'.l, e ≤ x) := by
  intro n
  induction n with
  | zero =>
    intro i s b hi hI
    have e : l0.l.take i = l0.l := List.take_of_length_le (by omega)
    refine ⟨s, b, loopO_inr (b := (s, b)) ?_, ?_⟩
    · have : decide ((i : Int) < (l0.l.length : Int)) = false := by rw [decide_eq_false_iff_not]; omega
      simp only [ref13_Push_L1, this, cond_false]
    · cases b with
      | false => simp only [Bool.false_eq_true, if_false] at hI ⊢; rw [e] at hI; exact hI
      | true => simp only [if_true] at hI ⊢; rw [e] at hI; exact ⟨hI.1, hI.2.1⟩
  | succ n ih =>
    intro i s b hi hI
    have hi2 : i < l0.l.length := by omega
    have hd : decide ((i : Int) < (l0.l.length : Int)) = true := by rw [decide_eq_true_eq]; omega
    have hw : wr .i64 ((i : Int) + 1) = ((i + 1 : Nat) : Int) := by rw [wr_id (by omega) (by omega)]; omega
    have et : l0.l.take (i + 1) = l0.l.take i ++ [gt l0.l i] := by rw [gt_eq hi2, List.take_append_getElem hi2]
    have ed : l0.l.drop i = gt l0.l i :: l0.l.drop (i + 1) := by rw [gt_eq hi2]; exact List.drop_eq_getElem_cons hi2
    have hRd : Rise (l0.l.drop i) := List.Pairwise.sublist (List.drop_sublist i l0.l) hR
    rw [ed] at hRd
    have hgd : ∀ f ∈ l0.l.drop (i + 1), gt l0.l i ≤ f := fun f hf => (List.pairwise_cons.1 hRd).1 f hf
    have hRt : Rise (l0.l.take (i + 1)) := List.Pairwise.sublist (List.take_sublist (i + 1) l0.l) hR
    have hlt : (l0.l.take i).length = i := by rw [List.length_take]; omega
    cases b with
    | true =>
      simp only [if_true] at hI
      obtain ⟨h1, h2, h3⟩ := hI
      have hsl := h1.length_eq
      rw [List.length_cons, hlt] at hsl
      have hcap : capI (s.l ++ [gt l0.l i]) = some (s.l ++ [gt l0.l i]) := capI_of (by rw [List.length_append, List.length_singleton]; omega)
      have hstep : ref13_Push_L1 l0 x (s, true, (i : Int)) = some (.inl (.mk (s.l ++ [gt l0.l i]), true, ((i + 1 : Nat) : Int))) := by
        simp only [ref13_Push_L1, hd, cond_true, Bool.not_true, cond_false, Option.bind_some, ixI_of hi2, hcap, hw]
      rw [loopO_inl hstep]
      refine ih (i + 1) (.mk (s.l ++ [gt l0.l i])) true (by omega) ?_
      simp only [if_true, Sl.l_mk]
      refine ⟨?_, ?_, fun e he f hf => ?_⟩
      · rw [et]
        exact (List.Perm.append_right [gt l0.l i] h1)
      · exact List.pairwise_append.2 ⟨h2, by simp, fun a ha b hb => by rw [List.mem_singleton.1 hb]; exact h3 a ha _ (by rw [ed]; exact List.mem_cons_self)⟩
      · rcases List.mem_append.1 he with he | he
        · exact h3 e he f (by rw [ed]; exact List.mem_cons_of_mem _ hf)
        · rw [List.mem_singleton.1 he]; exact hgd f hf
    | false =>
      simp only [Bool.false_eq_true, if_false] at hI
      obtain ⟨h1, h2⟩ := hI
      have hsl : s.l.length = i := by rw [h1, hlt]
      by_cases hx : x < gt l0.l i
      · have hdx : decide (x < gt l0.l i) = true := by rw [decide_eq_true_eq]; exact hx
        have hcap : capI (s.l ++ [x]) = some (s.l ++ [x]) := capI_of (by rw [List.length_append, List.length_singleton]; omega)
        have hcap2 : capI (s.l ++ [x] ++ [gt l0.l i]) = some (s.l ++ [x] ++ [gt l0.l i]) := capI_of (by simp only [List.length_append, List.length_singleton]; omega)
        have hstep : ref13_Push_L1 l0 x (s, false, (i : Int)) = some (.inl (.mk (s.l ++ [x] ++ [gt l0.l i]), true, ((i + 1 : Nat) : Int))) := by
          simp only [ref13_Push_L1, hd, cond_true, Bool.not_false, Option.bind_some, ixI_of hi2, hdx, hcap, Sl.l_mk, hcap2, hw]
        rw [loopO_inl hstep]
        refine ih (i + 1) (.mk (s.l ++ [x] ++ [gt l0.l i])) true (by omega) ?_
        simp only [if_true, Sl.l_mk]
        refine ⟨?_, ?_, fun e he f hf => ?_⟩
        · rw [et, h1]
          exact List.Perm.append_right [gt l0.l i] (List.perm_append_singleton x (l0.l.take i))
        · refine List.pairwise_append.2 ⟨List.pairwise_append.2 ⟨by rw [h1]; exact List.Pairwise.sublist (List.take_sublist i l0.l) hR, by simp, fun a ha b hb => by rw [List.mem_singleton.1 hb]; exact h2 a ha⟩, by simp, fun a ha b hb => ?_⟩
          rw [List.mem_singleton.1 hb]
          rcases List.mem_append.1 ha with ha | ha
          · have := h2 a ha; omega
          · rw [List.mem_singleton.1 ha]; omega
        · have hf2 := hgd f hf
          rcases List.mem_append.1 he with he | he
          · rcases List.mem_append.1 he with he | he
            · have := h2 e he; omega
            · rw [List.mem_singleton.1 he]; omega
          · rw [List.mem_singleton.1 he]; exact hf2
      · have hdx : decide (x < gt l0.l i) = false := by rw [decide_eq_false_iff_not]; exact hx
        have hcap : capI (s.l ++ [gt l0.l i]) = some (s.l ++ [gt l0.l i]) := capI_of (by rw [List.length_append, List.length_singleton]; omega)
        have hstep : ref13_Push_L1 l0 x (s, false, (i : Int)) = some (.inl (.mk (s.l ++ [gt l0.l i]), false, ((i + 1 : Nat) : Int))) := by
          simp only [ref13_Push_L1, hd, cond_true, Bool.not_false, Option.bind_some, ixI_of hi2, hdx, cond_false, hcap, hw]
        rw [loopO_inl hstep]
        refine ih (i + 1) (.mk (s.l ++ [gt l0.l i])) false (by omega) ?_
        simp only [Bool.false_eq_true, if_false, Sl.l_mk]
        refine ⟨by rw [et, h1], fun e he => ?_⟩
        rcases List.mem_append.1 he with he | he
        · exact h2 e he
        · rw [List.mem_singleton.1 he]; omega

theorem rpush {r : Sl Int} (x : Int) (hR : Rise r.l) (hb : r.l.length < 1000000) : ∃ r', ref13_Push r x = some r' ∧ r'.l.Perm (x :: r.l) ∧ Rise r'.l := by
  obtain ⟨s', b', h1, h2⟩ := rpush_go r x hR hb r.l.length 0 .nil false (by omega) (by simp)
  rw [show ((0 : Nat) : Int) = 0 from rfl] at h1
  cases b' with
  | true =>
    simp only [if_true] at h2
    exact ⟨s', by simp only [ref13_Push, h1, Option.bind_some, Bool.not_true, cond_false], h2⟩
  | false =>
    simp only [Bool.false_eq_true, if_false] at h2
    obtain ⟨h2, h3⟩ := h2
    refine ⟨.mk (s'.l ++ [x]), ?_, ?_, ?_⟩
    · have hcap : capI (s'.l ++ [x]) = some (s'.l ++ [x]) := capI_of (by rw [h2, List.length_append, List.length_singleton]; omega)
      simp only [ref13_Push, h1, Option.bind_some, Bool.not_false, cond_true, hcap]
    · rw [Sl.l_mk, h2]; exact List.perm_append_singleton x r.l
    · rw [Sl.l_mk]
      exact List.pairwise_append.2 ⟨by rw [h2]; exact hR, by simp, fun a ha b hb => by rw [List.mem_singleton.1 hb]; exact h3 a ha⟩

theorem rpop (r : Sl Int) : ref13_Pop r = some (match r.l with | [] => (0, .nil, false) | x :: t => (x, .mk t, true)) := by
  unfold ref13_Pop
  cases r with
  | nil => rfl
  | mk l =>
    cases l with
    | nil => rfl
    | cons x t =>
      have h1 : (((Sl.mk (x :: t)).l.length : Int) == 0) = false := by simp; omega
      have h2 : ixI 0 (Sl.mk (x :: t)).l.length = some 0 := ixI_of (i := 0) (by simp)
      have h3 : cutI (Sl.mk (x :: t)).l 1 ((Sl.mk (x :: t)).l.length : Int) = some t := by
        rw [cutI_some]
        refine ⟨⟨by omega, by simp; omega, by omega⟩, by simp⟩
      simp only [h1, cond_false, h2, Option.bind_some, h3]
      rfl

theorem rdrain_go (l0 : Sl Int) (m : Int) (hb : l0.l.length < 1000000) : ∀ (n i : Nat), i + n = l0.l.length → ∃ k, i ≤ k ∧ k ≤ l0.l.length ∧ loopO (ref13_Drain_L1 l0 m) (i : Int) = some (k : Int) ∧
    (∀ j, i ≤ j → j < k → gt l0.l j ≤ m) ∧ (k < l0.l.length → m < gt l0.l k) := by
  intro n
  induction n with
  | zero =>
    intro i hi
    refine ⟨i, Nat.le_refl _, by omega, loopO_inr ?_, fun j h1 h2 => by omega, fun h => by omega⟩
    have : decide ((i : Int) < (l0.l.length : Int)) = false := by rw [decide_eq_false_iff_not]; omega
    simp only [ref13_Drain_L1, this, cond_false, Option.bind_some]
  | succ n ih =>
    intro i hi
    have hi2 : i < l0.l.length := by omega
    have hd : decide ((i : Int) < (l0.l.length : Int)) = true := by rw [decide_eq_true_eq]; omega
    have hw : wr .i64 ((i : Int) + 1) = ((i + 1 : Nat) : Int) := by rw [wr_id (by omega) (by omega)]; omega
    by_cases hx : gt l0.l i ≤ m
    · have hdx : decide (gt l0.l i ≤ m) = true := by rw [decide_eq_true_eq]; exact hx
      obtain ⟨k, h1, h2, h3, h4, h5⟩ := ih (i + 1) (by omega)
      refine ⟨k, by omega, h2, ?_, fun j hj hk => ?_, h5⟩
      · rw [loopO_inl (a' := ((i + 1 : Nat) : Int))]
        · exact h3
        · simp only [ref13_Drain_L1, hd, cond_true, ixI_of hi2, Option.bind_some, hdx, hw]
      · by_cases e : j = i
        · subst e; exact hx
        · exact h4 j (by omega) hk
    · have hdx : decide (gt l0.l i ≤ m) = false := by rw [decide_eq_false_iff_not]; exact hx
      refine ⟨i, Nat.le_refl _, by omega, loopO_inr ?_, fun j h1 h2 => by omega, fun _ => by omega⟩
      simp only [ref13_Drain_L1, hd, cond_true, ixI_of hi2, Option.bind_some, hdx, cond_false]

theorem to_l {α : Type} (s : Sl α) (r : List α) (h : s.l = [] → r = []) : (s.to r).l = r := by
  cases s with
  | nil => exact (h rfl).symm
  | mk l => rfl

theorem rdrain {r : Sl Int} (m : Int) (hR : Rise r.l) (hb : r.l.length < 1000000) : ∃ o t, ref13_Drain r m = some (o, t) ∧ o.l ++ t.l = r.l ∧ (∀ x ∈ o.l, x ≤ m) ∧ (∀ x ∈ t.l, m < x) := by
  obtain ⟨k, h1, h2, h3, h4, h5⟩ := rdrain_go r m hb r.l.length 0 (by omega)
  rw [show ((0 : Nat) : Int) = 0 from rfl] at h3
  have c1 : cutI r.l 0 (k : Int) = some (r.l.take k) := by rw [cutI_some]; exact ⟨⟨by omega, by omega, by omega⟩, by simp⟩
  have c2 : cutI r.l (k : Int) (r.l.length : Int) = some (r.l.drop k) := by rw [cutI_some]; exact ⟨⟨by omega, by omega, by omega⟩, List.take_of_length_le (by simp)⟩
  refine ⟨r.to (r.l.take k), r.to (r.l.drop k), ?_, ?_, fun x hx => ?_, fun x hx => ?_⟩
  · simp only [ref13_Drain, h3, Option.bind_some, c1, c2]
  · rw [to_l _ _ (fun h => by rw [h]; simp), to_l _ _ (fun h => by rw [h]; simp), List.take_append_drop]
  · rw [to_l _ _ (fun h => by rw [h]; simp)] at hx
    obtain ⟨j, hj, rfl⟩ := List.getElem_of_mem hx
    rw [List.length_take] at hj
    rw [List.getElem_take, ← gt_eq (by omega)]
    exact h4 j (by omega) (by omega)
  · rw [to_l _ _ (fun h => by rw [h]; simp)] at hx
    obtain ⟨j, hj, rfl⟩ := List.getElem_of_mem hx
    rw [List.length_drop] at hj
    have hk : k < r.l.length := by omega
    have h6 := h5 hk
    rw [gt_eq hk] at h6
    rw [List.getElem_drop]
    by_cases e : j = 0
    · subst e; simpa using h6
    · have := List.pairwise_iff_getElem.1 hR k (k + j) hk (by omega) (by omega)
      omega

theorem rdrop_go (l0 : Sl Int) (x : Int) (hb : l0.l.length < 1000000) : ∀ (n i : Nat) (s : Sl Int) (b : Bool), i + n = l0.l.length → (if b then s.l.length ≤ i else s.l.length ≤ i) →
    ∃ s' b', loopO (ref13_Drop_L1 l0 x) (s, b, (i : Int)) = some (s', b') ∧ s'.l = s.l ++ (if b then l0.l.drop i else (l0.l.drop i).erase x) ∧ b' = (b || decide (x ∈ l0.l.drop i)) := by
  intro n
  induction n with
  | zero =>
    intro i s b hi hI
    have e : l0.l.drop i = [] := List.drop_of_length_le (by omega)
    refine ⟨s, b, loopO_inr (b := (s, b)) ?_, by rw [e]; cases b <;> simp, by rw [e]; simp⟩
    have : decide ((i : Int) < (l0.l.length : Int)) = false := by rw [decide_eq_false_iff_not]; omega
    simp only [ref13_Drop_L1, this, cond_false]
  | succ n ih =>
    intro i s b hi hI
    have hi2 : i < l0.l.length := by omega
    have hd : decide ((i : Int) < (l0.l.length : Int)) = true := by rw [decide_eq_true_eq]; omega
    have hw : wr .i64 ((i : Int) + 1) = ((i + 1 : Nat) : Int) := by rw [wr_id (by omega) (by omega)]; omega
    have ed : l0.l.drop i = gt l0.l i :: l0.l.drop (i + 1) := by rw [gt_eq hi2]; exact List.drop_eq_getElem_cons hi2
    have hsl : s.l.length ≤ i := by cases b <;> simpa using hI
    have hcap : capI (s.l ++ [gt l0.l i]) = some (s.l ++ [gt l0.l i]) := capI_of (by rw [List.length_append, List.length_singleton]; omega)
    have hk : (Sl.mk (s.l ++ [gt l0.l i])).l.length ≤ i + 1 := by rw [Sl.l_mk, List.length_append, List.length_singleton]; omega
    cases b with
    | true =>
      have hstep : ref13_Drop_L1 l0 x (s, true, (i : Int)) = some (.inl (.mk (s.l ++ [gt l0.l i]), true, ((i + 1 : Nat) : Int))) := by
        simp only [ref13_Drop_L1, hd, cond_true, Bool.not_true, cond_false, Option.bind_some, ixI_of hi2, hcap, hw]
      rw [loopO_inl hstep]
      obtain ⟨s', b', q1, q2, q3⟩ := ih (i + 1) (.mk (s.l ++ [gt l0.l i])) true (by omega) (by simpa using hk)
      refine ⟨s', b', q1, ?_, by rw [q3]; simp⟩
      rw [q2, ed]; simp
    | false =>
      by_cases hx : gt l0.l i = x
      · have hdx : (gt l0.l i == x) = true := by simpa using hx
        have hstep : ref13_Drop_L1 l0 x (s, false, (i : Int)) = some (.inl (s, true, ((i + 1 : Nat) : Int))) := by
          simp only [ref13_Drop_L1, hd, cond_true, Bool.not_false, Option.bind_some, ixI_of hi2, hdx, hw]
        rw [loopO_inl hstep]
        obtain ⟨s', b', q1, q2, q3⟩ := ih (i + 1) s true (by omega) (by simp; omega)
        refine ⟨s', b', q1, ?_, by rw [q3, ed]; simp [hx]⟩
        rw [q2, ed]; simp [hx]
      · have hdx : (gt l0.l i == x) = false := by simpa using hx
        have hstep : ref13_Drop_L1 l0 x (s, false, (i : Int)) = some (.inl (.mk (s.l ++ [gt l0.l i]), false, ((i + 1 : Nat) : Int))) := by
          simp only [ref13_Drop_L1, hd, cond_true, Bool.not_false, Option.bind_some, ixI_of hi2, hdx, cond_false, hcap, hw]
        rw [loopO_inl hstep]
        obtain ⟨s', b', q1, q2, q3⟩ := ih (i + 1) (.mk (s.l ++ [gt l0.l i])) false (by omega) (by simpa using hk)
        refine ⟨s', b', q1, ?_, ?_⟩
        · rw [q2, ed, List.erase_cons, hdx]; simp
        · rw [q3, ed]
          have : ¬ x = gt l0.l i := fun e => hx e.symm
          simp [this]

theorem rdrop {r : Sl Int} (x : Int) (hb : r.l.length < 1000000) : ∃ t, ref13_Drop r x = some (t, decide (x ∈ r.l)) ∧ t.l = r.l.erase x := by
  obtain ⟨s', b', h1, h2, h3⟩ := rdrop_go r x hb r.l.length 0 .nil false (by omega) (by simp)
  rw [show ((0 : Nat) : Int) = 0 from rfl] at h1
  refine ⟨s', ?_, by simpa using h2⟩
  simp only [ref13_Drop, h1, Option.bind_some]
  rw [h3]; simp

/-! ### dropping out of the heap -/

theorem index_go (l0 : Sl Int) (x : Int) (hb : l0.l.length < 1000000) : ∀ (n i : Nat), i + n = l0.l.length →
    (∃ k, i ≤ k ∧ k < l0.l.length ∧ gt l0.l k = x ∧ loopO (slices_Index_int_int_L1 l0 x) (i : Int) = some (.inl (k : Int))) ∨
    ((∀ k, i ≤ k → k < l0.l.length → gt l0.l k ≠ x) ∧ loopO (slices_Index_int_int_L1 l0 x) (i : Int) = some (.inr ())) := by
  intro n
  induction n with
  | zero =>
    intro i hi
    refine .inr ⟨fun k h1 h2 => by omega, loopO_inr ?_⟩
    have : decide ((i : Int) < (l0.l.length : Int)) = false := by rw [decide_eq_false_iff_not]; omega
    simp only [slices_Index_int_int_L1, this, cond_false]
  | succ n ih =>
    intro i hi
    have hi2 : i < l0.l.length := by omega
    have hd : decide ((i : Int) < (l0.l.length : Int)) = true := by rw [decide_eq_true_eq]; omega
    have hw : wr .i64 ((i : Int) + 1) = ((i + 1 : Nat) : Int) := by rw [wr_id (by omega) (by omega)]; omega
    by_cases hx : x = gt l0.l i
    · have hdx : (x == gt l0.l i) = true := by simpa using hx
      refine .inl ⟨i, Nat.le_refl _, hi2, hx.symm, loopO_inr ?_⟩
      simp only [slices_Index_int_int_L1, hd, cond_true, ixI_of hi2, Option.bind_some, hdx]
    · have hdx : (x == gt l0.l i) = false := by simpa using hx
      have hstep : slices_Index_int_int_L1 l0 x (i : Int) = some (.inl ((i + 1 : Nat) : Int)) := by
        simp only [slices_Index_int_int_L1, hd, cond_true, ixI_of hi2, Option.bind_some, hdx, cond_false, hw]
      rw [loopO_inl hstep]
      rcases ih (i + 1) (by omega) with ⟨k, h1, h2, h3, h4⟩ | ⟨h1, h2⟩
      · exact .inl ⟨k, by omega, h2, h3, h4⟩
      · refine .inr ⟨fun k hk hkl => ?_, h2⟩
        by_cases e : k = i
        · subst e; exact fun h => hx h.symm
        · exact h1 k (by omega) hkl

theorem qdrop {s : Sl Int} (x : Int) (hH : Hq_int s) (hb : s.l.length < 1000000) : ∃ s', heap_Queue_int_Drop ⟨s⟩ x = some (decide (x ∈ s.l), ⟨s'⟩) ∧ s'.l.Perm (s.l.erase x) ∧ Hq_int s' := by
  unfold heap_Queue_int_Drop
  rcases index_go s x hb s.l.length 0 (by omega) with ⟨k, _, h2, h3, h4⟩ | ⟨h1, h2⟩
  · rw [show ((0 : Nat) : Int) = 0 from rfl] at h4
    cases s with
    | nil => simp at h2
    | mk l =>
      obtain ⟨l', t1, t2, t3⟩ := take_int (i := k) hH h2 (by have : l.length < 1000000 := hb; omega)
      have hmem : x ∈ l := by
        have h2' : k < l.length := h2
        rw [← h3, Sl.l_mk, gt_eq h2']; exact List.getElem_mem _
      have hk : decide ((k : Int) < 0) = false := by rw [decide_eq_false_iff_not]; omega
      refine ⟨.mk l', ?_, ?_, t3⟩
      · simp only [slices_Index_int_int, h4, Option.bind_some, hk, cond_false, t1]
        simp [hmem]
      · have h5 : gt l k = x := h3
        rw [h5] at t2
        have := (t2.erase x)
        simpa using this
  · rw [show ((0 : Nat) : Int) = 0 from rfl] at h2
    have hmem : ¬ x ∈ s.l := by
      intro hm
      obtain ⟨k, hk, e⟩ := List.getElem_of_mem hm
      exact h1 k (by omega) hk (by rw [gt_eq hk]; exact e)
    refine ⟨s, ?_, ?_, hH⟩
    · simp only [slices_Index_int_int, h2, Option.bind_some]
      simp [hmem]
    · rw [List.erase_of_not_mem hmem]

/-! ### the law -/

/-- the queue and the list stand for the same -/
def Twin (s r : Sl Int) : Prop := Hq_int s ∧ s.l.Perm r.l ∧ Rise r.l

theorem least_eq {s r : Sl Int} (h : Twin s r) (h0 : s.l ≠ []) : ∃ t, r.l = gt s.l 0 :: t := by
  obtain ⟨hH, hp, hR⟩ := h
  have hm := least_int hH
  cases hr : r.l with
  | nil => rw [hr] at hp; exact absurd (List.perm_nil.1 hp) h0
  | cons y t =>
    have hlen : 0 < s.l.length := List.length_pos_iff.2 h0
    have hg : gt s.l 0 ∈ r.l := hp.subset (by rw [gt_eq hlen]; exact List.getElem_mem _)
    have hy : y ∈ s.l := hp.symm.subset (by rw [hr]; exact List.mem_cons_self)
    have h1 := hm y hy
    simp only [lt_int, decide_eq_false_iff_not] at h1
    rw [hr] at hg hR
    have h2 : y ≤ gt s.l 0 := by
      rcases List.mem_cons.1 hg with e | hg
      · omega
      · exact (List.pairwise_cons.1 hR).1 _ hg
    exact ⟨t, by rw [show y = gt s.l 0 by omega]⟩

theorem plays_go (l0 : Sl law13_Deed) : ∀ (n i : Nat) (s r : Sl Int), i + n = 80 → Twin s r → s.l.length ≤ i → loopO (law13_HeapPlays_L1 l0) (s, r, (i : Int)) = some (.inr ()) := by
  intro n
  induction n with
  | zero =>
    intro i s r hi hT hsl
    have h1 : ((decide ((i : Int) < (l0.l.length : Int))) && (decide ((i : Int) < 80))) = false := by
      rw [show decide ((i : Int) < 80) = false by rw [decide_eq_false_iff_not]; omega]; simp
    exact loopO_inr (by simp only [law13_HeapPlays_L1, h1, cond_false])
  | succ n ih =>
    intro i s r hi hT hsl
    obtain ⟨hH, hp, hR⟩ := hT
    have hlr := hp.length_eq
    by_cases hil : i < l0.l.length
    · have hw : wr .i64 ((i : Int) + 1) = ((i + 1 : Nat) : Int) := by rw [wr_id (by omega) (by omega)]; omega
      have hd : ((decide ((i : Int) < (l0.l.length : Int))) && (decide ((i : Int) < 80))) = true := by
        rw [show decide ((i : Int) < (l0.l.length : Int)) = true by rw [decide_eq_true_eq]; omega, show decide ((i : Int) < 80) = true by rw [decide_eq_true_eq]; omega]; rfl
      have next : ∀ s' r', Twin s' r' → s'.l.length ≤ i + 1 → law13_HeapPlays_L1 l0 (s, r, (i : Int)) = some (.inl (s', r', ((i + 1 : Nat) : Int))) → loopO (law13_HeapPlays_L1 l0) (s, r, (i : Int)) = some (.inr ()) := by
        intro s' r' h1 h2 h3
        rw [loopO_inl h3]
        exact ih (i + 1) s' r' (by omega) h1 h2
      have hlen : ∀ s' r' : Sl Int, s'.l.Perm r'.l → ((s'.l.length : Int) != (r'.l.length : Int)) = false := fun s' r' h => by rw [h.length_eq]; simp
      by_cases c0 : (gt l0.l i).Kind = 0 ∨ (gt l0.l i).Kind = 1 ∨ (gt l0.l i).Kind = 2
      · obtain ⟨l', p1, p2, p3⟩ := push_int (x := (gt l0.l i).N) hH (by omega)
        obtain ⟨r', q1, q2, q3⟩ := rpush (r := r) (gt l0.l i).N hR (by omega)
        have hpp : l'.Perm r'.l := p2.trans ((List.Perm.cons _ hp).trans q2.symm)
        refine next (.mk l') r' ⟨p3, hpp, q3⟩ (by have := p2.length_eq; simp at this ⊢; omega) ?_
        have hl2 : l'.length = r'.l.length := hpp.length_eq
        simp only [law13_HeapPlays_L1, hd, cond_true, ixI_of hil, Option.bind_some, p1, q1, len_int, hw]
        rcases c0 with e | e | e <;> simp [e, hl2]
      · by_cases c1 : (gt l0.l i).Kind = 3 ∨ (gt l0.l i).Kind = 4
        · by_cases h0 : s.l = []
          · have hr0 : r.l = [] := by rw [h0] at hp; exact List.nil_perm.1 hp
            refine next s .nil ⟨hH, by rw [h0]; exact List.Perm.refl _, by simp⟩ (by omega) ?_
            have hl2 := hlen s .nil (by rw [h0]; exact List.Perm.refl _)
            simp only [law13_HeapPlays_L1, hd, cond_true, ixI_of hil, Option.bind_some, pop_none_int h0, rpop, hr0, len_int, hw]
            rcases c1 with e | e <;> simp [e, hl2, h0]
          · obtain ⟨l', p1, p2, p3⟩ := pop_int hH h0 (by omega)
            obtain ⟨t, ht⟩ := least_eq ⟨hH, hp, hR⟩ h0
            have hpp : l'.Perm t := by
              have := p2.trans hp
              rw [ht] at this
              exact List.Perm.cons_inv this
            refine next (.mk l') (.mk t) ⟨p3, hpp, by rw [ht] at hR; exact (List.pairwise_cons.1 hR).2⟩ (by have := p2.length_eq; simp at this ⊢; omega) ?_
            have hl2 := hpp.length_eq
            simp only [law13_HeapPlays_L1, hd, cond_true, ixI_of hil, Option.bind_some, p1, rpop, ht, len_int, hw]
            rcases c1 with e | e <;> simp [e, hl2]
        · by_cases c5 : (gt l0.l i).Kind = 5
          · obtain ⟨o, t, q1, q2, q3, q4⟩ := rdrain (r := r) (gt l0.l i).N hR (by omega)
            obtain ⟨s', o', p1, p2, p3, p4, p5, p6⟩ := drain_int (gt l0.l i).N hH (by omega)
            have hRo : Rise o.l := by rw [← q2] at hR; exact (List.pairwise_append.1 hR).1
            have hRt : Rise t.l := by rw [← q2] at hR; exact (List.pairwise_append.1 hR).2.1
            have hall : (o'.l ++ s'.l).Perm (o.l ++ t.l) := p2.trans (hp.trans (by rw [q2]))
            have f1 : ∀ x ∈ o'.l, decide (x ≤ (gt l0.l i).N) = true := fun x hx => by have := p5 x hx; simp only [lt_int, decide_eq_false_iff_not] at this; rw [decide_eq_true_eq]; omega
            have f2 : ∀ x ∈ s'.l, ¬ decide (x ≤ (gt l0.l i).N) = true := fun x hx => by have := p6 x hx; simp only [lt_int, decide_eq_true_eq] at this; rw [decide_eq_true_eq]; omega
            have f3 : ∀ x ∈ o.l, decide (x ≤ (gt l0.l i).N) = true := fun x hx => by have := q3 x hx; rw [decide_eq_true_eq]; omega
            have f4 : ∀ x ∈ t.l, ¬ decide (x ≤ (gt l0.l i).N) = true := fun x hx => by have := q4 x hx; rw [decide_eq_true_eq]; omega
            have hoo : o'.l.Perm o.l := by
              have := hall.filter (fun x => decide (x ≤ (gt l0.l i).N))
              rw [List.filter_append, List.filter_append, List.filter_eq_self.2 f1, List.filter_eq_self.2 f3, List.filter_eq_nil_iff.2 f2, List.filter_eq_nil_iff.2 f4] at this
              simpa using this
            have hst : s'.l.Perm t.l := (List.perm_append_left_iff o.l).1 ((List.Perm.append_right s'.l hoo.symm).trans hall)
            have heq : o'.l = o.l := rise_eq hoo (rise_of p4) hRo
            refine next s' t ⟨p3, hst, hRt⟩ (by have := hst.length_eq; have h8 := congrArg List.length q2; simp at h8; omega) ?_
            have hl2 := hst.length_eq
            have hob : o'.l.length < 4611686018427387904 := by have := p2.length_eq; simp at this; omega
            simp only [law13_HeapPlays_L1, hd, cond_true, ixI_of hil, Option.bind_some, q1, p1, same_eq o' o hob, heq, len_int, hw]
            simp [c5, hl2]
          · by_cases c6 : (gt l0.l i).Kind = 6
            · obtain ⟨t, q1, q2⟩ := rdrop (r := r) (gt l0.l i).N (by omega)
              obtain ⟨s', p1, p2, p3⟩ := qdrop (gt l0.l i).N hH (by omega)
              have hpp : s'.l.Perm t.l := by rw [q2]; exact p2.trans (hp.erase _)
              refine next s' t ⟨p3, hpp, by rw [q2]; exact hR.sublist List.erase_sublist⟩ (by have := p2.length_eq; have h8 := List.length_erase_le (a := (gt l0.l i).N) (l := s.l); omega) ?_
              have hl2 := hpp.length_eq
              have hmm : ((gt l0.l i).N ∈ s.l) = ((gt l0.l i).N ∈ r.l) := propext hp.mem_iff
              simp only [law13_HeapPlays_L1, hd, cond_true, ixI_of hil, Option.bind_some, q1, p1, len_int, hw]
              simp [c6, hl2, hmm]
            · by_cases c7 : (gt l0.l i).Kind = 7
              · refine next s r ⟨hH, hp, hR⟩ (by omega) ?_
                by_cases h0 : s.l = []
                · have hr0 : r.l = [] := by rw [h0] at hp; exact List.nil_perm.1 hp
                  simp only [law13_HeapPlays_L1, hd, cond_true, ixI_of hil, Option.bind_some, peek_int, rpop, hr0, len_int, hw]
                  simp [c7, h0, hr0]
                · obtain ⟨t, ht⟩ := least_eq ⟨hH, hp, hR⟩ h0
                  simp only [law13_HeapPlays_L1, hd, cond_true, ixI_of hil, Option.bind_some, peek_int, rpop, ht, len_int, hw]
                  have hl3 : s.l.length = t.length + 1 := by rw [hlr, ht]; rfl
                  simp [c7, h0, ht, hl3]
              · refine next s r ⟨hH, hp, hR⟩ (by omega) ?_
                have k0 : ((gt l0.l i).Kind == 0) = false := by rw [beq_eq_false_iff_ne]; exact fun e => c0 (.inl e)
                have k1 : ((gt l0.l i).Kind == 1) = false := by rw [beq_eq_false_iff_ne]; exact fun e => c0 (.inr (.inl e))
                have k2 : ((gt l0.l i).Kind == 2) = false := by rw [beq_eq_false_iff_ne]; exact fun e => c0 (.inr (.inr e))
                have k3 : ((gt l0.l i).Kind == 3) = false := by rw [beq_eq_false_iff_ne]; exact fun e => c1 (.inl e)
                have k4 : ((gt l0.l i).Kind == 4) = false := by rw [beq_eq_false_iff_ne]; exact fun e => c1 (.inr e)
                simp only [law13_HeapPlays_L1, hd, cond_true, ixI_of hil, Option.bind_some, len_int, hw]
                have k5 : ((gt l0.l i).Kind == 5) = false := by rw [beq_eq_false_iff_ne]; exact c5
                have k6 : ((gt l0.l i).Kind == 6) = false := by rw [beq_eq_false_iff_ne]; exact c6
                have k7 : ((gt l0.l i).Kind == 7) = false := by rw [beq_eq_false_iff_ne]; exact c7
                simp [k0, k1, k2, k3, k4, k5, k6, k7, hlr]
    · have h1 : ((decide ((i : Int) < (l0.l.length : Int))) && (decide ((i : Int) < 80))) = false := by
        rw [show decide ((i : Int) < (l0.l.length : Int)) = false by rw [decide_eq_false_iff_not]; omega]; simp
      exact loopO_inr (by simp only [law13_HeapPlays_L1, h1, cond_false])

theorem plays (l0 : Sl law13_Deed) : law13_HeapPlays l0 = some true := by
  have := plays_go l0 80 0 .nil .nil (by omega) ⟨HeapM.hp_nil, List.Perm.refl _, by simp⟩ (by simp)
  rw [show ((0 : Nat) : Int) = 0 from rfl] at this
  simp only [law13_HeapPlays, heap_New_int, Option.bind_some, this, awake]
end Go.Proofs.Ytebcbdalaiefmaa.H
