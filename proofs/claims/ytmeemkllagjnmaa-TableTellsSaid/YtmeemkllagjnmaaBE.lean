/- What tables send, and sameness. Conditions: as stated. -/
import Derived.Test.YtmeemkllagjnmaaBD
open Go.Ev Go
namespace Go.Proofs.Ytmeemkllagjnmaa.B
theorem with_eq (v : Arr 4 Int) (F V : Int) : packet_With v F V = ref07_With v F V := by
 unfold packet_With ref07_With
 simp only [packet_is, Option.bind_some]
 by_cases h : 0 ≤ F ∧ F < 4 ∧ 0 ≤ V
 ·obtain ⟨g, rfl⟩ := Int.eq_ofNat_of_zero_le h.1
  rw [top_run (show g < 4 by omega), top_run2 (show g < 4 by omega)]
 ·rw [show (((decide (F ≥ 0)) && (decide (F < 4))) && (decide (V ≥ 0))) = false by simp; omega]; rfl
theorem run_L1_eq (l : Sl api_Act) (p : Arr 4 Int) : act_Run_L1 l p = ref09_Run_L1 l p := by
 funext ⟨i, v, s⟩
 simp only [act_Run_L1, ref09_Run_L1]
 by_cases hi : i < (l.l.length : Int)
 case neg => rw [decide_eq_false hi]; rfl
 rw [decide_eq_true hi, cond_true, cond_true]
 cases hx : ixI i l.l.length with
 | none => rfl
 | some n =>
  simp only [Option.bind_some]
  by_cases h3 : api_Act.Kind (gt l.l n) = 3
  ·rw [h3]; rfl
  rw [show (api_Act.Kind (gt l.l n) == 3) = false by simpa using h3, cond_false, cond_false]
  simp only [Option.bind_some]
  by_cases h1 : api_Act.Kind (gt l.l n) = 1
  ·rw [h1, show ((1 : Int) == 1) = true from rfl, cond_true, cond_true, with_eq]
   cases ref07_With v (api_Act.F (gt l.l n)) (api_Act.V (gt l.l n)) with
   | none => rfl
   | some w => rfl
  rw [show (api_Act.Kind (gt l.l n) == 1) = false by simpa using h1, cond_false, cond_false]
  simp only [Option.bind_some]
theorem run_eq (l : Sl api_Act) (p : Arr 4 Int) : act_Run l p = ref09_Run l p := by
 unfold act_Run ref09_Run
 rw [run_L1_eq]
theorem with_some (v : Arr 4 Int) (F V : Int) : ∃ w, ref07_With v F V = some w := by
 unfold ref07_With
 by_cases h : 0 ≤ F ∧ F < 4 ∧ 0 ≤ V
 ·obtain ⟨g, rfl⟩ := Int.eq_ofNat_of_zero_le h.1
  rw [top_run (show g < 4 by omega), show (((decide ((g : Int) ≥ 0)) && (decide ((g : Int) < 4))) && (decide (V ≥ 0))) = true by simp; omega, cond_true]
  simp only [Option.bind_some]
  by_cases h2 : V ≤ top g
  ·rw [decide_eq_true h2, cond_true, ixI_of (show g < 4 by omega)]; exact ⟨_, rfl⟩
  ·rw [decide_eq_false h2]; exact ⟨_, rfl⟩
 ·rw [show (((decide (F ≥ 0)) && (decide (F < 4))) && (decide (V ≥ 0))) = false by simp; omega]; exact ⟨_, rfl⟩
theorem run_some (l : Sl api_Act) (p : Arr 4 Int) (hn : l.l.length ≤ 2147483648) : ∃ s, act_Run l p = some s ∧ s.l.length ≤ 2147483648 := by
 have h : ∃ s, loopO (act_Run_L1 l p) ((0 : Nat), p, Sl.nil) = some s ∧ s.l.length ≤ 2147483648 := by
  refine forI (fun i (s : Arr 4 Int × Sl api_Sent) => ((i : Int), s.1, s.2)) l.l.length (fun i s => s.2.l.length ≤ i) (fun s => s.l.length ≤ 2147483648) (fun i s hi hI => .inl ?_) (fun s hI => ⟨s.2, ?_, by omega⟩) 0 (p, Sl.nil) (by omega) (Nat.le_refl 0)
  ·rw [run_L1_eq]
   simp only [ref09_Run_L1]
   rw [decide_eq_true (by omega), cond_true, ixI_of hi, wrS (by omega)]
   simp only [Option.bind_some]
   obtain ⟨v9, h9⟩ : ∃ v9, (bif ((api_Act.Kind (gt l.l i)) == 3) then (some p) else (some s.1) : Option (Arr 4 Int)) = some v9 := by
    cases (api_Act.Kind (gt l.l i)) == 3
    ·exact ⟨_, rfl⟩
    ·exact ⟨_, rfl⟩
   rw [h9]
   simp only [Option.bind_some]
   obtain ⟨w, hw⟩ := with_some v9 (api_Act.F (gt l.l i)) (api_Act.V (gt l.l i))
   rw [hw]
   simp only [Option.bind_some]
   obtain ⟨v14, h14⟩ : ∃ v14, (bif ((api_Act.Kind (gt l.l i)) == 1) then (some w) else (some v9) : Option (Arr 4 Int)) = some v14 := by
    cases (api_Act.Kind (gt l.l i)) == 1
    ·exact ⟨_, rfl⟩
    ·exact ⟨_, rfl⟩
   rw [h14]
   simp only [Option.bind_some]
   cases (api_Act.Kind (gt l.l i)) == 2
   ·exact ⟨(_, _), rfl, Nat.le_succ_of_le hI⟩
   ·rw [cond_true, capI_of (by simp only [List.length_append, List.length_singleton]; omega)]
    exact ⟨(_, _), rfl, by show (s.2.l ++ [_]).length ≤ i + 1; rw [List.length_append, List.length_singleton]; omega⟩
  ·simp only [act_Run_L1]
   rw [decide_eq_false (by omega), cond_false]
 obtain ⟨s, h1, h2⟩ := h
 refine ⟨s, ?_, h2⟩
 unfold act_Run
 have h1 : loopO (act_Run_L1 l p) (0, p, Sl.nil) = some s := h1
 rw [h1]; rfl
theorem sent_refl (a : Sl api_Sent) (hn : a.l.length < 9223372036854775808) : ref09_Sent a a = some true := by
 unfold ref09_Sent
 rw [show ((a.l.length : Int) != (a.l.length : Int)) = false by simp, cond_false]
 rw [allL (f := ref09_Sent_L1 a a) a.l.length hn (fun _ => True) () (fun i hi => ?_) (by simp only [ref09_Sent_L1]; rw [decide_eq_false (by omega), cond_false]), tt_t fun _ _ => trivial]
 ·rfl
 ·rw [tt_t trivial]
  simp only [ref09_Sent_L1]
  rw [decide_eq_true (by omega), cond_true, ixI_of hi]
  simp only [Option.bind_some]
  rw [decide_eq_true trivial]; rfl
theorem acts_refl (a : Sl api_Act) (hn : a.l.length < 9223372036854775808) : slices_Equal_api_Act_api_Act a a = some true := by
 unfold slices_Equal_api_Act_api_Act
 rw [show ((a.l.length : Int) != (a.l.length : Int)) = false by simp, cond_false]
 rw [allL (f := slices_Equal_api_Act_api_Act_L1 a a) a.l.length hn (fun _ => True) () (fun i hi => ?_) (by simp only [slices_Equal_api_Act_api_Act_L1]; rw [decide_eq_false (by omega), cond_false]), tt_t fun _ _ => trivial]
 ·rfl
 ·rw [tt_t trivial]
  simp only [slices_Equal_api_Act_api_Act_L1]
  rw [decide_eq_true (by omega), cond_true, ixI_of hi]
  simp only [Option.bind_some]
  rw [decide_eq_true trivial]; rfl
theorem rule_same_refl (x : api_Rule) (hn : (api_Rule.Acts x).l.length < 9223372036854775808) : rule_Same x x = some true := by
 unfold rule_Same
 rw [rule_key, tt_t ⟨rfl, rfl⟩]
 simp only [Option.bind_some, cond_true, act_Same]
 rw [acts_refl _ hn]; rfl
theorem table_same_refl (t : Sl api_Rule) (hn : t.l.length < 9223372036854775808) (ha : ∀ x ∈ t.l, (api_Rule.Acts x).l.length < 9223372036854775808) : table_Same t t = some true := by
 unfold table_Same slices_EqualFunc_api_Rule_api_Rule_api_Rule_api_Rule_rule_Same
 rw [show ((t.l.length : Int) != (t.l.length : Int)) = false by simp, cond_false]
 rw [allL (f := slices_EqualFunc_api_Rule_api_Rule_api_Rule_api_Rule_rule_Same_L1 t t) t.l.length hn (fun _ => True) () (fun i hi => ?_) (by simp only [slices_EqualFunc_api_Rule_api_Rule_api_Rule_api_Rule_rule_Same_L1]; rw [decide_eq_false (by omega), cond_false]), tt_t fun _ _ => trivial]
 ·rfl
 ·rw [tt_t trivial]
  simp only [slices_EqualFunc_api_Rule_api_Rule_api_Rule_api_Rule_rule_Same_L1]
  rw [decide_eq_true (by omega), cond_true, ixI_of hi]
  simp only [Option.bind_some]
  rw [rule_same_refl _ (ha _ (gt_mem hi))]; rfl
theorem find_fi {α : Type} [Inhabited α] (l : List α) (p : α → Bool) : (fi l p = -1 ∧ l.find? p = none) ∨ ∃ k : Nat, fi l p = k ∧ k < l.length ∧ l.find? p = some (gt l k) := by
 rcases fi_cases l p with ⟨h, h2⟩ | ⟨k, h, hk, hp, hj⟩
 ·exact .inl ⟨h, List.find?_eq_none.2 fun x hx => by rw [h2 x hx]; decide⟩
 ·refine .inr ⟨k, h, hk, List.find?_eq_some_iff_getElem.2 ⟨hp, k, hk, (gt_eq hk).symm, fun j hjk => ?_⟩⟩
  have := hj j hjk
  rw [gt_eq (by omega)] at this
  rw [this]; rfl
noncomputable def sends (o : Option api_Rule) (p : Arr 4 Int) : Option (Sl api_Sent) := match o with | none => some Sl.nil | some x => act_Run (api_Rule.Acts x) p
theorem table_run {t : Sl api_Rule} {port : Int} {p : Arr 4 Int} (hn : t.l.length < 9223372036854775808) (hm : ∀ x ∈ t.l, MOk (api_Rule.M x)) (hp : POk p) :
  table_Run t port p = sends (t.l.find? fun x => tt (Hit (api_Rule.M x) port p)) p := by
 unfold table_Run
 rw [table_find hn hm hp]
 simp only [Option.bind_some]
 rcases find_fi t.l fun x => tt (Hit (api_Rule.M x) port p) with ⟨h, h2⟩ | ⟨k, h, hk, h2⟩
 ·rw [h, h2]; rfl
 ·rw [h, h2, decide_eq_false (by omega), cond_false, ixI_of hk]
  simp only [Option.bind_some]
  simp only [sends]
  cases act_Run (api_Rule.Acts (gt t.l k)) p <;> rfl
theorem ref11_run {t : Sl api_Rule} {port : Int} {p : Arr 4 Int} (hn : t.l.length < 9223372036854775808) (hm : ∀ x ∈ t.l, MOk (api_Rule.M x)) (hp : POk p) :
  ref11_Run t port p = sends (t.l.find? fun x => tt (Hit (api_Rule.M x) port p)) p := by
 unfold ref11_Run
 rw [ref11_find hn hm hp]
 simp only [Option.bind_some]
 rcases find_fi t.l fun x => tt (Hit (api_Rule.M x) port p) with ⟨h, h2⟩ | ⟨k, h, hk, h2⟩
 ·rw [h, h2]; rfl
 ·rw [h, h2, show ((k : Int) == (-1)) = false by rw [beq_eq_false_iff_ne]; omega, cond_false, ixI_of hk]
  simp only [Option.bind_some]
  rw [← run_eq]
  simp only [sends]
  cases act_Run (api_Rule.Acts (gt t.l k)) p <;> rfl
end Go.Proofs.Ytmeemkllagjnmaa.B
