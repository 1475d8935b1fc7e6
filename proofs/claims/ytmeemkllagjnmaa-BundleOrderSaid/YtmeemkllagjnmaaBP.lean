/- The law BundleOrder over its program. Conditions: as stated. -/
import Derived.Test.YtmeemkllagjnmaaBN
import Derived.Test.YtmeemkllagjnmaaBu
open Go.Ev Go
namespace Go.Proofs.Ytmeemkllagjnmaa.B
theorem arr_set {α : Type} [Inhabited α] {n : Nat} (v : Arr n α) {k j : Nat} (x : α) (hk : k < n) : gt (Arr.set v k x).1 j = if k = j then x else gt v.1 j := gt_set (by rw [v.2]; exact hk)
abbrev bhas (b : bundle_Bundle) (j : Nat) : Bool := gt (bundle_Bundle.has b).1 j
abbrev bl (b : bundle_Bundle) (j : Nat) : api_Mod := gt (bundle_Bundle.l b).1 j
theorem new_has : ∀ j, j < 16 → gt (zeE (.ar 16 .b) : Arr 16 Bool).1 j = false := by decide
theorem same_refl (m : api_Mod) (h : (api_Rule.Acts (api_Mod.R m)).l.length < 9223372036854775808) : bundle_same m m = some true := by
 unfold bundle_same
 rw [beq_self_eq_true, beq_self_eq_true, Bool.and_self, cond_true, rule_same_refl _ h]; rfl
theorem ref12_same_refl (m : api_Mod) (h : (api_Rule.Acts (api_Mod.R m)).l.length < 9223372036854775808) : ref12_Same m m = some true := by
 unfold ref12_Same
 rw [beq_self_eq_true, beq_self_eq_true, Bool.and_self, cond_true, ref10_same_refl _ h]; rfl
theorem badd_ok {b : bundle_Bundle} {i : Nat} {m : api_Mod} (hi : i < 16) (hst : bundle_Bundle.state b = 0) (h : bhas b i = true → bl b i = m) (hm : (api_Rule.Acts (api_Mod.R m)).l.length < 9223372036854775808) :
  bundle_Bundle_Add b i m = some (0, (⟨0, Arr.set (bundle_Bundle.has b) i true, Arr.set (bundle_Bundle.l b) i m, bundle_Bundle.n b⟩ : bundle_Bundle)) := by
 unfold bundle_Bundle_Add
 simp only [bundle_Bundle_State, Option.bind_some]
 rw [hst, show ((0 : Int) != 0) = false from rfl, cond_false, decide_eq_false (by omega), decide_eq_false (by omega), ixI_of hi]
 simp only [Option.bind_some, Bool.or_self, cond_false]
 by_cases hh : bhas b i = true
 ·rw [show gt (bundle_Bundle.has b).1 i = true from hh, cond_true, show gt (bundle_Bundle.l b).1 i = m from h hh, same_refl m hm]; rfl
 ·rw [show gt (bundle_Bundle.has b).1 i = false by simpa using hh]; rfl
theorem bclose_ok {b : bundle_Bundle} {n : Nat} (hn : n ≤ 16) (hst : bundle_Bundle.state b = 0) (h1 : ∀ j, n ≤ j → j < 16 → bhas b j = false) (h2 : ∀ j, j < n → bhas b j = true) :
  bundle_Bundle_Close b n = some (0, (⟨1, bundle_Bundle.has b, bundle_Bundle.l b, (n : Int)⟩ : bundle_Bundle)) := by
 unfold bundle_Bundle_Close
 simp only [bundle_Bundle_State, Option.bind_some]
 rw [hst, show ((0 : Int) == 2) = false from rfl, cond_false, show ((0 : Int) == 1) = false from rfl, Bool.false_and, cond_false, Bool.false_or, decide_eq_false (by omega), decide_eq_false (by omega)]
 simp only [Bool.or_self, cond_false]
 have e1 : loopO (bundle_Bundle_Close_L1 b) (n : Int) = some (.inr ()) := by
  have := runL (f := bundle_Bundle_Close_L1 b) (fun k => (((n + k : Nat)) : Int)) (16 - n) (b := .inr ()) (fun k hk => by
   simp only [bundle_Bundle_Close_L1]
   rw [decide_eq_true (by omega), cond_true, ixI_of (show n + k < 16 by omega), wrS (by omega)]
   simp only [Option.bind_some]
   rw [show gt (bundle_Bundle.has b).1 (n + k) = false from h1 (n + k) (by omega) (by omega)]; rfl) (by
   simp only [bundle_Bundle_Close_L1]
   rw [decide_eq_false (by omega), cond_false])
  exact this
 have e2 : loopO (bundle_Bundle_Close_L2 b n) 0 = some (.inr ()) := by
  have := runL (f := bundle_Bundle_Close_L2 b n) (fun k => ((k : Nat) : Int)) n (b := .inr ()) (fun k hk => by
   simp only [bundle_Bundle_Close_L2]
   rw [decide_eq_true (by omega), cond_true, ixI_of (show k < 16 by omega), wrS (by omega)]
   simp only [Option.bind_some]
   rw [show gt (bundle_Bundle.has b).1 k = true from h2 k hk]; rfl) (by
   simp only [bundle_Bundle_Close_L2]
   rw [decide_eq_false (by omega), cond_false])
  exact this
 rw [e1]
 simp only [Option.bind_some]
 rw [e2]; rfl
theorem bmods_ok {b : bundle_Bundle} {L : List api_Mod} (hn : L.length ≤ 16) (hst : bundle_Bundle.state b = 1) (hb : bundle_Bundle.n b = L.length) (h : ∀ j, j < L.length → bl b j = gt L j) :
  ∃ s, bundle_Bundle_Mods b = some (s, b) ∧ s.l = L := by
 have hl : ∃ s, loopO (bundle_Bundle_Mods_L1 b) (((0 : Nat) : Int), Sl.nil) = some s ∧ s.l = L := by
  refine forI (fun i (s : Sl api_Mod) => (((i : Nat) : Int), s)) L.length (fun i s => s.l = L.take i) _ (fun i s hi hI => .inl ?_) (fun s hI => ⟨s, ?_, by rw [hI, List.take_length]⟩) 0 Sl.nil (by omega) rfl
  ·simp only [bundle_Bundle_Mods_L1]
   rw [decide_eq_true (show (i : Int) < bundle_Bundle.n b by rw [hb]; omega), cond_true, ixI_of (show i < 16 by omega), wrS (by omega)]
   simp only [Option.bind_some]
   rw [snoc_capI (n := i) (by rw [hI, List.length_take]; omega) (by omega)]
   refine ⟨_, rfl, ?_⟩
   show s.l ++ [bl b i] = _
   rw [hI, h i hi, take_gt hi]
  ·simp only [bundle_Bundle_Mods_L1]
   rw [decide_eq_false (show ¬ (L.length : Int) < bundle_Bundle.n b by rw [hb]; omega), cond_false]
 obtain ⟨s, h1, h2⟩ := hl
 refine ⟨s, ?_, h2⟩
 unfold bundle_Bundle_Mods
 simp only [bundle_Bundle_State, Option.bind_some]
 rw [hst, show ((1 : Int) != 1) = false from rfl, cond_false]
 have h1 : loopO (bundle_Bundle_Mods_L1 b) (0, Sl.nil) = some s := h1
 rw [h1]; rfl
theorem ref12_mods_eq (a b : Sl api_Mod) (e : a.l = b.l) (hn : a.l.length < 9223372036854775808) (ha : ∀ m ∈ a.l, (api_Rule.Acts (api_Mod.R m)).l.length < 9223372036854775808) : ref12_Mods a b = some true := by
 unfold ref12_Mods
 rw [show ((a.l.length : Int) != (b.l.length : Int)) = false by rw [e]; simp, cond_false]
 rw [allL (f := ref12_Mods_L1 a b) a.l.length hn (fun _ => True) () (fun i hi => ?_) (by simp only [ref12_Mods_L1]; rw [decide_eq_false (by omega), cond_false]), tt_t fun _ _ => trivial]
 ·rfl
 ·rw [tt_t trivial]
  simp only [ref12_Mods_L1]
  rw [decide_eq_true (by omega), cond_true, ← e, ixI_of hi]
  simp only [Option.bind_some]
  rw [ref12_same_refl _ (ha _ (gt_mem hi))]; rfl
theorem order_law (l : Sl api_Mod) (order : Sl Int) (t : Sl api_Rule) (ports room : Int) (hn : t.l.length < 9223372036854775808) (ha : ∀ x ∈ t.l, (api_Rule.Acts x).l.length < 9223372036854775808) (hf : ∀ m ∈ l.l, MFit m) :
  law12_BundleOrder l order t ports room = some true := by
 unfold law12_BundleOrder
 rw [ref11_right t ports room hn ha]
 simp only [Option.bind_some]
 by_cases hs : l.l.length ≤ 16 ∧ order.l.length ≤ 60 ∧ t.l.length ≤ 20
 case neg => rw [show (((decide ((l.l.length : Int) > 16)) || (decide ((order.l.length : Int) > 60))) || (decide ((t.l.length : Int) > 20))) = true by simp; omega, law12_awake_runs]; rfl
 rw [show (((decide ((l.l.length : Int) > 16)) || (decide ((order.l.length : Int) > 60))) || (decide ((t.l.length : Int) > 20))) = false by simp; omega, cond_false]
 simp only [Option.bind_some]
 obtain ⟨hl, ho, h20⟩ := hs
 by_cases hT : TOk t.l ports room
 case neg => rw [tt_f hT, law12_awake_runs]; rfl
 rw [tt_t hT, Bool.not_true, cond_false]
 rcases findL (f := law12_BundleOrder_L1 l) l.l.length (by omega) (fun i => (api_Rule.Acts (api_Mod.R (gt l.l i))).l.length ≤ 10) (fun _ => true) () (fun i hi hp => by
   simp only [law12_BundleOrder_L1]
   rw [decide_eq_true (by omega), cond_true, ixI_of hi]
   simp only [Option.bind_some]
   rw [decide_eq_false (by omega)]; rfl) (fun i hi hp => by
   simp only [law12_BundleOrder_L1]
   rw [decide_eq_true (by omega), cond_true, ixI_of hi]
   simp only [Option.bind_some]
   rw [decide_eq_true (by omega), law12_awake_runs]; rfl) (by simp only [law12_BundleOrder_L1]; rw [decide_eq_false (by omega), cond_false]) with ⟨_, e⟩ | ⟨_, _, _, _, e⟩
 case inr => rw [e]; rfl
 rw [e]
 simp only [Option.bind_some, bundle_New]
 let I : bundle_Bundle → Prop := fun b => bundle_Bundle.state b = 0 ∧ ∀ j, j < 16 → bhas b j = true → j < l.l.length ∧ bl b j = gt l.l j
 have addI : ∀ (b : bundle_Bundle) (i : Nat), I b → i < l.l.length → ∃ b', bundle_Bundle_Add b i (gt l.l i) = some (0, b') ∧ I b' ∧ bhas b' i = true ∧ ∀ j, bhas b j = true → bhas b' j = true := by
  intro b i ⟨h1, h2⟩ hi
  refine ⟨_, badd_ok (by omega) h1 (fun h => (h2 i (by omega) h).2) (hf _ (gt_mem hi)).2, ⟨rfl, fun j hj hh => ?_⟩, ?_, fun j hj => ?_⟩
  ·simp only [bhas, bundle_Bundle.has] at hh
   simp only [bl, bundle_Bundle.l]
   rw [arr_set _ _ (by omega)] at hh ⊢
   by_cases e : i = j
   ·rw [if_pos e]; exact ⟨e ▸ hi, by rw [e]⟩
   ·rw [if_neg e] at hh ⊢; exact h2 j hj hh
  ·simp only [bhas, bundle_Bundle.has]
   rw [arr_set _ _ (by omega), if_pos rfl]
  ·simp only [bhas, bundle_Bundle.has]
   rw [arr_set _ _ (by omega)]
   by_cases e : i = j
   ·rw [if_pos e]
   ·rw [if_neg e]; exact hj
 have h2 : ∃ r, loopO (law12_BundleOrder_L2 l order) (((0 : Nat) : Int), (⟨0, (zeE (.ar 16 .b)), (zeE (.ar 16 y3)), 0⟩ : bundle_Bundle)) = some r ∧ ∃ b, r = .inr b ∧ I b := by
  refine forI (fun i (b : bundle_Bundle) => (((i : Nat) : Int), b)) order.l.length (fun _ b => I b) _ (fun i b hi hI => .inl ?_) (fun b hI => ⟨.inr b, ?_, b, rfl, hI⟩) 0 _ (by omega) ⟨rfl, fun j hj hh => ?_⟩
  ·simp only [law12_BundleOrder_L2]
   rw [decide_eq_true (by omega), cond_true, ixI_of hi, wrS (by omega)]
   simp only [Option.bind_some]
   by_cases hr : 0 ≤ gt order.l i ∧ gt order.l i < l.l.length
   ·obtain ⟨k, hk⟩ := Int.eq_ofNat_of_zero_le hr.1
    rw [hk, decide_eq_true (by omega), cond_true, decide_eq_true (by omega), cond_true, ixI_of (show k < l.l.length by omega)]
    simp only [Option.bind_some]
    obtain ⟨b', e1, e2, _⟩ := addI b k hI (by omega)
    rw [e1]
    exact ⟨b', rfl, e2⟩
   ·refine ⟨b, ?_, hI⟩
    by_cases h0 : 0 ≤ gt order.l i
    ·rw [decide_eq_true (by omega), cond_true, decide_eq_false (by omega)]; rfl
    ·rw [decide_eq_false (by omega)]; rfl
  ·simp only [law12_BundleOrder_L2]
   rw [decide_eq_false (by omega), cond_false]
  ·rw [show bhas (⟨0, (zeE (.ar 16 .b)), (zeE (.ar 16 y3)), 0⟩ : bundle_Bundle) j = false from new_has j hj] at hh; cases hh
 obtain ⟨_, h2, b1, rfl, hI1⟩ := h2
 have h2 : loopO (law12_BundleOrder_L2 l order) (0, (⟨0, (zeE (.ar 16 .b)), (zeE (.ar 16 y3)), 0⟩ : bundle_Bundle)) = some (.inr b1) := h2
 rw [h2]
 simp only [Option.bind_some]
 have h3 : ∃ r, loopO (law12_BundleOrder_L3 l) ((l.l.length : Int) - 1 - ((0 : Nat) : Int), b1) = some r ∧ ∃ b, r = .inr b ∧ I b ∧ ∀ j, j < l.l.length → bhas b j = true := by
  refine forI (fun k (b : bundle_Bundle) => ((l.l.length : Int) - 1 - ((k : Nat) : Int), b)) l.l.length (fun k b => I b ∧ ∀ j, j < l.l.length → l.l.length ≤ j + k → bhas b j = true) _ (fun k b hk hI => .inl ?_) (fun b hI => ⟨.inr b, ?_, b, rfl, hI.1, fun j hj => hI.2 j hj (by omega)⟩) 0 _ (by omega) ⟨hI1, fun j hj hk => by omega⟩
  ·simp only [law12_BundleOrder_L3]
   have e0 : (l.l.length : Int) - 1 - (k : Int) = ((l.l.length - 1 - k : Nat) : Int) := by omega
   have hlt : l.l.length - 1 - k < l.l.length := by omega
   obtain ⟨b', e1, e2, e3, e4⟩ := addI b (l.l.length - 1 - k) hI.1 hlt
   rw [decide_eq_true (by omega), cond_true, e0, ixI_of hlt]
   simp only [Option.bind_some]
   rw [e1]
   simp only [Option.bind_some]
   rw [show ((0 : Int) != 0) = false from rfl, cond_false, wr64 (by omega) (by omega)]
   refine ⟨b', ?_, e2, fun j hj hk2 => ?_⟩
   ·rw [show ((l.l.length - 1 - k : Nat) : Int) - 1 = (l.l.length : Int) - 1 - ((k + 1 : Nat) : Int) by omega]
   ·by_cases e : j = l.l.length - 1 - k
    ·rw [e]; exact e3
    ·exact e4 j (hI.2 j hj (by omega))
  ·simp only [law12_BundleOrder_L3]
   rw [decide_eq_false (by omega), cond_false]
 obtain ⟨_, h3, b2, rfl, hI2, hall⟩ := h3
 rw [wr64 (by omega) (by omega)]
 rw [show (l.l.length : Int) - 1 - ((0 : Nat) : Int) = (l.l.length : Int) - 1 by omega] at h3
 rw [h3]
 simp only [Option.bind_some]
 rw [bclose_ok hl hI2.1 (fun j hj hj2 => by
  cases h : bhas b2 j
  ·rfl
  ·have := (hI2.2 j hj2 h).1; omega) hall]
 simp only [Option.bind_some]
 rw [show ((0 : Int) != 0) = false from rfl, cond_false]
 obtain ⟨s, e1, e2⟩ := bmods_ok (b := (⟨1, bundle_Bundle.has b2, bundle_Bundle.l b2, (l.l.length : Int)⟩ : bundle_Bundle)) (L := l.l) hl rfl rfl (fun j hj => (hI2.2 j (by omega) (hall j hj)).2)
 rw [e1]
 simp only [Option.bind_some]
 rw [ref12_mods_eq s l e2 (by rw [e2]; omega) (fun m hm => (hf m (by rw [e2] at hm; exact hm)).2)]
 simp only [Option.bind_some, Bool.not_true, cond_false]
 obtain ⟨q, e3, e4⟩ := table_mods_ok (t := t) (l := l) (room := room) (by omega) hT hf
 obtain ⟨q', e5, e6⟩ := table_mods_ok (t := t) (l := s) (room := room) (by rw [e2]; omega) hT (by rw [e2]; exact hf)
 obtain ⟨g1, g2⟩ := mods_ok hT l.l t.l 0 hT
 rw [e2] at e5 e6
 rw [e3]
 simp only [Option.bind_some, bundle_Bundle_Commit, bundle_Bundle_Check, bundle_Bundle_State]
 rw [show ((1 : Int) != 1) = false from rfl, cond_false, e1]
 simp only [Option.bind_some]
 rw [e5]
 simp only [Option.bind_some]
 rw [← e4] at g1 g2
 by_cases he : (mods t.l ports room t.l l.l 0).2.2 = 0
 ·rw [he, show ((0 : Int) != 0) = false from rfl, cond_false, e1]
  simp only [Option.bind_some]
  rw [e5]
  simp only [Option.bind_some, bundle_Bundle_Discard]
  rw [show ((2 : Int) != 1) = true from rfl, cond_true]
  simp only [Option.bind_some]
  rw [show ((16 : Int) != 0) = true from rfl, cond_true]
  simp only [Option.bind_some]
  rw [ref10_rules_eq q' q (e6.trans e4.symm) (by rw [e6, ← e4]; omega) (by rw [e6, ← e4]; exact tok_acts g1), ref10_rules_eq t t rfl hn ha, law12_awake_runs]; rfl
 ·rw [show ((mods t.l ports room t.l l.l 0).2.2 != 0) = true by simpa using he, cond_true]
  have hq : q.l = t.l := by rw [e4, (mods_err _ _ _ he).1]
  simp only [Option.bind_some]
  rw [show ((1 : Int) != 1) = false from rfl, cond_false, e1]
  simp only [Option.bind_some]
  rw [e5]
  simp only [Option.bind_some]
  rw [show ((mods t.l ports room t.l l.l 0).2.2 != 0) = true by simpa using he, cond_true]
  simp only [Option.bind_some]
  rw [ref10_rules_eq t q hq.symm hn ha, ref10_rules_eq t t rfl hn ha, bne_self_eq_false, beq_self_eq_true, law12_awake_runs]; rfl
end Go.Proofs.Ytmeemkllagjnmaa.B
