/- Changes of tables: rules that are deleted; all changes; lists of changes. Conditions: as stated. -/
import Derived.Test.YtmeemkllagjnmaaBI
import Derived.Test.YtmeemkllagjnmaaBJ
open Go.Ev Go
namespace Go.Proofs.Ytmeemkllagjnmaa.B
theorem qr7 {α : Type} [Inhabited α] {a b : List α} {j : Nat} (h : a.drop j = b.drop j) : gt a j = gt b j := by
 have h2 : a[j]? = b[j]? := by
  have := congrArg (fun l : List α => l[0]?) h
  simpa [List.getElem?_drop] using this
 simp only [gt, List.getD_eq_getElem?_getD, h2]
theorem qez {α : Type} {a b : List α} {j : Nat} (h : a.drop j = b.drop j) : a.drop (j + 1) = b.drop (j + 1) := by
 have := congrArg (List.drop 1) h
 simpa [List.drop_drop] using this
theorem qr3 {t : Sl api_Rule} {m : api_Mod} (hn : t.l.length ≤ 2147483648) (hM : ∀ y ∈ t.l, MOk (api_Rule.M y)) (hm : MOk (api_Rule.M (api_Mod.R m))) (a : Sl api_Act) :
  ∃ s, q08 t m = some s ∧ s.l = chg (fun y => tt (Lies (api_Rule.M y) (api_Rule.M (api_Mod.R m)))) true a t.l := by
 rw [qds]
 let p : api_Rule → Bool := fun y => tt (Lies (api_Rule.M y) (api_Rule.M (api_Mod.R m)))
 have hp : ∀ y ∈ t.l, q2v y m = some (p y) := fun y hy => by simp only [q2v, qae (hM y hy) hm, Option.bind_some, p]
 unfold q08
 rw [qs1 (by omega) p hp]
 simp only [Option.bind_some]
 rcases q9m t.l p with ⟨h, h2⟩ | ⟨k, h, hk, hpk, hj⟩
 ·rw [h]
  refine ⟨t, rfl, (List.filter_eq_self.2 fun y hy => ?_).symm⟩
  have : p y = false := h2 y hy
  show (!p y) = true
  rw [this]; rfl
 rw [h, show ((k : Int) == -1) = false by rw [beq_eq_false_iff_ne]; omega, cond_false, wrS (by omega)]
 have hmk : t = Sl.mk t.l := by
  cases t with
  | nil => exact absurd hk (Nat.not_lt_zero _)
  | mk l => rfl
 have hloop : ∃ r, loopO (q04 m) ((k : Int), ((k + 1 : Nat) : Int), t) = some r ∧
   ∃ (i : Nat) (w : List api_Rule), r = ((i : Int), Sl.mk w) ∧ i ≤ w.length ∧ w.length = t.l.length ∧ w.take i = t.l.filter fun y => !p y := by
  refine forI (fun j (s : Int × Sl api_Rule) => (s.1, ((j : Nat) : Int), s.2)) t.l.length
   (fun j s => ∃ (i : Nat) (w : List api_Rule), s = ((i : Int), Sl.mk w) ∧ i < j ∧ w.length = t.l.length ∧ w.take i = (t.l.take j).filter (fun y => !p y) ∧ w.drop j = t.l.drop j) _ (fun j s hj hI => .inl ?_) (fun s hI => ⟨s, ?_, ?_⟩) (k + 1) ((k : Int), t) (by omega) ?_
  ·obtain ⟨i, w, rfl, h1, h2, h3, h4⟩ := hI
   have hg := qr7 h4
   simp only [q04]
   rw [decide_eq_true (show (j : Int) < ((Sl.mk w).l.length : Int) by show (j : Int) < (w.length : Int); omega), cond_true, q0y (show j < (Sl.mk w).l.length by show j < w.length; omega), wrS (n := j) (by omega)]
   simp only [Option.bind_some]
   rw [show gt (Sl.mk w).l j = gt t.l j from hg, hp _ (q2i hj)]
   simp only [Option.bind_some]
   have hf : (t.l.take (j + 1)).filter (fun y => !p y) = (t.l.take j).filter (fun y => !p y) ++ [gt t.l j].filter (fun y => !p y) := by
    rw [q4h hj, List.filter_append]
   cases hq : p (gt t.l j)
   ·rw [Bool.not_false, cond_true, q0y (show i < (Sl.mk w).l.length by show i < w.length; omega), wrS (n := i) (by omega)]
    refine ⟨(((i + 1 : Nat) : Int), Sl.mk (w.set i (gt t.l j))), rfl, i + 1, _, rfl, by omega, by rw [List.length_set]; exact h2, ?_, ?_⟩
    ·rw [hf, ← h3, List.filter_cons, hq, q4h (by rw [List.length_set]; omega), qnf (by omega), if_pos rfl, List.take_set_of_le (Nat.le_refl i)]; rfl
    ·rw [List.drop_set_of_lt (by omega), qez h4]
   ·rw [Bool.not_true, cond_false]
    refine ⟨((i : Int), Sl.mk w), rfl, i, w, rfl, by omega, h2, ?_, qez h4⟩
    rw [hf, ← h3, List.filter_cons, hq]; simp
  ·obtain ⟨i, w, rfl, h1, h2, h3, h4⟩ := hI
   simp only [q04]
   rw [decide_eq_false (show ¬ (t.l.length : Int) < ((Sl.mk w).l.length : Int) by show ¬ (t.l.length : Int) < (w.length : Int); omega), cond_false]
  ·obtain ⟨i, w, rfl, h1, h2, h3, h4⟩ := hI
   exact ⟨i, w, rfl, by omega, h2, by rw [h3, List.take_length]⟩
  ·refine ⟨k, t.l, by rw [← hmk], by omega, rfl, ?_, rfl⟩
   rw [q4h hk, List.filter_append, List.filter_cons, hpk, List.filter_eq_self.2]
   ·simp
   ·intro y hy
    obtain ⟨j, hj2, rfl⟩ := List.mem_iff_getElem.1 hy
    rw [List.length_take] at hj2
    rw [List.getElem_take, ← gt_eq, hj j (by omega)]; rfl
 obtain ⟨r, h1, i, w, rfl, h2, h3, h4⟩ := hloop
 rw [h1]
 simp only [Option.bind_some]
 have hw : (Sl.mk w).l = w := rfl
 rw [hw, qo9 h2]
 simp only [Option.bind_some, clrS]
 have hl : (cpL w (i : Int).toNat (((Sl.mk w).to (w.drop i)).l.length) (List.replicate ((Sl.mk w).to (w.drop i)).l.length (⟨0, (⟨0, (zeE (.ar 4 (.i .i64))), (zeE (.ar 4 (.i .i64)))⟩ : api_Match), Sl.nil⟩ : api_Rule))).take i = w.take i := by
  unfold cpL splice
  rw [Int.toNat_natCast, List.append_assoc, List.take_append_of_le_length (by rw [List.length_take]; omega), List.take_take, Nat.min_self]
 have hlen : i ≤ (cpL w (i : Int).toNat (((Sl.mk w).to (w.drop i)).l.length) (List.replicate ((Sl.mk w).to (w.drop i)).l.length (⟨0, (⟨0, (zeE (.ar 4 (.i .i64))), (zeE (.ar 4 (.i .i64)))⟩ : api_Match), Sl.nil⟩ : api_Rule))).length := by
  unfold cpL splice
  rw [Int.toNat_natCast, List.append_assoc, List.length_append, List.length_take]; omega
 rw [show ∀ z : List api_Rule, (Sl.mk z).l = z from fun _ => rfl, qoc hlen, hl]
 exact ⟨_, rfl, h4⟩
theorem qel {t : Sl api_Rule} {m : api_Mod} {ports room : Int} (hn : t.l.length < 2147483647) (h : TOk t.l ports room) (hx : ROk (api_Mod.R m) ports) (hk : api_Mod.Kind m = 1) :
  ∃ s, q95 t m room = some (s, (apl t.l m ports room).2) ∧ s.l = (apl t.l m ports room).1 := by
 have hM : ∀ y ∈ t.l, MOk (api_Rule.M y) := fun y hy => (h.r y hy).m
 unfold apl
 rw [if_neg (not_not_intro hx), if_pos hk]
 unfold q95
 have e1 : (bif api_Mod.Check m then ((q09 t (api_Mod.R m)).bind fun r1 => some r1) else (some false) : Option Bool) = some (tt (api_Mod.Check m = true ∧ ∃ y ∈ t.l, Ovl y (api_Mod.R m))) := by
  cases hc : api_Mod.Check m
  ·rw [tt_f (by simp)]; rfl
  ·rw [cond_true]
   simp only [q09]
   rw [qpt (by omega) (fun y => tt (Ovl y (api_Mod.R m))) (fun y hy => by simp only [q6w]; rw [qdh hx.m (hM y hy), q0n qpk]; rfl)]
   simp only [Option.bind_some]
   rw [fi_ge]
   exact congrArg some (q0n (by simp only [q67, true_and]))
 rw [e1]
 simp only [Option.bind_some]
 by_cases ho : api_Mod.Check m = true ∧ ∃ y ∈ t.l, Ovl y (api_Mod.R m)
 ·rw [if_pos ho, tt_t ho]; exact ⟨t, rfl, rfl⟩
 rw [if_neg ho, tt_f ho, cond_false, qal _ (by omega)]
 simp only [Option.bind_some]
 rcases q9m t.l fun y => tt (Key (api_Mod.R m) y) with ⟨hf, h2⟩ | ⟨k, hf, hk2, hpk, _⟩
 ·have hkx : ¬ ∃ y ∈ t.l, Key y (api_Mod.R m) := fun ⟨y, hy, hq⟩ => qd5.1 (h2 y hy) hq.symm
  rw [if_neg hkx, hf, show decide ((-1 : Int) ≥ 0) = false from rfl, cond_false]
  by_cases hr : room ≤ t.l.length
  ·rw [if_pos hr, decide_eq_true (by omega)]; exact ⟨t, rfl, rfl⟩
  rw [if_neg hr, decide_eq_false (by omega), cond_false]
  rw [qp0 (by omega) (fun y => decide (api_Rule.Prio (api_Mod.R m) > api_Rule.Prio y)) (fun y _ => rfl)]
  simp only [Option.bind_some]
  obtain ⟨k, e2, hk3, e3⟩ := qog (l := t.l) (x := api_Mod.R m)
  rw [e2, q9i (by omega)]
  simp only [Option.bind_some]
  rw [qrf hk3 (by omega)]
  exact ⟨_, rfl, e3⟩
 ·have hq : Key (gt t.l k) (api_Mod.R m) := (q67.1 hpk).symm
  rw [if_pos ⟨_, q2i hk2, hq⟩, hf, decide_eq_true (by omega), cond_true, qbm (by omega) hk2]
  exact ⟨_, rfl, qlg h.s hk2 hq _⟩
theorem qc0 {t : Sl api_Rule} {m : api_Mod} {ports room : Int} (hn : t.l.length < 2147483647) (h : TOk t.l ports room) (hf : RFit (api_Mod.R m)) :
  ∃ s, q6r t m ports room = some (s, (apl t.l m ports room).2) ∧ s.l = (apl t.l m ports room).1 := by
 have hM : ∀ y ∈ t.l, MOk (api_Rule.M y) := fun y hy => (h.r y hy).m
 unfold q6r
 rw [qjn _ _ hf]
 simp only [Option.bind_some]
 by_cases hx : ROk (api_Mod.R m) ports
 case neg =>
  have : (apl t.l m ports room) = (t.l, 2) := by unfold apl; rw [if_pos hx]
  rw [this, tt_f hx]
  exact ⟨t, rfl, rfl⟩
 rw [tt_t hx, Bool.not_true, cond_false]
 by_cases h1 : api_Mod.Kind m = 1
 ·rw [show ((api_Mod.Kind m) == 1) = true by simpa using h1, cond_true]
  obtain ⟨s, e1, e2⟩ := qel hn h hx h1
  rw [e1]
  exact ⟨s, rfl, e2⟩
 rw [show ((api_Mod.Kind m) == 1) = false by simpa using h1, cond_false]
 unfold apl
 rw [if_neg (not_not_intro hx), if_neg h1]
 by_cases h2 : api_Mod.Kind m = 2
 ·rw [show ((api_Mod.Kind m) == 2) = true by simpa using h2, cond_true, if_pos h2]
  obtain ⟨s, e1, e2⟩ := qkw (t := t) (x := api_Mod.R m) (by omega) hM hx.m
  rw [e1]
  exact ⟨s, rfl, e2⟩
 rw [show ((api_Mod.Kind m) == 2) = false by simpa using h2, cond_false, if_neg h2]
 by_cases h4 : api_Mod.Kind m = 4
 ·rw [show ((api_Mod.Kind m) == 4) = true by simpa using h4, cond_true, if_pos h4, q9i (by omega)]
  simp only [Option.bind_some]
  obtain ⟨s, e1, e2⟩ := qr3 (t := t) (m := m) (by omega) hM hx.m (api_Rule.Acts (api_Mod.R m))
  rw [e1]
  exact ⟨s, rfl, e2⟩
 rw [show ((api_Mod.Kind m) == 4) = false by simpa using h4, cond_false, if_neg h4]
 by_cases h35 : api_Mod.Kind m = 3 ∨ api_Mod.Kind m = 5
 case neg =>
  rw [if_neg (by omega), if_neg (by omega), show ((api_Mod.Kind m) == 3) = false by rw [beq_eq_false_iff_ne]; omega, show ((api_Mod.Kind m) == 5) = false by rw [beq_eq_false_iff_ne]; omega]
  exact ⟨t, rfl, rfl⟩
 have hb : (bif ((api_Mod.Kind m) == 3) then (some ((api_Mod.Kind m) == 3)) else (some ((api_Mod.Kind m) == 5)) : Option Bool) = some true := by
  rcases h35 with h | h <;> rw [h] <;> rfl
 rw [hb]
 simp only [Option.bind_some, cond_true, q7g]
 rw [qal _ (by omega)]
 simp only [Option.bind_some]
 rcases q9m t.l fun y => tt (Key (api_Mod.R m) y) with ⟨hf, h2⟩ | ⟨k, hf, hk2, hpk, _⟩
 ·have hkx : ¬ ∃ y ∈ t.l, Key y (api_Mod.R m) := fun ⟨y, hy, hq⟩ => qd5.1 (h2 y hy) hq.symm
  rw [hf]
  refine ⟨t, ?_, ?_⟩ <;> rcases h35 with h | h <;> simp only [h] <;> simp [hkx]
 ·have hq : Key (gt t.l k) (api_Mod.R m) := (q67.1 hpk).symm
  have hkx : ∃ y ∈ t.l, Key y (api_Mod.R m) := ⟨_, q2i hk2, hq⟩
  rw [hf, decide_eq_false (by omega), cond_false]
  simp only [Option.bind_some]
  rcases h35 with h3 | h5
  ·rw [if_pos h3, if_pos hkx, show ((api_Mod.Kind m) == 3) = true by simpa using h3, qbm (by omega) hk2]
   exact ⟨_, rfl, qlg h.s hk2 hq _⟩
  ·rw [if_neg (by omega), if_pos h5, if_pos hkx, show ((api_Mod.Kind m) == 3) = false by rw [beq_eq_false_iff_ne]; omega, q9i (by omega)]
   simp only [Option.bind_some]
   rw [wrS (by omega), qs6 hk2 (by omega)]
   exact ⟨_, rfl, qnk h.s hk2 hq _⟩
end Go.Proofs.Ytmeemkllagjnmaa.B
