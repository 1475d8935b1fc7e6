/- Changes of tables: the document's come to the same. Conditions: as stated. -/
import Derived.Test.YtmeemkllagjnmaaBH
open Go.Ev Go
namespace Go.Proofs.Ytmeemkllagjnmaa.B
theorem qbu {q : api_Rule → Bool} {t : List api_Rule} : (decide (((t.countP q : Nat) : Int) > 0)) = tt (∃ y ∈ t, q y = true) := by
 rw [q1m]
 refine q0n ?_
 rw [← List.countP_pos_iff]; omega
theorem qev {t : Sl api_Rule} {m : api_Mod} {ports room : Int} (hn : t.l.length < 2147483647) (h : TOk t.l ports room) (hx : ROk (api_Mod.R m) ports) (hk : api_Mod.Kind m = 1) :
  ∃ s, q9a t m room = some (s, (apl t.l m ports room).2) ∧ s.l = (apl t.l m ports room).1 := by
 have hM : ∀ y ∈ t.l, MOk (api_Rule.M y) := fun y hy => (h.r y hy).m
 unfold apl
 rw [if_neg (not_not_intro hx), if_pos hk]
 unfold q9a
 by_cases ho : api_Mod.Check m = true ∧ ∃ y ∈ t.l, Ovl y (api_Mod.R m)
 ·rw [if_pos ho]
  obtain ⟨hc, y, hy, hyo⟩ := ho
  rcases findL (f := q1r t m) t.l.length (by omega) (fun i => ¬ Ovl (gt t.l i) (api_Mod.R m)) (fun _ => (t, 14)) () (fun i hi hp => by
   simp only [q1r]
   rw [hc, decide_eq_true (by omega), Bool.and_true, cond_true, q0y hi]
   simp only [Option.bind_some]
   rw [q5j (hM _ (q2i hi)) hx.m, tt_f hp]; rfl) (fun i hi hp => by
   simp only [q1r]
   rw [hc, decide_eq_true (by omega), Bool.and_true, cond_true, q0y hi]
   simp only [Option.bind_some]
   rw [q5j (hM _ (q2i hi)) hx.m, tt_t (Classical.not_not.1 hp)]; rfl) (by
   simp only [q1r]
   rw [decide_eq_false (by omega), Bool.and_false, cond_false]) with ⟨h1, _⟩ | ⟨k, _, _, _, e⟩
  ·exact absurd hyo (qc4 (P := fun y => ¬ Ovl y (api_Mod.R m)) |>.1 h1 y hy)
  ·rw [e]; exact ⟨t, rfl, rfl⟩
 ·rw [if_neg ho]
  have e : loopO (q1r t m) 0 = some (.inr ()) := by
   by_cases hc : api_Mod.Check m = true
   ·have h2 := fun (i : Nat) (hi : i < t.l.length) => (show q1r t m i = some (.inl (wr .i64 ((i : Int) + 1))) by
     simp only [q1r]
     rw [hc, decide_eq_true (by omega), Bool.and_true, cond_true, q0y hi]
     simp only [Option.bind_some]
     rw [q5j (hM _ (q2i hi)) hx.m, tt_f fun h2 => ho ⟨hc, _, q2i hi, h2⟩]; rfl)
    exact runL (fun i => ((i : Nat) : Int)) t.l.length (fun i hi => by rw [h2 i hi, wrS (by omega)]) (by
     simp only [q1r]
     rw [decide_eq_false (by omega), Bool.and_false, cond_false])
   ·refine q34 ?_
    simp only [q1r]
    rw [show api_Mod.Check m = false by simpa using hc, Bool.false_and, cond_false]
  rw [e]
  simp only [Option.bind_some]
  obtain ⟨s, n, e1, e2, e3⟩ := q73 (t := t) (m := m) (strict := true) (gone := false) (by omega) hM hx.m (fun y => tt (Key y (api_Mod.R m))) rfl
  rw [e1]
  simp only [Option.bind_some]
  rw [e3, qbu]
  by_cases hkx : ∃ y ∈ t.l, Key y (api_Mod.R m)
  ·rw [if_pos hkx, tt_t (by simpa only [q67] using hkx)]
   exact ⟨s, rfl, e2⟩
  ·rw [if_neg hkx, tt_f (by simpa only [q67] using hkx), cond_false]
   by_cases hr : room ≤ t.l.length
   ·rw [if_pos hr, decide_eq_true (by omega)]
    exact ⟨t, rfl, rfl⟩
   ·rw [if_neg hr, decide_eq_false (by omega), cond_false]
    obtain ⟨s, e4, e5⟩ := qc2 (t := t) (x := api_Mod.R m) hn
    rw [e4]
    exact ⟨s, rfl, e5⟩
theorem qbz {t : Sl api_Rule} {m : api_Mod} {ports room : Int} (hn : t.l.length < 2147483647) (h : TOk t.l ports room) (hA : (api_Rule.Acts (api_Mod.R m)).l.length < 9223372036854775808) :
  ∃ s, q6b t m ports room = some (s, (apl t.l m ports room).2) ∧ s.l = (apl t.l m ports room).1 := by
 have hM : ∀ y ∈ t.l, MOk (api_Rule.M y) := fun y hy => (h.r y hy).m
 unfold q6b
 rw [qbo _ _ hA]
 by_cases hx : ROk (api_Mod.R m) ports
 case neg =>
  have : (apl t.l m ports room) = (t.l, 2) := by unfold apl; rw [if_pos hx]
  rw [this, tt_f hx]
  refine ⟨t, ?_, rfl⟩
  cases (decide ((api_Mod.Kind m) < 1)) || (decide ((api_Mod.Kind m) > 5)) <;> rfl
 rw [tt_t hx]
 simp only [Option.bind_some, Bool.not_true]
 by_cases hk : api_Mod.Kind m < 1 ∨ api_Mod.Kind m > 5
 ·have : (apl t.l m ports room) = (t.l, 2) := by
   unfold apl
   rw [if_neg (not_not_intro hx), if_neg (by omega), if_neg (by omega), if_neg (by omega), if_neg (by omega), if_neg (by omega)]
  rw [this, show ((decide ((api_Mod.Kind m) < 1)) || (decide ((api_Mod.Kind m) > 5))) = true by simpa using hk]
  exact ⟨t, rfl, rfl⟩
 rw [show ((decide ((api_Mod.Kind m) < 1)) || (decide ((api_Mod.Kind m) > 5))) = false by simp; omega, cond_false]
 simp only [Option.bind_some, cond_false]
 by_cases h1 : api_Mod.Kind m = 1
 ·rw [show ((api_Mod.Kind m) == 1) = true by simpa using h1, cond_true]
  obtain ⟨s, e1, e2⟩ := qev hn h hx h1
  rw [e1]
  exact ⟨s, rfl, e2⟩
 rw [show ((api_Mod.Kind m) == 1) = false by simpa using h1, cond_false]
 unfold apl
 rw [if_neg (not_not_intro hx), if_neg h1]
 have hcase : api_Mod.Kind m = 2 ∨ api_Mod.Kind m = 3 ∨ api_Mod.Kind m = 4 ∨ api_Mod.Kind m = 5 := by omega
 obtain ⟨s, n, e1, e2, e3⟩ := q73 (t := t) (m := m) (strict := ((api_Mod.Kind m) == 3) || ((api_Mod.Kind m) == 5)) (gone := decide ((api_Mod.Kind m) ≥ 4)) (by omega) hM hx.m _ rfl
 rw [e1]
 simp only [Option.bind_some]
 rcases hcase with hk | hk | hk | hk <;> simp only [hk] at e2 e3 ⊢
 ·exact ⟨s, rfl, e2⟩
 ·have e0 : (n == 0) = !(tt (∃ y ∈ t.l, Key y (api_Mod.R m))) := by
   have := qbu (q := fun y => tt (Key y (api_Mod.R m))) (t := t.l)
   simp only [q67] at this
   rw [← this]
   have e3 : n = (t.l.countP (fun y => tt (Key y (api_Mod.R m))) : Nat) := e3
   rw [e3]
   generalize t.l.countP (fun y => tt (Key y (api_Mod.R m))) = c
   by_cases hc : c = 0
   ·subst hc; rfl
   ·rw [decide_eq_true (by omega)]; simpa using hc
  rw [e0]
  by_cases hkx : ∃ y ∈ t.l, Key y (api_Mod.R m)
  ·rw [tt_t hkx, if_pos hkx]
   exact ⟨s, rfl, e2⟩
  ·rw [tt_f hkx, if_neg hkx]
   exact ⟨t, rfl, rfl⟩
 ·exact ⟨s, rfl, e2⟩
 ·rw [if_neg (by decide), if_neg (by decide), if_neg (by decide), if_pos trivial]
  have e0 : (n == 0) = !(tt (∃ y ∈ t.l, Key y (api_Mod.R m))) := by
   have := qbu (q := fun y => tt (Key y (api_Mod.R m))) (t := t.l)
   simp only [q67] at this
   rw [← this]
   have e3 : n = (t.l.countP (fun y => tt (Key y (api_Mod.R m))) : Nat) := e3
   rw [e3]
   generalize t.l.countP (fun y => tt (Key y (api_Mod.R m))) = c
   by_cases hc : c = 0
   ·subst hc; rfl
   ·rw [decide_eq_true (by omega)]; simpa using hc
  rw [e0]
  by_cases hkx : ∃ y ∈ t.l, Key y (api_Mod.R m)
  ·rw [tt_t hkx, if_pos hkx]
   exact ⟨s, rfl, e2⟩
  ·rw [tt_f hkx, if_neg hkx]
   exact ⟨t, rfl, rfl⟩
end Go.Proofs.Ytmeemkllagjnmaa.B
