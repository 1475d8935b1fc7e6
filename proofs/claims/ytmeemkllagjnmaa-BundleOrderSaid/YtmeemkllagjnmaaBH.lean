/- Changes of tables: what they come to, over lists. Conditions: as stated. -/
import Derived.Test.YtmeemkllagjnmaaBE
open Go.Ev Go
namespace Go.Proofs.Ytmeemkllagjnmaa.B
abbrev withA (y : api_Rule) (l : Sl api_Act) : api_Rule := (⟨api_Rule.Prio y, api_Rule.M y, l⟩ : api_Rule)
noncomputable def g1 (q : api_Rule → Bool) (gone : Bool) (a : Sl api_Act) (y : api_Rule) : List api_Rule := bif q y then (bif gone then [] else [withA y a]) else [y]
noncomputable def chg (q : api_Rule → Bool) (gone : Bool) (a : Sl api_Act) (t : List api_Rule) : List api_Rule := t.flatMap (g1 q gone a)
noncomputable def ins (x : api_Rule) : List api_Rule → List api_Rule
 | [] => [x]
 | y :: r => bif tt (api_Rule.Prio x ≤ api_Rule.Prio y) then y :: ins x r else x :: y :: r
theorem take_gt {α : Type} [Inhabited α] {l : List α} {i : Nat} (h : i < l.length) : l.take (i + 1) = l.take i ++ [gt l i] := by
 rw [List.take_add_one, gt_get h]; rfl
theorem drop_gt {α : Type} [Inhabited α] {l : List α} {i : Nat} (h : i < l.length) : l.drop i = gt l i :: l.drop (i + 1) := by
 rw [gt_eq h]; exact List.drop_eq_getElem_cons h
theorem g1_len (q : api_Rule → Bool) (gone : Bool) (a : Sl api_Act) (y : api_Rule) : (g1 q gone a y).length ≤ 1 := by
 unfold g1; cases q y <;> cases gone <;> simp
theorem chg_len (q : api_Rule → Bool) (gone : Bool) (a : Sl api_Act) (t : List api_Rule) : (chg q gone a t).length ≤ t.length := by
 induction t with
 | nil => exact Nat.le_refl 0
 | cons y r ih =>
  have h1 := g1_len q gone a y
  have h2 : (chg q gone a (y :: r)).length = (g1 q gone a y).length + (chg q gone a r).length := by
   unfold chg; rw [List.flatMap_cons, List.length_append]
  rw [h2, List.length_cons]; omega
theorem chg_map {q : api_Rule → Bool} {a : Sl api_Act} {t : List api_Rule} : chg q false a t = t.map fun y => bif q y then withA y a else y := by
 induction t with
 | nil => rfl
 | cons y r ih =>
  have : chg q false a (y :: r) = g1 q false a y ++ chg q false a r := by unfold chg; rw [List.flatMap_cons]
  rw [this, ih, List.map_cons]; unfold g1; cases q y <;> rfl
theorem chg_gone {q : api_Rule → Bool} {a : Sl api_Act} {t : List api_Rule} : chg q true a t = t.filter fun y => !q y := by
 induction t with
 | nil => rfl
 | cons y r ih =>
  have : chg q true a (y :: r) = g1 q true a y ++ chg q true a r := by unfold chg; rw [List.flatMap_cons]
  rw [this, ih, List.filter_cons]; unfold g1; cases q y <;> rfl
theorem ins_all {x : api_Rule} {l r : List api_Rule} (h : ∀ y ∈ l, api_Rule.Prio x ≤ api_Rule.Prio y) : ins x (l ++ r) = l ++ ins x r := by
 induction l with
 | nil => rfl
 | cons y l ih =>
  rw [List.cons_append, ins, tt_t (h y (by simp)), cond_true, ih fun z hz => h z (by simp [hz])]; rfl
theorem ins_len (x : api_Rule) (l : List api_Rule) : (ins x l).length = l.length + 1 := by
 induction l with
 | nil => rfl
 | cons y r ih =>
  rw [ins]
  cases tt (api_Rule.Prio x ≤ api_Rule.Prio y)
  ·rfl
  ·rw [cond_true, List.length_cons, ih, List.length_cons]
theorem ins_mem {x y : api_Rule} {l : List api_Rule} : y ∈ ins x l ↔ y = x ∨ y ∈ l := by
 induction l with
 | nil => simp [ins]
 | cons z r ih =>
  rw [ins]
  cases tt (api_Rule.Prio x ≤ api_Rule.Prio z)
  ·simp only [cond_false, List.mem_cons]
  ·simp only [cond_true, List.mem_cons, ih]
   exact or_left_comm
theorem srt_ins {x : api_Rule} {l : List api_Rule} (hs : Srt l) (hk : ∀ y ∈ l, ¬ Key y x) : Srt (ins x l) := by
 unfold Srt at *
 induction l with
 | nil => simp [ins]
 | cons y r ih =>
  rw [ins]
  rw [List.pairwise_cons] at hs
  by_cases h : api_Rule.Prio x ≤ api_Rule.Prio y
  ·rw [tt_t h, cond_true, List.pairwise_cons]
   refine ⟨fun z hz => ?_, ih hs.2 fun z hz => hk z (by simp [hz])⟩
   rcases ins_mem.1 hz with rfl | hz
   ·exact ⟨h, hk y (by simp)⟩
   ·exact hs.1 z hz
  ·rw [tt_f h, cond_false, List.pairwise_cons, List.pairwise_cons]
   refine ⟨fun z hz => ?_, hs⟩
   refine ⟨?_, fun q => hk z hz q.symm⟩
   rcases List.mem_cons.1 hz with rfl | hz
   ·omega
   ·have := (hs.1 z hz).1; omega
open Classical in
noncomputable def apl (t : List api_Rule) (m : api_Mod) (ports room : Int) : List api_Rule × Int :=
 if ¬ ROk (api_Mod.R m) ports then (t, 2)
 else if api_Mod.Kind m = 1 then
  (if api_Mod.Check m = true ∧ ∃ y ∈ t, Ovl y (api_Mod.R m) then (t, 14)
  else if ∃ y ∈ t, Key y (api_Mod.R m) then (chg (fun y => tt (Key y (api_Mod.R m))) false (api_Rule.Acts (api_Mod.R m)) t, 0)
  else if room ≤ t.length then (t, 6) else (ins (api_Mod.R m) t, 0))
 else if api_Mod.Kind m = 2 then (chg (fun y => tt (Lies (api_Rule.M y) (api_Rule.M (api_Mod.R m)))) false (api_Rule.Acts (api_Mod.R m)) t, 0)
 else if api_Mod.Kind m = 4 then (chg (fun y => tt (Lies (api_Rule.M y) (api_Rule.M (api_Mod.R m)))) true (api_Rule.Acts (api_Mod.R m)) t, 0)
 else if api_Mod.Kind m = 3 then (if ∃ y ∈ t, Key y (api_Mod.R m) then (chg (fun y => tt (Key y (api_Mod.R m))) false (api_Rule.Acts (api_Mod.R m)) t, 0) else (t, 7))
 else if api_Mod.Kind m = 5 then (if ∃ y ∈ t, Key y (api_Mod.R m) then (chg (fun y => tt (Key y (api_Mod.R m))) true (api_Rule.Acts (api_Mod.R m)) t, 0) else (t, 7))
 else (t, 2)
theorem srt_map {q : api_Rule → Bool} {a : Sl api_Act} {t : List api_Rule} (h : Srt t) : Srt (chg q false a t) := by
 have e : ∀ y : api_Rule, api_Rule.Prio (bif q y then withA y a else y) = api_Rule.Prio y ∧ api_Rule.M (bif q y then withA y a else y) = api_Rule.M y := fun y => by cases q y <;> exact ⟨rfl, rfl⟩
 unfold Srt at *
 rw [chg_map, List.pairwise_map]
 refine h.imp fun {y z} h => ?_
 unfold Key at *
 rw [(e y).1, (e y).2, (e z).1, (e z).2]
 exact h
theorem tok_chg {q : api_Rule → Bool} {gone : Bool} {x : api_Rule} {t : List api_Rule} {ports room : Int} (h : TOk t ports room) (hx : ROk x ports) : TOk (chg q gone (api_Rule.Acts x) t) ports room := by
 refine ⟨fun y hy => ?_, ?_, by have := chg_len q gone (api_Rule.Acts x) t; have := h.n; omega⟩
 ·unfold chg at hy
  obtain ⟨z, hz, hyz⟩ := List.mem_flatMap.1 hy
  have hz := h.r z hz
  unfold g1 at hyz
  cases hq : q z <;> cases gone <;> simp only [hq, cond_true, cond_false, List.mem_singleton, List.not_mem_nil] at hyz
  ·rw [hyz]; exact hz
  ·rw [hyz]; exact hz
  ·rw [hyz]; exact ⟨hz.lo, hz.hi, hz.m, hx.a⟩
 ·cases gone
  ·exact srt_map h.s
  ·rw [chg_gone]; exact List.Pairwise.sublist List.filter_sublist h.s
theorem apl_ok {t : List api_Rule} {m : api_Mod} {ports room : Int} (h : TOk t ports room) : TOk (apl t m ports room).1 ports room ∧ (apl t m ports room).1.length ≤ t.length + 1 := by
 have key : ∀ {t' : List api_Rule} {e : Int}, TOk t' ports room → t'.length ≤ t.length + 1 → TOk ((t', e) : List api_Rule × Int).1 ports room ∧ ((t', e) : List api_Rule × Int).1.length ≤ t.length + 1 := fun a b => ⟨a, b⟩
 unfold apl
 by_cases hx : ROk (api_Mod.R m) ports
 case neg => rw [if_pos hx]; exact key h (by omega)
 rw [if_neg (not_not_intro hx)]
 have kc : ∀ {q : api_Rule → Bool} {gone : Bool}, TOk ((chg q gone (api_Rule.Acts (api_Mod.R m)) t, (0 : Int)) : List api_Rule × Int).1 ports room ∧ ((chg q gone (api_Rule.Acts (api_Mod.R m)) t, (0 : Int)) : List api_Rule × Int).1.length ≤ t.length + 1 :=
  fun {q gone} => key (tok_chg h hx) (Nat.le_succ_of_le (chg_len _ _ _ _))
 have k0 : ∀ {e : Int}, TOk ((t, e) : List api_Rule × Int).1 ports room ∧ ((t, e) : List api_Rule × Int).1.length ≤ t.length + 1 := key h (by omega)
 split
 ·split
  ·exact k0
  ·split
   ·exact kc
   ·split
    ·exact k0
    ·rename_i h1 h2 h3
     refine key ⟨fun y hy => ?_, srt_ins h.s fun y hy hk => h2 ⟨y, hy, hk⟩, by rw [ins_len]; omega⟩ (by rw [ins_len]; omega)
     rcases ins_mem.1 hy with rfl | hy
     ·exact hx
     ·exact h.r y hy
 ·split
  ·exact kc
  ·split
   ·exact kc
   ·split
    ·split
     ·exact kc
     ·exact k0
    ·split
     ·split
      ·exact kc
      ·exact k0
     ·exact k0
theorem snoc_capI {α : Type} {l : List α} {x : α} {n : Nat} (h : l.length ≤ n) (hn : n < 2147483648) : capI (l ++ [x]) = some (l ++ [x]) := capI_of (by rw [List.length_append, List.length_singleton]; omega)
end Go.Proofs.Ytmeemkllagjnmaa.B
