/- Changes of tables: what they come to, over lists. Conditions: as stated. -/
import Derived.Test.YtmeemkllagjnmaaBE
open Go.Ev Go
namespace Go.Proofs.Ytmeemkllagjnmaa.B
abbrev withA (y : api_Rule) (l : Sl api_Act) : api_Rule := (⟨api_Rule.Prio y, api_Rule.M y, l⟩ : api_Rule)
noncomputable def g1 (q : api_Rule → Bool) (gone : Bool) (a : Sl api_Act) (y : api_Rule) : List api_Rule := bif q y then (bif gone then [] else [withA y a]) else [y]
noncomputable def chg (q : api_Rule → Bool) (gone : Bool) (a : Sl api_Act) (t : List api_Rule) : List api_Rule := t.flatMap (g1 q gone a)
noncomputable def ins (x : api_Rule) : List api_Rule → List api_Rule
 | [] => [x]
 | y :: r => bif tt (api_Rule.Prio x ≤ api_Rule.Prio y) then y :: ins x r else x :: y :: r
theorem q4h {α : Type} [Inhabited α] {l : List α} {i : Nat} (h : i < l.length) : l.take (i + 1) = l.take i ++ [gt l i] := by
 rw [List.take_add_one, qq8 h]; rfl
theorem qa5 {α : Type} [Inhabited α] {l : List α} {i : Nat} (h : i < l.length) : l.drop i = gt l i :: l.drop (i + 1) := by
 rw [gt_eq h]; exact List.drop_eq_getElem_cons h
theorem qtu (q : api_Rule → Bool) (gone : Bool) (a : Sl api_Act) (y : api_Rule) : (g1 q gone a y).length ≤ 1 := by
 unfold g1; cases q y <;> cases gone <;> simp
theorem qhb (q : api_Rule → Bool) (gone : Bool) (a : Sl api_Act) (t : List api_Rule) : (chg q gone a t).length ≤ t.length := by
 induction t with
 | nil => exact Nat.le_refl 0
 | cons y r ih =>
  have h1 := qtu q gone a y
  have h2 : (chg q gone a (y :: r)).length = (g1 q gone a y).length + (chg q gone a r).length := by
   unfold chg; rw [List.flatMap_cons, List.length_append]
  rw [h2, List.length_cons]; omega
theorem qob (q : api_Rule → Bool) (gone : Bool) (a : Sl api_Act) (t : List api_Rule) (y : api_Rule) : chg q gone a (t ++ [y]) = chg q gone a t ++ g1 q gone a y := by
 unfold chg; rw [List.flatMap_append, List.flatMap_cons, List.flatMap_nil, List.append_nil]
theorem qh8 {q : api_Rule → Bool} {a : Sl api_Act} {t : List api_Rule} : chg q false a t = t.map fun y => bif q y then withA y a else y := by
 induction t with
 | nil => rfl
 | cons y r ih =>
  have : chg q false a (y :: r) = g1 q false a y ++ chg q false a r := by unfold chg; rw [List.flatMap_cons]
  rw [this, ih, List.map_cons]; unfold g1; cases q y <;> rfl
theorem qds {q : api_Rule → Bool} {a : Sl api_Act} {t : List api_Rule} : chg q true a t = t.filter fun y => !q y := by
 induction t with
 | nil => rfl
 | cons y r ih =>
  have : chg q true a (y :: r) = g1 q true a y ++ chg q true a r := by unfold chg; rw [List.flatMap_cons]
  rw [this, ih, List.filter_cons]; unfold g1; cases q y <;> rfl
theorem qdy {x : api_Rule} {l r : List api_Rule} (h : ∀ y ∈ l, api_Rule.Prio x ≤ api_Rule.Prio y) : ins x (l ++ r) = l ++ ins x r := by
 induction l with
 | nil => rfl
 | cons y l ih =>
  rw [List.cons_append, ins, tt_t (h y (by simp)), cond_true, ih fun z hz => h z (by simp [hz])]; rfl
theorem qp4 {x : api_Rule} {l r : List api_Rule} (h : ∃ y ∈ l, ¬ api_Rule.Prio x ≤ api_Rule.Prio y) : ins x (l ++ r) = ins x l ++ r := by
 induction l with
 | nil => obtain ⟨y, hy, _⟩ := h; simp at hy
 | cons y l ih =>
  rw [List.cons_append, ins, ins]
  by_cases hy : api_Rule.Prio x ≤ api_Rule.Prio y
  ·rw [tt_t hy, cond_true, cond_true, List.cons_append, ih]
   obtain ⟨z, hz, hz2⟩ := h
   rcases List.mem_cons.1 hz with rfl | hz
   ·exact absurd hy hz2
   ·exact ⟨z, hz, hz2⟩
  ·rw [tt_f hy]; rfl
theorem qgo (x : api_Rule) (l : List api_Rule) : (ins x l).length = l.length + 1 := by
 induction l with
 | nil => rfl
 | cons y r ih =>
  rw [ins]
  cases tt (api_Rule.Prio x ≤ api_Rule.Prio y)
  ·rfl
  ·rw [cond_true, List.length_cons, ih, List.length_cons]
theorem qkn {x y : api_Rule} {l : List api_Rule} : y ∈ ins x l ↔ y = x ∨ y ∈ l := by
 induction l with
 | nil => simp [ins]
 | cons z r ih =>
  rw [ins]
  cases tt (api_Rule.Prio x ≤ api_Rule.Prio z)
  ·simp only [cond_false, List.mem_cons]
  ·simp only [cond_true, List.mem_cons, ih]
   exact or_left_comm
theorem qrw {x : api_Rule} {l : List api_Rule} (hs : Srt l) (hk : ∀ y ∈ l, ¬ Key y x) : Srt (ins x l) := by
 unfold Srt at *
 induction l with
 | nil => simp [ins]
 | cons y r ih =>
  rw [ins]
  rw [List.pairwise_cons] at hs
  by_cases h : api_Rule.Prio x ≤ api_Rule.Prio y
  ·rw [tt_t h, cond_true, List.pairwise_cons]
   refine ⟨fun z hz => ?_, ih hs.2 fun z hz => hk z (by simp [hz])⟩
   rcases qkn.1 hz with rfl | hz
   ·exact ⟨h, hk y (by simp)⟩
   ·exact hs.1 z hz
  ·rw [tt_f h, cond_false, List.pairwise_cons, List.pairwise_cons]
   refine ⟨fun z hz => ?_, hs⟩
   refine ⟨?_, fun q => hk z hz q.symm⟩
   rcases List.mem_cons.1 hz with rfl | hz
   ·omega
   ·have := (hs.1 z hz).1; omega
open Classical in
noncomputable def apl (t : List api_Rule) (m : api_Mod) (ports room : Int) : List api_Rule × Int :=
 if ¬ ROk (api_Mod.R m) ports then (t, 2)
 else if api_Mod.Kind m = 1 then
  (if api_Mod.Check m = true ∧ ∃ y ∈ t, Ovl y (api_Mod.R m) then (t, 14)
  else if ∃ y ∈ t, Key y (api_Mod.R m) then (chg (fun y => tt (Key y (api_Mod.R m))) false (api_Rule.Acts (api_Mod.R m)) t, 0)
  else if room ≤ t.length then (t, 6) else (ins (api_Mod.R m) t, 0))
 else if api_Mod.Kind m = 2 then (chg (fun y => tt (Lies (api_Rule.M y) (api_Rule.M (api_Mod.R m)))) false (api_Rule.Acts (api_Mod.R m)) t, 0)
 else if api_Mod.Kind m = 4 then (chg (fun y => tt (Lies (api_Rule.M y) (api_Rule.M (api_Mod.R m)))) true (api_Rule.Acts (api_Mod.R m)) t, 0)
 else if api_Mod.Kind m = 3 then (if ∃ y ∈ t, Key y (api_Mod.R m) then (chg (fun y => tt (Key y (api_Mod.R m))) false (api_Rule.Acts (api_Mod.R m)) t, 0) else (t, 7))
 else if api_Mod.Kind m = 5 then (if ∃ y ∈ t, Key y (api_Mod.R m) then (chg (fun y => tt (Key y (api_Mod.R m))) true (api_Rule.Acts (api_Mod.R m)) t, 0) else (t, 7))
 else (t, 2)
theorem qry {q : api_Rule → Bool} {a : Sl api_Act} {t : List api_Rule} (h : Srt t) : Srt (chg q false a t) := by
 have e : ∀ y : api_Rule, api_Rule.Prio (bif q y then withA y a else y) = api_Rule.Prio y ∧ api_Rule.M (bif q y then withA y a else y) = api_Rule.M y := fun y => by cases q y <;> exact ⟨rfl, rfl⟩
 unfold Srt at *
 rw [qh8, List.pairwise_map]
 refine h.imp fun {y z} h => ?_
 unfold Key at *
 rw [(e y).1, (e y).2, (e z).1, (e z).2]
 exact h
theorem qrh {q : api_Rule → Bool} {gone : Bool} {x : api_Rule} {t : List api_Rule} {ports room : Int} (h : TOk t ports room) (hx : ROk x ports) : TOk (chg q gone (api_Rule.Acts x) t) ports room := by
 refine ⟨fun y hy => ?_, ?_, by have := qhb q gone (api_Rule.Acts x) t; have := h.n; omega⟩
 ·unfold chg at hy
  obtain ⟨z, hz, hyz⟩ := List.mem_flatMap.1 hy
  have hz := h.r z hz
  unfold g1 at hyz
  cases hq : q z <;> cases gone <;> simp only [hq, cond_true, cond_false, List.mem_singleton, List.not_mem_nil] at hyz
  ·rw [hyz]; exact hz
  ·rw [hyz]; exact hz
  ·rw [hyz]; exact ⟨hz.lo, hz.hi, hz.m, hx.a⟩
 ·cases gone
  ·exact qry h.s
  ·rw [qds]; exact List.Pairwise.sublist List.filter_sublist h.s
theorem ql7 {t : List api_Rule} {m : api_Mod} {ports room : Int} (h : TOk t ports room) : TOk (apl t m ports room).1 ports room ∧ (apl t m ports room).1.length ≤ t.length + 1 := by
 have key : ∀ {t' : List api_Rule} {e : Int}, TOk t' ports room → t'.length ≤ t.length + 1 → TOk ((t', e) : List api_Rule × Int).1 ports room ∧ ((t', e) : List api_Rule × Int).1.length ≤ t.length + 1 := fun a b => ⟨a, b⟩
 unfold apl
 by_cases hx : ROk (api_Mod.R m) ports
 case neg => rw [if_pos hx]; exact key h (by omega)
 rw [if_neg (not_not_intro hx)]
 have kc : ∀ {q : api_Rule → Bool} {gone : Bool}, TOk ((chg q gone (api_Rule.Acts (api_Mod.R m)) t, (0 : Int)) : List api_Rule × Int).1 ports room ∧ ((chg q gone (api_Rule.Acts (api_Mod.R m)) t, (0 : Int)) : List api_Rule × Int).1.length ≤ t.length + 1 :=
  fun {q gone} => key (qrh h hx) (Nat.le_succ_of_le (qhb _ _ _ _))
 have k0 : ∀ {e : Int}, TOk ((t, e) : List api_Rule × Int).1 ports room ∧ ((t, e) : List api_Rule × Int).1.length ≤ t.length + 1 := key h (by omega)
 split
 ·split
  ·exact k0
  ·split
   ·exact kc
   ·split
    ·exact k0
    ·rename_i h1 h2 h3
     refine key ⟨fun y hy => ?_, qrw h.s fun y hy hk => h2 ⟨y, hy, hk⟩, by rw [qgo]; omega⟩ (by rw [qgo]; omega)
     rcases qkn.1 hy with rfl | hy
     ·exact hx
     ·exact h.r y hy
 ·split
  ·exact kc
  ·split
   ·exact kc
   ·split
    ·split
     ·exact kc
     ·exact k0
    ·split
     ·split
      ·exact kc
      ·exact k0
     ·exact k0
theorem q37 {α : Type} {l : List α} {x : α} {n : Nat} (h : l.length ≤ n) (hn : n < 2147483648) : capI (l ++ [x]) = some (l ++ [x]) := qlu (by rw [List.length_append, List.length_singleton]; omega)
theorem q73 {t : Sl api_Rule} {m : api_Mod} {strict gone : Bool} (hn : t.l.length < 2147483648) (hM : ∀ y ∈ t.l, MOk (api_Rule.M y)) (hm : MOk (api_Rule.M (api_Mod.R m))) (q : api_Rule → Bool)
  (hq : q = fun y => bif strict then tt (Key y (api_Mod.R m)) else tt (Lies (api_Rule.M y) (api_Rule.M (api_Mod.R m)))) :
  ∃ s n, q3p t m strict gone = some (s, n) ∧ s.l = chg q gone (api_Rule.Acts (api_Mod.R m)) t.l ∧ n = (t.l.countP q : Nat) := by
 have h : ∃ r, loopO (q2j t m strict gone) (0, ((0 : Nat) : Int), Sl.nil) = some r ∧ (r.2.l = chg q gone (api_Rule.Acts (api_Mod.R m)) t.l ∧ r.1 = (t.l.countP q : Nat)) := by
  refine forI (fun i (s : Int × Sl api_Rule) => (s.1, ((i : Nat) : Int), s.2)) t.l.length (fun i s => s.2.l = chg q gone (api_Rule.Acts (api_Mod.R m)) (t.l.take i) ∧ s.1 = ((t.l.take i).countP q : Nat)) _ (fun i s hi hI => .inl ?_) (fun s hI => ⟨_, ?_, by rwa [List.take_length] at hI⟩) 0 (0, Sl.nil) (by omega) ⟨rfl, rfl⟩
  ·obtain ⟨n, s⟩ := s
   obtain ⟨h1, h2⟩ := hI
   simp only at h1 h2
   have hl : s.l.length ≤ i := by
    rw [h1]; exact Nat.le_trans (qhb _ _ _ _) (by rw [List.length_take]; omega)
   have hc : (t.l.take i).countP q ≤ i := Nat.le_trans List.countP_le_length (by rw [List.length_take]; omega)
   simp only [q2j]
   rw [decide_eq_true (by omega), cond_true, q0y hi, wrS (by omega)]
   simp only [Option.bind_some]
   rw [qeo (hM _ (q2i hi)) hm, qai]
   simp only [Option.bind_some]
   rw [show (bif strict then some (tt (Key (gt t.l i) (api_Mod.R m))) else some (tt (Lies (api_Rule.M (gt t.l i)) (api_Rule.M (api_Mod.R m)))) : Option Bool) = some (q (gt t.l i)) by rw [hq]; cases strict <;> rfl]
   simp only [Option.bind_some]
   rw [q4h hi, qob, List.countP_append, List.countP_singleton, ← h1]
   cases hqi : q (gt t.l i)
   ·rw [Bool.not_false, cond_true, q37 hl (by omega)]
    refine ⟨(_, _), rfl, ?_, ?_⟩
    ·unfold g1; rw [hqi]; rfl
    ·simpa using h2
   ·rw [Bool.not_true, cond_false]
    have hw : wr .i64 (n + 1) = (((t.l.take i).countP q + 1 : Nat) : Int) := by rw [h2, wrS (by omega)]
    cases gone
    ·rw [Bool.not_false, cond_true]
     simp only [q9p, Option.bind_some]
     rw [q37 hl (by omega)]
     refine ⟨(_, _), rfl, ?_, ?_⟩
     ·unfold g1; rw [hqi]; rfl
     ·simpa using hw
    ·rw [Bool.not_true, cond_false]
     refine ⟨(_, _), rfl, ?_, ?_⟩
     ·unfold g1; rw [hqi]; simp
     ·simpa using hw
  ·simp only [q2j]
   rw [decide_eq_false (by omega), cond_false]
 obtain ⟨r, h1, h2, h3⟩ := h
 refine ⟨r.2, r.1, ?_, h2, h3⟩
 unfold q3p
 have h1 : loopO (q2j t m strict gone) (0, 0, Sl.nil) = some r := h1
 rw [h1]; rfl
theorem qc2 {t : Sl api_Rule} {x : api_Rule} (hn : t.l.length < 2147483647) : ∃ s, q6z t x = some s ∧ s.l = ins x t.l := by
 have h : ∃ r, loopO (q33 t x) (false, ((0 : Nat) : Int), Sl.nil) = some r ∧ ((r.1 = false ∧ (∀ y ∈ t.l, api_Rule.Prio x ≤ api_Rule.Prio y) ∧ r.2.l = t.l) ∨ (r.1 = true ∧ r.2.l = ins x t.l)) := by
  refine forI (fun i (s : Bool × Sl api_Rule) => (s.1, ((i : Nat) : Int), s.2)) t.l.length
   (fun i s => (s.1 = false ∧ (∀ y ∈ t.l.take i, api_Rule.Prio x ≤ api_Rule.Prio y) ∧ s.2.l = t.l.take i) ∨ (s.1 = true ∧ (∃ y ∈ t.l.take i, ¬ api_Rule.Prio x ≤ api_Rule.Prio y) ∧ s.2.l = ins x (t.l.take i))) _ (fun i s hi hI => .inl ?_) (fun s hI => ⟨(s.1, s.2), ?_, ?_⟩) 0 (false, Sl.nil) (by omega) (.inl ⟨rfl, fun y hy => by simp at hy, rfl⟩)
  ·obtain ⟨b, s⟩ := s
   have hlt : (t.l.take i).length = i := by rw [List.length_take]; omega
   simp only [q33]
   rw [decide_eq_true (by omega), cond_true, q0y hi, wrS (by omega)]
   simp only [Option.bind_some]
   rcases hI with ⟨rfl, h1, h2⟩ | ⟨rfl, h1, h2⟩
   ·simp only at h2
    rw [Bool.not_false, cond_true]
    by_cases hp : api_Rule.Prio (gt t.l i) < api_Rule.Prio x
    ·rw [decide_eq_true hp]
     simp only [Option.bind_some, cond_true]
     rw [q37 (n := i) (by rw [h2]; omega) (by omega)]
     simp only [Option.bind_some]
     rw [q37 (n := i + 1) (by show (s.l ++ [x]).length ≤ i + 1; rw [List.length_append, h2, hlt]; exact Nat.le_refl _) (by omega)]
     refine ⟨(_, _), rfl, .inr ⟨rfl, ⟨gt t.l i, by rw [q4h hi]; simp, by omega⟩, ?_⟩⟩
     rw [q4h hi, qdy h1, ins, tt_f (by omega), cond_false]
     show (s.l ++ [x]) ++ [gt t.l i] = _
     rw [h2, List.append_assoc]; rfl
    ·rw [decide_eq_false hp]
     simp only [Option.bind_some, cond_false]
     rw [q37 (n := i) (by rw [h2]; omega) (by omega)]
     refine ⟨(_, _), rfl, .inl ⟨rfl, fun y hy => ?_, ?_⟩⟩
     ·rw [q4h hi] at hy
      rcases List.mem_append.1 hy with hy | hy
      ·exact h1 y hy
      ·rw [List.mem_singleton.1 hy]; omega
     ·rw [q4h hi, ← h2]; rfl
   ·simp only at h2
    rw [Bool.not_true, cond_false]
    simp only [Option.bind_some, cond_false]
    rw [q37 (n := i + 1) (by rw [h2, qgo]; omega) (by omega)]
    refine ⟨(_, _), rfl, .inr ⟨rfl, ?_, ?_⟩⟩
    ·obtain ⟨y, hy, hy2⟩ := h1
     exact ⟨y, by rw [q4h hi]; exact List.mem_append_left _ hy, hy2⟩
    ·rw [q4h hi, qp4 h1, ← h2]; rfl
  ·simp only [q33]
   rw [decide_eq_false (by omega), cond_false]
  ·rw [List.take_length] at hI
   rcases hI with hI | ⟨h1, _, h2⟩
   ·exact .inl hI
   ·exact .inr ⟨h1, h2⟩
 obtain ⟨r, h1, h2⟩ := h
 unfold q6z
 have h1 : loopO (q33 t x) (false, 0, Sl.nil) = some r := h1
 rw [h1]
 obtain ⟨b, s⟩ := r
 rcases h2 with ⟨rfl, h2, h3⟩ | ⟨rfl, h2⟩
 ·simp only at h3
  simp only [Option.bind_some, Bool.not_false, cond_true]
  rw [q37 (n := t.l.length) (by rw [h3]; omega) (by omega)]
  refine ⟨_, rfl, ?_⟩
  have := qdy (x := x) (l := t.l) (r := []) h2
  rw [List.append_nil] at this
  rw [this, ← h3]; rfl
 ·exact ⟨s, rfl, h2⟩
end Go.Proofs.Ytmeemkllagjnmaa.B
