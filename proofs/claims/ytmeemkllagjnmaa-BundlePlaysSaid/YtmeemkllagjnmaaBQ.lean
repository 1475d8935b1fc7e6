/- Changes that are the same but for what is nil; a bundle beside the document's. Conditions: as stated. -/
import Derived.Test.YtmeemkllagjnmaaBP
open Go.Ev Go
namespace Go.Proofs.Ytmeemkllagjnmaa.B
abbrev nm (x : api_Rule) : api_Rule := (⟨api_Rule.Prio x, api_Rule.M x, Sl.mk (api_Rule.Acts x).l⟩ : api_Rule)
abbrev nmM (m : api_Mod) : api_Mod := (⟨api_Mod.Kind m, nm (api_Mod.R m), api_Mod.Check m⟩ : api_Mod)
theorem qpz {x : api_Rule} {ports : Int} : ROk (nm x) ports ↔ ROk x ports := ⟨fun h => ⟨h.lo, h.hi, h.m, h.a⟩, fun h => ⟨h.lo, h.hi, h.m, h.a⟩⟩
theorem ex_nm {t : List api_Rule} {P : api_Rule → Prop} : (∃ y ∈ t.map nm, P y) ↔ ∃ y ∈ t, P (nm y) := by
 constructor
 ·rintro ⟨y, hy, hp⟩
  obtain ⟨z, hz, rfl⟩ := List.mem_map.1 hy
  exact ⟨z, hz, hp⟩
 ·rintro ⟨y, hy, hp⟩
  exact ⟨nm y, List.mem_map.2 ⟨y, hy, rfl⟩, hp⟩
theorem qft {q q' : api_Rule → Bool} (h : ∀ y, q' (nm y) = q y) (gone : Bool) (a : Sl api_Act) (t : List api_Rule) : chg q' gone (Sl.mk a.l) (t.map nm) = (chg q gone a t).map nm := by
 induction t with
 | nil => rfl
 | cons y r ih =>
  have e1 : chg q' gone (Sl.mk a.l) ((y :: r).map nm) = g1 q' gone (Sl.mk a.l) (nm y) ++ chg q' gone (Sl.mk a.l) (r.map nm) := by unfold chg; rw [List.map_cons, List.flatMap_cons]
  have e2 : chg q gone a (y :: r) = g1 q gone a y ++ chg q gone a r := by unfold chg; rw [List.flatMap_cons]
  rw [e1, e2, ih, List.map_append]
  congr 1
  unfold g1
  rw [h]
  cases q y <;> cases gone <;> rfl
theorem qtq (x : api_Rule) (t : List api_Rule) : ins (nm x) (t.map nm) = (ins x t).map nm := by
 induction t with
 | nil => rfl
 | cons y r ih =>
  rw [List.map_cons, ins, ins]
  cases tt (api_Rule.Prio x ≤ api_Rule.Prio y)
  ·rfl
  ·rw [cond_true, cond_true, List.map_cons, ih]
theorem qte (t : List api_Rule) (m : api_Mod) (ports room : Int) : apl (t.map nm) (nmM m) ports room = ((apl t m ports room).1.map nm, (apl t m ports room).2) := by
 unfold apl
 have hk : (∃ y ∈ t.map nm, Key y (nm (api_Mod.R m))) ↔ ∃ y ∈ t, Key y (api_Mod.R m) := ex_nm
 have ho : (∃ y ∈ t.map nm, Ovl y (nm (api_Mod.R m))) ↔ ∃ y ∈ t, Ovl y (api_Mod.R m) := ex_nm
 simp only [api_Mod.R, api_Mod.Kind, api_Mod.Check] at hk ho ⊢
 rw [List.length_map]
 by_cases hx : ROk m.2.1 ports
 case neg => rw [if_pos (fun h => hx (qpz.1 h)), if_pos hx]
 rw [if_neg (not_not_intro (qpz.2 hx)), if_neg (not_not_intro hx)]
 by_cases h1 : m.1 = 1
 ·rw [if_pos h1, if_pos h1]
  by_cases h2 : m.2.2 = true ∧ ∃ y ∈ t, Ovl y m.2.1
  ·rw [if_pos ⟨h2.1, ho.2 h2.2⟩, if_pos h2]
  ·rw [if_neg (fun h => h2 ⟨h.1, ho.1 h.2⟩), if_neg h2]
   by_cases h3 : ∃ y ∈ t, Key y m.2.1
   ·rw [if_pos (hk.2 h3), if_pos h3, qft (q := fun y => tt (Key y m.2.1)) (fun _ => rfl)]
   ·rw [if_neg (fun h => h3 (hk.1 h)), if_neg h3]
    by_cases h4 : room ≤ t.length
    ·rw [if_pos h4, if_pos h4]
    ·rw [if_neg h4, if_neg h4, qtq]
 rw [if_neg h1, if_neg h1]
 by_cases h2 : m.1 = 2
 ·rw [if_pos h2, if_pos h2, qft (q := fun y => tt (Lies (api_Rule.M y) (api_Rule.M m.2.1))) (fun _ => rfl)]
 rw [if_neg h2, if_neg h2]
 by_cases h4 : m.1 = 4
 ·rw [if_pos h4, if_pos h4, qft (q := fun y => tt (Lies (api_Rule.M y) (api_Rule.M m.2.1))) (fun _ => rfl)]
 rw [if_neg h4, if_neg h4]
 by_cases h3 : m.1 = 3
 ·rw [if_pos h3, if_pos h3]
  by_cases h5 : ∃ y ∈ t, Key y m.2.1
  ·rw [if_pos (hk.2 h5), if_pos h5, qft (q := fun y => tt (Key y m.2.1)) (fun _ => rfl)]
  ·rw [if_neg (fun h => h5 (hk.1 h)), if_neg h5]
 rw [if_neg h3, if_neg h3]
 by_cases h5 : m.1 = 5
 ·rw [if_pos h5, if_pos h5]
  by_cases h6 : ∃ y ∈ t, Key y m.2.1
  ·rw [if_pos (hk.2 h6), if_pos h6, qft (q := fun y => tt (Key y m.2.1)) (fun _ => rfl)]
  ·rw [if_neg (fun h => h6 (hk.1 h)), if_neg h6]
 rw [if_neg h5, if_neg h5]
theorem qku {ports room : Int} : ∀ (l : List api_Mod) (t0 t : List api_Rule) (i : Nat), mods (t0.map nm) ports room (t.map nm) (l.map nmM) i = ((mods t0 ports room t l i).1.map nm, (mods t0 ports room t l i).2) := by
 intro l
 induction l with
 | nil => intro t0 t i; rfl
 | cons m r ih =>
  intro t0 t i
  rw [List.map_cons, mods, mods, qte]
  by_cases hd : (apl t m ports room).2 = 0
  ·rw [decide_eq_true hd, cond_true, cond_true]
   exact ih _ _ _
  ·rw [decide_eq_false hd]; rfl
theorem qfr {ports room : Int} {t : List api_Rule} {l l' : List api_Mod} (h : l.map nmM = l'.map nmM) : (mods t ports room t l 0).1.map nm = (mods t ports room t l' 0).1.map nm ∧ (mods t ports room t l 0).2 = (mods t ports room t l' 0).2 := by
 have h1 := qku (ports := ports) (room := room) l t t 0
 have h2 := qku (ports := ports) (room := room) l' t t 0
 rw [h, h2] at h1
 exact ⟨(congrArg Prod.fst h1).symm, (congrArg Prod.snd h1).symm⟩
theorem eq_gt {α : Type} [Inhabited α] {a b : List α} (h : a.length = b.length) : (∀ i, i < a.length → gt a i = gt b i) ↔ a = b := by
 constructor
 ·intro h2
  apply List.ext_getElem h
  intro i h3 h4
  have := h2 i h3
  rwa [gt_eq h3, gt_eq h4] at this
 ·intro h _ _; rw [h]
theorem qso (a b : Sl api_Act) (hn : a.l.length < 9223372036854775808) : q0s a b = some (tt (a.l = b.l)) := by
 unfold q0s
 by_cases e : a.l.length = b.l.length
 case neg => rw [show ((a.l.length : Int) != (b.l.length : Int)) = true by simp; omega, cond_true, tt_f fun h => e (by rw [h])]
 rw [show ((a.l.length : Int) != (b.l.length : Int)) = false by rw [e]; simp, cond_false]
 rw [allL (f := q0m a b) a.l.length hn (fun i => gt a.l i = gt b.l i) () (fun i hi => ?_) (by simp only [q0m]; rw [decide_eq_false (by omega), cond_false]), q0n (eq_gt e)]
 ·cases tt (a.l = b.l) <;> rfl
 ·simp only [q0m]
  rw [decide_eq_true (by omega), cond_true, q0y hi, q0y (show i < b.l.length by omega)]
  simp only [Option.bind_some]
  rw [q1m]
  cases tt _ <;> rfl
theorem qdg (a b : Sl api_Act) (hn : a.l.length < 9223372036854775808) : q4p a b = some (tt (a.l = b.l)) := by
 unfold q4p
 by_cases e : a.l.length = b.l.length
 case neg => rw [show ((a.l.length : Int) != (b.l.length : Int)) = true by simp; omega, cond_true, tt_f fun h => e (by rw [h])]
 rw [show ((a.l.length : Int) != (b.l.length : Int)) = false by rw [e]; simp, cond_false]
 rw [allL (f := q2w a b) a.l.length hn (fun i => gt a.l i = gt b.l i) () (fun i hi => ?_) (by simp only [q2w]; rw [decide_eq_false (by omega), cond_false]), q0n (eq_gt e)]
 ·cases tt (a.l = b.l) <;> rfl
 ·simp only [q2w]
  rw [decide_eq_true (by omega), cond_true, q0y hi, q0y (show i < b.l.length by omega)]
  simp only [Option.bind_some]
  rw [q1m]
  cases tt _ <;> rfl
theorem nm_eq {x y : api_Rule} : nm x = nm y ↔ Key x y ∧ (api_Rule.Acts x).l = (api_Rule.Acts y).l := by
 simp only [nm, Key, Prod.mk.injEq, Sl.mk.injEq, and_assoc]
theorem qf8 (x y : api_Rule) (hn : (api_Rule.Acts x).l.length < 9223372036854775808) : q5u x y = some (tt (nm x = nm y)) := by
 unfold q5u
 rw [qea, q0n nm_eq]
 simp only [Option.bind_some]
 by_cases h : Key x y
 ·rw [tt_t h, cond_true]
  simp only [q9b]
  rw [qso _ _ hn]
  exact congrArg some (q0n ⟨fun h2 => ⟨h, h2⟩, fun h2 => h2.2⟩)
 ·rw [tt_f h, tt_f fun h2 => h h2.1]; rfl
theorem q9d (x y : api_Rule) (hn : (api_Rule.Acts x).l.length < 9223372036854775808) : q40 x y = some (tt (nm x = nm y)) := by
 unfold q40
 rw [show (((api_Rule.Prio x) == (api_Rule.Prio y)) && (decide ((api_Rule.M x) = (api_Rule.M y)))) = tt (Key x y) by
  unfold Key
  rw [show (api_Rule.Prio x == api_Rule.Prio y) = tt (api_Rule.Prio x = api_Rule.Prio y) from q1m, q1m, q7j], q0n nm_eq]
 by_cases h : Key x y
 ·rw [tt_t h, cond_true, qdg _ _ hn]
  exact congrArg some (q0n ⟨fun h2 => ⟨h, h2⟩, fun h2 => h2.2⟩)
 ·rw [tt_f h, tt_f fun h2 => h h2.1]; rfl
theorem ql9 {a b : api_Mod} : nmM a = nmM b ↔ (api_Mod.Kind a = api_Mod.Kind b ∧ api_Mod.Check a = api_Mod.Check b) ∧ nm (api_Mod.R a) = nm (api_Mod.R b) := by
 have : nmM a = nmM b ↔ api_Mod.Kind a = api_Mod.Kind b ∧ nm (api_Mod.R a) = nm (api_Mod.R b) ∧ api_Mod.Check a = api_Mod.Check b := by
  rw [Prod.mk.injEq, Prod.mk.injEq]
 rw [this]
 exact ⟨fun h => ⟨⟨h.1, h.2.2⟩, h.2.1⟩, fun h => ⟨h.1.1, h.2, h.1.2⟩⟩
theorem kc_tt (a b : api_Mod) : (((api_Mod.Kind a) == (api_Mod.Kind b)) && ((api_Mod.Check a) == (api_Mod.Check b))) = tt (api_Mod.Kind a = api_Mod.Kind b ∧ api_Mod.Check a = api_Mod.Check b) := by
 rw [show (api_Mod.Kind a == api_Mod.Kind b) = tt (api_Mod.Kind a = api_Mod.Kind b) from q1m, show (api_Mod.Check a == api_Mod.Check b) = tt (api_Mod.Check a = api_Mod.Check b) by cases api_Mod.Check a <;> cases api_Mod.Check b <;> simp [tt], q7j]
theorem qsl (a b : api_Mod) (hn : (api_Rule.Acts (api_Mod.R a)).l.length < 9223372036854775808) : q3w a b = some (tt (nmM a = nmM b)) := by
 unfold q3w
 rw [kc_tt, q0n ql9]
 by_cases h : api_Mod.Kind a = api_Mod.Kind b ∧ api_Mod.Check a = api_Mod.Check b
 ·rw [tt_t h, cond_true, qf8 _ _ hn]
  exact congrArg some (q0n ⟨fun h2 => ⟨h, h2⟩, fun h2 => h2.2⟩)
 ·rw [tt_f h, tt_f fun h2 => h h2.1]; rfl
theorem q8v (a b : api_Mod) (hn : (api_Rule.Acts (api_Mod.R a)).l.length < 9223372036854775808) : q2u a b = some (tt (nmM a = nmM b)) := by
 unfold q2u
 rw [kc_tt, q0n ql9]
 by_cases h : api_Mod.Kind a = api_Mod.Kind b ∧ api_Mod.Check a = api_Mod.Check b
 ·rw [tt_t h, cond_true, q9d _ _ hn]
  exact congrArg some (q0n ⟨fun h2 => ⟨h, h2⟩, fun h2 => h2.2⟩)
 ·rw [tt_f h, tt_f fun h2 => h h2.1]; rfl
theorem qie {α β : Type} [Inhabited α] {f : α → β} {a b : List α} (h : a.map f = b.map f) : a.length = b.length ∧ ∀ i, i < a.length → f (gt a i) = f (gt b i) := by
 have hl : a.length = b.length := by simpa using congrArg List.length h
 refine ⟨hl, fun i hi => ?_⟩
 have h1 : (a.map f)[i]'(by simpa using hi) = (b.map f)[i]'(by rw [List.length_map]; omega) := by simp only [h]
 rw [List.getElem_map, List.getElem_map] at h1
 rw [gt_eq hi, gt_eq (show i < b.length by omega)]; exact h1
theorem qpf (a b : Sl api_Rule) (e : a.l.map nm = b.l.map nm) (hn : a.l.length < 9223372036854775808) (ha : ∀ x ∈ a.l, (api_Rule.Acts x).l.length < 9223372036854775808) : q6l a b = some true := by
 obtain ⟨hl, hg⟩ := qie e
 unfold q6l
 rw [show ((a.l.length : Int) != (b.l.length : Int)) = false by rw [hl]; simp, cond_false]
 rw [allL (f := q47 a b) a.l.length hn (fun _ => True) () (fun i hi => ?_) (by simp only [q47]; rw [decide_eq_false (by omega), cond_false]), tt_t fun _ _ => trivial]
 ·rfl
 ·rw [tt_t trivial]
  simp only [q47]
  rw [decide_eq_true (by omega), cond_true, q0y hi, q0y (show i < b.l.length by omega)]
  simp only [Option.bind_some]
  rw [q9d _ _ (ha _ (q2i hi)), tt_t (hg i hi)]; rfl
theorem qox (a b : Sl api_Mod) (e : a.l.map nmM = b.l.map nmM) (hn : a.l.length < 9223372036854775808) (ha : ∀ m ∈ a.l, (api_Rule.Acts (api_Mod.R m)).l.length < 9223372036854775808) : q82 a b = some true := by
 obtain ⟨hl, hg⟩ := qie e
 unfold q82
 rw [show ((a.l.length : Int) != (b.l.length : Int)) = false by rw [hl]; simp, cond_false]
 rw [allL (f := q4j a b) a.l.length hn (fun _ => True) () (fun i hi => ?_) (by simp only [q4j]; rw [decide_eq_false (by omega), cond_false]), tt_t fun _ _ => trivial]
 ·rfl
 ·rw [tt_t trivial]
  simp only [q4j]
  rw [decide_eq_true (by omega), cond_true, q0y hi, q0y (show i < b.l.length by omega)]
  simp only [Option.bind_some]
  rw [q8v _ _ (ha _ (q2i hi)), tt_t (hg i hi)]; rfl
theorem pig : ∀ (n : Nat) (ks : List Nat), ks.Nodup → (∀ k ∈ ks, k < n) → ks.length ≤ n ∧ (ks.length < n ↔ ∃ j, j < n ∧ j ∉ ks) := by
 intro n
 induction n with
 | zero =>
  intro ks _ h
  cases ks with
  | nil => exact ⟨Nat.le_refl 0, ⟨fun h => absurd h (Nat.lt_irrefl 0), fun ⟨j, hj, _⟩ => absurd hj (Nat.not_lt_zero j)⟩⟩
  | cons k ks => exact absurd (h k (by simp)) (Nat.not_lt_zero k)
 | succ n ih =>
  intro ks hd h
  by_cases hm : n ∈ ks
  ·obtain ⟨h1, h2⟩ := ih (ks.erase n) (hd.erase n) fun k hk => by
    obtain ⟨h3, h4⟩ := (hd.mem_erase_iff).1 hk
    have := h k h4; omega
   have hl : (ks.erase n).length = ks.length - 1 := List.length_erase_of_mem hm
   have hp : 0 < ks.length := List.length_pos_of_mem hm
   refine ⟨by omega, ?_⟩
   have e : ks.length < n + 1 ↔ (ks.erase n).length < n := by omega
   rw [e, h2]
   constructor
   ·rintro ⟨j, hj, hj2⟩
    exact ⟨j, by omega, fun hk => hj2 (hd.mem_erase_iff.2 ⟨by omega, hk⟩)⟩
   ·rintro ⟨j, hj, hj2⟩
    have hne : j ≠ n := fun e => hj2 (e ▸ hm)
    exact ⟨j, by omega, fun hk => hj2 (hd.mem_erase_iff.1 hk).2⟩
  ·obtain ⟨h1, _⟩ := ih ks hd fun k hk => by
    have := h k hk
    have : k ≠ n := fun e => hm (e ▸ hk)
    omega
   exact ⟨by omega, fun _ => ⟨n, by omega, hm⟩, fun _ => by omega⟩
end Go.Proofs.Ytmeemkllagjnmaa.B
