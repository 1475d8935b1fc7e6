/- Lists of changes of tables; sameness of tables. Conditions: as stated. -/
import Derived.Test.YtmeemkllagjnmaaBK
open Go.Ev Go
namespace Go.Proofs.Ytmeemkllagjnmaa.B
noncomputable def mods (t0 : List api_Rule) (ports room : Int) : List api_Rule → List api_Mod → Nat → List api_Rule × Int × Int
 | t, [], _ => (t, -1, 0)
 | t, m :: r, i => bif decide ((apl t m ports room).2 = 0) then mods t0 ports room (apl t m ports room).1 r (i + 1) else (t0, (i : Int), (apl t m ports room).2)
theorem ql4 {t0 : List api_Rule} {ports room : Int} (h0 : TOk t0 ports room) : ∀ (l : List api_Mod) (t : List api_Rule) (i : Nat), TOk t ports room → TOk (mods t0 ports room t l i).1 ports room ∧ ((mods t0 ports room t l i).1.length ≤ max t0.length (t.length + l.length)) := by
 intro l
 induction l with
 | nil => intro t i h; exact ⟨h, by simp only [mods]; omega⟩
 | cons m r ih =>
  intro t i h
  rw [mods]
  cases decide ((apl t m ports room).2 = 0)
  ·exact ⟨h0, by simp only [cond_false]; omega⟩
  ·rw [cond_true]
   obtain ⟨h1, h2⟩ := ql7 (m := m) h
   obtain ⟨h3, h4⟩ := ih _ (i + 1) h1
   exact ⟨h3, by rw [List.length_cons]; omega⟩
def MFit (m : api_Mod) : Prop := RFit (api_Mod.R m) ∧ (api_Rule.Acts (api_Mod.R m)).l.length < 9223372036854775808
theorem q8y {t : Sl api_Rule} {l : Sl api_Mod} {ports room : Int} (hn : t.l.length + l.l.length < 2147483647) (h : TOk t.l ports room) (hf : ∀ m ∈ l.l, MFit m) :
  ∃ s, q83 t l ports room = some (s, (mods t.l ports room t.l l.l 0).2.1, (mods t.l ports room t.l l.l 0).2.2) ∧ s.l = (mods t.l ports room t.l l.l 0).1 := by
 have key : ∀ (d i : Nat) (s : Sl api_Rule), i + d = l.l.length → TOk s.l ports room → s.l.length ≤ t.l.length + i → ∃ r : Sl api_Rule,
   (loopO (q3n t l ports room) (s, (i : Int))).bind (fun x => match x with | .inl (s8, i9, i10) => (some (s8, i9, i10)) | .inr s11 => (some (s11, (-1), 0))) = some (r, (mods t.l ports room s.l (l.l.drop i) i).2.1, (mods t.l ports room s.l (l.l.drop i) i).2.2) ∧ r.l = (mods t.l ports room s.l (l.l.drop i) i).1 := by
  intro d
  induction d with
  | zero =>
   intro i s hi hs _
   rw [q34 (b := .inr s) (by simp only [q3n]; rw [decide_eq_false (by omega), cond_false]), List.drop_of_length_le (by omega)]
   exact ⟨s, rfl, rfl⟩
  | succ d ih =>
   intro i s hi hs hle
   have hil : i < l.l.length := by omega
   obtain ⟨q, e1, e2⟩ := qc0 (t := s) (m := gt l.l i) (room := room) (by omega) hs (hf _ (q2i hil)).1
   rw [qa5 hil, mods]
   by_cases hd : (apl s.l (gt l.l i) ports room).2 = 0
   ·rw [decide_eq_true hd, cond_true, q7c (a' := (q, ((i + 1 : Nat) : Int))) (by
     simp only [q3n]
     rw [decide_eq_true (by omega), cond_true, q0y hil]
     simp only [Option.bind_some]
     rw [e1, hd, wrS (by omega)]; rfl)]
    obtain ⟨h1, h2⟩ := ql7 (m := gt l.l i) hs
    rw [← e2] at h1 h2 ⊢
    exact ih (i + 1) q (by omega) h1 (by omega)
   ·rw [decide_eq_false hd, cond_false, q34 (b := .inl (t, (i : Int), (apl s.l (gt l.l i) ports room).2)) (by
     simp only [q3n]
     rw [decide_eq_true (by omega), cond_true, q0y hil]
     simp only [Option.bind_some]
     rw [e1]
     simp only [Option.bind_some]
     rw [show ((apl s.l (gt l.l i) ports room).2 != 0) = true by simpa using hd]; rfl)]
    exact ⟨t, rfl, rfl⟩
 obtain ⟨r, h1, h2⟩ := key l.l.length 0 t (by omega) h (by omega)
 rw [List.drop_zero] at h1 h2
 exact ⟨r, h1, h2⟩
theorem q9e {t : Sl api_Rule} {l : Sl api_Mod} {ports room : Int} (hn : t.l.length + l.l.length < 2147483647) (h : TOk t.l ports room) (hf : ∀ m ∈ l.l, MFit m) :
  ∃ s, q86 t l ports room = some (s, (mods t.l ports room t.l l.l 0).2.1, (mods t.l ports room t.l l.l 0).2.2) ∧ s.l = (mods t.l ports room t.l l.l 0).1 := by
 have key : ∀ (d i : Nat) (s : Sl api_Rule), i + d = l.l.length → TOk s.l ports room → s.l.length ≤ t.l.length + i → ∃ r : Sl api_Rule,
   (loopO (q3r t l ports room) (s, (i : Int))).bind (fun x => match x with | .inl (s8, i9, i10) => (some (s8, i9, i10)) | .inr s11 => (some (s11, (-1), 0))) = some (r, (mods t.l ports room s.l (l.l.drop i) i).2.1, (mods t.l ports room s.l (l.l.drop i) i).2.2) ∧ r.l = (mods t.l ports room s.l (l.l.drop i) i).1 := by
  intro d
  induction d with
  | zero =>
   intro i s hi hs _
   rw [q34 (b := .inr s) (by simp only [q3r]; rw [decide_eq_false (by omega), cond_false]), List.drop_of_length_le (by omega)]
   exact ⟨s, rfl, rfl⟩
  | succ d ih =>
   intro i s hi hs hle
   have hil : i < l.l.length := by omega
   obtain ⟨q, e1, e2⟩ := qbz (t := s) (m := gt l.l i) (room := room) (by omega) hs (hf _ (q2i hil)).2
   rw [qa5 hil, mods]
   by_cases hd : (apl s.l (gt l.l i) ports room).2 = 0
   ·rw [decide_eq_true hd, cond_true, q7c (a' := (q, ((i + 1 : Nat) : Int))) (by
     simp only [q3r]
     rw [decide_eq_true (by omega), cond_true, q0y hil]
     simp only [Option.bind_some]
     rw [e1, hd, wrS (by omega)]; rfl)]
    obtain ⟨h1, h2⟩ := ql7 (m := gt l.l i) hs
    rw [← e2] at h1 h2 ⊢
    exact ih (i + 1) q (by omega) h1 (by omega)
   ·rw [decide_eq_false hd, cond_false, q34 (b := .inl (t, (i : Int), (apl s.l (gt l.l i) ports room).2)) (by
     simp only [q3r]
     rw [decide_eq_true (by omega), cond_true, q0y hil]
     simp only [Option.bind_some]
     rw [e1]
     simp only [Option.bind_some]
     rw [show ((apl s.l (gt l.l i) ports room).2 != 0) = true by simpa using hd]; rfl)]
    exact ⟨t, rfl, rfl⟩
 obtain ⟨r, h1, h2⟩ := key l.l.length 0 t (by omega) h (by omega)
 rw [List.drop_zero] at h1 h2
 exact ⟨r, h1, h2⟩
theorem qns {t : List api_Rule} {ports room : Int} (h : TOk t ports room) : ∀ x ∈ t, (api_Rule.Acts x).l.length < 9223372036854775808 := fun x hx => by
 have := (h.r x hx).a.1
 omega
end Go.Proofs.Ytmeemkllagjnmaa.B
