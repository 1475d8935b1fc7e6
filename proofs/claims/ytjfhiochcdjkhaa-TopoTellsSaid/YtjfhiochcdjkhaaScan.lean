/- Rules for loops that go over a list: the first that is so; what is laid one behind the other. Conditions: lengths as stated. -/
import Derived.Test.YtjfhiochcdjkhaaBits
import Derived.Test.YtjfhiochcdjkhaaHeapM
open Go.Ev Go
namespace Go.Ev

theorem lt_t {i n : Nat} (h : i < n) : decide ((i : Int) < (n : Int)) = true := by rw [decide_eq_true_eq]; omega
theorem lt_f {n : Nat} : decide ((n : Int) < (n : Int)) = false := by rw [decide_eq_false_iff_not]; omega
theorem wr_s {i : Nat} (h : i < 9223372036854775807) : wr .i64 ((i : Int) + 1) = ((i + 1 : Nat) : Int) := by rw [wr_id (by omega) (by omega)]; omega

def scan {α β : Type} (P : Nat → α → Option β) : List α → Nat → Option β
  | [], _ => none
  | x :: r, i => match P i x with | some b => some b | none => scan P r (i + 1)

/-- a loop over a list that ends at the first that is so -/
theorem scanE {α β γ : Type} [Inhabited α] {f : Int → Option (Sum Int (Sum β γ))} (l : List α) (P : Nat → α → Option β) (c : γ) (hb : l.length < 9223372036854775808)
    (hstep : ∀ i : Nat, i < l.length → f (i : Int) = some (match P i (gt l i) with | some b => .inr (.inl b) | none => .inl (wr .i64 ((i : Int) + 1)))) (hend : f (l.length : Int) = some (.inr (.inr c))) :
    loopO f 0 = some (match scan P l 0 with | some b => .inl b | none => .inr c) := by
  have main : ∀ (n i : Nat), i + n = l.length → loopO f (i : Int) = some (match scan P (l.drop i) i with | some b => .inl b | none => .inr c) := by
    intro n
    induction n with
    | zero =>
      intro i hi
      obtain rfl : i = l.length := by omega
      rw [loopO_inr hend, List.drop_length]; rfl
    | succ n ih =>
      intro i hi
      have hlt : i < l.length := by omega
      have hs := hstep i hlt
      rw [List.drop_eq_getElem_cons hlt, ← gt_eq hlt]
      simp only [scan]
      cases hP : P i (gt l i) with
      | some b => rw [hP] at hs; rw [loopO_inr hs]
      | none =>
        rw [hP] at hs
        simp only at hs
        rw [wr_s (by omega)] at hs
        rw [loopO_inl hs, ih (i + 1) (by omega)]
  have := main l.length 0 (by omega)
  simpa using this

theorem scan_none {α β : Type} {P : Nat → α → Option β} : ∀ {l : List α} {i : Nat}, scan P l i = none ↔ ∀ j (x : α), l[j]? = some x → P (i + j) x = none := by
  intro l
  induction l with
  | nil => intro i; simp [scan]
  | cons y l ih =>
    intro i
    simp only [scan]
    constructor
    · intro h j x hj
      split at h
      · simp at h
      · rename_i hP
        cases j with
        | zero =>
          obtain rfl : y = x := by simpa using hj
          exact hP
        | succ j =>
          have := ih.1 h j x (by simpa using hj)
          rw [show i + (j + 1) = i + 1 + j by omega]; exact this
    · intro h
      have h0 := h 0 y rfl
      rw [Nat.add_zero] at h0
      rw [h0]
      exact ih.2 fun j x hj => by
        have := h (j + 1) x (by simpa using hj)
        rw [show i + (j + 1) = i + 1 + j by omega] at this; exact this

theorem scan_some {α β : Type} {P : Nat → α → Option β} : ∀ {l : List α} {i : Nat} {b : β}, scan P l i = some b → ∃ j x, l[j]? = some x ∧ P (i + j) x = some b ∧ ∀ k, k < j → ∀ y, l[k]? = some y → P (i + k) y = none := by
  intro l
  induction l with
  | nil => intro i b h; simp [scan] at h
  | cons y l ih =>
    intro i b h
    simp only [scan] at h
    split at h
    · rename_i b' hP
      obtain rfl := Option.some.inj h
      exact ⟨0, y, rfl, hP, fun k hk => by omega⟩
    · rename_i hP
      obtain ⟨j, x, h1, h2, h3⟩ := ih h
      refine ⟨j + 1, x, by simpa using h1, by rw [show i + (j + 1) = i + 1 + j by omega]; exact h2, fun k hk z hz => ?_⟩
      cases k with
      | zero =>
        obtain rfl : y = z := by simpa using hz
        exact hP
      | succ k =>
        rw [show i + (k + 1) = i + 1 + k by omega]
        exact h3 k (by omega) z (by simpa using hz)

/-- a scan that answers yes or no -/
theorem scan_all {α : Type} {p : α → Bool} {l : List α} {i : Nat} : scan (fun _ x => if p x then some () else none) l i = none ↔ ∀ x ∈ l, p x = false := by
  rw [scan_none]
  constructor
  · intro h x hx
    obtain ⟨j, hj, rfl⟩ := List.getElem_of_mem hx
    have := h j l[j] (by simp [hj])
    cases hp : p l[j]
    · rfl
    · rw [hp] at this; simp at this
  · intro h j x hj
    rw [h x (List.mem_of_getElem? hj)]; rfl

/-- a loop over a list that answers yes at the first that is so -/
theorem allE {α : Type} [Inhabited α] {f : Int → Option (Sum Int (Sum Unit Unit))} (l : List α) (p : α → Bool) (hb : l.length < 9223372036854775808)
    (hstep : ∀ i : Nat, i < l.length → f (i : Int) = some (bif p (gt l i) then .inr (.inl ()) else .inl (wr .i64 ((i : Int) + 1)))) (hend : f (l.length : Int) = some (.inr (.inr ()))) :
    loopO f 0 = some (if ∀ x ∈ l, p x = false then .inr () else .inl ()) := by
  rw [scanE l (fun _ x => if p x then some () else none) () hb (fun i hi => by rw [hstep i hi]; cases p (gt l i) <;> rfl) hend]
  cases h : scan (fun _ x => if p x then some () else none) l 0 with
  | none => rw [if_pos (scan_all.1 h)]
  | some u =>
    rw [if_neg]
    intro hn
    rw [scan_all.2 hn] at h; simp at h

/-- a loop over a list that lays something behind what there is -/
theorem layE {α β : Type} [Inhabited α] {f : (Sl β × Int) → Option (Sum (Sl β × Int) (Sl β))} (l : List α) (g : Nat → α → List β) (s0 : Sl β) (hb : l.length < 9223372036854775808)
    (hstep : ∀ (i : Nat) (s : Sl β), i < l.length → s.l = s0.l ++ ((l.take i).zipIdx.flatMap fun p => g p.2 p.1) → ∃ s', f (s, (i : Int)) = some (.inl (s', wr .i64 ((i : Int) + 1))) ∧ s'.l = s.l ++ g i (gt l i))
    (hend : ∀ s, f (s, (l.length : Int)) = some (.inr s)) : ∃ s, loopO f (s0, 0) = some s ∧ s.l = s0.l ++ (l.zipIdx.flatMap fun p => g p.2 p.1) := by
  have e0 : ((0 : Nat) : Int) = 0 := rfl
  refine forE (f := f) (fun i (s : Sl β) => (s, (i : Int))) l.length (fun i s => s.l = s0.l ++ ((l.take i).zipIdx.flatMap fun p => g p.2 p.1)) (fun s => s.l = s0.l ++ (l.zipIdx.flatMap fun p => g p.2 p.1)) ?_ ?_ 0 s0 (Nat.zero_le _) (by simp) (fun b q1 q2 => ?_)
  · intro i s hi hI
    obtain ⟨s', h1, h2⟩ := hstep i s hi hI
    refine .inl ⟨s', by rw [h1, wr_s (by omega)], ?_⟩
    have et : l.take (i + 1) = l.take i ++ [gt l i] := by rw [gt_eq hi, List.take_append_getElem hi]
    rw [h2, hI, et, List.zipIdx_append, List.flatMap_append, List.append_assoc]
    simp [Nat.min_eq_left (Nat.le_of_lt hi)]
  · intro s hI
    refine ⟨s, hend s, ?_⟩
    rw [List.take_length] at hI; exact hI
  · rw [e0] at q1
    exact ⟨b, q1, q2⟩

theorem layE1 {α β : Type} [Inhabited α] {f : (Sl β × Int) → Option (Sum (Sl β × Int) (Sl β))} (l : List α) (g : α → List β) (s0 : Sl β) (hb : l.length < 9223372036854775808)
    (hstep : ∀ (i : Nat) (s : Sl β), i < l.length → s.l = s0.l ++ (l.take i).flatMap g → ∃ s', f (s, (i : Int)) = some (.inl (s', wr .i64 ((i : Int) + 1))) ∧ s'.l = s.l ++ g (gt l i))
    (hend : ∀ s, f (s, (l.length : Int)) = some (.inr s)) : ∃ s, loopO f (s0, 0) = some s ∧ s.l = s0.l ++ l.flatMap g := by
  have key : ∀ (l : List α) (k : Nat), ((l.zipIdx k).flatMap fun p => g p.1) = l.flatMap g := fun l => by
    induction l with
    | nil => intro k; rfl
    | cons x l ih => intro k; simp [List.zipIdx_cons, ih]
  obtain ⟨s, h1, h2⟩ := layE l (fun _ x => g x) s0 hb (fun i s hi hs => hstep i s hi (by rw [hs, key])) hend
  exact ⟨s, h1, by rw [h2, key]⟩
end Go.Ev
