/- Insertion sort as the library's loops do it, and what it lays. Conditions: lengths as stated. -/
import Derived.Test.YtjfhiochcdjkhaaScan
open Go.Ev Go
namespace Go.Ev

section
variable {α : Type}

/-- into what is sorted, lying backwards -/
def insB (lt : α → α → Bool) (x : α) : List α → List α
  | [] => [x]
  | y :: r => bif lt x y then y :: insB lt x r else x :: y :: r

/-- sorted, one by one -/
def insAll (lt : α → α → Bool) (l : List α) : List α := (l.foldl (fun acc x => insB lt x acc) []).reverse

theorem insB_perm (lt : α → α → Bool) (x : α) : ∀ l : List α, (insB lt x l).Perm (x :: l)
  | [] => .refl _
  | y :: r => by
    simp only [insB]
    cases lt x y
    · exact .refl _
    · exact (List.Perm.cons _ (insB_perm lt x r)).trans (.swap _ _ _)

theorem insFold_perm (lt : α → α → Bool) : ∀ (l acc : List α), (l.foldl (fun acc x => insB lt x acc) acc).Perm (l ++ acc)
  | [], _ => .refl _
  | x :: l, acc => (insFold_perm lt l _).trans (((insB_perm lt x acc).append_left l).trans List.perm_middle)

theorem insAll_perm (lt : α → α → Bool) (l : List α) : (insAll lt l).Perm l := by
  have := insFold_perm lt l []
  rw [List.append_nil] at this
  exact (List.reverse_perm _).trans this

theorem insAll_length (lt : α → α → Bool) (l : List α) : (insAll lt l).length = l.length := (insAll_perm lt l).length_eq

/-- lt is so: what is not below is above, or the same -/
structure Weak (lt : α → α → Bool) : Prop where
  asymm : ∀ a b, lt a b = true → lt b a = false
  trans : ∀ a b c, lt b a = false → lt c b = false → lt c a = false

theorem insB_sorted {lt : α → α → Bool} (hw : Weak lt) (x : α) : ∀ {l : List α}, l.Pairwise (fun a b => lt a b = false) → (insB lt x l).Pairwise (fun a b => lt a b = false)
  | [], _ => by simp [insB]
  | y :: r, h => by
    simp only [insB]
    have h1 := List.pairwise_cons.1 h
    cases hc : lt x y
    · simp only [cond_false]
      refine List.pairwise_cons.2 ⟨fun z hz => ?_, h⟩
      rcases List.mem_cons.1 hz with rfl | hz
      · exact hc
      · exact hw.trans z y x (h1.1 z hz) hc
    · simp only [cond_true]
      refine List.pairwise_cons.2 ⟨fun z hz => ?_, insB_sorted hw x h1.2⟩
      rcases List.mem_cons.1 ((insB_perm lt x r).mem_iff.1 hz) with rfl | hz
      · exact hw.asymm _ _ hc
      · exact h1.1 z hz

theorem insFold_sorted {lt : α → α → Bool} (hw : Weak lt) : ∀ (l acc : List α), acc.Pairwise (fun a b => lt a b = false) → (l.foldl (fun acc x => insB lt x acc) acc).Pairwise (fun a b => lt a b = false)
  | [], _, h => h
  | x :: l, _, h => insFold_sorted hw l _ (insB_sorted hw x h)

theorem insAll_sorted {lt : α → α → Bool} (hw : Weak lt) (l : List α) : (insAll lt l).Pairwise (fun a b => lt b a = false) :=
  List.pairwise_reverse.2 (insFold_sorted hw l [] .nil)

/-! ### the loops -/
variable [Inhabited α]

def insL2 (lt : α → α → Bool) : (List α × Int) → Option (Sum (List α × Int) (List α)) := fun (l9, i10) =>
  (bif decide (i10 > 0) then ((ixI i10 l9.length).bind fun n16 =>
  (ixI (wr .i64 (i10 - 1)) l9.length).bind fun n18 =>
  some (lt (gt l9 n16) (gt l9 n18))) else (some false)).bind fun b22 =>
  bif b22 then ((ixI (wr .i64 (i10 - 1)) l9.length).bind fun n27 =>
  (ixI i10 l9.length).bind fun n29 =>
  (ixI (wr .i64 (i10 - 1)) (l9.set n29 (gt l9 n27)).length).bind fun n31 =>
  some (.inl (((l9.set n29 (gt l9 n27)).set n31 (gt l9 n29)), wr .i64 (i10 - 1)))) else
  (some (.inr l9))

def insL1 (g : (List α × Int) → Option (List α)) (b : Int) : (List α × Int) → Option (Sum (List α × Int) (List α)) := fun (l1, i2) =>
  bif decide (i2 < b) then ((g (l1, i2)).bind fun l13 => some (.inl (l13, wr .i64 (i2 + 1)))) else (some (.inr l1))

theorem wr_p {i : Nat} (h : i < 9223372036854775807) : wr .i64 (((i + 1 : Nat) : Int) - 1) = (i : Int) := by
  rw [wr_id (by omega) (by omega)]; omega

theorem gt_mid {p s : List α} {x : α} : gt (p ++ x :: s) p.length = x := by
  simp [gt]

theorem insL2_spec {lt : α → α → Bool} (x : α) : ∀ (p s : List α), p.length < 9223372036854775807 → loopO (insL2 lt) (p.reverse ++ x :: s, (p.length : Int)) = some ((insB lt x p).reverse ++ s)
  | [], s, _ => by
    refine loopO_inr ?_
    simp only [insL2, List.length_nil]
    rfl
  | y :: r, s, h => by
    have hp : decide ((((y :: r).length : Nat) : Int) > 0) = true := by rw [decide_eq_true_eq]; simp only [List.length_cons]; omega
    have hlen : ((y :: r).reverse ++ x :: s).length = r.length + 1 + (s.length + 1) := by simp; omega
    have i1 : ixI (((y :: r).length : Nat) : Int) ((y :: r).reverse ++ x :: s).length = some (r.length + 1) := by rw [List.length_cons]; exact ixI_of (by omega)
    have w1 : wr .i64 ((((y :: r).length : Nat) : Int) - 1) = (r.length : Int) := by rw [List.length_cons]; exact wr_p (by simp at h; omega)
    have i2 : ixI (r.length : Int) ((y :: r).reverse ++ x :: s).length = some r.length := ixI_of (by omega)
    have e1 : (y :: r).reverse ++ x :: s = r.reverse ++ y :: x :: s := by simp
    have g1 : gt ((y :: r).reverse ++ x :: s) (r.length + 1) = x := by
      have := gt_mid (p := (y :: r).reverse) (x := x) (s := s)
      rwa [List.length_reverse, List.length_cons] at this
    have g2 : gt ((y :: r).reverse ++ x :: s) r.length = y := by
      rw [e1]
      have := gt_mid (p := r.reverse) (x := y) (s := x :: s)
      rwa [List.length_reverse] at this
    simp only [insB]
    cases hc : lt x y
    · refine (loopO_inr (b := (y :: r).reverse ++ x :: s) ?_).trans ?_
      · simp only [insL2, hp, cond_true, i1, w1, i2, Option.bind_some, g1, g2, hc, cond_false]
      · simp
    · have hset : (((y :: r).reverse ++ x :: s).set (r.length + 1) y).set r.length x = r.reverse ++ x :: y :: s := by
        rw [e1, List.set_append_right _ _ (by simp), List.length_reverse, Nat.add_sub_cancel_left, List.set_append_right _ _ (by simp), List.length_reverse, Nat.sub_self]
        rfl
      have i3 : ixI (r.length : Int) (((y :: r).reverse ++ x :: s).set (r.length + 1) y).length = some r.length := by rw [List.length_set]; exact i2
      refine (loopO_inl (a' := (r.reverse ++ x :: y :: s, (r.length : Int))) ?_).trans ?_
      · simp only [insL2, hp, cond_true, i1, w1, i2, Option.bind_some, g1, g2, hc, i3, hset]
      · rw [insL2_spec x r (y :: s) (by simp at h; omega)]
        simp

theorem insL1_spec {lt : α → α → Bool} {g : (List α × Int) → Option (List α)} (hg : ∀ l (i : Nat), g (l, (i : Int)) = loopO (insL2 lt) (l, (i : Int))) : ∀ (s acc : List α), acc.length + s.length < 9223372036854775807 →
    loopO (insL1 g ((acc.length + s.length : Nat) : Int)) (acc.reverse ++ s, (acc.length : Int)) = some ((s.foldl (fun acc x => insB lt x acc) acc).reverse)
  | [], acc, h => by
    refine loopO_inr ?_
    have hd : decide ((acc.length : Int) < ((acc.length + ([] : List α).length : Nat) : Int)) = false := by rw [decide_eq_false_iff_not]; simp
    simp only [insL1, hd, cond_false, List.append_nil, List.foldl_nil]
  | x :: s, acc, h => by
    have hd : decide ((acc.length : Int) < ((acc.length + (x :: s).length : Nat) : Int)) = true := by rw [decide_eq_true_eq]; simp only [List.length_cons]; omega
    have hl : (insB lt x acc).length = acc.length + 1 := by rw [(insB_perm lt x acc).length_eq, List.length_cons]
    have h2 := insL1_spec hg s (insB lt x acc) (by rw [hl]; simp only [List.length_cons] at h; omega)
    rw [hl] at h2
    have e : acc.length + (x :: s).length = acc.length + 1 + s.length := by simp only [List.length_cons]; omega
    rw [e] at hd ⊢
    refine (loopO_inl (a' := ((insB lt x acc).reverse ++ s, ((acc.length + 1 : Nat) : Int))) ?_).trans ?_
    · simp only [insL1, hd, cond_true, hg]
      rw [insL2_spec x acc s (by omega)]
      simp only [Option.bind_some, wr_s (show acc.length < 9223372036854775807 by omega)]
    · exact h2

theorem ins_spec {lt : α → α → Bool} {g : (List α × Int) → Option (List α)} (hg : ∀ l (i : Nat), g (l, (i : Int)) = loopO (insL2 lt) (l, (i : Int))) (l : List α) (h : l.length < 9223372036854775807) :
    loopO (insL1 g (l.length : Int)) (l, wr .i64 (0 + 1)) = some (insAll lt l) := by
  have e1 : wr .i64 (0 + 1) = ((1 : Nat) : Int) := by decide
  rw [e1]
  cases l with
  | nil =>
    refine loopO_inr ?_
    rfl
  | cons x s =>
    have := insL1_spec hg s [x] (by simp only [List.length_cons, List.length_nil] at h ⊢; omega)
    have e2 : (x :: s).length = [x].length + s.length := by simp; omega
    rw [e2]
    exact this
end
end Go.Ev
