/- Graphs: what the reference's small functions compute. Conditions: as stated. -/
import Derived.Test.YtjfhiochcdjkhaaDoorG5C
open Go.Ev Go
namespace Go.Proofs.YtjfhiochcdjkhaaDoor.G

theorem has_spec (s : Sl Int) (x : Int) (hb : s.l.length < 1000000) : ref20_has s x = some (decide (x ∈ s.l)) := by
  have e0 : ((0 : Nat) : Int) = 0 := rfl
  refine forE (f := ref20_has_L1 s x) (fun i (_ : Unit) => (i : Int)) s.l.length (fun i _ => ∀ j < i, gt s.l j ≠ x)
    (fun b => match b with | .inl _ => x ∈ s.l | .inr _ => x ∉ s.l) ?_ ?_ 0 () (Nat.zero_le _) (fun j hj => by omega) (fun b q1 q2 => ?_)
  · intro i _ hi hI
    have hd : decide ((i : Int) < (s.l.length : Int)) = true := by rw [decide_eq_true_eq]; omega
    have hw : wr .i64 ((i : Int) + 1) = ((i + 1 : Nat) : Int) := by rw [wr_id (by omega) (by omega)]; omega
    by_cases h : gt s.l i = x
    · have hc : (gt s.l i == x) = true := by simpa using h
      exact .inr ⟨.inl (), by simp only [ref20_has_L1, hd, cond_true, ixI_of hi, Option.bind_some, hc], by rw [← h, gt_eq hi]; exact List.getElem_mem _⟩
    · have hc : (gt s.l i == x) = false := by simpa using h
      refine .inl ⟨(), by simp only [ref20_has_L1, hd, cond_true, ixI_of hi, Option.bind_some, hc, cond_false, hw], fun j hj => ?_⟩
      rcases Nat.lt_succ_iff_lt_or_eq.1 hj with h2 | rfl
      · exact hI j h2
      · exact h
  · intro _ hI
    have hd : decide ((s.l.length : Int) < (s.l.length : Int)) = false := by rw [decide_eq_false_iff_not]; omega
    refine ⟨.inr (), by simp only [ref20_has_L1, hd, cond_false], fun hm => ?_⟩
    obtain ⟨j, hj, rfl⟩ := List.getElem_of_mem hm
    exact hI j hj (gt_eq hj)
  · rw [e0] at q1
    cases b with
    | inl _ => simp only [ref20_has, q1, Option.bind_some, decide_eq_true q2]
    | inr _ => simp only [ref20_has, q1, Option.bind_some, decide_eq_false q2]

def REd (l : List ref20_Edge) (a b : Int) : Prop := ∃ e ∈ l, e.From = a ∧ e.To = b
instance (l : List ref20_Edge) (a b : Int) : Decidable (REd l a b) := by unfold REd; infer_instance

theorem edge_spec (l : Sl ref20_Edge) (a b : Int) (hb : l.l.length < 1000000) : ref20_edge l a b = some (decide (REd l.l a b)) := by
  have e0 : ((0 : Nat) : Int) = 0 := rfl
  refine forE (f := ref20_edge_L1 l a b) (fun i (_ : Unit) => (i : Int)) l.l.length (fun i _ => ∀ j < i, ¬ ((gt l.l j).From = a ∧ (gt l.l j).To = b))
    (fun r => match r with | .inl _ => REd l.l a b | .inr _ => ¬ REd l.l a b) ?_ ?_ 0 () (Nat.zero_le _) (fun j hj => by omega) (fun r q1 q2 => ?_)
  · intro i _ hi hI
    have hd : decide ((i : Int) < (l.l.length : Int)) = true := by rw [decide_eq_true_eq]; omega
    have hw : wr .i64 ((i : Int) + 1) = ((i + 1 : Nat) : Int) := by rw [wr_id (by omega) (by omega)]; omega
    by_cases h : (gt l.l i).From = a ∧ (gt l.l i).To = b
    · have hc : ((((gt l.l i).From) == a) && (((gt l.l i).To) == b)) = true := by simpa using h
      exact .inr ⟨.inl (), by simp only [ref20_edge_L1, hd, cond_true, ixI_of hi, Option.bind_some, hc], gt l.l i, by rw [gt_eq hi]; exact List.getElem_mem _, h⟩
    · have hc : ((((gt l.l i).From) == a) && (((gt l.l i).To) == b)) = false := by
        rw [Bool.and_eq_false_iff, beq_eq_false_iff_ne, beq_eq_false_iff_ne]
        by_cases h1 : (gt l.l i).From = a
        · exact .inr fun h2 => h ⟨h1, h2⟩
        · exact .inl h1
      refine .inl ⟨(), by simp only [ref20_edge_L1, hd, cond_true, ixI_of hi, Option.bind_some, hc, cond_false, hw], fun j hj => ?_⟩
      rcases Nat.lt_succ_iff_lt_or_eq.1 hj with h2 | rfl
      · exact hI j h2
      · exact h
  · intro _ hI
    have hd : decide ((l.l.length : Int) < (l.l.length : Int)) = false := by rw [decide_eq_false_iff_not]; omega
    refine ⟨.inr (), by simp only [ref20_edge_L1, hd, cond_false], ?_⟩
    rintro ⟨e, hm, h⟩
    obtain ⟨j, hj, rfl⟩ := List.getElem_of_mem hm
    exact hI j hj (by rw [gt_eq hj]; exact h)
  · rw [e0] at q1
    cases r with
    | inl _ => simp only [ref20_edge, q1, Option.bind_some, decide_eq_true q2]
    | inr _ => simp only [ref20_edge, q1, Option.bind_some, decide_eq_false q2]

theorem red_ed {l : List ref20_Edge} {i j : Nat} : REd l i j ↔ Ed (l.map conv) i j := by
  constructor
  · rintro ⟨e, he, h1, h2⟩; exact ⟨conv e, List.mem_map_of_mem he, h1, h2⟩
  · rintro ⟨e, he, h1, h2⟩
    obtain ⟨e', he', rfl⟩ := List.mem_map.1 he
    exact ⟨e', he', h1, h2⟩

/-- may a node stand next? -/
def Frees (n : Nat) (l : List ref20_Edge) (out : List Int) (i : Int) : Prop := i ∉ out ∧ ∀ k : Nat, k < n → REd l k i → (k : Int) ∈ out

theorem free_spec {n : Nat} (l : Sl ref20_Edge) (out : Sl Int) (i : Int) (hn : n ≤ 16) (hb : l.l.length < 1000000) (ho : out.l.length < 1000000) :
    ∃ b, ref20_free n l out i = some b ∧ (b = true ↔ Frees n l.l out.l i) := by
  have e0 : ((0 : Nat) : Int) = 0 := rfl
  by_cases hm : i ∈ out.l
  · exact ⟨false, by simp only [ref20_free, has_spec out i ho, Option.bind_some, decide_eq_true hm, cond_true], by simp [Frees, hm]⟩
  refine forE (f := ref20_free_L1 n l out i) (fun k (_ : Unit) => (k : Int)) n (fun k _ => ∀ j < k, REd l.l (j : Int) i → (j : Int) ∈ out.l)
    (fun b => match b with | .inl _ => ¬ ∀ k : Nat, k < n → REd l.l k i → (k : Int) ∈ out.l | .inr _ => ∀ k : Nat, k < n → REd l.l k i → (k : Int) ∈ out.l) ?_ ?_ 0 () (Nat.zero_le _) (fun j hj => by omega) (fun b q1 q2 => ?_)
  · intro k _ hk hI
    have hd : decide ((k : Int) < (n : Int)) = true := by rw [decide_eq_true_eq]; omega
    have hw : wr .i64 ((k : Int) + 1) = ((k + 1 : Nat) : Int) := by rw [wr_id (by omega) (by omega)]; omega
    by_cases he : REd l.l (k : Int) i
    · by_cases hko : (k : Int) ∈ out.l
      · refine .inl ⟨(), by simp only [ref20_free_L1, hd, cond_true, edge_spec l _ _ hb, decide_eq_true he, Option.bind_some, has_spec out _ ho, decide_eq_true hko, Bool.not_true, cond_false, hw], fun j hj => ?_⟩
        rcases Nat.lt_succ_iff_lt_or_eq.1 hj with h2 | rfl
        · exact hI j h2
        · exact fun _ => hko
      · exact .inr ⟨.inl (), by simp only [ref20_free_L1, hd, cond_true, edge_spec l _ _ hb, decide_eq_true he, Option.bind_some, has_spec out _ ho, decide_eq_false hko, Bool.not_false], fun h => hko (h k hk he)⟩
    · refine .inl ⟨(), by simp only [ref20_free_L1, hd, cond_true, edge_spec l _ _ hb, decide_eq_false he, Option.bind_some, cond_false, hw], fun j hj => ?_⟩
      rcases Nat.lt_succ_iff_lt_or_eq.1 hj with h2 | rfl
      · exact hI j h2
      · exact fun h => absurd h he
  · intro _ hI
    have hd : decide ((n : Int) < (n : Int)) = false := by rw [decide_eq_false_iff_not]; omega
    exact ⟨.inr (), by simp only [ref20_free_L1, hd, cond_false], hI⟩
  · rw [e0] at q1
    have hh : ref20_has out i = some false := by rw [has_spec out i ho, decide_eq_false hm]
    cases b with
    | inl _ => exact ⟨false, by simp only [ref20_free, hh, Option.bind_some, cond_false, q1], by simp only [Bool.false_eq_true, false_iff]; exact fun h => q2 h.2⟩
    | inr _ => exact ⟨true, by simp only [ref20_free, hh, Option.bind_some, cond_false, q1], by simp only [true_iff]; exact ⟨hm, q2⟩⟩

/-- the least free node -/
theorem next_free {n : Nat} (l : Sl ref20_Edge) (out : Sl Int) (hn : n ≤ 16) (hb : l.l.length < 1000000) (ho : out.l.length < 1000000) :
    (loopO (ref20_Order_L2 n l out) ((-1), wr .i64 ((n : Int) - 1)) = some (-1) ∧ ∀ i : Nat, i < n → ¬ Frees n l.l out.l i) ∨
    ∃ a : Nat, loopO (ref20_Order_L2 n l out) ((-1), wr .i64 ((n : Int) - 1)) = some (a : Int) ∧ a < n ∧ Frees n l.l out.l a ∧ ∀ i : Nat, i < a → ¬ Frees n l.l out.l i := by
  have hw0 : wr .i64 ((n : Int) - 1) = (n : Int) - 1 - ((0 : Nat) : Int) := by rw [wr_id (by omega) (by omega)]; omega
  rw [hw0]
  let I (t : Nat) (x : Int) : Prop := (x = -1 ∧ ∀ i : Nat, n ≤ i + t → i < n → ¬ Frees n l.l out.l i) ∨ ∃ a : Nat, x = a ∧ a < n ∧ Frees n l.l out.l a ∧ ∀ i : Nat, n ≤ i + t → i < a → ¬ Frees n l.l out.l i
  refine forE (f := ref20_Order_L2 n l out) (fun t (x : Int) => (x, (n : Int) - 1 - (t : Int))) n I (fun b => I n b) ?_ ?_ 0 (-1) (Nat.zero_le _) (.inl ⟨rfl, fun i h1 h2 => by omega⟩) (fun b q1 q2 => ?_)
  · intro t x ht hI
    have hd : decide ((n : Int) - 1 - (t : Int) ≥ 0) = true := by rw [decide_eq_true_eq]; omega
    have hw : wr .i64 ((n : Int) - 1 - (t : Int) - 1) = (n : Int) - 1 - ((t + 1 : Nat) : Int) := by rw [wr_id (by omega) (by omega)]; omega
    obtain ⟨b, h1, h2⟩ := free_spec (n := n) l out ((n : Int) - 1 - (t : Int)) hn hb ho
    have hc : (n : Int) - 1 - (t : Int) = ((n - 1 - t : Nat) : Int) := by omega
    cases b with
    | true =>
      refine .inl ⟨(n : Int) - 1 - (t : Int), by simp only [ref20_Order_L2, hd, cond_true, h1, Option.bind_some, hw], .inr ⟨n - 1 - t, hc, by omega, by rw [← hc]; exact h2.1 rfl, fun i h3 h4 => by omega⟩⟩
    | false =>
      have hf : ¬ Frees n l.l out.l ((n - 1 - t : Nat) : Int) := by rw [← hc]; exact fun h => by have := h2.2 h; simp at this
      refine .inl ⟨x, by simp only [ref20_Order_L2, hd, cond_true, h1, Option.bind_some, cond_false, hw], ?_⟩
      rcases hI with ⟨e, h3⟩ | ⟨a, e, h3, h4, h5⟩
      · refine .inl ⟨e, fun i h6 h7 => ?_⟩
        by_cases hi : i = n - 1 - t
        · subst hi; exact hf
        · exact h3 i (by omega) h7
      · refine .inr ⟨a, e, h3, h4, fun i h6 h7 => ?_⟩
        by_cases hi : i = n - 1 - t
        · subst hi; exact hf
        · exact h5 i (by omega) h7
  · intro x hI
    have hd : decide ((n : Int) - 1 - (n : Int) ≥ 0) = false := by rw [decide_eq_false_iff_not]; omega
    exact ⟨x, by simp only [ref20_Order_L2, hd, cond_false], hI⟩
  · rcases q2 with ⟨rfl, h3⟩ | ⟨a, rfl, h3, h4, h5⟩
    · exact .inl ⟨q1, fun i hi => h3 i (by omega) hi⟩
    · exact .inr ⟨a, q1, h3, h4, fun i hi => h5 i (by omega) hi⟩
end Go.Proofs.YtjfhiochcdjkhaaDoor.G
