/- Graphs: the reference's Order is the program's. Conditions: as stated. -/
import Derived.Test.YtjfhiochcdjkhaaDoorG5F
import Derived.Test.YtjfhiochcdjkhaaDoorG5O
open Go.Ev Go
namespace Go.Proofs.YtjfhiochcdjkhaaDoor.G

theorem ints_take (o : List Nat) (p : Nat) : ints (o.take p) = (ints o).take p := by simp [ints, List.map_take]

theorem frees_iff {n p : Nat} {l : List ref20_Edge} {o : List Nat} {i : Nat} : Frees n l (ints (o.take p)) i ↔ i ∉ o.take p ∧ ∀ k : Nat, k < n → Ed (l.map conv) k i → k ∈ o.take p := by
  have hm : ∀ k : Nat, (k : Int) ∈ ints (o.take p) ↔ k ∈ o.take p := fun k => by
    rw [ints_mem]
    exact ⟨fun ⟨y, hy, e⟩ => by rw [show k = y by omega]; exact hy, fun h => ⟨k, h, rfl⟩⟩
  unfold Frees
  rw [hm]
  constructor
  · rintro ⟨h1, h2⟩; exact ⟨h1, fun k hk he => (hm k).1 (h2 k hk (red_ed.2 he))⟩
  · rintro ⟨h1, h2⟩; exact ⟨h1, fun k hk he => (hm k).2 (h2 k hk (red_ed.1 he))⟩

theorem ref_order {n x : Nat} {l : Sl ref20_Edge} {o : List Nat} (hb : l.l.length < 1000000) (hF : Fits n (l.l.map conv)) (hP : Part n (l.l.map conv) x o) (hx : x = 0 ∨ Stuck (l.l.map conv) x) :
    (x = 0 → ∃ s, ref20_Order (n : Int) l = some (s, true) ∧ s.l = ints o) ∧ (x ≠ 0 → ref20_Order (n : Int) l = some (.nil, false)) := by
  have hn16 : n ≤ 16 := by have := hF.1; omega
  have hol := hP.len
  have hr : ref20_Right (n : Int) l = some true := by rw [rright_spec hb, decide_eq_true hF]
  -- the next one of the order is the least that is free
  have hfree : ∀ p, p < o.length → Frees n l.l (ints (o.take p)) ((gt o p : Nat) : Int) := by
    intro p hp
    rw [frees_iff]
    refine ⟨fun hm => ?_, fun k hk he => ?_⟩
    · obtain ⟨q, hq, e⟩ := List.mem_take_iff_getElem.1 hm
      have := (List.getElem_inj (i := q) (j := p) (h₀ := by omega) (h₁ := hp) hP.nd).1 (by rw [e, gt_eq hp])
      omega
    · obtain ⟨q, hq, e⟩ := hP.topo p hp k he
      rw [← e, gt_eq (show q < o.length by omega)]
      exact List.mem_take_iff_getElem.2 ⟨q, by omega, rfl⟩
  have hleast : ∀ p, p < o.length → ∀ j, j < gt o p → ¬ Frees n l.l (ints (o.take p)) j := by
    intro p hp j hj h
    rw [frees_iff] at h
    obtain ⟨i, h1, h2⟩ := hP.least p hp j hj h.1
    exact h2 (h.2 i (hF.lt h1).1 h1)
  have hnone : x ≠ 0 → ∀ j, j < n → ¬ Frees n l.l (ints (o.take o.length)) j := by
    intro h0 j hj h
    have hS := hx.resolve_left h0
    rw [frees_iff, List.take_length] at h
    rcases (hP.all j).2 hj with h1 | h1
    · obtain ⟨i, h2, h3⟩ := hS.pre j h1
      have := hP.not i (h.2 i (hF.lt h3).1 h3)
      rw [h2] at this; simp at this
    · exact h.1 h1
  have hfull : x = 0 → o.length = n := by
    intro h0
    refine Nat.le_antisymm hol ?_
    have hsub : List.range n ⊆ o := fun j hj => by
      rcases (hP.all j).2 (List.mem_range.1 hj) with h | h
      · rw [h0] at h; simp at h
      · exact h
    have := List.nodup_range.length_le_of_subset hsub
    simpa using this
  have hless : x ≠ 0 → o.length < n := by
    intro h0
    obtain ⟨k, m, hk⟩ := low_form x h0
    have hkx : x.testBit k = true := by rw [form_low hk]; simp
    have hko : k ∉ o := fun h => by rw [hP.not k h] at hkx; simp at hkx
    have hsub : k :: o ⊆ List.range n := fun j hj => by
      rcases List.mem_cons.1 hj with rfl | hj
      · exact List.mem_range.2 ((hP.all _).1 (.inl hkx))
      · exact List.mem_range.2 ((hP.all j).1 (.inr hj))
    have := (List.nodup_cons.2 ⟨hko, hP.nd⟩).length_le_of_subset hsub
    simp at this
    omega
  refine whileE (f := ref20_Order_L1 (n : Int) l) (fun s => n - s.l.length) (fun s => ∃ p, p ≤ o.length ∧ s.l = ints (o.take p))
    (fun b => match b with | .inl _ => x ≠ 0 | .inr s => x = 0 ∧ s.l = ints o) ?_ .nil ⟨0, Nat.zero_le _, rfl⟩ (fun b q1 q2 => ?_)
  · rintro s ⟨p, hp, hs⟩
    have hsl : s.l.length = p := by rw [hs, ints_len, List.length_take]; omega
    by_cases hpn : p < n
    · have hd : decide ((s.l.length : Int) < (n : Int)) = true := by rw [decide_eq_true_eq]; omega
      rcases next_free (n := n) l s hn16 hb (by omega) with ⟨h1, h2⟩ | ⟨a, h1, h2, h3, h4⟩
      · rw [hs] at h2
        right
        have hpo : p = o.length := by
          rcases Nat.lt_or_ge p o.length with h | h
          · exact absurd (hfree p h) (h2 _ ((hP.all _).1 (.inr (gt_mem h))))
          · omega
        have e1 : ((-1 : Int) == -1) = true := rfl
        exact ⟨.inl (), by simp only [ref20_Order_L1, hd, cond_true, h1, Option.bind_some, e1], fun h0 => by have := hfull h0; omega⟩
      · rw [hs] at h3 h4
        left
        have hpo : p < o.length := by
          rcases Nat.lt_or_ge p o.length with h | h
          · exact h
          · have e : p = o.length := by omega
            subst e
            by_cases h0 : x = 0
            · have := hfull h0; omega
            · exact absurd h3 (hnone h0 a h2)
        have ha : a = gt o p := by
          rcases Nat.lt_or_ge a (gt o p) with h | h
          · exact absurd h3 (hleast p hpo a h)
          · rcases Nat.lt_or_ge (gt o p) a with h' | h'
            · exact absurd (hfree p hpo) (h4 _ h')
            · omega
        have e1 : ((a : Int) == -1) = false := by rw [beq_eq_false_iff_ne]; omega
        have et : o.take (p + 1) = o.take p ++ [a] := by rw [ha, gt_eq hpo, List.take_append_getElem hpo]
        have hcap : capI (s.l ++ [(a : Int)]) = some (ints (o.take (p + 1))) := by
          rw [capI_of (by rw [List.length_append, List.length_singleton]; omega), et, hs]; simp [ints]
        refine ⟨.mk (ints (o.take (p + 1))), by simp only [ref20_Order_L1, hd, cond_true, h1, Option.bind_some, e1, cond_false, hcap], ⟨p + 1, hpo, rfl⟩, ?_⟩
        rw [Sl.l_mk, ints_len, List.length_take, hsl]; omega
    · have hd : decide ((s.l.length : Int) < (n : Int)) = false := by rw [decide_eq_false_iff_not]; omega
      have hp2 : p = o.length := by omega
      refine .inr ⟨.inr s, by simp only [ref20_Order_L1, hd, cond_false], ?_, by rw [hs, hp2, List.take_length]⟩
      by_cases h0 : x = 0
      · exact h0
      · have := hless h0; omega
  · cases b with
    | inl _ => exact ⟨fun h => absurd h q2, fun _ => by simp only [ref20_Order, hr, Option.bind_some, Bool.not_true, cond_false, q1]⟩
    | inr s => exact ⟨fun _ => ⟨s, by simp only [ref20_Order, hr, Option.bind_some, Bool.not_true, cond_false, q1], q2.2⟩, fun h => absurd q2.1 h⟩
end Go.Proofs.YtjfhiochcdjkhaaDoor.G
