/- The example of chapter 13. Conditions: none. -/
import Derived.Test.YtebcbdalaiefmaaHtq
import Derived.Test.YtebcbdalaiefmaaHtSame
open Go.Ev Go
namespace Go.Proofs.Ytebcbdalaiefmaa.H

theorem awake : law13_awake = some true := by
  unfold law13_awake
  simp only [heap_New_int, Option.bind_some]
  obtain ⟨l1, h1, p1, q1⟩ := push_int (s := .nil) (x := 3) HeapM.hp_nil (by decide)
  simp only [h1, Option.bind_some]
  have n1 := p1.length_eq
  obtain ⟨l2, h2, p2, q2⟩ := push_int (s := .mk l1) (x := 1) q1 (by simp at n1 ⊢; omega)
  simp only [h2, Option.bind_some]
  have n2 := p2.length_eq
  obtain ⟨l3, h3, p3, q3⟩ := push_int (s := .mk l2) (x := 2) q2 (by simp at n1 n2 ⊢; omega)
  simp only [h3, Option.bind_some]
  have p : l3.Perm [2, 1, 3] := p3.trans (List.Perm.cons _ (p2.trans (List.Perm.cons _ p1)))
  have n3 := p.length_eq
  obtain ⟨l4, h4, p4, q4⟩ := pop_int (s := .mk l3) q3 (by intro h; simp at h; subst h; simp at n3) (by simp at n3 ⊢; omega)
  have m4 := least_int (s := .mk l3) q3
  simp only [Sl.l_mk] at h4 p4 m4
  have e4 : gt l3 0 = 1 := by
    have a := p4.symm.subset (p.symm.subset (show (1 : Int) ∈ [2, 1, 3] by simp))
    have b := p.subset (p4.subset (List.mem_cons_self))
    have c := m4 1 (p.symm.subset (by simp))
    simp only [lt_int, decide_eq_false_iff_not, List.mem_cons, List.not_mem_nil, or_false] at b c
    omega
  rw [e4] at h4 p4
  have p5 : l4.Perm [2, 3] := by
    have := p4.trans p
    exact List.Perm.cons_inv (this.trans (List.Perm.swap 1 2 [3]))
  have n5 := p5.length_eq
  simp only [h4, Option.bind_some]
  obtain ⟨l6, h6, p6, q6⟩ := pop_int (s := .mk l4) q4 (by intro h; simp at h; subst h; simp at n5) (by simp at n5 ⊢; omega)
  have m6 := least_int (s := .mk l4) q4
  simp only [Sl.l_mk] at h6 p6 m6
  have e6 : gt l4 0 = 2 := by
    have b := p5.subset (p6.subset (List.mem_cons_self))
    have c := m6 2 (p5.symm.subset (by simp))
    simp only [lt_int, decide_eq_false_iff_not, List.mem_cons, List.not_mem_nil, or_false] at b c
    omega
  rw [e6] at h6 p6
  have p7 : l6 = [3] := List.perm_singleton.1 (List.Perm.cons_inv (p6.trans p5))
  subst p7
  obtain ⟨s', o', h8, p8, q8, r8, t8, u8⟩ := drain_int 9 (s := .mk [3]) q6 (by simp)
  have e8 : s'.l = [] := by
    cases hs : s'.l with
    | nil => rfl
    | cons y r =>
      have a := u8 y (by rw [hs]; simp)
      have b := p8.subset (List.mem_append_right o'.l (show y ∈ s'.l by rw [hs]; simp))
      simp [lt_int] at a b
      omega
  rw [e8, List.append_nil] at p8
  have e9 : o'.l = [3] := List.perm_singleton.1 p8
  simp [h6, len_int, h8, same_eq, e9]

end Go.Proofs.Ytebcbdalaiefmaa.H
