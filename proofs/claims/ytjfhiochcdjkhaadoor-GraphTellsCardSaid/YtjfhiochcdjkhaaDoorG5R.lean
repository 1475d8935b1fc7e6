/- The law GraphTells: the program's answers are the reference's. Conditions: none. -/
import Derived.Test.YtjfhiochcdjkhaaDoorG5RF
import Derived.Test.YtjfhiochcdjkhaaDoorG5RL
import Derived.Test.YtjfhiochcdjkhaaDoorG5Same
import Derived.Test.YtjfhiochcdjkhaaDoorG5t
open Go.Ev Go
namespace Go.Proofs.YtjfhiochcdjkhaaDoor.G

theorem tells (n : Int) (l : Sl ref20_Edge) (a : Int) : law20_GraphTells n l a = some true := by
  have aw := law20_awake_runs
  unfold law20_GraphTells
  by_cases hl : l.l.length ≤ 60
  rotate_left
  · have hd : decide ((l.l.length : Int) > 60) = true := by rw [decide_eq_true_eq]; omega
    simp only [hd, cond_true, Option.bind_some, aw]
  have hd : decide ((l.l.length : Int) > 60) = false := by rw [decide_eq_false_iff_not]; omega
  obtain ⟨m, hm, hml⟩ := mine_spec l hl
  have hmlen : m.l.length ≤ 60 := by rw [hml, List.length_map]; exact hl
  have hr := rright_spec (n := n) (l := l) (by omega)
  have hg := right_spec (n := n) (l := m) (by omega)
  rw [← hml] at hr
  have hnn : ref13_Same (.nil : Sl Int) .nil = some true := by rw [same_eq _ _ (by simp)]; rfl
  have hsame : ∀ {s t : Sl Int}, s.l = t.l → s.l.length ≤ 16 → ref13_Same s t = some true := fun {s t} h1 h2 => by
    rw [same_eq _ _ (by omega), decide_eq_true h1]
  by_cases hF : Fits n m.l
  · obtain ⟨N, rfl⟩ : ∃ N : Nat, n = (N : Int) := ⟨n.toNat, by have := hF.1; omega⟩
    have hlb : l.l.length < 1000000 := by omega
    obtain ⟨s, t, b, h1, h2, h3, h4, s2, t2, h5, h6, h7, h8⟩ := far_same hlb hml hF
    obtain ⟨s3, t3, h9, h10, h11, h12⟩ := loop_same hlb hml hF
    have hreach : ∃ s t, graph_Reach (N : Int) m a = some s ∧ ref20_Reach (N : Int) l a = some t ∧ s.l = t.l ∧ s.l.length ≤ 16 := by
      by_cases ha : 0 ≤ a ∧ a < (N : Int)
      · obtain ⟨A, rfl⟩ : ∃ A : Nat, a = (A : Int) := ⟨a.toNat, by omega⟩
        exact reach_same hlb hml hF (by omega)
      · have hc : ((!(decide (Fits (N : Int) m.l))) || ((decide (a < 0)) || (decide (a ≥ (N : Int))))) = true := by
          simp only [hF, decide_true, Bool.not_true, Bool.false_or, Bool.or_eq_true, decide_eq_true_eq]; omega
        exact ⟨.nil, .nil, by simp only [graph_Reach, hg, Option.bind_some, hc, cond_true], by simp only [ref20_Reach, hr, Option.bind_some, hc, cond_true], rfl, by simp⟩
    obtain ⟨s4, t4, k1, k2, k3, k4⟩ := hreach
    have e1 : ((decide (Fits (N : Int) m.l)) == (decide (Fits (N : Int) m.l))) = true := by simp
    have e2 : (b == b) = true := by simp
    simp only [hd, cond_false, hm, Option.bind_some, h1, h2, hg, hr, e1, Bool.not_true, k1, k2, hsame k3 k4, hsame h3 h4, e2, h5, h6, hsame h7 h8, cond_true, h9, h10, hsame h11 h12, aw]
  · have hg' : graph_Right n m = some false := by rw [hg, decide_eq_false hF]
    have hr' : ref20_Right n l = some false := by rw [hr, decide_eq_false hF]
    have o1 : graph_Order n m = some (.nil, false) := by simp only [graph_Order, hg', Option.bind_some, Bool.not_false, cond_true]
    have o2 : ref20_Order n l = some (.nil, false) := by simp only [ref20_Order, hr', Option.bind_some, Bool.not_false, cond_true]
    have f1 : graph_Far n m = some (.nil, false) := by simp only [graph_Far, o1, Option.bind_some, Bool.not_false, cond_true]
    have f2 : ref20_Far n l = some (.nil, false) := by simp only [ref20_Far, o2, Option.bind_some, Bool.not_false, cond_true]
    have r1 : graph_Reach n m a = some .nil := by simp only [graph_Reach, hg', Option.bind_some, Bool.not_false, Bool.true_or, cond_true]
    have r2 : ref20_Reach n l a = some .nil := by simp only [ref20_Reach, hr', Option.bind_some, Bool.not_false, Bool.true_or, cond_true]
    have l1 : graph_Loop n m = some .nil := by simp only [graph_Loop, hg', Option.bind_some, Bool.not_false, cond_true]
    have l2 : ref20_Loop n l = some .nil := by simp only [ref20_Loop, hr', Option.bind_some, Bool.not_false, cond_true]
    have e1 : (false == false) = true := rfl
    simp only [hd, cond_false, hm, Option.bind_some, o1, o2, hg', hr', e1, Bool.not_true, r1, r2, hnn, f1, f2, l1, l2, cond_true, aw]
end Go.Proofs.YtjfhiochcdjkhaaDoor.G
