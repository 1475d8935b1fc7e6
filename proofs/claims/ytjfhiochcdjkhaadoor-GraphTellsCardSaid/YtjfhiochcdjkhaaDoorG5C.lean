/- Graphs: the law's conversions and ref Right. Conditions: as stated. -/
import Derived.Test.YtjfhiochcdjkhaaDoorG5M
open Go.Ev Go
namespace Go.Proofs.YtjfhiochcdjkhaaDoor.G

/-! ### the law's functions -/

def conv (e : ref20_Edge) : graph_Edge := ⟨e.From, e.To⟩

theorem mine_spec (l : Sl ref20_Edge) (hb : l.l.length ≤ 60) : ∃ m, law20_mine l = some m ∧ m.l = l.l.map conv := by
  refine forE (f := law20_mine_L1 l) (fun i (s : Sl graph_Edge) => (s, (i : Int))) l.l.length (fun i s => s.l = (l.l.take i).map conv) (fun s => s.l = l.l.map conv) ?_ ?_ 0 .nil (Nat.zero_le _) (by simp) (fun b h2 h3 => ?_)
  · intro i s hi hI
    refine .inl ⟨.mk (s.l ++ [conv (gt l.l i)]), ?_, ?_⟩
    · have hd : decide ((i : Int) < (l.l.length : Int)) = true := by rw [decide_eq_true_eq]; omega
      have hw : wr .i64 ((i : Int) + 1) = ((i + 1 : Nat) : Int) := by rw [wr_id (by omega) (by omega)]; omega
      have hsl : s.l.length = i := by rw [hI]; simp; omega
      have hcap : capI (s.l ++ [(⟨(gt l.l i).From, (gt l.l i).To⟩ : graph_Edge)]) = some (s.l ++ [conv (gt l.l i)]) := capI_of (by simp; omega)
      simp only [law20_mine_L1, hd, cond_true, ixI_of hi, Option.bind_some, hcap, hw]
    · have et : l.l.take (i + 1) = l.l.take i ++ [gt l.l i] := by rw [gt_eq hi, List.take_append_getElem hi]
      rw [et, List.map_append, ← hI]; rfl
  · intro s hI
    have hd : decide ((l.l.length : Int) < (l.l.length : Int)) = false := by rw [decide_eq_false_iff_not]; omega
    refine ⟨s, by simp only [law20_mine_L1, hd, cond_false], ?_⟩
    rw [List.take_length] at hI; exact hI
  · have e0 : ((0 : Nat) : Int) = 0 := rfl
    rw [e0] at h2
    exact ⟨b, by simp only [law20_mine, h2, Option.bind_some], h3⟩

theorem rright_spec {n : Int} {l : Sl ref20_Edge} (hb : l.l.length < 1000000) : ref20_Right n l = some (decide (Fits n (l.l.map conv))) := by
  let ok (e : ref20_Edge) : Prop := (0 ≤ e.From ∧ e.From < n) ∧ (0 ≤ e.To ∧ e.To < n)
  have hF : Fits n (l.l.map conv) ↔ (0 ≤ n ∧ n ≤ 16) ∧ ∀ e ∈ l.l, ok e := by
    unfold Fits
    simp [conv, ok]
  refine forE (f := ref20_Right_L1 n l) (fun i (_ : Unit) => (i : Int)) l.l.length (fun i _ => ∀ j < i, ok (gt l.l j))
    (fun b => match b with | .inl _ => ¬ ∀ e ∈ l.l, ok e | .inr _ => ∀ e ∈ l.l, ok e) ?_ ?_ 0 () (Nat.zero_le _) (fun j hj => by omega) (fun b h2 h3 => ?_)
  · intro i _ hi hI
    have hd : decide ((i : Int) < (l.l.length : Int)) = true := by rw [decide_eq_true_eq]; omega
    have hw : wr .i64 ((i : Int) + 1) = ((i + 1 : Nat) : Int) := by rw [wr_id (by omega) (by omega)]; omega
    have hc : ((decide (((gt l.l i).From) < 0)) || ((decide (((gt l.l i).From) ≥ n)) || ((decide (((gt l.l i).To) < 0)) || (decide (((gt l.l i).To) ≥ n))))) = decide (¬ ok (gt l.l i)) := by
      rw [Bool.eq_iff_iff]; simp only [Bool.or_eq_true, decide_eq_true_eq, ok]; omega
    by_cases ho : ok (gt l.l i)
    · refine .inl ⟨(), ?_, fun j hj => ?_⟩
      · simp only [ref20_Right_L1, hd, cond_true, ixI_of hi, Option.bind_some, hc, ho, not_true_eq_false, decide_false, cond_false, hw]
      · rcases Nat.lt_succ_iff_lt_or_eq.1 hj with h | rfl
        · exact hI j h
        · exact ho
    · refine .inr ⟨.inl (), ?_, fun h => ho (h _ (by rw [gt_eq hi]; exact List.getElem_mem _))⟩
      simp only [ref20_Right_L1, hd, cond_true, ixI_of hi, Option.bind_some, hc, ho, not_false_eq_true, decide_true]
  · intro _ hI
    have hd : decide ((l.l.length : Int) < (l.l.length : Int)) = false := by rw [decide_eq_false_iff_not]; omega
    refine ⟨.inr (), by simp only [ref20_Right_L1, hd, cond_false], fun e he => ?_⟩
    obtain ⟨j, hj, rfl⟩ := List.getElem_of_mem he
    rw [← gt_eq hj]; exact hI j hj
  · have e0 : ((0 : Nat) : Int) = 0 := rfl
    rw [e0] at h2
    rw [ref20_Right, h2, Option.bind_some]
    cases b with
    | inl _ => simp only [Option.some.injEq]; exact (decide_eq_false fun h => h3 (hF.1 h).2).symm
    | inr _ =>
      simp only [Option.some.injEq]
      rw [Bool.eq_iff_iff]
      simp only [Bool.and_eq_true, decide_eq_true_eq, hF]
      exact ⟨fun h => ⟨⟨h.1, h.2⟩, h3⟩, fun h => ⟨h.1.1, h.1.2⟩⟩

end Go.Proofs.YtjfhiochcdjkhaaDoor.G
