/- The law TableFirst over its program. Conditions: as stated. -/
import Derived.Test.YtmeemkllagjnmaaBD
import Derived.Test.YtmeemkllagjnmaaBG
import Derived.Test.YtmeemkllagjnmaaBt
open Go.Ev Go
namespace Go.Proofs.Ytmeemkllagjnmaa.B
def Small (t : List api_Rule) : Prop := t.length ≤ 20 ∧ ∀ x ∈ t, (api_Rule.Acts x).l.length ≤ 10
theorem small_ok (t : Sl api_Rule) (hn : t.l.length < 9223372036854775808) : law11_small t = some (tt (Small t.l)) := by
 unfold law11_small
 rw [allL (f := law11_small_L1 t) t.l.length hn (fun i => (api_Rule.Acts (gt t.l i)).l.length ≤ 10) () (fun i hi => ?_) (by simp only [law11_small_L1]; rw [decide_eq_false (by omega), cond_false])]
 ·rw [tt_congr (all_gt (P := fun x => (api_Rule.Acts x).l.length ≤ 10))]
  by_cases h : ∀ x ∈ t.l, (api_Rule.Acts x).l.length ≤ 10
  ·rw [tt_t h]
   simp only [cond_true, Option.bind_some]
   rw [tt_dec]
   exact congrArg some (tt_congr ⟨fun h2 => ⟨by omega, h⟩, fun h2 => by have := h2.1; omega⟩)
  ·rw [tt_f h, tt_f fun h2 => h h2.2]; rfl
 ·simp only [law11_small_L1]
  rw [decide_eq_true (by omega), cond_true, ixI_of hi]
  simp only [Option.bind_some]
  by_cases h : (api_Rule.Acts (gt t.l i)).l.length ≤ 10
  ·rw [decide_eq_false (by omega), tt_t h]; rfl
  ·rw [decide_eq_true (by omega), tt_f h]; rfl
theorem first_law (t : Sl api_Rule) (ports room port : Int) (p : Arr 4 Int) (hn : t.l.length < 9223372036854775808) (ha : ∀ x ∈ t.l, (api_Rule.Acts x).l.length < 9223372036854775808) :
  law11_TableFirst t ports room port p = some true := by
 unfold law11_TableFirst
 rw [small_ok t hn]
 simp only [Option.bind_some]
 by_cases hs : Small t.l
 case neg => rw [tt_f hs, law11_awake_runs]; rfl
 rw [tt_t hs, Bool.not_true, cond_false, ref11_right t ports room hn ha]
 simp only [Option.bind_some]
 by_cases hT : TOk t.l ports room
 case neg => rw [tt_f hT, law11_awake_runs]; rfl
 rw [tt_t hT, Bool.not_true, cond_false, ref07_right]
 simp only [Option.bind_some]
 by_cases hp : POk p
 case neg => rw [tt_f hp, law11_awake_runs]; rfl
 rw [tt_t hp, Bool.not_true, cond_false, table_find hn (fun x hx => (hT.r x hx).m) hp]
 simp only [Option.bind_some]
 have hs := srt_iff.1 hT.s
 generalize hat : fi t.l (fun x => tt (Hit (api_Rule.M x) port p)) = r6
 have hc := fi_cases t.l fun x => tt (Hit (api_Rule.M x) port p)
 rw [hat] at hc
 have hr : -1 ≤ r6 ∧ r6 < t.l.length := by
  rcases hc with ⟨h, _⟩ | ⟨k, h, hk, _⟩ <;> omega
 rw [allL (f := law11_TableFirst_L1 t port p r6) t.l.length hn (fun _ => True) () (fun i hi => ?_) (by simp only [law11_TableFirst_L1]; rw [decide_eq_false (by omega), cond_false]), tt_t fun _ _ => trivial]
 ·simp only [cond_true, Option.bind_some]
  rw [show ((decide (r6 ≥ (-1))) && (decide (r6 < (t.l.length : Int)))) = true by simp; omega, law11_awake_runs]; rfl
 ·rw [tt_t trivial]
  simp only [law11_TableFirst_L1]
  rw [decide_eq_true (by omega), cond_true, ixI_of hi]
  simp only [Option.bind_some]
  rw [match_hits (hT.r _ (gt_mem hi)).m port hp]
  simp only [Option.bind_some]
  rcases hc with ⟨h, h2⟩ | ⟨k, h, hk, h2, h3⟩
  ·rw [h2 _ (gt_mem hi), h, show ((i : Int) == -1) = false by rw [beq_eq_false_iff_ne]; omega]; rfl
  ·cases hh : tt (Hit (api_Rule.M (gt t.l i)) port p) with
   | false =>
    have hne : i ≠ k := fun e => by rw [e, h2] at hh; cases hh
    rw [h, show ((i : Int) == (k : Int)) = false by simp; omega]; rfl
   | true =>
    have hle : k ≤ i := by
     rcases Nat.lt_or_ge i k with hlt | hge
     ·rw [h3 i hlt] at hh; cases hh
     ·exact hge
    have hpr : api_Rule.Prio (gt t.l i) ≤ api_Rule.Prio (gt t.l k) := by
     rcases Nat.lt_or_ge k i with hlt | hge
     ·exact (hs i hi k hlt).1
     ·rw [show i = k by omega]; exact Int.le_refl _
    rw [h, cond_true, show ((decide ((k : Int) < 0)) || (decide ((k : Int) ≥ (t.l.length : Int)))) = false by simp; omega, cond_false, ixI_of hk]
    simp only [Option.bind_some]
    rw [show ((decide ((api_Rule.Prio (gt t.l i)) > (api_Rule.Prio (gt t.l k)))) || (decide ((i : Int) < (k : Int)))) = false by simp; omega, cond_false, Bool.not_true, Bool.and_false]; rfl
end Go.Proofs.Ytmeemkllagjnmaa.B
