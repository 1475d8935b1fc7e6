/- The laws TableChanges, TableNone and TableBack over their programs. Conditions: as stated. -/
import Derived.Test.YtmeemkllagjnmaaBL
import Derived.Test.YtmeemkllagjnmaaBF2
open Go.Ev Go
namespace Go.Proofs.Ytmeemkllagjnmaa.B
theorem none_law (t : Sl api_Rule) (l : Sl api_Mod) (ports room cut : Int) (hn : t.l.length < 9223372036854775808) (ha : ∀ x ∈ t.l, (api_Rule.Acts x).l.length < 9223372036854775808) (hf : ∀ m ∈ l.l, MFit m) :
  law11_TableNone t l ports room cut = some true := by
 unfold law11_TableNone
 rw [small_ok t hn]
 simp only [Option.bind_some]
 by_cases hs : Small t.l
 case neg => rw [tt_f hs, law11_awake_runs]; rfl
 rw [tt_t hs, Bool.not_true, cond_false, ref11_right t ports room hn ha]
 simp only [Option.bind_some]
 by_cases hT : TOk t.l ports room
 case neg => rw [tt_f hT, law11_awake_runs]; rfl
 rw [tt_t hT, Bool.not_true, Bool.false_or]
 by_cases hl : l.l.length ≤ 20 ∧ 0 ≤ cut ∧ cut ≤ l.l.length
 case neg => rw [show (((decide ((l.l.length : Int) > 20)) || (decide (cut < 0))) || (decide (cut > (l.l.length : Int)))) = true by simp; omega, law11_awake_runs]; rfl
 rw [show (((decide ((l.l.length : Int) > 20)) || (decide (cut < 0))) || (decide (cut > (l.l.length : Int)))) = false by simp; omega, cond_false]
 obtain ⟨hl, hc0, hc1⟩ := hl
 obtain ⟨c, rfl⟩ := Int.eq_ofNat_of_zero_le hc0
 have h20 := hs.1
 rcases findL (f := law11_TableNone_L1 l) l.l.length (by omega) (fun i => (api_Rule.Acts (api_Mod.R (gt l.l i))).l.length ≤ 10) (fun _ => true) () (fun i hi hp => by
   simp only [law11_TableNone_L1]
   rw [decide_eq_true (by omega), cond_true, ixI_of hi]
   simp only [Option.bind_some]
   rw [decide_eq_false (by omega)]; rfl) (fun i hi hp => by
   simp only [law11_TableNone_L1]
   rw [decide_eq_true (by omega), cond_true, ixI_of hi]
   simp only [Option.bind_some]
   rw [decide_eq_true (by omega), law11_awake_runs]; rfl) (by simp only [law11_TableNone_L1]; rw [decide_eq_false (by omega), cond_false]) with ⟨_, e⟩ | ⟨_, _, _, _, e⟩
 case inr => rw [e]; rfl
 rw [e]
 simp only [Option.bind_some]
 obtain ⟨q, e1, e2⟩ := table_mods_ok (t := t) (l := l) (room := room) (by omega) hT hf
 obtain ⟨h1, h2⟩ := mods_ok hT l.l t.l 0 hT
 rw [e1]
 simp only [Option.bind_some]
 by_cases he : (mods t.l ports room t.l l.l 0).2.2 = 0
 case neg =>
  obtain ⟨h3, k, h4, _, h5⟩ := mods_err _ _ _ he
  rw [h3] at e2
  rw [show ((mods t.l ports room t.l l.l 0).2.2 != 0) = true by simpa using he, cond_true, h4, show (decide ((k : Int) ≥ 0) && decide ((k : Int) < (l.l.length : Int))) = true by simp; omega, cond_true, ref10_rules_eq q t e2 (by rw [e2]; exact hn) (by rw [e2]; exact ha), law11_awake_runs]; rfl
 rw [he, mods_fine _ _ _ he, show ((0 : Int) != 0) = false from rfl, cond_false, cut_take (by omega), cut_drop (by omega)]
 simp only [Option.bind_some]
 have hl1 : (l.to (l.l.take c)).l = l.l.take c := to_l (cut_take (by omega))
 have hl2 : (l.to (l.l.drop c)).l = l.l.drop c := to_l (cut_drop (by omega))
 obtain ⟨q1, e3, e4⟩ := table_mods_ok (t := t) (l := l.to (l.l.take c)) (room := room) (by rw [hl1, List.length_take]; omega) hT (fun m hm => hf m (by rw [hl1] at hm; exact List.mem_of_mem_take hm))
 obtain ⟨g1, g2⟩ := mods_ok hT (l.to (l.l.take c)).l t.l 0 hT
 rw [← e4] at g1 g2
 obtain ⟨q2, e5, e6⟩ := table_mods_ok (t := q1) (l := l.to (l.l.drop c)) (room := room) (by rw [hl1, List.length_take] at g2; rw [hl2, List.length_drop]; omega) g1 (fun m hm => hf m (by rw [hl2] at hm; exact List.mem_of_mem_drop hm))
 have hcut := mods_cut (t0 := t.l) (ports := ports) (room := room) (l.l.take c) (l.l.drop c) t.l 0 (by rw [List.take_append_drop]; exact he) t.l q1.l 0 0
 rw [List.take_append_drop, ← hl1, ← hl2, ← e4] at hcut
 rw [e3]
 simp only [Option.bind_some]
 rw [e5]
 simp only [Option.bind_some]
 rw [hcut.1, hcut.2, he]
 rw [hcut.2] at e6
 rw [← e2] at h1 h2
 rw [ref10_rules_eq q q2 (e2.trans e6.symm) (by omega) (tok_acts h1), law11_awake_runs]; rfl
end Go.Proofs.Ytmeemkllagjnmaa.B
