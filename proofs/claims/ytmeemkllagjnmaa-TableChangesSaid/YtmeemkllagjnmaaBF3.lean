/- The laws TableChanges, TableNone and TableBack over their programs. Conditions: as stated. -/
import Derived.Test.YtmeemkllagjnmaaBL
import Derived.Test.YtmeemkllagjnmaaBF2
open Go.Ev Go
namespace Go.Proofs.Ytmeemkllagjnmaa.B
theorem changes_law (t : Sl api_Rule) (l : Sl api_Mod) (ports room : Int) (hn : t.l.length < 9223372036854775808) (ha : ∀ x ∈ t.l, (api_Rule.Acts x).l.length < 9223372036854775808) (hf : ∀ m ∈ l.l, MFit m) :
  law11_TableChanges t l ports room = some true := by
 unfold law11_TableChanges
 rw [small_ok t hn]
 simp only [Option.bind_some]
 by_cases hs : Small t.l
 case neg => rw [tt_f hs, law11_awake_runs]; rfl
 rw [tt_t hs, Bool.not_true, cond_false, ref11_right t ports room hn ha]
 simp only [Option.bind_some]
 by_cases hT : TOk t.l ports room
 case neg => rw [tt_f hT, law11_awake_runs]; rfl
 rw [tt_t hT, Bool.not_true, Bool.false_or]
 by_cases hl : l.l.length ≤ 20
 case neg => rw [decide_eq_true (by omega), law11_awake_runs]; rfl
 rw [decide_eq_false (by omega), cond_false]
 have h20 := hs.1
 have step : ∀ i : Nat, i < l.l.length → (api_Rule.Acts (api_Mod.R (gt l.l i))).l.length ≤ 10 → law11_TableChanges_L1 t l ports room i = some (.inl (wr .i64 ((i : Int) + 1))) := by
  intro i hi hp
  simp only [law11_TableChanges_L1]
  rw [decide_eq_true (by omega), cond_true, ixI_of hi]
  simp only [Option.bind_some]
  rw [decide_eq_false (by omega), cond_false]
  obtain ⟨q, e1, e2⟩ := table_apply_ok (t := t) (m := gt l.l i) (room := room) (by omega) hT (hf _ (gt_mem hi)).1
  obtain ⟨q', e3, e4⟩ := ref11_apply_ok (t := t) (m := gt l.l i) (room := room) (by omega) hT (hf _ (gt_mem hi)).2
  obtain ⟨h1, h2⟩ := apl_ok (m := gt l.l i) hT
  rw [e1, e3]
  simp only [Option.bind_some]
  rw [← e2] at h1 h2
  rw [ref10_rules_eq q q' (e2.trans e4.symm) (by omega) (tok_acts h1), table_right q ports room (by omega) (rfit_ok h1), tt_t h1]
  simp only [Option.bind_some, bne_self_eq_false]; rfl
 rcases findL (f := law11_TableChanges_L1 t l ports room) l.l.length (by omega) (fun i => (api_Rule.Acts (api_Mod.R (gt l.l i))).l.length ≤ 10) (fun _ => true) () step (fun i hi hp => by
   simp only [law11_TableChanges_L1]
   rw [decide_eq_true (by omega), cond_true, ixI_of hi]
   simp only [Option.bind_some]
   rw [decide_eq_true (by omega), law11_awake_runs]; rfl) (by simp only [law11_TableChanges_L1]; rw [decide_eq_false (by omega), cond_false]) with ⟨_, e⟩ | ⟨_, _, _, _, e⟩
 ·rw [e]
  simp only [Option.bind_some]
  obtain ⟨q, e1, e2⟩ := table_mods_ok (t := t) (l := l) (room := room) (by omega) hT hf
  obtain ⟨q', e3, e4⟩ := ref11_mods_ok (t := t) (l := l) (room := room) (by omega) hT hf
  obtain ⟨h1, h2⟩ := mods_ok hT l.l t.l 0 hT
  rw [e1, e3]
  simp only [Option.bind_some]
  rw [← e2] at h1 h2
  rw [ref10_rules_eq q q' (e2.trans e4.symm) (by omega) (tok_acts h1), table_right q ports room (by omega) (rfit_ok h1), tt_t h1, beq_self_eq_true, beq_self_eq_true, law11_awake_runs]; rfl
 ·rw [e]; rfl
end Go.Proofs.Ytmeemkllagjnmaa.B
