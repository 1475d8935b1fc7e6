/- The laws TableChanges, TableNone and TableBack over their programs. Conditions: as stated. -/
import Derived.Test.YtmeemkllagjnmaaBL
import Derived.Test.YtmeemkllagjnmaaBF2
open Go.Ev Go
namespace Go.Proofs.Ytmeemkllagjnmaa.B
theorem apl_add {t : List api_Rule} {x : api_Rule} {ports room : Int} (hx : ROk x ports) (hk : ∀ y ∈ t, ¬ Key y x) : apl t (⟨1, x, false⟩ : api_Mod) ports room = if room ≤ t.length then (t, 6) else (ins x t, 0) := by
 unfold apl
 rw [if_neg (not_not_intro hx), if_pos rfl, if_neg (fun h => Bool.noConfusion h.1), if_neg (fun ⟨y, hy, h⟩ => hk y hy h)]
theorem apl_del {t : List api_Rule} {x : api_Rule} {ports room : Int} (hx : ROk x ports) (hk : ∀ y ∈ t, ¬ Key y x) : apl (ins x t) (⟨5, x, false⟩ : api_Mod) ports room = (t, 0) := by
 unfold apl
 have h1 : ∃ y ∈ ins x t, Key y x := ⟨x, ins_mem.2 (.inl rfl), rfl, rfl⟩
 simp only [api_Mod.Kind, api_Mod.R]
 rw [if_neg (not_not_intro hx), if_neg (by decide), if_neg (by decide), if_neg (by decide), if_neg (by decide), if_pos trivial, if_pos h1, chg_gone]
 obtain ⟨a, b, e1, e2, _, _⟩ := ins_split x t
 rw [e2, List.filter_append, List.filter_cons, tt_t ⟨rfl, rfl⟩]
 have hf : ∀ l : List api_Rule, (∀ y ∈ l, y ∈ t) → l.filter (fun y => !tt (Key y x)) = l := fun l hl => List.filter_eq_self.2 fun y hy => by rw [tt_f (hk y (hl y hy))]; rfl
 rw [hf a (fun y hy => by rw [e1]; simp [hy]), hf b (fun y hy => by rw [e1]; simp [hy])]
 rw [e1]; rfl
theorem back_law (t : Sl api_Rule) (x : api_Rule) (ports room port : Int) (p : Arr 4 Int) (hn : t.l.length < 9223372036854775808) (ha : ∀ x ∈ t.l, (api_Rule.Acts x).l.length < 9223372036854775808) (hxf : RFit x) :
  law11_TableBack t x ports room port p = some true := by
 unfold law11_TableBack
 rw [small_ok t hn]
 simp only [Option.bind_some]
 by_cases hs : Small t.l ∧ (api_Rule.Acts x).l.length ≤ 10
 case neg =>
  have hb : ((!tt (Small t.l)) || (decide ((((api_Rule.Acts x).l).length : Int) > 10))) = true := by
   by_cases h : Small t.l
   ·have h2 : ¬ (api_Rule.Acts x).l.length ≤ 10 := fun h2 => hs ⟨h, h2⟩
    rw [decide_eq_true (by omega), Bool.or_true]
   ·rw [tt_f h]; rfl
  rw [hb, law11_awake_runs]; rfl
 obtain ⟨hs, hxa⟩ := hs
 rw [tt_t hs, decide_eq_false (by omega), Bool.not_true, Bool.or_false, cond_false, ref11_right t ports room hn ha]
 simp only [Option.bind_some]
 by_cases hT : TOk t.l ports room
 case neg => rw [tt_f hT, law11_awake_runs]; rfl
 rw [tt_t hT, Bool.not_true, cond_false, ref10_right _ _ (by omega)]
 simp only [Option.bind_some]
 by_cases hx : ROk x ports
 case neg => rw [tt_f hx, law11_awake_runs]; rfl
 rw [tt_t hx, Bool.not_true, cond_false, ref07_right]
 simp only [Option.bind_some]
 by_cases hp : POk p
 case neg => rw [tt_f hp, law11_awake_runs]; rfl
 rw [tt_t hp, Bool.not_true, cond_false]
 have h20 := hs.1
 rcases findL (f := law11_TableBack_L1 t x) t.l.length (by omega) (fun i => ¬ Key (gt t.l i) x) (fun _ => true) () (fun i hi hq => by
   simp only [law11_TableBack_L1]
   rw [decide_eq_true (by omega), cond_true, ixI_of hi]
   simp only [Option.bind_some]
   rw [rule_key, tt_f hq]; rfl) (fun i hi hq => by
   simp only [law11_TableBack_L1]
   rw [decide_eq_true (by omega), cond_true, ixI_of hi]
   simp only [Option.bind_some]
   rw [rule_key, tt_t (Classical.not_not.1 hq), law11_awake_runs]; rfl) (by simp only [law11_TableBack_L1]; rw [decide_eq_false (by omega), cond_false]) with ⟨hk, e⟩ | ⟨_, _, _, _, e⟩
 case inr => rw [e]; rfl
 rw [e]
 simp only [Option.bind_some]
 have hk := (all_gt (P := fun y => ¬ Key y x)).1 hk
 obtain ⟨a, e1, e2⟩ := table_apply_ok (t := t) (m := (⟨1, x, false⟩ : api_Mod)) (room := room) (by omega) hT hxf
 obtain ⟨hA, _⟩ := apl_ok (m := (⟨1, x, false⟩ : api_Mod)) hT
 rw [← e2] at hA
 rw [apl_add hx hk] at e1 e2
 rw [e1]
 simp only [Option.bind_some]
 by_cases hr : room ≤ t.l.length
 ·rw [if_pos hr] at e2 ⊢
  have := hT.n
  have e2 : a.l = t.l := e2
  rw [show (((t.l, (6 : Int)) : List api_Rule × Int).2 != 0) = true from rfl, cond_true, show ((((t.l, (6 : Int)) : List api_Rule × Int).2 == 6) && ((t.l.length : Int) == room)) = true by simp; omega, cond_true, ref10_rules_eq a t e2 (by rw [e2]; exact hn) (by rw [e2]; exact ha), law11_awake_runs]; rfl
 rw [if_neg hr] at e2 ⊢
 have e2 : a.l = ins x t.l := e2
 have hal : a.l.length = t.l.length + 1 := by rw [e2, ins_len]
 rw [show (((ins x t.l, (0 : Int)) : List api_Rule × Int).2 != 0) = false from rfl, cond_false]
 obtain ⟨b, e3, e4⟩ := table_apply_ok (t := a) (m := (⟨5, x, false⟩ : api_Mod)) (room := room) (by omega) hA hxf
 rw [e2, apl_del hx hk] at e3 e4
 rw [e3]
 simp only [Option.bind_some]
 have e4 : b.l = t.l := e4
 rw [wrS (by omega), hal, bne_self_eq_false, ref10_rules_eq b t e4 (by rw [e4]; exact hn) (by rw [e4]; exact ha)]
 rw [show ((false : Bool) || (((t.l, (0 : Int)) : List api_Rule × Int).2 != 0)) = false from rfl, cond_false]
 simp only [Option.bind_some, Bool.not_true, cond_false]
 have hm : ∀ y ∈ t.l, MOk (api_Rule.M y) := fun y hy => (hT.r y hy).m
 have hmA : ∀ y ∈ a.l, MOk (api_Rule.M y) := fun y hy => (hA.r y hy).m
 rw [ref11_find hn hm hp, match_hits hx.m port hp, table_run (by omega) hmA hp, ref11_run hn hm hp, ← run_eq, e2]
 simp only [Option.bind_some]
 have hsend : ∀ (l : List api_Rule), (∀ y ∈ l, (api_Rule.Acts y).l.length ≤ 16) → ∃ s, sends (l.find? fun y => tt (Hit (api_Rule.M y) port p)) p = some s ∧ ref09_Sent s s = some true := fun l hl => sent_run hl
 have ht16 : ∀ y ∈ t.l, (api_Rule.Acts y).l.length ≤ 16 := fun y hy => (hT.r y hy).a.1
 obtain ⟨u, v, s1, s2, s3, s4⟩ := ins_split x t.l
 have hv : ∀ y ∈ v, api_Rule.Prio y < api_Rule.Prio x := by
  intro y hy
  cases v with
  | nil => simp at hy
  | cons z v =>
   have hz := s4 z rfl
   rcases List.mem_cons.1 hy with rfl | hy
   ·exact hz
   ·have hs := hT.s
    unfold Srt at hs
    rw [s1] at hs
    have := (List.pairwise_cons.1 (List.pairwise_append.1 hs).2.1).1 y hy
    omega
 rw [s2]
 have hfa : (u ++ x :: v).find? (fun y => tt (Hit (api_Rule.M y) port p)) = (u.find? fun y => tt (Hit (api_Rule.M y) port p)).or (bif tt (Hit (api_Rule.M x) port p) then some x else v.find? fun y => tt (Hit (api_Rule.M y) port p)) := by
  rw [List.find?_append, List.find?_cons]
  cases tt (Hit (api_Rule.M x) port p) <;> rfl
 have hft : t.l.find? (fun y => tt (Hit (api_Rule.M y) port p)) = (u.find? fun y => tt (Hit (api_Rule.M y) port p)).or (v.find? fun y => tt (Hit (api_Rule.M y) port p)) := by
  rw [s1, List.find?_append]
 obtain ⟨st, hst1, hst2⟩ := hsend t.l ht16
 have hff := find_fi t.l fun y => tt (Hit (api_Rule.M y) port p)
 by_cases hsame : (u ++ x :: v).find? (fun y => tt (Hit (api_Rule.M y) port p)) = t.l.find? (fun y => tt (Hit (api_Rule.M y) port p)) ∧ (tt (Hit (api_Rule.M x) port p) = true → ∃ r, t.l.find? (fun y => tt (Hit (api_Rule.M y) port p)) = some r ∧ api_Rule.Prio x ≤ api_Rule.Prio r)
 ·obtain ⟨hsame, hcond⟩ := hsame
  have hb25 : (bif (!tt (Hit (api_Rule.M x) port p)) then (some true) else (bif decide (fi t.l (fun y => tt (Hit (api_Rule.M y) port p)) ≥ 0) then ((ixI (fi t.l (fun y => tt (Hit (api_Rule.M y) port p))) t.l.length).bind fun n24 => some (decide ((api_Rule.Prio (gt t.l n24)) ≥ (api_Rule.Prio x)))) else (some false)) : Option Bool) = some true := by
   cases hh : tt (Hit (api_Rule.M x) port p)
   ·rfl
   ·obtain ⟨r, hr1, hr2⟩ := hcond hh
    rcases hff with ⟨_, h2⟩ | ⟨k, h1, hk2, h2⟩
    ·rw [h2] at hr1; cases hr1
    ·rw [h2] at hr1
     obtain rfl := Option.some.inj hr1
     rw [h1, decide_eq_true (by omega), ixI_of hk2]
     simp only [Option.bind_some]
     rw [decide_eq_true (by omega)]; rfl
  rw [hb25]
  simp only [Option.bind_some, cond_true]
  rw [hsame, hst1]
  simp only [Option.bind_some]
  rw [hst2, law11_awake_runs]; rfl
 ·have hu : u.find? (fun y => tt (Hit (api_Rule.M y) port p)) = none := by
   cases h : u.find? (fun y => tt (Hit (api_Rule.M y) port p)) with
   | none => rfl
   | some r =>
    refine absurd ⟨by rw [hfa, hft, h]; rfl, fun _ => ⟨r, by rw [hft, h]; rfl, s3 r (List.mem_of_find?_eq_some h)⟩⟩ hsame
  have hh : tt (Hit (api_Rule.M x) port p) = true := by
   cases h : tt (Hit (api_Rule.M x) port p)
   ·refine absurd ⟨by rw [hfa, hft, h]; rfl, fun h2 => by rw [h] at h2; cases h2⟩ hsame
   ·rfl
  have hb25 : (bif decide (fi t.l (fun y => tt (Hit (api_Rule.M y) port p)) ≥ 0) then ((ixI (fi t.l (fun y => tt (Hit (api_Rule.M y) port p))) t.l.length).bind fun n24 => some (decide ((api_Rule.Prio (gt t.l n24)) ≥ (api_Rule.Prio x)))) else (some false) : Option Bool) = some false := by
   rcases hff with ⟨h1, _⟩ | ⟨k, h1, hk2, h2⟩
   ·rw [h1]; rfl
   ·rw [hft, hu, Option.none_or] at h2
    have := hv _ (List.mem_of_find?_eq_some h2)
    rw [h1, decide_eq_true (by omega), ixI_of hk2]
    simp only [Option.bind_some]
    rw [decide_eq_false (by omega)]; rfl
  rw [hh, Bool.not_true, cond_false, hb25]
  simp only [Option.bind_some, cond_false]
  rw [hfa, hu, hh]
  obtain ⟨sx, hx1, hx2⟩ := run_some (api_Rule.Acts x) p (by omega)
  rw [show sends ((none : Option api_Rule).or (bif true then some x else v.find? fun y => tt (Hit (api_Rule.M y) port p))) p = act_Run (api_Rule.Acts x) p from rfl, hx1]
  simp only [Option.bind_some]
  rw [sent_refl _ (by omega), law11_awake_runs]; rfl
end Go.Proofs.Ytmeemkllagjnmaa.B
