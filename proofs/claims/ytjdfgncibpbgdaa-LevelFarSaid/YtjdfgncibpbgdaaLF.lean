/- The law LevelFar, of what the programs compute. Conditions: none. -/
import Derived.Test.YtjdfgncibpbgdaaLM
import Derived.Test.YtjdfgncibpbgdaaLt
open Go.Ev Go
namespace Go.Proofs.Ytjdfgncibpbgdaa.L
section
variable {t : api_Topo} {old now r : Sl (Sl Int)} {h : Nat}
theorem Away.ends {s k : Nat} (ha : Away t r h s k) (hV : RValid t r) (hs : s < r.l.length) : ∃ e, e < r.l.length ∧ Here t r h e := by
 induction ha with
 | @here s hH => exact ⟨s, hs, hH⟩
 | step _ hn _ ih => exact ih (next_lt hV hn)
theorem GoodP.own (hG : GoodP t r) (hh : h < t.Hosts.l.length) : ∃ s, s < r.l.length ∧ (gt t.Hosts.l h).At = (s : Int) ∧ portAt r h s = (gt t.Hosts.l h).Port := by
 obtain ⟨e, h1, h2, h3⟩ := (hG.dist (h := h) hG.pos hh).ends hG.1 hG.pos
 exact ⟨e, h1, h2, h3.symm⟩
theorem dist_zero (hG : GoodP t r) (hh : h < t.Hosts.l.length) {s : Nat} (hs : s < r.l.length) (h0 : dist t r h s = 0) : Here t r h s := by
 have := hG.dist hs hh
 rw [h0] at this
 cases this with
 | here hH => exact hH
theorem dist_next (hG : GoodP t r) (hh : h < t.Hosts.l.length) {s : Nat} (hs : s < r.l.length) (h0 : dist t r h s ≠ 0) : ¬ Here t r h s ∧ ∃ s', nextAt t r h s = some s' ∧ s' < r.l.length ∧ dist t r h s = dist t r h s' + 1 := by
 have ha := hG.dist hs hh
 generalize dist t r h s = k at ha h0
 cases ha with
 | here hH => exact absurd rfl h0
 | @step _ s' k h1 h2 h3 => exact ⟨h1, s', h2, next_lt hG.1 h2, by rw [dist_of h3]⟩
theorem move_far (hO : GoodP t old) (hN : GoodP t now) (hh : h < t.Hosts.l.length) {s : Nat} (hs : s < now.l.length) (hne : portAt now h s ≠ portAt old h s) : dist t now h s ≠ 0 := by
 intro h0
 obtain ⟨h1, h2⟩ := dist_zero hN hh hs h0
 obtain ⟨e, _, h4, h5⟩ := hO.own hh
 obtain rfl : s = e := by omega
 exact hne (by rw [h5, ← h2])
theorem mvs_nodup : (mvs t old now).Nodup := by
 unfold mvs
 rw [List.nodup_iff_pairwise_ne, List.pairwise_flatMap]
 have hA : ∀ h s, ∀ x ∈ mvAt t old now h s, x.1 = (s : Int) ∧ x.2.1 = (h : Int) := fun h s x hx => by
  unfold mvAt at hx
  split at hx
  ·obtain rfl := List.mem_singleton.1 hx; exact ⟨rfl, rfl⟩
  ·simp at hx
 refine ⟨fun h _ => ?_, ?_⟩
 ·unfold mvH
  rw [List.pairwise_flatMap]
  refine ⟨fun s _ => ?_, ?_⟩
  ·unfold mvAt; split <;> simp
  ·refine List.Pairwise.imp ?_ (List.pairwise_lt_range (n := now.l.length))
   intro a b hab x hx y hy e
   have h1 := (hA h a x hx).1
   have h2 := (hA h b y hy).1
   rw [e] at h1; omega
 ·refine List.Pairwise.imp ?_ (List.pairwise_lt_range (n := t.Hosts.l.length))
  intro a b hab x hx y hy e
  obtain ⟨s1, _, hx⟩ := List.mem_flatMap.1 hx
  obtain ⟨s2, _, hy⟩ := List.mem_flatMap.1 hy
  have h1 := (hA a s1 x hx).2
  have h2 := (hA b s2 y hy).2
  rw [e] at h1; omega
theorem srt_perm (d : List level_Move) : (srtMv d.toArray).toList.Perm d := by
 have e := (srtMv_facts d.toArray).1
 have h1 := e.2.2
 have h2 : (srtMv d.toArray).size = d.length := by simpa using e.1
 simp only [List.size_toArray, Array.toList_extract, List.extract_eq_take_drop, Nat.sub_zero, List.drop_zero, List.take_length] at h1
 rwa [← h2, ← Array.length_toList, List.take_length] at h1
theorem srt_sorted (d : List level_Move) {i j : Nat} (hij : i < j) (hj : j < (srtMv d.toArray).toList.length) : ¬ Bef (gt (srtMv d.toArray).toList j) (gt (srtMv d.toArray).toList i) := by
 have e := (srtMv_facts d.toArray).2
 have hsz : (srtMv d.toArray).size = d.toArray.size := (srtMv_facts d.toArray).1.1
 rw [Array.length_toList] at hj
 have h1 := e i j (Nat.zero_le _) hij (by rw [← hsz]; exact hj)
 have g : ∀ k, k < (srtMv d.toArray).size → gt (srtMv d.toArray).toList k = (srtMv d.toArray)[k]! := fun k hk => by
  rw [gt_eq (by simpa using hk), Array.getElem_toList, getElem!_pos _ k hk]
 rw [g j hj, g i (by omega)]
 intro hb
 rw [bef_iff.2 hb] at h1
 simp at h1
theorem moves_before {i : Nat} (hi : i + 1 < (srtMv (mvs t old now).toArray).toList.length) : Bef (gt (srtMv (mvs t old now).toArray).toList i) (gt (srtMv (mvs t old now).toArray).toList (i + 1)) := by
 have hn := srt_sorted (mvs t old now) (Nat.lt_succ_self i) hi
 have hp := srt_perm (mvs t old now)
 have hnd : (srtMv (mvs t old now).toArray).toList.Nodup := hp.nodup_iff.2 mvs_nodup
 generalize (srtMv (mvs t old now).toArray).toList = l at *
 have hma : gt l i ∈ mvs t old now := hp.mem_iff.1 (by rw [gt_eq (by omega)]; exact List.getElem_mem _)
 have hmb : gt l (i + 1) ∈ mvs t old now := hp.mem_iff.1 (by rw [gt_eq hi]; exact List.getElem_mem _)
 have hne : gt l i ≠ gt l (i + 1) := by
  rw [gt_eq (by omega), gt_eq hi]
  intro e
  have := (List.getElem_inj hnd).1 e
  omega
 obtain ⟨h1, s1, _, _, _, e1⟩ := mvs_mem.1 hma
 obtain ⟨h2, s2, _, _, _, e2⟩ := mvs_mem.1 hmb
 rw [e1, e2] at hn hne ⊢
 unfold Bef at hn ⊢
 simp only at hn ⊢
 by_cases hr : dist t now h1 s1 = dist t now h2 s2
 ·by_cases hs : s1 = s2
  ·by_cases hh : h1 = h2
   ·exact absurd (by rw [hs, hh]) hne
   ·omega
  ·omega
 ·omega
theorem before_run (a b : level_Move) : law23_before a b = some (tt (Bef a b)) := by
 obtain ⟨a1, a2, a3, a4⟩ := a
 obtain ⟨b1, b2, b3, b4⟩ := b
 have e : law23_before (a1, a2, a3, a4) (b1, b2, b3, b4) = some (if a4 ≠ b4 then decide (a4 < b4) else (decide (a1 < b1) || (a1 == b1 && decide (a2 < b2)))) := by
  simp only [law23_before]
  by_cases h1 : a4 = b4
  ·subst h1
   simp only [bne_self_eq_false, cond_false]
   rw [if_neg (not_not_intro rfl)]
   cases decide (a1 < b1) <;> rfl
  ·rw [show (a4 != b4) = true by simpa using h1, cond_true, if_pos h1]
 rw [e]
 congr 1
 rw [Bool.eq_iff_iff, tt_true]
 unfold Bef
 by_cases h1 : a4 = b4
 ·rw [if_neg (not_not_intro h1)]
  simp only [Bool.or_eq_true, Bool.and_eq_true, beq_iff_eq, decide_eq_true_eq]
  omega
 ·rw [if_pos h1]
  simp only [decide_eq_true_eq]
  omega
theorem far_loop (hS : Small t now) (hO : GoodP t old) (hN : GoodP t now) {l : Sl level_Move} (hl : l.l = (srtMv (mvs t old now).toArray).toList) : loopO (law23_LevelFar_L1 t old now l) 0 = some (.inr ()) := by
 have hsm := hN.1.small
 have hho := hN.1.hosts
 have hle : old.l.length = now.l.length := by have := hO.1.len; have := hN.1.len; omega
 have hsw := hN.1.len
 have hlen : l.l.length ≤ 64 := by
  rw [hl, (srt_perm _).length_eq]
  have := flat_len (m := 8) (f := mvH t old now) (fun h => by have := mvH_len (t := t) (old := old) (now := now) h; omega) (List.range t.Hosts.l.length)
  rw [List.length_range] at this
  have e : (mvs t old now).length ≤ 8 * t.Hosts.l.length := this
  omega
 have hlk := hN.1.topo.links
 have h1 := scanE (f := law23_LevelFar_L1 t old now l) (β := Bool) (γ := Unit) l.l (fun _ _ => none) () (by omega) (fun i hi => by
  have hm : gt l.l i ∈ mvs t old now := by
   have : gt l.l i ∈ l.l := by rw [gt_eq hi]; exact List.getElem_mem _
   rw [hl] at this ⊢
   exact (srt_perm _).mem_iff.1 this
  obtain ⟨h, s, hh, hs, hne, e⟩ := mvs_mem.1 hm
  have hbef : i ≠ 0 → law23_before (gt l.l (i - 1)) (gt l.l i) = some true := fun h0 => by
   rw [before_run, tt_t]
   obtain ⟨j, rfl⟩ : ∃ j, i = j + 1 := ⟨i - 1, by omega⟩
   rw [Nat.add_sub_cancel, hl]
   exact moves_before (by rw [← hl]; exact hi)
  have hfar := move_far hO hN hh hs hne
  obtain ⟨_, s', hn, hs', hd⟩ := dist_next hN hh hs hfar
  have hlt := hN.lt hs hh
  rcases peer_next (h := h) hN.1 s with ⟨e1, _⟩ | ⟨s2, b, c, e1, _, e2⟩
  ·rw [e1] at hn; cases hn
  rw [e1] at hn
  obtain rfl := Option.some.inj hn
  have hhn : h < (gt now.l s).l.length := by rw [hN.1.row hs]; exact hh
  have hsO : s < old.l.length := by omega
  have hhO : h < (gt old.l s).l.length := by rw [hO.1.row hsO]; exact hh
  have c1 : ((((((decide ((s : Int) < 0)) || (decide ((s : Int) ≥ t.Switches))) || (decide ((h : Int) < 0))) || (decide ((h : Int) ≥ (t.Hosts.l.length : Int)))) || (decide ((dist t now h s : Int) < 1))) || (decide ((dist t now h s : Int) ≥ t.Switches))) = false := by
   simp only [Bool.or_eq_false_iff, decide_eq_false_iff_not]; omega
  have c2 : (gt (gt now.l s).l h != portAt now h s) = false := by
   show (portAt now h s != portAt now h s) = false
   simp
  have c3 : (gt (gt old.l s).l h == portAt now h s) = false := by
   show (portAt old h s == portAt now h s) = false
   simpa using fun e => hne e.symm
  have hds : s < (Sl.mk (dists t now h)).l.length := by rw [Sl.l_mk, dists_len]; exact hs
  have hds' : s2 < (Sl.mk (dists t now h)).l.length := by rw [Sl.l_mk, dists_len]; exact hs'
  have g1 : gt (Sl.mk (dists t now h)).l s = (dist t now h s : Int) := by rw [Sl.l_mk, dists_gt hs]
  have g2 : gt (Sl.mk (dists t now h)).l s2 = (dist t now h s2 : Int) := by rw [Sl.l_mk, dists_gt hs']
  have c4 : ((dist t now h s2 : Int) != wr .i64 ((dist t now h s : Int) - 1)) = false := by
   rw [wr_id (by omega) (by omega)]
   simp only [bne_eq_false_iff_eq]; omega
  have hpr := refpeer_spec (t := t) (s : Int) (portAt now h s) (by omega)
  rw [e2] at hpr
  have hprev : (bif decide ((i : Int) > 0) then ((ixI (wr .i64 ((i : Int) - 1)) l.l.length).bind fun n25 => (law23_before (gt l.l n25) ((s : Int), (h : Int), portAt now h s, (dist t now h s : Int))).bind fun r26 => some (!r26)) else some false : Option Bool) = some false := by
   by_cases h0 : i = 0
   ·subst h0; rfl
   ·rw [decide_eq_true (show (i : Int) > 0 by omega), cond_true, wr_id (by omega) (by omega), show (i : Int) - 1 = ((i - 1 : Nat) : Int) by omega, ixI_of (show i - 1 < l.l.length by omega), Option.bind_some]
    have := hbef h0
    rw [e] at this
    rw [this]; rfl
  simp only [law23_LevelFar_L1, lt_t hi, cond_true, ixI_of hi, Option.bind_some, e, c1, cond_false, ixI_of hs, ixI_of hhn, ixI_of hsO, ixI_of hhO, c2, c3, reffar_run hS hN hh hN.pos, hpr, ixI_of hds, ixI_of hds', g1, g2, bne_self_eq_false, Bool.not_true, Bool.or_self, c4, hprev])
  (by simp only [law23_LevelFar_L1, lt_f, cond_false])
 have h2 : scan (β := Bool) (fun (_ : Nat) (_ : level_Move) => none) l.l 0 = none := scan_none.2 fun _ _ _ => rfl
 rw [h2] at h1
 exact h1
theorem far_law (t : api_Topo) (old now : Sl (Sl Int)) (ho : old.l.length < 9223372036854775808) (hn : now.l.length < 9223372036854775808) : law23_LevelFar t old now = some true := by
 unfold law23_LevelFar
 rw [small_spec ho]
 by_cases hS1 : Small t old
 rotate_left
 ·rw [decide_eq_false hS1]; simp only [Option.bind_some, Bool.not_false, cond_true, law23_awake_runs]
 rw [decide_eq_true hS1, small_spec hn]
 by_cases hS2 : Small t now
 rotate_left
 ·rw [decide_eq_false hS2]; simp only [Option.bind_some, Bool.not_true, cond_false, Bool.not_false, cond_true, law23_awake_runs]
 rw [decide_eq_true hS2, refgood_run hS1, refgood_run hS2]
 by_cases hO : GoodP t old
 rotate_left
 ·rw [tt_f hO]; simp only [Option.bind_some, Bool.not_true, cond_false, Bool.not_false, cond_true, law23_awake_runs]
 by_cases hN : GoodP t now
 rotate_left
 ·rw [tt_t hO, tt_f hN]; simp only [Option.bind_some, Bool.not_true, cond_false, Bool.not_false, cond_true, law23_awake_runs]
 rw [tt_t hO, tt_t hN]
 obtain ⟨l, h1, h2⟩ := moves_run hO hN
 simp only [Option.bind_some, Bool.not_true, cond_false, h1, bne_self_eq_false, far_loop hS2 hO hN h2, law23_awake_runs]
end
end Go.Proofs.Ytjdfgncibpbgdaa.L
