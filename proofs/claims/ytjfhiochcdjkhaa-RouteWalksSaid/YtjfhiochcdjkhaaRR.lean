/- The law RouteWalks: a walk goes over no switch twice, and each of its ends is a walk. Conditions: the routes are no longer than a machine holds. -/
import Derived.Test.YtjfhiochcdjkhaaRW
import Derived.Test.YtjfhiochcdjkhaaRSame
import Derived.Test.YtjfhiochcdjkhaaRtw
open Go.Ev Go
namespace Go.Proofs.Ytjfhiochcdjkhaa.R

theorem port_any (r : Sl (Sl Int)) (sw h : Int) : (route_port r sw h = some (0, false)) ∨ ∃ (s H : Nat) (p : Int), sw = s ∧ h = H ∧ s < r.l.length ∧ H < (gt r.l s).l.length ∧ route_port r sw h = some (p, true) := by
  unfold route_port
  by_cases h1 : sw < 0
  · left; rw [decide_eq_true h1]; rfl
  by_cases h2 : sw ≥ (r.l.length : Int)
  · left; rw [decide_eq_false h1, decide_eq_true h2]; rfl
  by_cases h3 : h < 0
  · left; rw [decide_eq_false h1, decide_eq_false h2, decide_eq_true h3]; rfl
  obtain ⟨s, rfl⟩ : ∃ s : Nat, sw = (s : Int) := ⟨sw.toNat, by omega⟩
  obtain ⟨H, rfl⟩ : ∃ H : Nat, h = (H : Int) := ⟨h.toNat, by omega⟩
  have hs : s < r.l.length := by omega
  rw [decide_eq_false h1, decide_eq_false h2, decide_eq_false h3]
  simp only [cond_false, ixI_of hs, Option.bind_some]
  by_cases h4 : (H : Int) ≥ ((gt r.l s).l.length : Int)
  · left; rw [decide_eq_true h4]; rfl
  · right
    have hH : H < (gt r.l s).l.length := by omega
    refine ⟨s, H, gt (gt r.l s).l H, rfl, rfl, hs, hH, ?_⟩
    rw [decide_eq_false h4]
    simp only [cond_false, ixI_of hH, Option.bind_some]

theorem walk_any {t : api_Topo} {r : Sl (Sl Int)} (hS : Small t r) (sw h : Int) : ∃ l e, route_Walk t r sw h = some (l, e) ∧ ((e ≠ 0 ∧ l = .nil) ∨
    (e = 0 ∧ RValid t r ∧ ∃ (s H : Nat) (w : List Nat), sw = s ∧ h = H ∧ s < r.l.length ∧ H < t.Hosts.l.length ∧ l = .mk (intsR w) ∧ Way t r H w ∧ gt w 0 = s)) := by
  obtain ⟨s1, s2, s3, s4⟩ := hS
  rcases port_any r sw h with hp | ⟨s, H, p, rfl, rfl, hs, hH, hp⟩
  · exact ⟨.nil, 2, by simp only [route_Walk, hp, Option.bind_some, Bool.not_false, cond_true], .inl ⟨by decide, rfl⟩⟩
  · have hr := route_right (t := t) (r := r) (by omega) (fun row hm => by have := s1 row hm; omega)
    by_cases hV : RValid t r
    · have hHl : H < t.Hosts.l.length := by rw [hV.row hs] at hH; exact hH
      obtain ⟨l, e, h1, h2⟩ := walk_ok hV hHl hs
      refine ⟨l, e, h1, ?_⟩
      rcases h2 with h2 | ⟨h2, w, h3, h4, h5⟩
      · exact .inl h2
      · exact .inr ⟨h2, hV, s, H, w, rfl, rfl, hs, hHl, h3, h4, h5⟩
    · rw [decide_eq_false hV] at hr
      exact ⟨.nil, 2, by simp only [route_Walk, hp, Option.bind_some, Bool.not_true, cond_false, hr, Bool.not_false, cond_true], .inl ⟨by decide, rfl⟩⟩

theorem walks (t : api_Topo) (r : Sl (Sl Int)) (sw h : Int) (hb : r.l.length ≤ maxLen) : law21_RouteWalks t r sw h = some true := by
  have aw := law21_awake_runs
  have hb2 : r.l.length < 9223372036854775808 := Nat.lt_of_le_of_lt hb (by decide)
  unfold law21_RouteWalks
  simp only [small_spec hb2, Option.bind_some]
  by_cases hS : Small t r
  rotate_left
  · simp only [decide_eq_false hS, Bool.not_false, cond_true, aw, Option.bind_some]
  simp only [decide_eq_true hS, Bool.not_true, cond_false]
  obtain ⟨l, e, h1, ⟨h2, rfl⟩ | ⟨rfl, hV, s, H, w, rfl, rfl, hs, hH, rfl, hW, h0⟩⟩ := walk_any hS sw h
  · have e1 : (e != 0) = true := by rw [bne_iff_ne]; exact h2
    have e2 : (((Sl.nil : Sl Int).l.length : Int) == 0) = true := rfl
    simp only [h1, Option.bind_some, e1, cond_true, e2, aw]
  · have e1 : ((0 : Int) != 0) = false := rfl
    obtain ⟨f, f1, f2, f3⟩ := far_spec hV hH
    have hpos := hW.pos
    have hsm := hV.small
    have hlen := hV.len
    have hwl : w.length ≤ r.l.length := by
      have hs : w ⊆ List.range r.l.length := fun y hy => List.mem_range.2 (hW.lt y hy)
      simpa using hW.nd.length_le_of_subset hs
    obtain ⟨S, hSdef⟩ : ∃ S : Sl Int, S = .mk (intsR w) := ⟨_, rfl⟩
    have hSl : S.l = intsR w := by rw [hSdef]; rfl
    have hSlen : S.l.length = w.length := by rw [hSl, intsR_len]
    have c1 : ((S.l.length : Int) == 0) = false := by rw [beq_eq_false_iff_ne]; omega
    have c2 : decide ((S.l.length : Int) > t.Switches) = false := by rw [decide_eq_false_iff_not]; omega
    have c3 : ((f.l.length : Int) != t.Switches) = false := by rw [bne_eq_false_iff_eq, f2]; exact hlen
    have i0 : ixI 0 S.l.length = some 0 := ixI_of (i := 0) (by omega)
    have g0 : gt S.l 0 = (s : Int) := by rw [hSl, intsR_gt, h0]
    have c4 : (gt S.l 0 != (s : Int)) = false := by rw [g0]; simp
    have hw : wr .i64 ((S.l.length : Int) - 1) = ((w.length - 1 : Nat) : Int) := by rw [hSlen, wr_id (by omega) (by omega)]; omega
    have il : w.length - 1 < S.l.length := by omega
    have gl : gt S.l (w.length - 1) = (gt t.Hosts.l H).At := by rw [hSl, intsR_gt]; exact hW.last.1.symm
    have c5 : (gt S.l (w.length - 1) != (gt t.Hosts.l H).At) = false := by rw [gl]; simp
    rw [← hSdef] at h1
    -- each end
    have hloop : loopO (law21_RouteWalks_L1 t r (H : Int) S f) 0 = some (.inr ()) := by
      refine forE (f := law21_RouteWalks_L1 t r (H : Int) S f) (fun i (_ : Unit) => (i : Int)) S.l.length (fun _ _ => True) (fun b => b = .inr ()) ?_ ?_ 0 () (Nat.zero_le _) trivial (fun b q1 q2 => ?_)
      · intro i _ hi _
        left
        have hiw : i < w.length := by omega
        obtain ⟨hD, hD0⟩ := way_drop hW hiw
        have hwd := walk_way hV hH hD
        rw [hD0] at hwd
        have hgi : gt S.l i = ((gt w i : Nat) : Int) := by rw [hSl, intsR_gt]
        have hwi : gt w i < r.l.length := hW.lt _ (by rw [gt_eq hiw]; exact List.getElem_mem _)
        have hcut : cutI S.l (i : Int) (S.l.length : Int) = some (intsR (w.drop i)) := by
          rw [cutI_some]
          refine ⟨⟨by omega, by omega, Int.le_refl _⟩, ?_⟩
          rw [Int.toNat_natCast, Int.toNat_natCast, hSl, intsR_len, ← intsR_drop]
          exact List.take_of_length_le (by rw [List.length_drop, intsR_len]; exact Nat.le_refl _)
        have hto : S.to (intsR (w.drop i)) = .mk (intsR (w.drop i)) := by rw [hSdef]; rfl
        have hsame : ref13_Same (.mk (intsR (w.drop i))) (.mk (intsR (w.drop i))) = some true := by
          rw [same_eq _ _ (by rw [Sl.l_mk, intsR_len, List.length_drop]; omega), decide_eq_true rfl]
        obtain ⟨l', e', k1, k2, k3⟩ := f3 _ hwi
        rw [hwd] at k1
        obtain ⟨rfl, rfl⟩ : Sl.mk (intsR (w.drop i)) = l' ∧ 0 = e' := by simpa using k1
        have hif : gt w i < f.l.length := by omega
        have hfar : gt f.l (gt w i) = ((w.length - i : Nat) : Int) - 1 := by rw [k3, Sl.l_mk, intsR_len, List.length_drop]
        have hw2 : wr .i64 ((wr .i64 ((S.l.length : Int) - 1)) - (i : Int)) = ((w.length - i : Nat) : Int) - 1 := by rw [hw, wr_id (by omega) (by omega)]; omega
        have c6 : (gt f.l (gt w i) != (wr .i64 ((wr .i64 ((S.l.length : Int) - 1)) - (i : Int)))) = false := by rw [hfar, hw2]; simp
        refine ⟨(), ?_, trivial⟩
        simp only [law21_RouteWalks_L1, lt_t hi, cond_true, ixI_of hi, Option.bind_some, hgi, hwd, e1, cond_false, hcut, hto, hsame, Bool.not_true, ixI_of hif, c6, wr_s (show i < 9223372036854775807 by omega)]
      · intro _ _
        exact ⟨.inr (), by simp only [law21_RouteWalks_L1, lt_f, cond_false], rfl⟩
      · subst q2; exact q1
    simp only [h1, Option.bind_some, e1, cond_false, f1, c1, c2, c3, i0, c4, hw, ixI_of il, ixI_of hH, c5, hloop, aw]
end Go.Proofs.Ytjfhiochcdjkhaa.R
