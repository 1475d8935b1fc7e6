/- What functions of the program compute, and that the model's run computes it. Conditions: as stated. -/
import Derived.Test.YtjfhiochcdjkhaaR4a
open Go.Ev Go
namespace Go.Proofs.Ytjfhiochcdjkhaa.R

/- turnout/turnoutlaw21.awake -/
def k12 : CC :=
  (.seq
  (.region [
    ⟨some 0, .mv, [(.const (.bool false))], none⟩] [])
  (.seq
  (.region [
    ⟨some 6, (.build [(.int .i64 0), (.int .i64 0), (.int .i64 0), (.int .i64 0), (.int .i64 0), (.int .i64 0)] [(0, 1), (1, 1), (2, 1), (3, 1), (4, 1), (5, 1)]), [(.const (.int .i64 0)), (.const (.int .i64 0)), (.const (.int .i64 1)), (.const (.int .i64 0)), (.const (.int .i64 1)), (.const (.int .i64 1))], none⟩,
    ⟨some 7, (.buildSlice 6 1 [(.int .i64 0), (.int .i64 0), (.int .i64 0), (.int .i64 0), (.int .i64 0), (.int .i64 0)] [0]), [(.tmp 6)], none⟩,
    ⟨some 8, (.build [(.int .i64 0), (.int .i64 0)] [(0, 1), (1, 1)]), [(.const (.int .i64 1)), (.const (.int .i64 5))], none⟩,
    ⟨some 9, (.buildSlice 2 1 [(.int .i64 0), (.int .i64 0)] [0]), [(.tmp 8)], none⟩,
    ⟨some 10, (.build [(.int .i64 0), (.slice none 0 0), (.slice none 0 0)] [(0, 1), (1, 1), (2, 1)]), [(.const (.int .i64 2)), (.tmp 7), (.tmp 9)], none⟩,
    ⟨some 1, (.alloc [(.int .i64 0), (.slice none 0 0), (.slice none 0 0)]), [], none⟩,
    ⟨none, (.store 3), [(.tmp 1), (.tmp 10)], none⟩] [1])
  (.seq
  (.region [
    ⟨some 12, (.load true 3), [(.tmp 1)], none⟩,
    ⟨some 13, (.buildSlice 1 1 [(.int .i64 0)] [0]), [(.const (.int .i64 0))], none⟩,
    ⟨some 14, (.buildSlice 1 1 [(.int .i64 0)] [0]), [(.const (.int .i64 5))], none⟩,
    ⟨some 15, (.buildSlice 1 2 [(.slice none 0 0), (.slice none 0 0)] [0, 1]), [(.tmp 13), (.tmp 14)], none⟩,
    ⟨some 16, (.call false []), [(.func 13), (.tmp 12), (.tmp 15), (.const (.int .i64 0)), (.const (.int .i64 0))], none⟩,
    ⟨some 11, .mv, [(.tmp 16)], none⟩,
    ⟨some 17, (.extract 0), [(.tmp 11)], none⟩,
    ⟨some 18, (.extract 1), [(.tmp 11)], none⟩,
    ⟨some 2, .mv, [(.tmp 17)], none⟩,
    ⟨some 3, .mv, [(.tmp 18)], none⟩] [1, 2, 3])
  (.seq
  (.region [
    ⟨some 20, (.load true 3), [(.tmp 1)], none⟩,
    ⟨some 21, (.buildSlice 1 1 [(.int .i64 0)] [0]), [(.const (.int .i64 0))], none⟩,
    ⟨some 22, (.buildSlice 1 1 [(.int .i64 0)] [0]), [(.const (.int .i64 0))], none⟩,
    ⟨some 23, (.buildSlice 1 2 [(.slice none 0 0), (.slice none 0 0)] [0, 1]), [(.tmp 21), (.tmp 22)], none⟩,
    ⟨some 24, (.call false []), [(.func 13), (.tmp 20), (.tmp 23), (.const (.int .i64 0)), (.const (.int .i64 0))], none⟩,
    ⟨some 19, .mv, [(.tmp 24)], none⟩,
    ⟨some 25, (.extract 0), [(.tmp 19)], none⟩,
    ⟨some 26, (.extract 1), [(.tmp 19)], none⟩,
    ⟨some 4, .mv, [(.tmp 25)], none⟩,
    ⟨some 5, .mv, [(.tmp 26)], none⟩] [1, 2, 3, 5])
  (.seq
  (.region [
    ⟨some 27, .mv, [(.tmp 3)], none⟩,
    ⟨some 28, (.bin .eql), [(.tmp 27), (.const (.int .i64 0))], none⟩,
    ⟨some 29, .mv, [(.tmp 28)], none⟩,
    ⟨some 30, .mv, [(.tmp 2)], (some (29, true))⟩,
    ⟨some 31, (.buildSlice 1 2 [(.int .i64 0), (.int .i64 0)] [0, 1]), [(.const (.int .i64 0)), (.const (.int .i64 1))], (some (29, true))⟩,
    ⟨some 32, (.call true []), [(.func 15), (.tmp 30), (.tmp 31)], (some (29, true))⟩,
    ⟨some 33, .pick, [(.tmp 29), (.tmp 32), (.const (.bool false))], none⟩,
    ⟨some 34, .mv, [(.tmp 33)], none⟩,
    ⟨some 35, .mv, [(.tmp 5)], (some (34, true))⟩,
    ⟨some 36, (.bin .eql), [(.tmp 35), (.const (.int .i64 12))], (some (34, true))⟩,
    ⟨some 37, .pick, [(.tmp 34), (.tmp 36), (.const (.bool false))], none⟩,
    ⟨some 38, .mv, [(.tmp 37)], none⟩,
    ⟨some 39, (.load true 3), [(.tmp 1)], (some (38, true))⟩,
    ⟨some 40, (.buildSlice 1 1 [(.int .i64 0)] [0]), [(.const (.int .i64 0))], (some (38, true))⟩,
    ⟨some 41, (.buildSlice 1 1 [(.int .i64 0)] [0]), [(.const (.int .i64 5))], (some (38, true))⟩,
    ⟨some 42, (.buildSlice 1 2 [(.slice none 0 0), (.slice none 0 0)] [0, 1]), [(.tmp 40), (.tmp 41)], (some (38, true))⟩,
    ⟨some 43, (.call true []), [(.func 49), (.tmp 39), (.tmp 42)], (some (38, true))⟩,
    ⟨some 44, .pick, [(.tmp 38), (.tmp 43), (.const (.bool false))], none⟩,
    ⟨some 45, .mv, [(.tmp 44)], none⟩,
    ⟨some 46, (.load true 3), [(.tmp 1)], (some (45, true))⟩,
    ⟨some 47, (.buildSlice 1 1 [(.int .i64 0)] [0]), [(.const (.int .i64 5))], (some (45, true))⟩,
    ⟨some 48, (.buildSlice 1 1 [(.int .i64 0)] [0]), [(.const (.int .i64 5))], (some (45, true))⟩,
    ⟨some 49, (.buildSlice 1 2 [(.slice none 0 0), (.slice none 0 0)] [0, 1]), [(.tmp 47), (.tmp 48)], (some (45, true))⟩,
    ⟨some 50, (.call true []), [(.func 49), (.tmp 46), (.tmp 49)], (some (45, true))⟩,
    ⟨some 51, (.un .not), [(.tmp 50)], (some (45, true))⟩,
    ⟨some 52, .pick, [(.tmp 45), (.tmp 51), (.const (.bool false))], none⟩,
    ⟨some 0, .mv, [(.tmp 52)], none⟩] [0])
  .ret)))))
def f12 : Ev.Fn := ⟨0, 53, [.tmp 0], k12⟩
set_option maxRecDepth 100000 in
theorem e12 : compFn prog sig 12 0 [[], [1], [1, 2, 3], [1, 2, 3, 5], [0]] = some f12 := by kernel_rfl
noncomputable def law21_awake : Option (Bool) :=
  (route_Walk (⟨2, (Sl.mk [(⟨0, 0, 1, 0, 1, 1⟩ : api_Link)]), (Sl.mk [(⟨1, 5⟩ : api_Host)])⟩ : api_Topo) (Sl.mk [(Sl.mk [0]), (Sl.mk [5])]) 0 0).bind fun (r1, r2) =>
  (route_Walk (⟨2, (Sl.mk [(⟨0, 0, 1, 0, 1, 1⟩ : api_Link)]), (Sl.mk [(⟨1, 5⟩ : api_Host)])⟩ : api_Topo) (Sl.mk [(Sl.mk [0]), (Sl.mk [0])]) 0 0).bind fun (r4, r5) =>
  (bif (r2 == 0) then ((ref13_Same r1 (Sl.mk [0, 1])).bind fun r7 =>
  bif r7 then (bif (r5 == 12) then ((route_Good (⟨2, (Sl.mk [(⟨0, 0, 1, 0, 1, 1⟩ : api_Link)]), (Sl.mk [(⟨1, 5⟩ : api_Host)])⟩ : api_Topo) (Sl.mk [(Sl.mk [0]), (Sl.mk [5])])).bind fun r9 =>
  bif r9 then ((route_Good (⟨2, (Sl.mk [(⟨0, 0, 1, 0, 1, 1⟩ : api_Link)]), (Sl.mk [(⟨1, 5⟩ : api_Host)])⟩ : api_Topo) (Sl.mk [(Sl.mk [5]), (Sl.mk [5])])).bind fun r11 =>
  some (!r11)) else (some false)) else (some false)) else (some false)) else (some false)).bind fun b13 =>
  some b13
theorem law21_awake_ok {z : Bool} (hp : law21_awake = some z) : Good prog 12 [] [.c (.d (.lit (.bool z)))] [] := by
  unfold law21_awake at hp
  refine fn_good mixed e12 (fnS (m := [false]) (s := ⟨[], [], 0, []⟩) (len := 0) (c := k12) rfl (Sub.of_eq rfl) rfl rfl ?_)
  refine w_seq ?_
  refine w_region ?_
  refine o1 rfl ?_
  refine o_end (e' := []) rfl rfl ?_
  refine after_n ?_
  refine w_seq ?_
  refine w_region ?_
  refine o1 rfl ?_
  refine o2 rfl ?_
  refine o1 rfl ?_
  refine o2 rfl ?_
  refine o1 rfl ?_
  refine o2 rfl ?_
  refine o0 rfl ?_
  refine o_end (e' := [(1, .c (.op 2 0))]) rfl rfl ?_
  refine after_n ?_
  refine w_seq ?_
  obtain ⟨⟨r1, r2⟩, h3, hp⟩ := bnd hp
  refine w_region ?_
  refine o1 rfl ?_
  refine o2 rfl ?_
  refine o2 rfl ?_
  refine o2 rfl ?_
  refine oc' (rs := [.c (.d (slD 1 cI_i64 r1)), .c (.d (.lit (.int .i64 r2)))]) (outs := []) (call_at rfl rfl (ea_agg (vs_cons v_d (vs_cons rfl (vs_cons rfl vs_nil))) rfl (ea_c rfl rfl (ea_c rfl rfl (ea_c rfl rfl ea_nil)))) wh_nil rfl rfl) (route_Walk_ok h3) ?_
  iterate 5 refine o1 rfl ?_
  refine o_end (e' := [(1, .c (.op 2 0)), (2, .c (.d (slD 1 cI_i64 r1))), (3, .c (.d (.lit (.int .i64 r2))))]) rfl rfl ?_
  refine after_n ?_
  refine w_seq ?_
  obtain ⟨⟨r4, r5⟩, h6, hp⟩ := bnd hp
  refine w_region ?_
  refine o1 rfl ?_
  refine o2 rfl ?_
  refine o2 rfl ?_
  refine o2 rfl ?_
  refine oc' (rs := [.c (.d (slD 1 cI_i64 r4)), .c (.d (.lit (.int .i64 r5)))]) (outs := []) (call_at rfl rfl (ea_agg (vs_cons v_d (vs_cons rfl (vs_cons rfl vs_nil))) rfl (ea_c rfl rfl (ea_c rfl rfl (ea_c rfl rfl ea_nil)))) wh_nil rfl rfl) (route_Walk_ok h6) ?_
  iterate 5 refine o1 rfl ?_
  refine o_end (e' := [(1, .c (.op 2 0)), (2, .c (.d (slD 1 cI_i64 r1))), (3, .c (.d (.lit (.int .i64 r2)))), (5, .c (.d (.lit (.int .i64 r5))))]) rfl rfl ?_
  refine after_n ?_
  refine w_seq ?_
  obtain ⟨b13, h14, hp⟩ := bnd hp
  refine w_join (J := fun s => Sub s ⟨[(0, .c (.d (.lit (.bool b13))))], [], 0, []⟩) ?_ ?_
  · refine w_region ?_
    refine o1 rfl ?_
    refine o1 (v := .c (.d (.lit (.bool (r2 == 0))))) rfl ?_
    refine o1 rfl ?_
    cases hb15 : ((r2 == 0) : Bool)
    · have h14 := cnd_f hb15 h14
      iterate 3 refine onot rfl rfl ?_
      iterate 2 refine o1 rfl ?_
      iterate 2 refine onot rfl rfl ?_
      iterate 2 refine o1 rfl ?_
      iterate 5 refine onot rfl rfl ?_
      iterate 2 refine o1 rfl ?_
      iterate 6 refine onot rfl rfl ?_
      iterate 2 refine o1 rfl ?_
      cases h14
      exact o_join (sub_ren [] [0] (by decide) rfl .nil (Nat.le_of_ble_eq_true rfl))
    · have h14 := cnd_t hb15 h14
      obtain ⟨r7, h8, h14⟩ := bnd h14
      refine og rfl rfl rfl ?_
      refine og2 rfl rfl rfl ?_
      refine ocg' (rs := [.c (.d (.lit (.bool r7)))]) (outs := []) rfl rfl (call_at rfl rfl (ea_c rfl rfl (ea_c rfl rfl ea_nil)) wh_nil rfl rfl) (ref13_Same_ok h8) ?_
      iterate 2 refine o1 rfl ?_
      cases hb16 : (r7 : Bool)
      · have h14 := cnd_f hb16 h14
        iterate 2 refine onot rfl rfl ?_
        iterate 2 refine o1 rfl ?_
        iterate 5 refine onot rfl rfl ?_
        iterate 2 refine o1 rfl ?_
        iterate 6 refine onot rfl rfl ?_
        iterate 2 refine o1 rfl ?_
        cases h14
        exact o_join (sub_ren [] [0] (by decide) rfl .nil (Nat.le_of_ble_eq_true rfl))
      · have h14 := cnd_t hb16 h14
        refine og rfl rfl rfl ?_
        refine og (v := .c (.d (.lit (.bool (r5 == 12))))) rfl rfl rfl ?_
        iterate 2 refine o1 rfl ?_
        cases hb17 : ((r5 == 12) : Bool)
        · have h14 := cnd_f hb17 h14
          iterate 5 refine onot rfl rfl ?_
          iterate 2 refine o1 rfl ?_
          iterate 6 refine onot rfl rfl ?_
          iterate 2 refine o1 rfl ?_
          cases h14
          exact o_join (sub_ren [] [0] (by decide) rfl .nil (Nat.le_of_ble_eq_true rfl))
        · have h14 := cnd_t hb17 h14
          obtain ⟨r9, h10, h14⟩ := bnd h14
          refine og rfl rfl rfl ?_
          refine og2 rfl rfl rfl ?_
          refine og2 rfl rfl rfl ?_
          refine og2 rfl rfl rfl ?_
          refine ocg' (rs := [.c (.d (.lit (.bool r9)))]) (outs := []) rfl rfl (call_at rfl rfl (ea_agg (vs_cons v_d (vs_cons rfl (vs_cons rfl vs_nil))) rfl (ea_c rfl rfl ea_nil)) wh_nil rfl rfl) (route_Good_ok h10) ?_
          iterate 2 refine o1 rfl ?_
          cases hb18 : (r9 : Bool)
          · have h14 := cnd_f hb18 h14
            iterate 6 refine onot rfl rfl ?_
            iterate 2 refine o1 rfl ?_
            cases h14
            exact o_join (sub_ren [] [0] (by decide) rfl .nil (Nat.le_of_ble_eq_true rfl))
          · have h14 := cnd_t hb18 h14
            obtain ⟨r11, h12, h14⟩ := bnd h14
            refine og rfl rfl rfl ?_
            refine og2 rfl rfl rfl ?_
            refine og2 rfl rfl rfl ?_
            refine og2 rfl rfl rfl ?_
            refine ocg' (rs := [.c (.d (.lit (.bool r11)))]) (outs := []) rfl rfl (call_at rfl rfl (ea_agg (vs_cons v_d (vs_cons rfl (vs_cons rfl vs_nil))) rfl (ea_c rfl rfl ea_nil)) wh_nil rfl rfl) (route_Good_ok h12) ?_
            refine og (v := .c (.d (.lit (.bool (!r11))))) rfl rfl rfl ?_
            iterate 2 refine o1 rfl ?_
            cases h14
            exact o_join (sub_ren [] [0] (by decide) rfl .nil (Nat.le_of_ble_eq_true rfl))
  · intro s hs19
    refine after_n ?_
    refine W.sub hs19 ?_
    refine w_ret ?_
    obtain rfl := Option.some.inj hp
    exact leave_at rfl rfl (pr_c p_d pr_nil) pc_nil rfl rfl

/- turnout/match.Any -/
def k119 : CC :=
  (.seq
  (.region [
    ⟨some 0, (.alloc [(.int .i64 0), (.int .i64 0), (.int .i64 0), (.int .i64 0), (.int .i64 0), (.int .i64 0), (.int .i64 0), (.int .i64 0), (.int .i64 0)]), [], none⟩] [0])
  (.seq
  (.region [
    ⟨some 1, (.build [(.int .i64 0), (.int .i64 0), (.int .i64 0), (.int .i64 0), (.int .i64 0), (.int .i64 0), (.int .i64 0), (.int .i64 0), (.int .i64 0)] [(0, 1)]), [(.const (.int .i64 (-1)))], none⟩,
    ⟨none, (.store 9), [(.tmp 0), (.tmp 1)], none⟩] [0])
  .ret))
def f119 : Ev.Fn := ⟨0, 2, [.cell 0 true 9], k119⟩
set_option maxRecDepth 100000 in
theorem e119 : compFn prog sig 119 0 [[0], [0]] = some f119 := by kernel_rfl
noncomputable def match_Any : Option (api_Match) :=
  some (⟨(-1), (⟨0, 0, 0, 0⟩ : A4_Int), (⟨0, 0, 0, 0⟩ : A4_Int)⟩ : api_Match)
theorem match_Any_ok {z : api_Match} (hp : match_Any = some z) : Good prog 119 [] [.agg [.d (.lit (.int .i64 z.Port)), .d (.lit (.int .i64 z.Val.e0)), .d (.lit (.int .i64 z.Val.e1)), .d (.lit (.int .i64 z.Val.e2)), .d (.lit (.int .i64 z.Val.e3)), .d (.lit (.int .i64 z.Mask.e0)), .d (.lit (.int .i64 z.Mask.e1)), .d (.lit (.int .i64 z.Mask.e2)), .d (.lit (.int .i64 z.Mask.e3))]] [] := by
  unfold match_Any at hp
  refine fn_good mixed e119 (fnS (m := [true]) (s := ⟨[], [], 0, []⟩) (len := 0) (c := k119) rfl (Sub.of_eq rfl) rfl rfl ?_)
  refine w_seq ?_
  refine w_region ?_
  refine o2 rfl ?_
  refine o_end (e' := [(0, .c (.op 0 0))]) rfl rfl ?_
  refine after_n ?_
  refine w_seq ?_
  refine w_region ?_
  refine o1 rfl ?_
  refine o0 rfl ?_
  refine o_end (e' := [(0, .c (.op 0 0))]) rfl rfl ?_
  refine after_n ?_
  refine w_ret ?_
  obtain rfl := Option.some.inj hp
  exact leave_at rfl rfl (pr_agg (pl_cons p_d (pl_cons p_d (pl_cons p_d (pl_cons p_d (pl_cons p_d (pl_cons p_d (pl_cons p_d (pl_cons p_d (pl_cons p_d pl_nil))))))))) pr_nil) pc_nil rfl rfl

/- turnout/packet.Bits -/
def k120 : CC :=
  (.seq
  (.region [
    ⟨some 2, .mv, [(.const (.int .i64 0))], none⟩] [0])
  (.seq
  (.seq
  (.region [
    ⟨some 3, .mv, [(.tmp 0)], none⟩] [3])
  (.block 0
    (.seq
    (.seq
    (.region [
      ⟨some 5, (.bin .eql), [(.tmp 3), (.const (.int .i64 0))], none⟩,
      ⟨some 4, .mv, [(.tmp 5)], none⟩] [3, 4])
    (.cond (.tmp 4)
      .skip
      (.seq
      (.region [
        ⟨some 6, (.bin .eql), [(.tmp 3), (.const (.int .i64 1))], none⟩,
        ⟨some 4, .mv, [(.tmp 6)], none⟩] [3, 4])
      (.cond (.tmp 4)
        .skip
        (.region [
          ⟨some 7, (.bin .eql), [(.tmp 3), (.const (.int .i64 3))], none⟩,
          ⟨some 4, .mv, [(.tmp 7)], none⟩] [3, 4])))))
    (.cond (.tmp 4)
      (.seq
      (.region [
        ⟨some 2, .mv, [(.const (.int .i64 8))], none⟩] [2])
      .ret)
      (.seq
      (.region [
        ⟨some 9, (.bin .eql), [(.tmp 3), (.const (.int .i64 2))], none⟩,
        ⟨some 8, .mv, [(.tmp 9)], none⟩] [8])
      (.cond (.tmp 8)
        (.seq
        (.region [
          ⟨some 2, .mv, [(.const (.int .i64 4))], none⟩] [2])
        .ret)
        .skip))))))
  (.seq
  (.region [
    ⟨some 2, .mv, [(.const (.int .i64 0))], none⟩] [2])
  .ret)))
def f120 : Ev.Fn := ⟨1, 10, [.tmp 2], k120⟩
set_option maxRecDepth 100000 in
theorem e120 : compFn prog sig 120 1 [[0], [3], [3, 4], [3, 4], [3, 4], [2], [8], [2], [2]] = some f120 := by kernel_rfl
noncomputable def packet_Bits (f_0 : Int) : Option (Int) :=
  (bif (f_0 == 0) then (some (f_0 == 0)) else
  (bif (f_0 == 1) then (some (f_0 == 1)) else
  (some (f_0 == 3))) : Option (Bool)).bind fun b1 =>
  bif b1 then (some 8) else
  (bif (f_0 == 2) then (some 4) else
  (some 0))
theorem packet_Bits_ok {f_0 : Int} {z : Int} (hp : packet_Bits f_0 = some z) : Good prog 120 [.d (.lit (.int .i64 f_0))] [.c (.d (.lit (.int .i64 z)))] [] := by
  unfold packet_Bits at hp
  refine fn_good mixed e120 (fnS (m := [false]) (s := ⟨[(0, .c (.d (.lit (.int .i64 f_0))))], [], 0, []⟩) (len := 0) (c := k120) rfl (Sub.of_eq rfl) rfl rfl ?_)
  refine w_seq ?_
  refine w_region ?_
  refine o1 rfl ?_
  refine o_end (e' := [(0, .c (.d (.lit (.int .i64 f_0))))]) rfl rfl ?_
  refine after_n ?_
  refine w_seq ?_
  refine w_seq ?_
  refine w_region ?_
  refine o1 rfl ?_
  refine o_end (e' := [(3, .c (.d (.lit (.int .i64 f_0))))]) rfl rfl ?_
  refine after_n ?_
  refine w_block ?_
  refine w_seq ?_
  obtain ⟨b1, h2, hp⟩ := bnd hp
  refine W.mono (Q := Jn (fun (x : Bool) o s => match x with | b1 => o = Out.normal ∧ Sub s ⟨[(3, .c (.d (.lit (.int .i64 f_0)))), (4, .c (.d (.lit (.bool b1))))], [], 0, []⟩) b1) ?_ ?_
  · intro o s hs6
    obtain ⟨rfl, hs6⟩ := hs6
    refine after_n ?_
    refine W.sub hs6 ?_
    refine w_cond (t := b1) rfl (fun hb7 => ?_) (fun hb7 => ?_)
    · have hp := cnd_t hb7 hp
      refine w_seq ?_
      refine w_region ?_
      refine o1 rfl ?_
      refine o_end (e' := [(2, .c (.d (.lit (.int .i64 8))))]) rfl rfl ?_
      refine after_n ?_
      refine w_ret ?_
      refine out_r ?_
      refine after_r ?_
      obtain rfl := Option.some.inj hp
      exact leave_at rfl rfl (pr_c p_d pr_nil) pc_nil rfl rfl
    · have hp := cnd_f hb7 hp
      refine w_seq ?_
      refine w_region ?_
      refine o1 (v := .c (.d (.lit (.bool (f_0 == 2))))) rfl ?_
      refine o1 rfl ?_
      refine o_end (e' := [(8, .c (.d (.lit (.bool (f_0 == 2)))))]) rfl rfl ?_
      refine after_n ?_
      refine w_cond (t := (f_0 == 2)) rfl (fun hb8 => ?_) (fun hb8 => ?_)
      · have hp := cnd_t hb8 hp
        refine w_seq ?_
        refine w_region ?_
        refine o1 rfl ?_
        refine o_end (e' := [(2, .c (.d (.lit (.int .i64 4))))]) rfl rfl ?_
        refine after_n ?_
        refine w_ret ?_
        refine out_r ?_
        refine after_r ?_
        obtain rfl := Option.some.inj hp
        exact leave_at rfl rfl (pr_c p_d pr_nil) pc_nil rfl rfl
      · have hp := cnd_f hb8 hp
        refine w_skip ?_
        refine out_n ?_
        refine after_n ?_
        refine w_seq ?_
        refine w_region ?_
        refine o1 rfl ?_
        refine o_end (e' := [(2, .c (.d (.lit (.int .i64 0))))]) rfl rfl ?_
        refine after_n ?_
        refine w_ret ?_
        obtain rfl := Option.some.inj hp
        exact leave_at rfl rfl (pr_c p_d pr_nil) pc_nil rfl rfl
  · refine w_seq ?_
    refine w_region ?_
    refine o1 (v := .c (.d (.lit (.bool (f_0 == 0))))) rfl ?_
    refine o1 rfl ?_
    refine o_end (e' := [(3, .c (.d (.lit (.int .i64 f_0)))), (4, .c (.d (.lit (.bool (f_0 == 0)))))]) rfl rfl ?_
    refine after_n ?_
    refine w_cond (t := (f_0 == 0)) rfl (fun hb4 => ?_) (fun hb4 => ?_)
    · have h2 := cnd_t hb4 h2
      refine w_skip ?_
      obtain rfl := Option.some.inj h2
      exact And.intro rfl (sub_ren [] [3, 4] (by decide) rfl .nil (Nat.le_of_ble_eq_true rfl))
    · have h2 := cnd_f hb4 h2
      refine w_seq ?_
      refine w_region ?_
      refine o1 (v := .c (.d (.lit (.bool (f_0 == 1))))) rfl ?_
      refine o1 rfl ?_
      refine o_end (e' := [(3, .c (.d (.lit (.int .i64 f_0)))), (4, .c (.d (.lit (.bool (f_0 == 1)))))]) rfl rfl ?_
      refine after_n ?_
      refine w_cond (t := (f_0 == 1)) rfl (fun hb5 => ?_) (fun hb5 => ?_)
      · have h2 := cnd_t hb5 h2
        refine w_skip ?_
        obtain rfl := Option.some.inj h2
        exact And.intro rfl (sub_ren [] [3, 4] (by decide) rfl .nil (Nat.le_of_ble_eq_true rfl))
      · have h2 := cnd_f hb5 h2
        refine w_region ?_
        refine o1 (v := .c (.d (.lit (.bool (f_0 == 3))))) rfl ?_
        refine o1 rfl ?_
        refine o_end (e' := [(3, .c (.d (.lit (.int .i64 f_0)))), (4, .c (.d (.lit (.bool (f_0 == 3)))))]) rfl rfl ?_
        obtain rfl := Option.some.inj h2
        exact And.intro rfl (sub_ren [] [3, 4] (by decide) rfl .nil (Nat.le_of_ble_eq_true rfl))

/- turnout/packet.Top -/
def k101 : CC :=
  (.seq
  (.region [
    ⟨some 2, .mv, [(.const (.int .i64 0))], none⟩] [0])
  (.seq
  (.region [
    ⟨some 3, .mv, [(.tmp 0)], none⟩,
    ⟨some 4, (.call true []), [(.func 120), (.tmp 3)], none⟩,
    ⟨some 5, (.bin .shl), [(.const (.int .i64 1)), (.tmp 4)], none⟩,
    ⟨some 6, (.bin .sub), [(.tmp 5), (.const (.int .i64 1))], none⟩,
    ⟨some 2, .mv, [(.tmp 6)], none⟩] [2])
  .ret))
def f101 : Ev.Fn := ⟨1, 7, [.tmp 2], k101⟩
set_option maxRecDepth 100000 in
theorem e101 : compFn prog sig 101 1 [[0], [2]] = some f101 := by kernel_rfl
noncomputable def packet_Top (f_0 : Int) : Option (Int) :=
  (packet_Bits f_0).bind fun r1 =>
  (shlI .i64 1 r1).bind fun x3 =>
  some (wr .i64 (x3 - 1))
theorem packet_Top_ok {f_0 : Int} {z : Int} (hp : packet_Top f_0 = some z) : Good prog 101 [.d (.lit (.int .i64 f_0))] [.c (.d (.lit (.int .i64 z)))] [] := by
  unfold packet_Top at hp
  refine fn_good mixed e101 (fnS (m := [false]) (s := ⟨[(0, .c (.d (.lit (.int .i64 f_0))))], [], 0, []⟩) (len := 0) (c := k101) rfl (Sub.of_eq rfl) rfl rfl ?_)
  refine w_seq ?_
  refine w_region ?_
  refine o1 rfl ?_
  refine o_end (e' := [(0, .c (.d (.lit (.int .i64 f_0))))]) rfl rfl ?_
  refine after_n ?_
  refine w_seq ?_
  obtain ⟨r1, h2, hp⟩ := bnd hp
  obtain ⟨x3, h4, hp⟩ := bnd hp
  refine w_region ?_
  refine o1 rfl ?_
  refine oc (rs := [.c (.d (.lit (.int .i64 r1)))]) (outs := []) rfl (packet_Bits_ok h2) rfl ?_
  refine o1 (v := .c (.d (.lit (.int .i64 x3)))) (ev_shl h4) ?_
  refine o1 (v := .c (.d (.lit (.int .i64 (wr .i64 (x3 - 1)))))) rfl ?_
  refine o1 rfl ?_
  refine o_end (e' := [(2, .c (.d (.lit (.int .i64 (wr .i64 (x3 - 1))))))]) rfl rfl ?_
  refine after_n ?_
  refine w_ret ?_
  obtain rfl := Option.some.inj hp
  exact leave_at rfl rfl (pr_c p_d pr_nil) pc_nil rfl rfl

/- turnout/match.Of -/
def k99 : CC :=
  (.seq
  (.region [
    ⟨some 4, (.alloc [(.int .i64 0), (.int .i64 0), (.int .i64 0), (.int .i64 0), (.int .i64 0), (.int .i64 0), (.int .i64 0), (.int .i64 0), (.int .i64 0)]), [], none⟩] [0, 1, 4])
  (.seq
  (.region [
    ⟨some 6, (.call true []), [(.func 119)], none⟩,
    ⟨some 5, (.alloc [(.int .i64 0), (.int .i64 0), (.int .i64 0), (.int .i64 0), (.int .i64 0), (.int .i64 0), (.int .i64 0), (.int .i64 0), (.int .i64 0)]), [], none⟩,
    ⟨none, (.store 9), [(.tmp 5), (.tmp 6)], none⟩] [0, 1, 4, 5])
  (.seq
  (.seq
  (.region [
    ⟨some 7, .mv, [(.tmp 0)], none⟩,
    ⟨some 8, (.bin .geq), [(.tmp 7), (.const (.int .i64 0))], none⟩,
    ⟨some 9, .mv, [(.tmp 8)], none⟩,
    ⟨some 10, .mv, [(.tmp 0)], (some (9, true))⟩,
    ⟨some 11, (.bin .lss), [(.tmp 10), (.const (.int .i64 4))], (some (9, true))⟩,
    ⟨some 12, .pick, [(.tmp 9), (.tmp 11), (.const (.bool false))], none⟩,
    ⟨some 13, .mv, [(.tmp 12)], none⟩,
    ⟨some 14, .mv, [(.tmp 1)], (some (13, true))⟩,
    ⟨some 15, (.bin .geq), [(.tmp 14), (.const (.int .i64 0))], (some (13, true))⟩,
    ⟨some 16, .pick, [(.tmp 13), (.tmp 15), (.const (.bool false))], none⟩,
    ⟨some 17, .mv, [(.tmp 16)], none⟩,
    ⟨some 18, .mv, [(.tmp 1)], (some (17, true))⟩,
    ⟨some 19, .mv, [(.tmp 0)], (some (17, true))⟩,
    ⟨some 20, (.call true []), [(.func 101), (.tmp 19)], (some (17, true))⟩,
    ⟨some 21, (.bin .leq), [(.tmp 18), (.tmp 20)], (some (17, true))⟩,
    ⟨some 22, .pick, [(.tmp 17), (.tmp 21), (.const (.bool false))], none⟩] [0, 1, 4, 5, 22])
  (.cond (.tmp 22)
    (.drawn [
      ⟨some 23, .mv, [(.tmp 0)], none⟩,
      ⟨some 24, .mv, [(.tmp 0)], none⟩,
      ⟨some 25, .mv, [(.tmp 1)], none⟩,
      ⟨some 26, .mv, [(.tmp 0)], none⟩,
      ⟨some 27, (.call true []), [(.func 101), (.tmp 26)], none⟩,
      ⟨some 28, (.fieldAddr 1), [(.tmp 5)], none⟩,
      ⟨some 29, (.indexAddr (some 4) 1), [(.tmp 28), (.tmp 23)], none⟩,
      ⟨none, (.store 1), [(.tmp 29), (.tmp 25)], none⟩,
      ⟨some 30, (.fieldAddr 5), [(.tmp 5)], none⟩,
      ⟨some 31, (.indexAddr (some 4) 1), [(.tmp 30), (.tmp 24)], none⟩,
      ⟨none, (.store 1), [(.tmp 31), (.tmp 27)], none⟩] [] [4, 5])
    .skip))
  (.seq
  (.region [
    ⟨some 32, (.load true 9), [(.tmp 5)], none⟩,
    ⟨none, (.store 9), [(.tmp 4), (.tmp 32)], none⟩] [4])
  .ret))))
def f99 : Ev.Fn := ⟨2, 33, [.cell 4 true 9], k99⟩
set_option maxRecDepth 100000 in
theorem e99 : compFn prog sig 99 2 [[0, 1, 4], [0, 1, 4, 5], [0, 1, 4, 5, 22], [4, 5], [4]] = some f99 := by kernel_rfl
noncomputable def match_Of (f_0 : Int) (v_1 : Int) : Option (api_Match) :=
  (match_Any).bind fun r1 =>
  ((bif decide (f_0 ≥ 0) then (bif decide (f_0 < 4) then (bif decide (v_1 ≥ 0) then ((packet_Top f_0).bind fun r13 =>
  some (decide (v_1 ≤ r13))) else (some false)) else (some false)) else (some false)).bind fun b15 =>
  bif b15 then ((packet_Top f_0).bind fun r22 =>
  (ixI f_0 4).bind fun n24 =>
  some (gt ([r1.Val.e0, r1.Val.e1, r1.Val.e2, r1.Val.e3].set n24 v_1) 0, gt ([r1.Val.e0, r1.Val.e1, r1.Val.e2, r1.Val.e3].set n24 v_1) 1, gt ([r1.Val.e0, r1.Val.e1, r1.Val.e2, r1.Val.e3].set n24 v_1) 2, gt ([r1.Val.e0, r1.Val.e1, r1.Val.e2, r1.Val.e3].set n24 v_1) 3, gt ([r1.Mask.e0, r1.Mask.e1, r1.Mask.e2, r1.Mask.e3].set n24 r22) 0, gt ([r1.Mask.e0, r1.Mask.e1, r1.Mask.e2, r1.Mask.e3].set n24 r22) 1, gt ([r1.Mask.e0, r1.Mask.e1, r1.Mask.e2, r1.Mask.e3].set n24 r22) 2, gt ([r1.Mask.e0, r1.Mask.e1, r1.Mask.e2, r1.Mask.e3].set n24 r22) 3)) else
  (some (r1.Val.e0, r1.Val.e1, r1.Val.e2, r1.Val.e3, r1.Mask.e0, r1.Mask.e1, r1.Mask.e2, r1.Mask.e3)) : Option ((Int × Int × Int × Int × Int × Int × Int × Int))).bind fun (i3, i4, i5, i6, i7, i8, i9, i10) =>
  some (⟨r1.Port, (⟨i3, i4, i5, i6⟩ : A4_Int), (⟨i7, i8, i9, i10⟩ : A4_Int)⟩ : api_Match)
theorem match_Of_ok {f_0 : Int} {v_1 : Int} {z : api_Match} (hp : match_Of f_0 v_1 = some z) : Good prog 99 [.d (.lit (.int .i64 f_0)), .d (.lit (.int .i64 v_1))] [.agg [.d (.lit (.int .i64 z.Port)), .d (.lit (.int .i64 z.Val.e0)), .d (.lit (.int .i64 z.Val.e1)), .d (.lit (.int .i64 z.Val.e2)), .d (.lit (.int .i64 z.Val.e3)), .d (.lit (.int .i64 z.Mask.e0)), .d (.lit (.int .i64 z.Mask.e1)), .d (.lit (.int .i64 z.Mask.e2)), .d (.lit (.int .i64 z.Mask.e3))]] [] := by
  unfold match_Of at hp
  refine fn_good mixed e99 (fnS (m := [true]) (s := ⟨[(0, .c (.d (.lit (.int .i64 f_0)))), (1, .c (.d (.lit (.int .i64 v_1))))], [], 0, []⟩) (len := 0) (c := k99) rfl (Sub.of_eq rfl) rfl rfl ?_)
  refine w_seq ?_
  refine w_region ?_
  refine o2 rfl ?_
  refine o_end (e' := [(0, .c (.d (.lit (.int .i64 f_0)))), (1, .c (.d (.lit (.int .i64 v_1)))), (4, .c (.op 0 0))]) rfl rfl ?_
  refine after_n ?_
  refine w_seq ?_
  obtain ⟨r1, h2, hp⟩ := bnd hp
  refine w_region ?_
  refine oc (rs := [.agg [.d (.lit (.int .i64 r1.Port)), .d (.lit (.int .i64 r1.Val.e0)), .d (.lit (.int .i64 r1.Val.e1)), .d (.lit (.int .i64 r1.Val.e2)), .d (.lit (.int .i64 r1.Val.e3)), .d (.lit (.int .i64 r1.Mask.e0)), .d (.lit (.int .i64 r1.Mask.e1)), .d (.lit (.int .i64 r1.Mask.e2)), .d (.lit (.int .i64 r1.Mask.e3))]]) (outs := []) rfl (match_Any_ok h2) rfl ?_
  refine o2 rfl ?_
  refine o0 rfl ?_
  refine o_end (e' := [(0, .c (.d (.lit (.int .i64 f_0)))), (1, .c (.d (.lit (.int .i64 v_1)))), (4, .c (.op 0 0)), (5, .c (.op 1 0))]) rfl rfl ?_
  refine after_n ?_
  refine w_seq ?_
  obtain ⟨x12, h11, hp⟩ := bnd hp
  refine W.mono (Q := Jn (fun (x : (Int × Int × Int × Int × Int × Int × Int × Int)) o s => match x with | (i3, i4, i5, i6, i7, i8, i9, i10) => o = Out.normal ∧ Sub s ⟨[(4, .c (.op 0 0)), (5, .c (.op 1 0))], [(0, some (.box [.d (.lit (.int .i64 0)), .d (.lit (.int .i64 0)), .d (.lit (.int .i64 0)), .d (.lit (.int .i64 0)), .d (.lit (.int .i64 0)), .d (.lit (.int .i64 0)), .d (.lit (.int .i64 0)), .d (.lit (.int .i64 0)), .d (.lit (.int .i64 0))])), (1, some (.box [.d (.lit (.int .i64 r1.Port)), .d (.lit (.int .i64 i3)), .d (.lit (.int .i64 i4)), .d (.lit (.int .i64 i5)), .d (.lit (.int .i64 i6)), .d (.lit (.int .i64 i7)), .d (.lit (.int .i64 i8)), .d (.lit (.int .i64 i9)), .d (.lit (.int .i64 i10))]))], 2, []⟩) x12) ?_ ?_
  · intro o s hs26
    obtain ⟨i3, i4, i5, i6, i7, i8, i9, i10⟩ := x12
    obtain ⟨rfl, hs26⟩ := hs26
    refine after_n ?_
    refine W.sub hs26 ?_
    refine w_seq ?_
    refine w_region ?_
    refine o1 rfl ?_
    refine o0 rfl ?_
    refine o_end (e' := [(4, .c (.op 0 0))]) rfl rfl ?_
    refine after_n ?_
    refine w_ret ?_
    obtain rfl := Option.some.inj hp
    exact leave_at rfl rfl (pr_agg (pl_cons p_d (pl_cons p_d (pl_cons p_d (pl_cons p_d (pl_cons p_d (pl_cons p_d (pl_cons p_d (pl_cons p_d (pl_cons p_d pl_nil))))))))) pr_nil) pc_nil rfl rfl
  · refine w_seq ?_
    obtain ⟨b15, h16, h11⟩ := bnd h11
    refine w_join (J := fun s => Sub s ⟨[(0, .c (.d (.lit (.int .i64 f_0)))), (1, .c (.d (.lit (.int .i64 v_1)))), (4, .c (.op 0 0)), (5, .c (.op 1 0)), (22, .c (.d (.lit (.bool b15))))], [(0, some (.box [.d (.lit (.int .i64 0)), .d (.lit (.int .i64 0)), .d (.lit (.int .i64 0)), .d (.lit (.int .i64 0)), .d (.lit (.int .i64 0)), .d (.lit (.int .i64 0)), .d (.lit (.int .i64 0)), .d (.lit (.int .i64 0)), .d (.lit (.int .i64 0))])), (1, some (.box [.d (.lit (.int .i64 r1.Port)), .d (.lit (.int .i64 r1.Val.e0)), .d (.lit (.int .i64 r1.Val.e1)), .d (.lit (.int .i64 r1.Val.e2)), .d (.lit (.int .i64 r1.Val.e3)), .d (.lit (.int .i64 r1.Mask.e0)), .d (.lit (.int .i64 r1.Mask.e1)), .d (.lit (.int .i64 r1.Mask.e2)), .d (.lit (.int .i64 r1.Mask.e3))]))], 2, []⟩) ?_ ?_
    · refine w_region ?_
      refine o1 rfl ?_
      refine o1 (v := .c (.d (.lit (.bool (decide (f_0 ≥ 0)))))) rfl ?_
      refine o1 rfl ?_
      cases hb17 : (decide (f_0 ≥ 0) : Bool)
      · have h16 := cnd_f hb17 h16
        iterate 2 refine onot rfl rfl ?_
        iterate 2 refine o1 rfl ?_
        iterate 2 refine onot rfl rfl ?_
        iterate 2 refine o1 rfl ?_
        iterate 4 refine onot rfl rfl ?_
        refine o1 rfl ?_
        cases h16
        exact o_join (sub_ren [0, 1] [0, 1, 4, 5, 22] (by decide) rfl (.cons (.cons .nil)) (Nat.le_of_ble_eq_true rfl))
      · have h16 := cnd_t hb17 h16
        refine og rfl rfl rfl ?_
        refine og (v := .c (.d (.lit (.bool (decide (f_0 < 4)))))) rfl rfl rfl ?_
        iterate 2 refine o1 rfl ?_
        cases hb18 : (decide (f_0 < 4) : Bool)
        · have h16 := cnd_f hb18 h16
          iterate 2 refine onot rfl rfl ?_
          iterate 2 refine o1 rfl ?_
          iterate 4 refine onot rfl rfl ?_
          refine o1 rfl ?_
          cases h16
          exact o_join (sub_ren [0, 1] [0, 1, 4, 5, 22] (by decide) rfl (.cons (.cons .nil)) (Nat.le_of_ble_eq_true rfl))
        · have h16 := cnd_t hb18 h16
          refine og rfl rfl rfl ?_
          refine og (v := .c (.d (.lit (.bool (decide (v_1 ≥ 0)))))) rfl rfl rfl ?_
          iterate 2 refine o1 rfl ?_
          cases hb19 : (decide (v_1 ≥ 0) : Bool)
          · have h16 := cnd_f hb19 h16
            iterate 4 refine onot rfl rfl ?_
            refine o1 rfl ?_
            cases h16
            exact o_join (sub_ren [0, 1] [0, 1, 4, 5, 22] (by decide) rfl (.cons (.cons .nil)) (Nat.le_of_ble_eq_true rfl))
          · have h16 := cnd_t hb19 h16
            obtain ⟨r13, h14, h16⟩ := bnd h16
            iterate 2 refine og rfl rfl rfl ?_
            refine ocg (rs := [.c (.d (.lit (.int .i64 r13)))]) (outs := []) rfl rfl rfl (packet_Top_ok h14) rfl ?_
            refine og (v := .c (.d (.lit (.bool (decide (v_1 ≤ r13)))))) rfl rfl rfl ?_
            refine o1 rfl ?_
            cases h16
            exact o_join (sub_ren [0, 1] [0, 1, 4, 5, 22] (by decide) rfl (.cons (.cons .nil)) (Nat.le_of_ble_eq_true rfl))
    · intro s hs20
      refine after_n ?_
      refine W.sub hs20 ?_
      refine w_cond (t := b15) rfl (fun hb21 => ?_) (fun hb21 => ?_)
      · have h11 := cnd_t hb21 h11
        obtain ⟨r22, h23, h11⟩ := bnd h11
        obtain ⟨n24, h25, h11⟩ := bnd h11
        refine w_drawn ?_
        iterate 4 refine d1 rfl ?_
        refine dc (rs := [.c (.d (.lit (.int .i64 r22)))]) (outs := []) rfl (packet_Top_ok h23) rfl (Nat.le_of_ble_eq_true rfl) ?_
        refine d1 rfl ?_
        refine d1 (ix_ar h25) ?_
        refine d0 (u := [(1, some (.box [.d (.lit (.int .i64 r1.Port)), .d (.lit (.int .i64 (gt ([r1.Val.e0, r1.Val.e1, r1.Val.e2, r1.Val.e3].set n24 v_1) 0))), .d (.lit (.int .i64 (gt ([r1.Val.e0, r1.Val.e1, r1.Val.e2, r1.Val.e3].set n24 v_1) 1))), .d (.lit (.int .i64 (gt ([r1.Val.e0, r1.Val.e1, r1.Val.e2, r1.Val.e3].set n24 v_1) 2))), .d (.lit (.int .i64 (gt ([r1.Val.e0, r1.Val.e1, r1.Val.e2, r1.Val.e3].set n24 v_1) 3))), .d (.lit (.int .i64 r1.Mask.e0)), .d (.lit (.int .i64 r1.Mask.e1)), .d (.lit (.int .i64 r1.Mask.e2)), .d (.lit (.int .i64 r1.Mask.e3))]))]) (v := .tup []) (ids := [1]) (m := 450) (by apply ar4 (ixI_some.1 h25).2 <;> rfl) (Nat.le_of_ble_eq_true rfl) ?_
        refine d1 rfl ?_
        refine d1 (ix_ar h25) ?_
        refine d0 (u := [(1, some (.box [.d (.lit (.int .i64 r1.Port)), .d (.lit (.int .i64 (gt ([r1.Val.e0, r1.Val.e1, r1.Val.e2, r1.Val.e3].set n24 v_1) 0))), .d (.lit (.int .i64 (gt ([r1.Val.e0, r1.Val.e1, r1.Val.e2, r1.Val.e3].set n24 v_1) 1))), .d (.lit (.int .i64 (gt ([r1.Val.e0, r1.Val.e1, r1.Val.e2, r1.Val.e3].set n24 v_1) 2))), .d (.lit (.int .i64 (gt ([r1.Val.e0, r1.Val.e1, r1.Val.e2, r1.Val.e3].set n24 v_1) 3))), .d (.lit (.int .i64 (gt ([r1.Mask.e0, r1.Mask.e1, r1.Mask.e2, r1.Mask.e3].set n24 r22) 0))), .d (.lit (.int .i64 (gt ([r1.Mask.e0, r1.Mask.e1, r1.Mask.e2, r1.Mask.e3].set n24 r22) 1))), .d (.lit (.int .i64 (gt ([r1.Mask.e0, r1.Mask.e1, r1.Mask.e2, r1.Mask.e3].set n24 r22) 2))), .d (.lit (.int .i64 (gt ([r1.Mask.e0, r1.Mask.e1, r1.Mask.e2, r1.Mask.e3].set n24 r22) 3)))]))]) (v := .tup []) (ids := [1]) (m := 642) (by apply ar4 (ixI_some.1 h25).2 <;> rfl) (Nat.le_of_ble_eq_true rfl) ?_
        refine d_fin (e' := [(4, .c (.op 0 0)), (5, .c (.op 1 0))]) (n' := 706) rfl rfl rfl rfl ?_
        obtain rfl := Option.some.inj h11
        exact And.intro rfl (sub_ren [0, 1] [4, 5] (by decide) rfl (.cons (.cons .nil)) (Nat.le_of_ble_eq_true rfl))
      · have h11 := cnd_f hb21 h11
        refine w_skip ?_
        obtain rfl := Option.some.inj h11
        exact And.intro rfl (sub_ren [0, 1] [4, 5] (by decide) rfl (.cons (.cons .nil)) (Nat.le_of_ble_eq_true rfl))

/- turnout/rule.Drop -/
def k82 : CC :=
  (.seq
  (.region [
    ⟨some 6, (.alloc [(.int .i64 0), (.int .i64 0), (.int .i64 0), (.int .i64 0), (.int .i64 0), (.int .i64 0), (.int .i64 0), (.int .i64 0), (.int .i64 0), (.int .i64 0), (.slice none 0 0)]), [], none⟩] [0, 1, 2, 6])
  (.seq
  (.region [
    ⟨some 7, .mv, [(.tmp 2)], none⟩,
    ⟨some 8, .mv, [(.tmp 0)], none⟩,
    ⟨some 9, .mv, [(.tmp 1)], none⟩,
    ⟨some 10, (.call true []), [(.func 99), (.tmp 8), (.tmp 9)], none⟩,
    ⟨some 11, (.build [(.int .i64 0), (.int .i64 0), (.int .i64 0), (.int .i64 0), (.int .i64 0), (.int .i64 0), (.int .i64 0), (.int .i64 0), (.int .i64 0), (.int .i64 0), (.slice none 0 0)] [(0, 1), (1, 9)]), [(.tmp 7), (.tmp 10)], none⟩,
    ⟨none, (.store 11), [(.tmp 6), (.tmp 11)], none⟩] [6])
  .ret))
def f82 : Ev.Fn := ⟨3, 12, [.cell 6 true 11], k82⟩
set_option maxRecDepth 100000 in
theorem e82 : compFn prog sig 82 3 [[0, 1, 2, 6], [6]] = some f82 := by kernel_rfl
noncomputable def rule_Drop (f_0 : Int) (v_1 : Int) (prio_2 : Int) : Option (api_Rule) :=
  (match_Of f_0 v_1).bind fun r1 =>
  some (⟨prio_2, r1, Sl.nil⟩ : api_Rule)
theorem rule_Drop_ok {f_0 : Int} {v_1 : Int} {prio_2 : Int} {z : api_Rule} (hp : rule_Drop f_0 v_1 prio_2 = some z) : Good prog 82 [.d (.lit (.int .i64 f_0)), .d (.lit (.int .i64 v_1)), .d (.lit (.int .i64 prio_2))] [.agg [.d (.lit (.int .i64 z.Prio)), .d (.lit (.int .i64 z.M.Port)), .d (.lit (.int .i64 z.M.Val.e0)), .d (.lit (.int .i64 z.M.Val.e1)), .d (.lit (.int .i64 z.M.Val.e2)), .d (.lit (.int .i64 z.M.Val.e3)), .d (.lit (.int .i64 z.M.Mask.e0)), .d (.lit (.int .i64 z.M.Mask.e1)), .d (.lit (.int .i64 z.M.Mask.e2)), .d (.lit (.int .i64 z.M.Mask.e3)), .d (slD 3 c_api_Act z.Acts)]] [] := by
  unfold rule_Drop at hp
  refine fn_good mixed e82 (fnS (m := [true]) (s := ⟨[(0, .c (.d (.lit (.int .i64 f_0)))), (1, .c (.d (.lit (.int .i64 v_1)))), (2, .c (.d (.lit (.int .i64 prio_2))))], [], 0, []⟩) (len := 0) (c := k82) rfl (Sub.of_eq rfl) rfl rfl ?_)
  refine w_seq ?_
  refine w_region ?_
  refine o2 rfl ?_
  refine o_end (e' := [(0, .c (.d (.lit (.int .i64 f_0)))), (1, .c (.d (.lit (.int .i64 v_1)))), (2, .c (.d (.lit (.int .i64 prio_2)))), (6, .c (.op 0 0))]) rfl rfl ?_
  refine after_n ?_
  refine w_seq ?_
  obtain ⟨r1, h2, hp⟩ := bnd hp
  refine w_region ?_
  iterate 3 refine o1 rfl ?_
  refine oc (rs := [.agg [.d (.lit (.int .i64 r1.Port)), .d (.lit (.int .i64 r1.Val.e0)), .d (.lit (.int .i64 r1.Val.e1)), .d (.lit (.int .i64 r1.Val.e2)), .d (.lit (.int .i64 r1.Val.e3)), .d (.lit (.int .i64 r1.Mask.e0)), .d (.lit (.int .i64 r1.Mask.e1)), .d (.lit (.int .i64 r1.Mask.e2)), .d (.lit (.int .i64 r1.Mask.e3))]]) (outs := []) rfl (match_Of_ok h2) rfl ?_
  refine o1 rfl ?_
  refine o0 rfl ?_
  refine o_end (e' := [(6, .c (.op 0 0))]) rfl rfl ?_
  refine after_n ?_
  refine w_ret ?_
  obtain rfl := Option.some.inj hp
  exact leave_at rfl rfl (pr_agg (pl_cons p_d (pl_cons p_d (pl_cons p_d (pl_cons p_d (pl_cons p_d (pl_cons p_d (pl_cons p_d (pl_cons p_d (pl_cons p_d (pl_cons p_d (pl_cons p_d pl_nil))))))))))) pr_nil) pc_nil rfl rfl

/- turnout/rule.Plain -/
def k55 : CC :=
  (.seq
  (.region [
    ⟨some 8, (.alloc [(.int .i64 0), (.int .i64 0), (.int .i64 0), (.int .i64 0), (.int .i64 0), (.int .i64 0), (.int .i64 0), (.int .i64 0), (.int .i64 0), (.int .i64 0), (.slice none 0 0)]), [], none⟩] [0, 1, 2, 3, 8])
  (.seq
  (.region [
    ⟨some 10, .mv, [(.tmp 0)], none⟩,
    ⟨some 11, .mv, [(.tmp 1)], none⟩,
    ⟨some 12, .mv, [(.tmp 2)], none⟩,
    ⟨some 13, (.call false []), [(.func 82), (.tmp 10), (.tmp 11), (.tmp 12)], none⟩,
    ⟨some 9, (.alloc [(.int .i64 0), (.int .i64 0), (.int .i64 0), (.int .i64 0), (.int .i64 0), (.int .i64 0), (.int .i64 0), (.int .i64 0), (.int .i64 0), (.int .i64 0), (.slice none 0 0)]), [], none⟩,
    ⟨none, (.store 11), [(.tmp 9), (.tmp 13)], none⟩] [3, 8, 9])
  (.seq
  (.region [
    ⟨some 14, .mv, [(.tmp 3)], none⟩,
    ⟨some 15, (.build [(.int .i64 0), (.int .i64 0), (.int .i64 0)] [(0, 1), (2, 1)]), [(.const (.int .i64 2)), (.tmp 14)], none⟩,
    ⟨some 16, (.buildSlice 3 1 [(.int .i64 0), (.int .i64 0), (.int .i64 0)] [0]), [(.tmp 15)], none⟩,
    ⟨some 17, (.fieldAddr 10), [(.tmp 9)], none⟩,
    ⟨none, (.store 1), [(.tmp 17), (.tmp 16)], none⟩] [8, 9])
  (.seq
  (.region [
    ⟨some 18, (.load true 11), [(.tmp 9)], none⟩,
    ⟨none, (.store 11), [(.tmp 8), (.tmp 18)], none⟩] [8])
  .ret))))
def f55 : Ev.Fn := ⟨4, 19, [.cell 8 true 11], k55⟩
set_option maxRecDepth 100000 in
theorem e55 : compFn prog sig 55 4 [[0, 1, 2, 3, 8], [3, 8, 9], [8, 9], [8]] = some f55 := by kernel_rfl
noncomputable def rule_Plain (f_0 : Int) (v_1 : Int) (prio_2 : Int) (port_3 : Int) : Option (api_Rule) :=
  (rule_Drop f_0 v_1 prio_2).bind fun r1 =>
  some (⟨r1.Prio, r1.M, (Sl.mk [(⟨2, 0, port_3⟩ : api_Act)])⟩ : api_Rule)
theorem rule_Plain_ok {f_0 : Int} {v_1 : Int} {prio_2 : Int} {port_3 : Int} {z : api_Rule} (hp : rule_Plain f_0 v_1 prio_2 port_3 = some z) : Good prog 55 [.d (.lit (.int .i64 f_0)), .d (.lit (.int .i64 v_1)), .d (.lit (.int .i64 prio_2)), .d (.lit (.int .i64 port_3))] [.agg [.d (.lit (.int .i64 z.Prio)), .d (.lit (.int .i64 z.M.Port)), .d (.lit (.int .i64 z.M.Val.e0)), .d (.lit (.int .i64 z.M.Val.e1)), .d (.lit (.int .i64 z.M.Val.e2)), .d (.lit (.int .i64 z.M.Val.e3)), .d (.lit (.int .i64 z.M.Mask.e0)), .d (.lit (.int .i64 z.M.Mask.e1)), .d (.lit (.int .i64 z.M.Mask.e2)), .d (.lit (.int .i64 z.M.Mask.e3)), .d (slD 3 c_api_Act z.Acts)]] [] := by
  unfold rule_Plain at hp
  refine fn_good mixed e55 (fnS (m := [true]) (s := ⟨[(0, .c (.d (.lit (.int .i64 f_0)))), (1, .c (.d (.lit (.int .i64 v_1)))), (2, .c (.d (.lit (.int .i64 prio_2)))), (3, .c (.d (.lit (.int .i64 port_3))))], [], 0, []⟩) (len := 0) (c := k55) rfl (Sub.of_eq rfl) rfl rfl ?_)
  refine w_seq ?_
  refine w_region ?_
  refine o2 rfl ?_
  refine o_end (e' := [(0, .c (.d (.lit (.int .i64 f_0)))), (1, .c (.d (.lit (.int .i64 v_1)))), (2, .c (.d (.lit (.int .i64 prio_2)))), (3, .c (.d (.lit (.int .i64 port_3)))), (8, .c (.op 0 0))]) rfl rfl ?_
  refine after_n ?_
  refine w_seq ?_
  obtain ⟨r1, h2, hp⟩ := bnd hp
  refine w_region ?_
  iterate 3 refine o1 rfl ?_
  refine oc (rs := [.agg [.d (.lit (.int .i64 r1.Prio)), .d (.lit (.int .i64 r1.M.Port)), .d (.lit (.int .i64 r1.M.Val.e0)), .d (.lit (.int .i64 r1.M.Val.e1)), .d (.lit (.int .i64 r1.M.Val.e2)), .d (.lit (.int .i64 r1.M.Val.e3)), .d (.lit (.int .i64 r1.M.Mask.e0)), .d (.lit (.int .i64 r1.M.Mask.e1)), .d (.lit (.int .i64 r1.M.Mask.e2)), .d (.lit (.int .i64 r1.M.Mask.e3)), .d (slD 3 c_api_Act r1.Acts)]]) (outs := []) rfl (rule_Drop_ok h2) rfl ?_
  refine o2 rfl ?_
  refine o0 rfl ?_
  refine o_end (e' := [(3, .c (.d (.lit (.int .i64 port_3)))), (8, .c (.op 0 0)), (9, .c (.op 1 0))]) rfl rfl ?_
  refine after_n ?_
  refine w_seq ?_
  refine w_region ?_
  iterate 2 refine o1 rfl ?_
  refine o2 rfl ?_
  refine o1 rfl ?_
  refine o0 rfl ?_
  refine o_end (e' := [(8, .c (.op 0 0)), (9, .c (.op 1 0))]) rfl rfl ?_
  refine after_n ?_
  refine w_seq ?_
  refine w_region ?_
  refine o1 rfl ?_
  refine o0 rfl ?_
  refine o_end (e' := [(8, .c (.op 0 0))]) rfl rfl ?_
  refine after_n ?_
  refine w_ret ?_
  obtain rfl := Option.some.inj hp
  exact leave_at rfl rfl (pr_agg (pl_cons p_d (pl_cons p_d (pl_cons p_d (pl_cons p_d (pl_cons p_d (pl_cons p_d (pl_cons p_d (pl_cons p_d (pl_cons p_d (pl_cons p_d (pl_cons rfl pl_nil))))))))))) pr_nil) pc_nil rfl rfl

/- turnout/route.Table -/
def k18 : CC :=
  (.seq
  (.region [
    ⟨some 4, .mv, [(.const (.slice none 0 0))], none⟩] [0, 1])
  (.seq
  (.seq
  (.region [
    ⟨some 8, .mv, [(.tmp 1)], none⟩,
    ⟨some 9, (.bin .lss), [(.tmp 8), (.const (.int .i64 0))], none⟩,
    ⟨some 10, .mv, [(.tmp 9)], none⟩,
    ⟨some 11, .mv, [(.tmp 1)], (some (10, false))⟩,
    ⟨some 12, .mv, [(.tmp 0)], (some (10, false))⟩,
    ⟨some 13, (.len false), [(.tmp 12)], (some (10, false))⟩,
    ⟨some 14, (.bin .geq), [(.tmp 11), (.tmp 13)], (some (10, false))⟩,
    ⟨some 15, .pick, [(.tmp 10), (.const (.bool true)), (.tmp 14)], none⟩] [0, 1, 15])
  (.cond (.tmp 15)
    (.seq
    (.region [
      ⟨some 4, .mv, [(.const (.slice none 0 0))], none⟩] [4])
    .ret)
    .skip))
  (.seq
  (.region [
    ⟨some 5, .mv, [(.const (.slice none 0 0))], none⟩] [0, 1, 5])
  (.seq
  (.seq
  (.region [
    ⟨some 16, .mv, [(.tmp 0)], none⟩,
    ⟨some 17, .mv, [(.tmp 1)], none⟩,
    ⟨some 18, (.indexAddr none 1), [(.tmp 16), (.tmp 17)], none⟩,
    ⟨some 19, (.load false 1), [(.tmp 18)], none⟩,
    ⟨some 20, (.len false), [(.tmp 19)], none⟩,
    ⟨some 21, .mv, [(.const (.int .i64 0))], none⟩] [5, 19, 20, 21])
  (.block 0
    (.loop [5, 19, 20, 21]
      (.seq
      (.region [
        ⟨some 22, (.bin .lss), [(.tmp 21), (.tmp 20)], none⟩] [5, 19, 20, 21, 22])
      (.seq
      (.cond (.tmp 22)
        .skip
        (.exit 0))
      (.seq
      (.block 1
        (.seq
        (.region [
          ⟨some 23, .mv, [(.tmp 21)], none⟩,
          ⟨some 24, (.indexAddr none 1), [(.tmp 19), (.tmp 21)], none⟩,
          ⟨some 25, (.load false 1), [(.tmp 24)], none⟩,
          ⟨some 6, .mv, [(.tmp 23)], none⟩,
          ⟨some 7, .mv, [(.tmp 25)], none⟩] [5, 6, 7, 19, 20, 21])
        (.region [
          ⟨some 26, .mv, [(.tmp 5)], none⟩,
          ⟨some 27, .mv, [(.tmp 6)], none⟩,
          ⟨some 28, .mv, [(.tmp 7)], none⟩,
          ⟨some 29, (.call false []), [(.func 55), (.const (.int .i64 1)), (.tmp 27), (.const (.int .i64 10)), (.tmp 28)], none⟩,
          ⟨some 30, (.buildSlice 11 1 [(.int .i64 0), (.int .i64 0), (.int .i64 0), (.int .i64 0), (.int .i64 0), (.int .i64 0), (.int .i64 0), (.int .i64 0), (.int .i64 0), (.int .i64 0), (.slice none 0 0)] [0]), [(.tmp 29)], none⟩,
          ⟨some 31, (.append 11), [(.tmp 26), (.tmp 30)], none⟩,
          ⟨some 5, .mv, [(.tmp 31)], none⟩] [5, 19, 20, 21])))
      (.region [
        ⟨some 32, (.bin .add), [(.tmp 21), (.const (.int .i64 1))], none⟩,
        ⟨some 21, .mv, [(.tmp 32)], none⟩] [5, 19, 20, 21])))))))
  (.seq
  (.region [
    ⟨some 33, .mv, [(.tmp 5)], none⟩,
    ⟨some 4, .mv, [(.tmp 33)], none⟩] [4])
  .ret)))))
def f18 : Ev.Fn := ⟨2, 34, [.tmp 4], k18⟩
set_option maxRecDepth 100000 in
theorem e18 : compFn prog sig 18 2 [[0, 1], [0, 1, 15], [4], [0, 1, 5], [5, 19, 20, 21], [5, 19, 20, 21], [5, 19, 20, 21, 22], [5, 6, 7, 19, 20, 21], [5, 19, 20, 21], [5, 19, 20, 21], [4]] = some f18 := by kernel_rfl
noncomputable def route_Table_L1 (r_0 : Sl (Sl Int)) (n5 : Nat) : (Sl api_Rule × Int) → Option (Sum ((Sl api_Rule × Int)) (Sl api_Rule)) := fun (s7, i8) =>
  bif decide (i8 < (((gt r_0.l n5).l).length : Int)) then ((ixI i8 ((gt r_0.l n5).l).length).bind fun n15 =>
  (rule_Plain 1 i8 10 (gt ((gt r_0.l n5).l) n15)).bind fun r17 =>
  (capI (s7.l ++ [r17])).bind fun l19 =>
  some (.inl ((Sl.mk l19), wr .i64 (i8 + 1)))) else
  (some (.inr s7))

noncomputable def route_Table (r_0 : Sl (Sl Int)) (sw_1 : Int) : Option (Sl api_Rule) :=
  bif ((decide (sw_1 < 0)) || (decide (sw_1 ≥ (r_0.l.length : Int)))) then (some Sl.nil) else
  ((ixI sw_1 r_0.l.length).bind fun n5 =>
  (loopO (route_Table_L1 r_0 n5) (Sl.nil, 0)).bind fun s11 =>
  some s11)
theorem route_Table_ok {r_0 : Sl (Sl Int)} {sw_1 : Int} {z : Sl api_Rule} (hp : route_Table r_0 sw_1 = some z) : Good prog 18 [.d (slD 1 cL_I_i64 r_0), .d (.lit (.int .i64 sw_1))] [.c (.d (slD 11 c_api_Rule z))] [] := by
  unfold route_Table at hp
  refine fn_good mixed e18 (fnS (m := [true]) (s := ⟨[(0, .c (.d (slD 1 cL_I_i64 r_0))), (1, .c (.d (.lit (.int .i64 sw_1))))], [], 0, []⟩) (len := 0) (c := k18) rfl (Sub.of_eq rfl) rfl rfl ?_)
  refine w_seq ?_
  refine w_region ?_
  refine o1 rfl ?_
  refine o_end (e' := [(0, .c (.d (slD 1 cL_I_i64 r_0))), (1, .c (.d (.lit (.int .i64 sw_1))))]) rfl rfl ?_
  refine after_n ?_
  refine w_seq ?_
  refine w_seq ?_
  refine w_join (J := fun s => Sub s ⟨[(0, .c (.d (slD 1 cL_I_i64 r_0))), (1, .c (.d (.lit (.int .i64 sw_1)))), (15, .c (.d (.lit (.bool ((decide (sw_1 < 0)) || (decide (sw_1 ≥ (r_0.l.length : Int))))))))], [], 0, []⟩) ?_ ?_
  · refine w_region ?_
    refine o1 rfl ?_
    refine o1 (v := .c (.d (.lit (.bool (decide (sw_1 < 0)))))) rfl ?_
    refine o1 rfl ?_
    cases hb2 : (decide (sw_1 < 0) : Bool)
    · refine og rfl rfl rfl ?_
      refine og rfl rfl rfl ?_
      refine og (v := .c (.d (.lit (.int .i64 (r_0.l.length : Int))))) rfl rfl len_sd ?_
      refine og (v := .c (.d (.lit (.bool (decide (sw_1 ≥ (r_0.l.length : Int))))))) rfl rfl rfl ?_
      refine o1 rfl ?_
      exact o_join (sub_ren [] [0, 1, 15] (by decide) rfl .nil (Nat.le_of_ble_eq_true rfl))
    · refine onot rfl rfl ?_
      iterate 3 refine onot rfl rfl ?_
      refine o1 rfl ?_
      exact o_join (sub_ren [] [0, 1, 15] (by decide) rfl .nil (Nat.le_of_ble_eq_true rfl))
  · intro s hs3
    refine after_n ?_
    refine W.sub hs3 ?_
    refine w_cond (t := ((decide (sw_1 < 0)) || (decide (sw_1 ≥ (r_0.l.length : Int))))) rfl (fun hb4 => ?_) (fun hb4 => ?_)
    · have hp := cnd_t hb4 hp
      refine w_seq ?_
      refine w_region ?_
      refine o1 rfl ?_
      refine o_end (e' := [(4, .c (.d (.lit (.slice none 0 0))))]) rfl rfl ?_
      refine after_n ?_
      refine w_ret ?_
      refine after_r ?_
      obtain rfl := Option.some.inj hp
      exact leave_at rfl rfl (pr_c p_d pr_nil) pc_nil rfl rfl
    · have hp := cnd_f hb4 hp
      refine w_skip ?_
      refine after_n ?_
      refine w_seq ?_
      refine w_region ?_
      refine o1 rfl ?_
      refine o_end (e' := [(0, .c (.d (slD 1 cL_I_i64 r_0))), (1, .c (.d (.lit (.int .i64 sw_1)))), (5, .c (.d (.lit (.slice none 0 0))))]) rfl rfl ?_
      refine after_n ?_
      refine w_seq ?_
      refine w_seq ?_
      obtain ⟨n5, h6, hp⟩ := bnd hp
      refine w_region ?_
      iterate 2 refine o1 rfl ?_
      refine o1 (ix_sd h6) ?_
      refine o1 rfl ?_
      refine o1 (v := .c (.d (.lit (.int .i64 (((gt r_0.l n5).l).length : Int))))) len_sd ?_
      refine o1 rfl ?_
      refine o_end (e' := [(5, .c (.d (.lit (.slice none 0 0)))), (19, .c (.d (slD 1 cI_i64 (gt r_0.l n5)))), (20, .c (.d (.lit (.int .i64 (((gt r_0.l n5).l).length : Int))))), (21, .c (.d (.lit (.int .i64 0))))]) rfl rfl ?_
      refine after_n ?_
      refine w_block ?_
      obtain ⟨s11, h13, hp⟩ := bnd hp
      refine W.mono ?_ (w_loopS (st := fun (v : (Sl api_Rule × Int)) => match v with | (s7, i8) => ⟨[(5, .c (slC 11 c_api_Rule 0 s7)), (19, .c (.d (slD 1 cI_i64 (gt r_0.l n5)))), (20, .c (.d (.lit (.int .i64 (((gt r_0.l n5).l).length : Int))))), (21, .c (.d (.lit (.int .i64 i8))))], [(0, slO 11 c_api_Rule s7)], 1, []⟩) (a := (Sl.nil, 0)) (Q := Jn (fun (x : Sl api_Rule) o s => match x with | s11 => o = Out.exit 0 ∧ Sub s ⟨[(5, .c (slC 11 c_api_Rule 0 s11))], [(0, slO 11 c_api_Rule s11)], 1, []⟩)) ?_ h13 ?_)
      · intro o s hs22
        obtain ⟨rfl, hs22⟩ := hs22
        refine out_e ?_
        refine after_n ?_
        refine W.sub hs22 ?_
        refine w_seq ?_
        refine w_region ?_
        iterate 2 refine o1 rfl ?_
        refine o_end (e' := [(4, .c (slC 11 c_api_Rule 0 s11))]) rfl rfl ?_
        refine after_n ?_
        refine w_ret ?_
        obtain rfl := Option.some.inj hp
        rcases s11 with _ | s11'
        · exact leave_at rfl rfl (pr_c p_d pr_nil) pc_nil rfl rfl
        · exact leave_at rfl rfl (pr_c (p_o rfl) pr_nil) pc_nil rfl rfl
      · exact (sub_ren [9000] [5, 19, 20, 21] (by decide) rfl (.skip .nil) (Nat.le_of_ble_eq_true rfl))
      · rintro ⟨s7, i8⟩ r hr
        unfold route_Table_L1 at hr
        refine w_seq ?_
        refine w_region ?_
        refine o1 (v := .c (.d (.lit (.bool (decide (i8 < (((gt r_0.l n5).l).length : Int))))))) rfl ?_
        refine o_end (e' := [(5, .c (slC 11 c_api_Rule 0 s7)), (19, .c (.d (slD 1 cI_i64 (gt r_0.l n5)))), (20, .c (.d (.lit (.int .i64 (((gt r_0.l n5).l).length : Int))))), (21, .c (.d (.lit (.int .i64 i8)))), (22, .c (.d (.lit (.bool (decide (i8 < (((gt r_0.l n5).l).length : Int)))))))]) rfl rfl ?_
        refine after_n ?_
        refine w_seq ?_
        refine w_cond (t := decide (i8 < (((gt r_0.l n5).l).length : Int))) rfl (fun hb14 => ?_) (fun hb14 => ?_)
        · have hr := cnd_t hb14 hr
          refine w_skip ?_
          refine after_n ?_
          refine w_seq ?_
          refine w_block ?_
          refine w_seq ?_
          obtain ⟨n15, h16, hr⟩ := bnd hr
          refine w_region ?_
          refine o1 rfl ?_
          refine o1 (ix_sd h16) ?_
          iterate 3 refine o1 rfl ?_
          refine o_end (e' := [(5, .c (slC 11 c_api_Rule 0 s7)), (6, .c (.d (.lit (.int .i64 i8)))), (7, .c (.d (.lit (.int .i64 (gt ((gt r_0.l n5).l) n15))))), (19, .c (.d (slD 1 cI_i64 (gt r_0.l n5)))), (20, .c (.d (.lit (.int .i64 (((gt r_0.l n5).l).length : Int))))), (21, .c (.d (.lit (.int .i64 i8))))]) rfl rfl ?_
          refine after_n ?_
          obtain ⟨r17, h18, hr⟩ := bnd hr
          obtain ⟨l19, h20, hr⟩ := bnd hr
          refine w_join (J := fun s => Sub s ⟨[(5, .c (slC 11 c_api_Rule 0 (Sl.mk l19))), (19, .c (.d (slD 1 cI_i64 (gt r_0.l n5)))), (20, .c (.d (.lit (.int .i64 (((gt r_0.l n5).l).length : Int))))), (21, .c (.d (.lit (.int .i64 i8))))], [(0, slO 11 c_api_Rule (Sl.mk l19))], 1, []⟩) ?_ ?_
          · rcases s7 with _ | s7'
            · try dsimp only [slC, slO]
              refine w_region ?_
              iterate 3 refine o1 rfl ?_
              refine oc (rs := [.agg [.d (.lit (.int .i64 r17.Prio)), .d (.lit (.int .i64 r17.M.Port)), .d (.lit (.int .i64 r17.M.Val.e0)), .d (.lit (.int .i64 r17.M.Val.e1)), .d (.lit (.int .i64 r17.M.Val.e2)), .d (.lit (.int .i64 r17.M.Val.e3)), .d (.lit (.int .i64 r17.M.Mask.e0)), .d (.lit (.int .i64 r17.M.Mask.e1)), .d (.lit (.int .i64 r17.M.Mask.e2)), .d (.lit (.int .i64 r17.M.Mask.e3)), .d (slD 3 c_api_Act r17.Acts)]]) (outs := []) rfl (rule_Plain_ok h18) rfl ?_
              refine o2 rfl ?_
              refine o2 (app_nil (enc := c_api_Rule) rfl h20) ?_
              refine o1 rfl ?_
              exact o_join (sub_ren [2] [5, 19, 20, 21] (by decide) rfl (.cons .nil) (Nat.le_of_ble_eq_true rfl))
            · try dsimp only [slC, slO]
              refine w_region ?_
              iterate 3 refine o1 rfl ?_
              refine oc (rs := [.agg [.d (.lit (.int .i64 r17.Prio)), .d (.lit (.int .i64 r17.M.Port)), .d (.lit (.int .i64 r17.M.Val.e0)), .d (.lit (.int .i64 r17.M.Val.e1)), .d (.lit (.int .i64 r17.M.Val.e2)), .d (.lit (.int .i64 r17.M.Val.e3)), .d (.lit (.int .i64 r17.M.Mask.e0)), .d (.lit (.int .i64 r17.M.Mask.e1)), .d (.lit (.int .i64 r17.M.Mask.e2)), .d (.lit (.int .i64 r17.M.Mask.e3)), .d (slD 3 c_api_Act r17.Acts)]]) (outs := []) rfl (rule_Plain_ok h18) rfl ?_
              refine o2 rfl ?_
              refine o2 (app_o rfl rfl h20) ?_
              refine o1 rfl ?_
              exact o_join (sub_ren [2] [5, 19, 20, 21] (by decide) rfl (.cons .nil) (Nat.le_of_ble_eq_true rfl))
          · intro s hs21
            refine out_n ?_
            refine after_n ?_
            refine W.sub hs21 ?_
            refine w_region ?_
            refine o1 (v := .c (.d (.lit (.int .i64 (wr .i64 (i8 + 1)))))) rfl ?_
            refine o1 rfl ?_
            refine o_end (e' := [(5, .c (slC 11 c_api_Rule 0 (Sl.mk l19))), (19, .c (.d (slD 1 cI_i64 (gt r_0.l n5)))), (20, .c (.d (.lit (.int .i64 (((gt r_0.l n5).l).length : Int))))), (21, .c (.d (.lit (.int .i64 (wr .i64 (i8 + 1))))))]) rfl rfl ?_
            obtain rfl := Option.some.inj hr
            exact And.intro rfl (sub_ren [0] [5, 19, 20, 21] (by decide) rfl (.cons .nil) (Nat.le_of_ble_eq_true rfl))
        · have hr := cnd_f hb14 hr
          refine w_exit ?_
          refine after_e ?_
          obtain rfl := Option.some.inj hr
          exact And.intro nofun (And.intro rfl (by rcases s7 with _ | _ <;> first | (exact sub_ren [9000] [5] (by decide) rfl (.skip .nil) (Nat.le_of_ble_eq_true rfl)) | (exact sub_ren [0] [5] (by decide) rfl (.cons .nil) (Nat.le_of_ble_eq_true rfl))))

/- turnout/match.Hits -/
def k85 : CC :=
  (.seq
  (.region [
    ⟨some 3, .box, [(.tmp 0)], none⟩,
    ⟨some 5, .box, [(.tmp 2)], none⟩,
    ⟨some 6, .mv, [(.const (.bool false))], none⟩] [1, 3, 5])
  (.seq
  (.seq
  (.region [
    ⟨some 9, (.fieldAddr 0), [(.tmp 3)], none⟩,
    ⟨some 10, (.load false 1), [(.tmp 9)], none⟩,
    ⟨some 11, (.bin .neq), [(.tmp 10), (.const (.int .i64 (-1)))], none⟩,
    ⟨some 12, .mv, [(.tmp 11)], none⟩,
    ⟨some 13, (.fieldAddr 0), [(.tmp 3)], (some (12, true))⟩,
    ⟨some 14, (.load false 1), [(.tmp 13)], (some (12, true))⟩,
    ⟨some 15, .mv, [(.tmp 1)], (some (12, true))⟩,
    ⟨some 16, (.bin .neq), [(.tmp 14), (.tmp 15)], (some (12, true))⟩,
    ⟨some 17, .pick, [(.tmp 12), (.tmp 16), (.const (.bool false))], none⟩] [3, 5, 17])
  (.cond (.tmp 17)
    (.seq
    (.region [
      ⟨some 6, .mv, [(.const (.bool false))], none⟩] [6])
    .ret)
    .skip))
  (.seq
  (.seq
  (.region [
    ⟨some 18, (.fieldAddr 5), [(.tmp 3)], none⟩,
    ⟨some 19, (.load true 4), [(.tmp 18)], none⟩,
    ⟨some 20, .mv, [(.const (.int .i64 0))], none⟩] [3, 5, 19, 20])
  (.block 0
    (.loop [3, 5, 19, 20]
      (.seq
      (.region [
        ⟨some 21, (.bin .lss), [(.tmp 20), (.const (.int .i64 4))], none⟩] [3, 5, 19, 20, 21])
      (.seq
      (.cond (.tmp 21)
        .skip
        (.exit 0))
      (.seq
      (.block 1
        (.seq
        (.region [
          ⟨some 22, .mv, [(.tmp 20)], none⟩,
          ⟨some 23, (.index false 4 1), [(.tmp 19), (.tmp 20)], none⟩,
          ⟨some 7, .mv, [(.tmp 22)], none⟩,
          ⟨some 8, .mv, [(.tmp 23)], none⟩] [3, 5, 7, 8, 19, 20])
        (.seq
        (.drawn [
          ⟨some 24, .mv, [(.tmp 7)], none⟩,
          ⟨some 25, (.indexAddr (some 4) 1), [(.tmp 5), (.tmp 24)], none⟩,
          ⟨some 26, (.load false 1), [(.tmp 25)], none⟩,
          ⟨some 27, .mv, [(.tmp 7)], none⟩,
          ⟨some 28, (.fieldAddr 1), [(.tmp 3)], none⟩,
          ⟨some 29, (.indexAddr (some 4) 1), [(.tmp 28), (.tmp 27)], none⟩,
          ⟨some 30, (.load false 1), [(.tmp 29)], none⟩,
          ⟨some 31, (.bin .xor), [(.tmp 26), (.tmp 30)], none⟩,
          ⟨some 32, .mv, [(.tmp 8)], none⟩,
          ⟨some 33, (.bin .and), [(.tmp 31), (.tmp 32)], none⟩,
          ⟨some 34, (.bin .neq), [(.tmp 33), (.const (.int .i64 0))], none⟩] [] [3, 5, 19, 20, 34])
        (.cond (.tmp 34)
          (.seq
          (.region [
            ⟨some 6, .mv, [(.const (.bool false))], none⟩] [6])
          .ret)
          .skip))))
      (.region [
        ⟨some 35, (.bin .add), [(.tmp 20), (.const (.int .i64 1))], none⟩,
        ⟨some 20, .mv, [(.tmp 35)], none⟩] [3, 5, 19, 20])))))))
  (.seq
  (.region [
    ⟨some 6, .mv, [(.const (.bool true))], none⟩] [6])
  .ret))))
def f85 : Ev.Fn := ⟨3, 36, [.tmp 6], k85⟩
set_option maxRecDepth 100000 in
theorem e85 : compFn prog sig 85 3 [[1, 3, 5], [3, 5, 17], [6], [3, 5, 19, 20], [3, 5, 19, 20], [3, 5, 19, 20, 21], [3, 5, 7, 8, 19, 20], [3, 5, 19, 20, 34], [6], [3, 5, 19, 20], [6]] = some f85 := by kernel_rfl
noncomputable def match_Hits_L1 (m_0 : api_Match) (p_2 : A4_Int) : Int → Option (Sum (Int) (Sum (Unit) (Unit))) := fun i5 =>
  bif decide (i5 < 4) then ((ixI i5 4).bind fun n10 =>
  bif ((bAnd .i64 (bXor .i64 (gt [p_2.e0, p_2.e1, p_2.e2, p_2.e3] n10) (gt [m_0.Val.e0, m_0.Val.e1, m_0.Val.e2, m_0.Val.e3] n10)) (gt [m_0.Mask.e0, m_0.Mask.e1, m_0.Mask.e2, m_0.Mask.e3] n10)) != 0) then (some (.inr (.inl ()))) else
  (some (.inl (wr .i64 (i5 + 1))))) else
  (some (.inr (.inr ())))

noncomputable def match_Hits (m_0 : api_Match) (port_1 : Int) (p_2 : A4_Int) : Option (Bool) :=
  bif ((m_0.Port != (-1)) && (m_0.Port != port_1)) then (some false) else
  ((loopO (match_Hits_L1 m_0 p_2) 0).bind fun
  | .inl _ => (some false)
  | .inr (_) => (some true))
theorem match_Hits_ok {m_0 : api_Match} {port_1 : Int} {p_2 : A4_Int} {z : Bool} (hp : match_Hits m_0 port_1 p_2 = some z) : Good prog 85 [.agg (c_api_Match m_0), .d (.lit (.int .i64 port_1)), .agg (c_A4_Int p_2)] [.c (.d (.lit (.bool z)))] [] := by
  unfold match_Hits at hp
  refine fn_good mixed e85 (fnS (m := [false]) (s := ⟨[(0, .agg [.d (.lit (.int .i64 m_0.Port)), .d (.lit (.int .i64 m_0.Val.e0)), .d (.lit (.int .i64 m_0.Val.e1)), .d (.lit (.int .i64 m_0.Val.e2)), .d (.lit (.int .i64 m_0.Val.e3)), .d (.lit (.int .i64 m_0.Mask.e0)), .d (.lit (.int .i64 m_0.Mask.e1)), .d (.lit (.int .i64 m_0.Mask.e2)), .d (.lit (.int .i64 m_0.Mask.e3))]), (1, .c (.d (.lit (.int .i64 port_1)))), (2, .agg [.d (.lit (.int .i64 p_2.e0)), .d (.lit (.int .i64 p_2.e1)), .d (.lit (.int .i64 p_2.e2)), .d (.lit (.int .i64 p_2.e3))])], [], 0, []⟩) (len := 0) (c := k85) rfl (Sub.of_eq rfl) rfl rfl ?_)
  refine w_seq ?_
  refine w_region ?_
  refine o2 rfl ?_
  refine o2 rfl ?_
  refine o1 rfl ?_
  refine o_end (e' := [(1, .c (.d (.lit (.int .i64 port_1)))), (3, .c (.op 0 0)), (5, .c (.op 1 0))]) rfl rfl ?_
  refine after_n ?_
  refine w_seq ?_
  refine w_seq ?_
  refine w_join (J := fun s => Sub s ⟨[(3, .c (.op 0 0)), (5, .c (.op 1 0)), (17, .c (.d (.lit (.bool ((m_0.Port != (-1)) && (m_0.Port != port_1))))))], [(0, some (.box [.d (.lit (.int .i64 m_0.Port)), .d (.lit (.int .i64 m_0.Val.e0)), .d (.lit (.int .i64 m_0.Val.e1)), .d (.lit (.int .i64 m_0.Val.e2)), .d (.lit (.int .i64 m_0.Val.e3)), .d (.lit (.int .i64 m_0.Mask.e0)), .d (.lit (.int .i64 m_0.Mask.e1)), .d (.lit (.int .i64 m_0.Mask.e2)), .d (.lit (.int .i64 m_0.Mask.e3))])), (1, some (.box [.d (.lit (.int .i64 p_2.e0)), .d (.lit (.int .i64 p_2.e1)), .d (.lit (.int .i64 p_2.e2)), .d (.lit (.int .i64 p_2.e3))]))], 2, []⟩) ?_ ?_
  · refine w_region ?_
    iterate 2 refine o1 rfl ?_
    refine o1 (v := .c (.d (.lit (.bool (m_0.Port != (-1)))))) rfl ?_
    refine o1 rfl ?_
    cases hb2 : ((m_0.Port != (-1)) : Bool)
    · refine onot rfl rfl ?_
      iterate 3 refine onot rfl rfl ?_
      refine o1 rfl ?_
      exact o_join (sub_ren [0, 1] [3, 5, 17] (by decide) rfl (.cons (.cons .nil)) (Nat.le_of_ble_eq_true rfl))
    · refine og rfl rfl rfl ?_
      iterate 2 refine og rfl rfl rfl ?_
      refine og (v := .c (.d (.lit (.bool (m_0.Port != port_1))))) rfl rfl rfl ?_
      refine o1 rfl ?_
      exact o_join (sub_ren [0, 1] [3, 5, 17] (by decide) rfl (.cons (.cons .nil)) (Nat.le_of_ble_eq_true rfl))
  · intro s hs3
    refine after_n ?_
    refine W.sub hs3 ?_
    refine w_cond (t := ((m_0.Port != (-1)) && (m_0.Port != port_1))) rfl (fun hb4 => ?_) (fun hb4 => ?_)
    · have hp := cnd_t hb4 hp
      refine w_seq ?_
      refine w_region ?_
      refine o1 rfl ?_
      refine o_end (e' := [(6, .c (.d (.lit (.bool false))))]) rfl rfl ?_
      refine after_n ?_
      refine w_ret ?_
      refine after_r ?_
      obtain rfl := Option.some.inj hp
      exact leave_at rfl rfl (pr_c p_d pr_nil) pc_nil rfl rfl
    · have hp := cnd_f hb4 hp
      refine w_skip ?_
      refine after_n ?_
      refine w_seq ?_
      refine w_seq ?_
      refine w_region ?_
      iterate 3 refine o1 rfl ?_
      refine o_end (e' := [(3, .c (.op 0 0)), (5, .c (.op 1 0)), (19, .agg [.d (.lit (.int .i64 m_0.Mask.e0)), .d (.lit (.int .i64 m_0.Mask.e1)), .d (.lit (.int .i64 m_0.Mask.e2)), .d (.lit (.int .i64 m_0.Mask.e3))]), (20, .c (.d (.lit (.int .i64 0))))]) rfl rfl ?_
      refine after_n ?_
      refine w_block ?_
      obtain ⟨x7, h8, hp⟩ := bnd hp
      refine W.mono ?_ (w_loopS (st := fun (v : Int) => match v with | i5 => ⟨[(3, .c (.op 0 0)), (5, .c (.op 1 0)), (19, .agg [.d (.lit (.int .i64 m_0.Mask.e0)), .d (.lit (.int .i64 m_0.Mask.e1)), .d (.lit (.int .i64 m_0.Mask.e2)), .d (.lit (.int .i64 m_0.Mask.e3))]), (20, .c (.d (.lit (.int .i64 i5))))], [(0, some (.box [.d (.lit (.int .i64 m_0.Port)), .d (.lit (.int .i64 m_0.Val.e0)), .d (.lit (.int .i64 m_0.Val.e1)), .d (.lit (.int .i64 m_0.Val.e2)), .d (.lit (.int .i64 m_0.Val.e3)), .d (.lit (.int .i64 m_0.Mask.e0)), .d (.lit (.int .i64 m_0.Mask.e1)), .d (.lit (.int .i64 m_0.Mask.e2)), .d (.lit (.int .i64 m_0.Mask.e3))])), (1, some (.box [.d (.lit (.int .i64 p_2.e0)), .d (.lit (.int .i64 p_2.e1)), .d (.lit (.int .i64 p_2.e2)), .d (.lit (.int .i64 p_2.e3))]))], 2, []⟩) (a := 0) (Q := Jn (fun (x : Sum (Unit) (Unit)) o s => match x with | .inl _ => o = Out.ret ∧ Sub s ⟨[(6, .c (.d (.lit (.bool false))))], [], 0, []⟩ | .inr (_) => o = Out.exit 0 ∧ Sub s ⟨[], [], 0, []⟩)) ?_ h8 ?_)
      · intro o s hs13
        rcases x7 with (_ | _)
        · obtain ⟨rfl, hs13⟩ := hs13
          refine out_r ?_
          refine after_r ?_
          obtain rfl := Option.some.inj hp
          refine wk.sub hs13 ?_
          exact leave_at rfl rfl (pr_c p_d pr_nil) pc_nil rfl rfl
        · obtain ⟨rfl, hs13⟩ := hs13
          refine out_e ?_
          refine after_n ?_
          refine W.sub hs13 ?_
          refine w_seq ?_
          refine w_region ?_
          refine o1 rfl ?_
          refine o_end (e' := [(6, .c (.d (.lit (.bool true))))]) rfl rfl ?_
          refine after_n ?_
          refine w_ret ?_
          obtain rfl := Option.some.inj hp
          exact leave_at rfl rfl (pr_c p_d pr_nil) pc_nil rfl rfl
      · exact (sub_ren [0, 1] [3, 5, 19, 20] (by decide) rfl (.cons (.cons .nil)) (Nat.le_of_ble_eq_true rfl))
      · rintro i5 r hr
        unfold match_Hits_L1 at hr
        refine w_seq ?_
        refine w_region ?_
        refine o1 (v := .c (.d (.lit (.bool (decide (i5 < 4)))))) rfl ?_
        refine o_end (e' := [(3, .c (.op 0 0)), (5, .c (.op 1 0)), (19, .agg [.d (.lit (.int .i64 m_0.Mask.e0)), .d (.lit (.int .i64 m_0.Mask.e1)), .d (.lit (.int .i64 m_0.Mask.e2)), .d (.lit (.int .i64 m_0.Mask.e3))]), (20, .c (.d (.lit (.int .i64 i5)))), (21, .c (.d (.lit (.bool (decide (i5 < 4))))))]) rfl rfl ?_
        refine after_n ?_
        refine w_seq ?_
        refine w_cond (t := decide (i5 < 4)) rfl (fun hb9 => ?_) (fun hb9 => ?_)
        · have hr := cnd_t hb9 hr
          refine w_skip ?_
          refine after_n ?_
          refine w_seq ?_
          refine w_block ?_
          refine w_seq ?_
          obtain ⟨n10, h11, hr⟩ := bnd hr
          refine w_region ?_
          refine o1 rfl ?_
          refine o1 (ix_av (f := fun x => .d (.lit (.int .i64 x))) (l := [m_0.Mask.e0, m_0.Mask.e1, m_0.Mask.e2, m_0.Mask.e3]) rfl rfl h11) ?_
          iterate 2 refine o1 rfl ?_
          refine o_end (e' := [(3, .c (.op 0 0)), (5, .c (.op 1 0)), (7, .c (.d (.lit (.int .i64 i5)))), (8, .c (.d (.lit (.int .i64 (gt [m_0.Mask.e0, m_0.Mask.e1, m_0.Mask.e2, m_0.Mask.e3] n10))))), (19, .agg [.d (.lit (.int .i64 m_0.Mask.e0)), .d (.lit (.int .i64 m_0.Mask.e1)), .d (.lit (.int .i64 m_0.Mask.e2)), .d (.lit (.int .i64 m_0.Mask.e3))]), (20, .c (.d (.lit (.int .i64 i5))))]) rfl rfl ?_
          refine after_n ?_
          refine w_seq ?_
          refine w_drawn ?_
          refine d1 rfl ?_
          refine d1 (ix_ar h11) ?_
          refine d1 (v := .c (.d (.lit (.int .i64 (gt [p_2.e0, p_2.e1, p_2.e2, p_2.e3] n10))))) (ids := [1]) (by apply ar4 (ixI_some.1 h11).2 <;> rfl) ?_
          iterate 2 refine d1 rfl ?_
          refine d1 (ix_ar h11) ?_
          refine d1 (v := .c (.d (.lit (.int .i64 (gt [m_0.Val.e0, m_0.Val.e1, m_0.Val.e2, m_0.Val.e3] n10))))) (ids := [0]) (by apply ar4 (ixI_some.1 h11).2 <;> rfl) ?_
          refine d1 (v := .c (.d (.lit (.int .i64 (bXor .i64 (gt [p_2.e0, p_2.e1, p_2.e2, p_2.e3] n10) (gt [m_0.Val.e0, m_0.Val.e1, m_0.Val.e2, m_0.Val.e3] n10)))))) rfl ?_
          refine d1 rfl ?_
          refine d1 (v := .c (.d (.lit (.int .i64 (bAnd .i64 (bXor .i64 (gt [p_2.e0, p_2.e1, p_2.e2, p_2.e3] n10) (gt [m_0.Val.e0, m_0.Val.e1, m_0.Val.e2, m_0.Val.e3] n10)) (gt [m_0.Mask.e0, m_0.Mask.e1, m_0.Mask.e2, m_0.Mask.e3] n10)))))) rfl ?_
          refine d1 (v := .c (.d (.lit (.bool ((bAnd .i64 (bXor .i64 (gt [p_2.e0, p_2.e1, p_2.e2, p_2.e3] n10) (gt [m_0.Val.e0, m_0.Val.e1, m_0.Val.e2, m_0.Val.e3] n10)) (gt [m_0.Mask.e0, m_0.Mask.e1, m_0.Mask.e2, m_0.Mask.e3] n10)) != 0))))) rfl ?_
          refine d_fin (e' := [(3, .c (.op 0 0)), (5, .c (.op 1 0)), (19, .agg [.d (.lit (.int .i64 m_0.Mask.e0)), .d (.lit (.int .i64 m_0.Mask.e1)), .d (.lit (.int .i64 m_0.Mask.e2)), .d (.lit (.int .i64 m_0.Mask.e3))]), (20, .c (.d (.lit (.int .i64 i5)))), (34, .c (.d (.lit (.bool ((bAnd .i64 (bXor .i64 (gt [p_2.e0, p_2.e1, p_2.e2, p_2.e3] n10) (gt [m_0.Val.e0, m_0.Val.e1, m_0.Val.e2, m_0.Val.e3] n10)) (gt [m_0.Mask.e0, m_0.Mask.e1, m_0.Mask.e2, m_0.Mask.e3] n10)) != 0)))))]) (n' := 706) rfl rfl rfl rfl ?_
          refine after_n ?_
          refine w_cond (t := ((bAnd .i64 (bXor .i64 (gt [p_2.e0, p_2.e1, p_2.e2, p_2.e3] n10) (gt [m_0.Val.e0, m_0.Val.e1, m_0.Val.e2, m_0.Val.e3] n10)) (gt [m_0.Mask.e0, m_0.Mask.e1, m_0.Mask.e2, m_0.Mask.e3] n10)) != 0)) rfl (fun hb12 => ?_) (fun hb12 => ?_)
          · have hr := cnd_t hb12 hr
            refine w_seq ?_
            refine w_region ?_
            refine o1 rfl ?_
            refine o_end (e' := [(6, .c (.d (.lit (.bool false))))]) rfl rfl ?_
            refine after_n ?_
            refine w_ret ?_
            refine out_r ?_
            refine after_r ?_
            obtain rfl := Option.some.inj hr
            exact And.intro nofun (And.intro rfl (sub_ren [] [6] (by decide) rfl .nil (Nat.le_of_ble_eq_true rfl)))
          · have hr := cnd_f hb12 hr
            refine w_skip ?_
            refine out_n ?_
            refine after_n ?_
            refine w_region ?_
            refine o1 (v := .c (.d (.lit (.int .i64 (wr .i64 (i5 + 1)))))) rfl ?_
            refine o1 rfl ?_
            refine o_end (e' := [(3, .c (.op 0 0)), (5, .c (.op 1 0)), (19, .agg [.d (.lit (.int .i64 m_0.Mask.e0)), .d (.lit (.int .i64 m_0.Mask.e1)), .d (.lit (.int .i64 m_0.Mask.e2)), .d (.lit (.int .i64 m_0.Mask.e3))]), (20, .c (.d (.lit (.int .i64 (wr .i64 (i5 + 1))))))]) rfl rfl ?_
            obtain rfl := Option.some.inj hr
            exact And.intro rfl (sub_ren [0, 1] [3, 5, 19, 20] (by decide) rfl (.cons (.cons .nil)) (Nat.le_of_ble_eq_true rfl))
        · have hr := cnd_f hb9 hr
          refine w_exit ?_
          refine after_e ?_
          obtain rfl := Option.some.inj hr
          exact And.intro nofun (And.intro rfl (sub_ren [] [] (by decide) rfl .nil (Nat.le_of_ble_eq_true rfl)))

/- turnout/table.Find$1 -/
def k84 : CC :=
  (.seq
  (.region [
    ⟨some 3, .box, [(.tmp 0)], none⟩,
    ⟨some 4, .mv, [(.const (.bool false))], none⟩] [1, 2, 3])
  (.seq
  (.region [
    ⟨some 5, (.fieldAddr 1), [(.tmp 3)], none⟩,
    ⟨some 6, (.load true 9), [(.tmp 5)], none⟩,
    ⟨some 7, (.load false 1), [(.tmp 1)], none⟩,
    ⟨some 8, (.load true 4), [(.tmp 2)], none⟩,
    ⟨some 9, (.call true []), [(.func 85), (.tmp 6), (.tmp 7), (.tmp 8)], none⟩,
    ⟨some 4, .mv, [(.tmp 9)], none⟩] [4])
  .ret))
def f84 : Ev.Fn := ⟨3, 10, [.tmp 4], k84⟩
set_option maxRecDepth 100000 in
theorem e84 : compFn prog sig 84 3 [[1, 2, 3], [4]] = some f84 := by kernel_rfl
noncomputable def table_Find_1 (x_0 : api_Rule) (c_1 : Int) (c_2 : A4_Int) : Option (Bool) :=
  (match_Hits x_0.M c_1 c_2).bind fun r1 =>
  some r1
theorem table_Find_1_ok {x_0 : api_Rule} {c_1 : Int} {c_2 : A4_Int} {z : Bool} (hp : table_Find_1 x_0 c_1 c_2 = some z) : Good prog 84 [.agg (c_api_Rule x_0), .d (.pt (cI_i64 c_1)), .d (.pt (c_A4_Int c_2))] [.c (.d (.lit (.bool z)))] [] := by
  unfold table_Find_1 at hp
  refine fn_good mixed e84 (fnS (m := [false]) (s := ⟨[(0, .agg [.d (.lit (.int .i64 x_0.Prio)), .d (.lit (.int .i64 x_0.M.Port)), .d (.lit (.int .i64 x_0.M.Val.e0)), .d (.lit (.int .i64 x_0.M.Val.e1)), .d (.lit (.int .i64 x_0.M.Val.e2)), .d (.lit (.int .i64 x_0.M.Val.e3)), .d (.lit (.int .i64 x_0.M.Mask.e0)), .d (.lit (.int .i64 x_0.M.Mask.e1)), .d (.lit (.int .i64 x_0.M.Mask.e2)), .d (.lit (.int .i64 x_0.M.Mask.e3)), .d (slD 3 c_api_Act x_0.Acts)]), (1, .c (.d (.pt (cI_i64 c_1)))), (2, .c (.d (.pt (c_A4_Int c_2))))], [], 0, []⟩) (len := 0) (c := k84) rfl (Sub.of_eq rfl) rfl rfl ?_)
  refine w_seq ?_
  refine w_region ?_
  refine o2 rfl ?_
  refine o1 rfl ?_
  refine o_end (e' := [(1, .c (.d (.pt (cI_i64 c_1)))), (2, .c (.d (.pt (c_A4_Int c_2)))), (3, .c (.op 0 0))]) rfl rfl ?_
  refine after_n ?_
  refine w_seq ?_
  obtain ⟨r1, h2, hp⟩ := bnd hp
  refine w_region ?_
  iterate 4 refine o1 rfl ?_
  refine oc (rs := [.c (.d (.lit (.bool r1)))]) (outs := []) rfl (match_Hits_ok h2) rfl ?_
  refine o1 rfl ?_
  refine o_end (e' := [(4, .c (.d (.lit (.bool r1))))]) rfl rfl ?_
  refine after_n ?_
  refine w_ret ?_
  obtain rfl := Option.some.inj hp
  exact leave_at rfl rfl (pr_c p_d pr_nil) pc_nil rfl rfl

/- slices.IndexFunc[[]turnout/api.Rule,turnout/api.Rule] -/
def k83 : CC :=
  (.seq
  (.region [
    ⟨some 4, .mv, [(.const (.int .i64 0))], none⟩] [0, 1])
  (.seq
  (.seq
  (.region [
    ⟨some 6, .mv, [(.tmp 0)], none⟩,
    ⟨some 7, (.len false), [(.tmp 6)], none⟩,
    ⟨some 8, .mv, [(.const (.int .i64 0))], none⟩] [0, 1, 7, 8])
  (.block 0
    (.loop [0, 1, 7, 8]
      (.seq
      (.region [
        ⟨some 9, (.bin .lss), [(.tmp 8), (.tmp 7)], none⟩] [0, 1, 7, 8, 9])
      (.seq
      (.cond (.tmp 9)
        .skip
        (.exit 0))
      (.seq
      (.block 1
        (.seq
        (.region [
          ⟨some 10, .mv, [(.tmp 8)], none⟩,
          ⟨some 5, .mv, [(.tmp 10)], none⟩] [0, 1, 5, 7, 8])
        (.seq
        (.region [
          ⟨some 11, .mv, [(.tmp 1)], none⟩,
          ⟨some 12, .mv, [(.tmp 0)], none⟩,
          ⟨some 13, .mv, [(.tmp 5)], none⟩,
          ⟨some 14, (.indexAddr none 11), [(.tmp 12), (.tmp 13)], none⟩,
          ⟨some 15, (.load true 11), [(.tmp 14)], none⟩,
          ⟨some 16, (.call false []), [(.tmp 11), (.tmp 15)], none⟩] [0, 1, 5, 7, 8, 16])
        (.cond (.tmp 16)
          (.seq
          (.region [
            ⟨some 17, .mv, [(.tmp 5)], none⟩,
            ⟨some 4, .mv, [(.tmp 17)], none⟩] [4])
          .ret)
          .skip))))
      (.region [
        ⟨some 18, (.bin .add), [(.tmp 8), (.const (.int .i64 1))], none⟩,
        ⟨some 8, .mv, [(.tmp 18)], none⟩] [0, 1, 7, 8])))))))
  (.seq
  (.region [
    ⟨some 4, .mv, [(.const (.int .i64 (-1)))], none⟩] [4])
  .ret)))
def f83 : Ev.Fn := ⟨2, 19, [.tmp 4], k83⟩
set_option maxRecDepth 100000 in
theorem e83 : compFn prog sig 83 2 [[0, 1], [0, 1, 7, 8], [0, 1, 7, 8], [0, 1, 7, 8, 9], [0, 1, 5, 7, 8], [0, 1, 5, 7, 8, 16], [4], [0, 1, 7, 8], [4]] = some f83 := by kernel_rfl
noncomputable def slices_IndexFunc_api_Rule_api_Rule_table_Find_1_L1 (s_0 : Sl api_Rule) (c_1_0 : Int) (c_1_1 : A4_Int) : Int → Option (Sum (Int) (Sum (Int) (Unit))) := fun i1 =>
  bif decide (i1 < (s_0.l.length : Int)) then ((ixI i1 s_0.l.length).bind fun n7 =>
  (table_Find_1 (gt s_0.l n7) c_1_0 c_1_1).bind fun r9 =>
  bif r9 then (some (.inr (.inl i1))) else
  (some (.inl (wr .i64 (i1 + 1))))) else
  (some (.inr (.inr ())))

noncomputable def slices_IndexFunc_api_Rule_api_Rule_table_Find_1 (s_0 : Sl api_Rule) (c_1_0 : Int) (c_1_1 : A4_Int) : Option (Int) :=
  (loopO (slices_IndexFunc_api_Rule_api_Rule_table_Find_1_L1 s_0 c_1_0 c_1_1) 0).bind fun
  | .inl i3 => (some i3)
  | .inr (_) => (some (-1))
theorem slices_IndexFunc_api_Rule_api_Rule_table_Find_1_ok {s_0 : Sl api_Rule} {c_1_0 : Int} {c_1_1 : A4_Int} {z : Int} (hp : slices_IndexFunc_api_Rule_api_Rule_table_Find_1 s_0 c_1_0 c_1_1 = some z) : Good prog 83 [.d (slD 11 c_api_Rule s_0), .d (.fn 84 [.pt (cI_i64 c_1_0), .pt (c_A4_Int c_1_1)])] [.c (.d (.lit (.int .i64 z)))] [] := by
  unfold slices_IndexFunc_api_Rule_api_Rule_table_Find_1 at hp
  refine fn_good mixed e83 (fnS (m := [false]) (s := ⟨[(0, .c (.d (slD 11 c_api_Rule s_0))), (1, .c (.d (.fn 84 [.pt (cI_i64 c_1_0), .pt (c_A4_Int c_1_1)])))], [], 0, []⟩) (len := 0) (c := k83) rfl (Sub.of_eq rfl) rfl rfl ?_)
  refine w_seq ?_
  refine w_region ?_
  refine o1 rfl ?_
  refine o_end (e' := [(0, .c (.d (slD 11 c_api_Rule s_0))), (1, .c (.d (.fn 84 [.pt (cI_i64 c_1_0), .pt (c_A4_Int c_1_1)])))]) rfl rfl ?_
  refine after_n ?_
  refine w_seq ?_
  refine w_seq ?_
  refine w_region ?_
  refine o1 rfl ?_
  refine o1 (v := .c (.d (.lit (.int .i64 (s_0.l.length : Int))))) len_sd ?_
  refine o1 rfl ?_
  refine o_end (e' := [(0, .c (.d (slD 11 c_api_Rule s_0))), (1, .c (.d (.fn 84 [.pt (cI_i64 c_1_0), .pt (c_A4_Int c_1_1)]))), (7, .c (.d (.lit (.int .i64 (s_0.l.length : Int))))), (8, .c (.d (.lit (.int .i64 0))))]) rfl rfl ?_
  refine after_n ?_
  refine w_block ?_
  obtain ⟨x4, h5, hp⟩ := bnd hp
  refine W.mono ?_ (w_loopS (st := fun (v : Int) => match v with | i1 => ⟨[(0, .c (.d (slD 11 c_api_Rule s_0))), (1, .c (.d (.fn 84 [.pt (cI_i64 c_1_0), .pt (c_A4_Int c_1_1)]))), (7, .c (.d (.lit (.int .i64 (s_0.l.length : Int))))), (8, .c (.d (.lit (.int .i64 i1))))], [], 0, []⟩) (a := 0) (Q := Jn (fun (x : Sum (Int) (Unit)) o s => match x with | .inl i3 => o = Out.ret ∧ Sub s ⟨[(4, .c (.d (.lit (.int .i64 i3))))], [], 0, []⟩ | .inr (_) => o = Out.exit 0 ∧ Sub s ⟨[], [], 0, []⟩)) ?_ h5 ?_)
  · intro o s hs12
    rcases x4 with (i3 | _)
    · obtain ⟨rfl, hs12⟩ := hs12
      refine out_r ?_
      refine after_r ?_
      obtain rfl := Option.some.inj hp
      refine wk.sub hs12 ?_
      exact leave_at rfl rfl (pr_c p_d pr_nil) pc_nil rfl rfl
    · obtain ⟨rfl, hs12⟩ := hs12
      refine out_e ?_
      refine after_n ?_
      refine W.sub hs12 ?_
      refine w_seq ?_
      refine w_region ?_
      refine o1 rfl ?_
      refine o_end (e' := [(4, .c (.d (.lit (.int .i64 (-1)))))]) rfl rfl ?_
      refine after_n ?_
      refine w_ret ?_
      obtain rfl := Option.some.inj hp
      exact leave_at rfl rfl (pr_c p_d pr_nil) pc_nil rfl rfl
  · exact (sub_ren [] [0, 1, 7, 8] (by decide) rfl .nil (Nat.le_of_ble_eq_true rfl))
  · rintro i1 r hr
    unfold slices_IndexFunc_api_Rule_api_Rule_table_Find_1_L1 at hr
    refine w_seq ?_
    refine w_region ?_
    refine o1 (v := .c (.d (.lit (.bool (decide (i1 < (s_0.l.length : Int))))))) rfl ?_
    refine o_end (e' := [(0, .c (.d (slD 11 c_api_Rule s_0))), (1, .c (.d (.fn 84 [.pt (cI_i64 c_1_0), .pt (c_A4_Int c_1_1)]))), (7, .c (.d (.lit (.int .i64 (s_0.l.length : Int))))), (8, .c (.d (.lit (.int .i64 i1)))), (9, .c (.d (.lit (.bool (decide (i1 < (s_0.l.length : Int)))))))]) rfl rfl ?_
    refine after_n ?_
    refine w_seq ?_
    refine w_cond (t := decide (i1 < (s_0.l.length : Int))) rfl (fun hb6 => ?_) (fun hb6 => ?_)
    · have hr := cnd_t hb6 hr
      refine w_skip ?_
      refine after_n ?_
      refine w_seq ?_
      refine w_block ?_
      refine w_seq ?_
      refine w_region ?_
      iterate 2 refine o1 rfl ?_
      refine o_end (e' := [(0, .c (.d (slD 11 c_api_Rule s_0))), (1, .c (.d (.fn 84 [.pt (cI_i64 c_1_0), .pt (c_A4_Int c_1_1)]))), (5, .c (.d (.lit (.int .i64 i1)))), (7, .c (.d (.lit (.int .i64 (s_0.l.length : Int))))), (8, .c (.d (.lit (.int .i64 i1))))]) rfl rfl ?_
      refine after_n ?_
      refine w_seq ?_
      obtain ⟨n7, h8, hr⟩ := bnd hr
      obtain ⟨r9, h10, hr⟩ := bnd hr
      refine w_region ?_
      iterate 3 refine o1 rfl ?_
      refine o1 (ix_sd h8) ?_
      refine o1 rfl ?_
      refine oc (rs := [.c (.d (.lit (.bool r9)))]) (outs := []) rfl (table_Find_1_ok h10) rfl ?_
      refine o_end (e' := [(0, .c (.d (slD 11 c_api_Rule s_0))), (1, .c (.d (.fn 84 [.pt (cI_i64 c_1_0), .pt (c_A4_Int c_1_1)]))), (5, .c (.d (.lit (.int .i64 i1)))), (7, .c (.d (.lit (.int .i64 (s_0.l.length : Int))))), (8, .c (.d (.lit (.int .i64 i1)))), (16, .c (.d (.lit (.bool r9))))]) rfl rfl ?_
      refine after_n ?_
      refine w_cond (t := r9) rfl (fun hb11 => ?_) (fun hb11 => ?_)
      · have hr := cnd_t hb11 hr
        refine w_seq ?_
        refine w_region ?_
        iterate 2 refine o1 rfl ?_
        refine o_end (e' := [(4, .c (.d (.lit (.int .i64 i1))))]) rfl rfl ?_
        refine after_n ?_
        refine w_ret ?_
        refine out_r ?_
        refine after_r ?_
        obtain rfl := Option.some.inj hr
        exact And.intro nofun (And.intro rfl (sub_ren [] [4] (by decide) rfl .nil (Nat.le_of_ble_eq_true rfl)))
      · have hr := cnd_f hb11 hr
        refine w_skip ?_
        refine out_n ?_
        refine after_n ?_
        refine w_region ?_
        refine o1 (v := .c (.d (.lit (.int .i64 (wr .i64 (i1 + 1)))))) rfl ?_
        refine o1 rfl ?_
        refine o_end (e' := [(0, .c (.d (slD 11 c_api_Rule s_0))), (1, .c (.d (.fn 84 [.pt (cI_i64 c_1_0), .pt (c_A4_Int c_1_1)]))), (7, .c (.d (.lit (.int .i64 (s_0.l.length : Int))))), (8, .c (.d (.lit (.int .i64 (wr .i64 (i1 + 1))))))]) rfl rfl ?_
        obtain rfl := Option.some.inj hr
        exact And.intro rfl (sub_ren [] [0, 1, 7, 8] (by decide) rfl .nil (Nat.le_of_ble_eq_true rfl))
    · have hr := cnd_f hb6 hr
      refine w_exit ?_
      refine after_e ?_
      obtain rfl := Option.some.inj hr
      exact And.intro nofun (And.intro rfl (sub_ren [] [] (by decide) rfl .nil (Nat.le_of_ble_eq_true rfl)))

/- turnout/table.Find -/
def k56 : CC :=
  (.seq
  (.region [
    ⟨some 4, .box, [(.tmp 1)], none⟩,
    ⟨some 5, .box, [(.tmp 2)], none⟩,
    ⟨some 6, .mv, [(.const (.int .i64 0))], none⟩] [0, 4, 5])
  (.seq
  (.region [
    ⟨some 7, .mv, [(.tmp 0)], none⟩,
    ⟨some 8, (.mkFn 84), [(.tmp 4), (.tmp 5)], none⟩,
    ⟨some 9, (.call true []), [(.func 83), (.tmp 7), (.tmp 8)], none⟩,
    ⟨some 6, .mv, [(.tmp 9)], none⟩] [6])
  .ret))
def f56 : Ev.Fn := ⟨3, 10, [.tmp 6], k56⟩
set_option maxRecDepth 100000 in
theorem e56 : compFn prog sig 56 3 [[0, 4, 5], [6]] = some f56 := by kernel_rfl
noncomputable def table_Find (t_0 : Sl api_Rule) (port_1 : Int) (p_2 : A4_Int) : Option (Int) :=
  (slices_IndexFunc_api_Rule_api_Rule_table_Find_1 t_0 port_1 p_2).bind fun r1 =>
  some r1
theorem table_Find_ok {t_0 : Sl api_Rule} {port_1 : Int} {p_2 : A4_Int} {z : Int} (hp : table_Find t_0 port_1 p_2 = some z) : Good prog 56 [.d (slD 11 c_api_Rule t_0), .d (.lit (.int .i64 port_1)), .agg (c_A4_Int p_2)] [.c (.d (.lit (.int .i64 z)))] [] := by
  unfold table_Find at hp
  refine fn_good mixed e56 (fnS (m := [false]) (s := ⟨[(0, .c (.d (slD 11 c_api_Rule t_0))), (1, .c (.d (.lit (.int .i64 port_1)))), (2, .agg [.d (.lit (.int .i64 p_2.e0)), .d (.lit (.int .i64 p_2.e1)), .d (.lit (.int .i64 p_2.e2)), .d (.lit (.int .i64 p_2.e3))])], [], 0, []⟩) (len := 0) (c := k56) rfl (Sub.of_eq rfl) rfl rfl ?_)
  refine w_seq ?_
  refine w_region ?_
  refine o2 rfl ?_
  refine o2 rfl ?_
  refine o1 rfl ?_
  refine o_end (e' := [(0, .c (.d (slD 11 c_api_Rule t_0))), (4, .c (.op 0 0)), (5, .c (.op 1 0))]) rfl rfl ?_
  refine after_n ?_
  refine w_seq ?_
  obtain ⟨r1, h2, hp⟩ := bnd hp
  refine w_region ?_
  iterate 2 refine o1 rfl ?_
  refine oc (rs := [.c (.d (.lit (.int .i64 r1)))]) (outs := []) rfl (slices_IndexFunc_api_Rule_api_Rule_table_Find_1_ok h2) rfl ?_
  refine o1 rfl ?_
  refine o_end (e' := [(6, .c (.d (.lit (.int .i64 r1))))]) rfl rfl ?_
  refine after_n ?_
  refine w_ret ?_
  obtain rfl := Option.some.inj hp
  exact leave_at rfl rfl (pr_c p_d pr_nil) pc_nil rfl rfl

/- turnout/packet.is -/
def k100 : CC :=
  (.seq
  (.region [
    ⟨some 2, .mv, [(.const (.bool false))], none⟩] [0])
  (.seq
  (.region [
    ⟨some 3, .mv, [(.tmp 0)], none⟩,
    ⟨some 4, (.bin .geq), [(.tmp 3), (.const (.int .i64 0))], none⟩,
    ⟨some 5, .mv, [(.tmp 4)], none⟩,
    ⟨some 6, .mv, [(.tmp 0)], (some (5, true))⟩,
    ⟨some 7, (.bin .lss), [(.tmp 6), (.const (.int .i64 4))], (some (5, true))⟩,
    ⟨some 8, .pick, [(.tmp 5), (.tmp 7), (.const (.bool false))], none⟩,
    ⟨some 2, .mv, [(.tmp 8)], none⟩] [2])
  .ret))
def f100 : Ev.Fn := ⟨1, 9, [.tmp 2], k100⟩
set_option maxRecDepth 100000 in
theorem e100 : compFn prog sig 100 1 [[0], [2]] = some f100 := by kernel_rfl
noncomputable def packet_is (f_0 : Int) : Option (Bool) :=
  some ((decide (f_0 ≥ 0)) && (decide (f_0 < 4)))
theorem packet_is_ok {f_0 : Int} {z : Bool} (hp : packet_is f_0 = some z) : Good prog 100 [.d (.lit (.int .i64 f_0))] [.c (.d (.lit (.bool z)))] [] := by
  unfold packet_is at hp
  refine fn_good mixed e100 (fnS (m := [false]) (s := ⟨[(0, .c (.d (.lit (.int .i64 f_0))))], [], 0, []⟩) (len := 0) (c := k100) rfl (Sub.of_eq rfl) rfl rfl ?_)
  refine w_seq ?_
  refine w_region ?_
  refine o1 rfl ?_
  refine o_end (e' := [(0, .c (.d (.lit (.int .i64 f_0))))]) rfl rfl ?_
  refine after_n ?_
  refine w_seq ?_
  refine w_join (J := fun s => Sub s ⟨[(2, .c (.d (.lit (.bool ((decide (f_0 ≥ 0)) && (decide (f_0 < 4)))))))], [], 0, []⟩) ?_ ?_
  · refine w_region ?_
    refine o1 rfl ?_
    refine o1 (v := .c (.d (.lit (.bool (decide (f_0 ≥ 0)))))) rfl ?_
    refine o1 rfl ?_
    cases hb2 : (decide (f_0 ≥ 0) : Bool)
    · refine onot rfl rfl ?_
      refine onot rfl rfl ?_
      iterate 2 refine o1 rfl ?_
      exact o_join (sub_ren [] [2] (by decide) rfl .nil (Nat.le_of_ble_eq_true rfl))
    · refine og rfl rfl rfl ?_
      refine og (v := .c (.d (.lit (.bool (decide (f_0 < 4)))))) rfl rfl rfl ?_
      iterate 2 refine o1 rfl ?_
      exact o_join (sub_ren [] [2] (by decide) rfl .nil (Nat.le_of_ble_eq_true rfl))
  · intro s hs3
    refine after_n ?_
    refine W.sub hs3 ?_
    refine w_ret ?_
    obtain rfl := Option.some.inj hp
    exact leave_at rfl rfl (pr_c p_d pr_nil) pc_nil rfl rfl

/- turnout/packet.With -/
def k86 : CC :=
  (.seq
  (.region [
    ⟨some 3, .box, [(.tmp 0)], none⟩,
    ⟨some 6, (.alloc [(.int .i64 0), (.int .i64 0), (.int .i64 0), (.int .i64 0)]), [], none⟩] [1, 2, 3, 6])
  (.seq
  (.seq
  (.region [
    ⟨some 7, .mv, [(.tmp 1)], none⟩,
    ⟨some 8, (.call true []), [(.func 100), (.tmp 7)], none⟩,
    ⟨some 9, .mv, [(.tmp 8)], none⟩,
    ⟨some 10, .mv, [(.tmp 2)], (some (9, true))⟩,
    ⟨some 11, (.bin .geq), [(.tmp 10), (.const (.int .i64 0))], (some (9, true))⟩,
    ⟨some 12, .pick, [(.tmp 9), (.tmp 11), (.const (.bool false))], none⟩,
    ⟨some 13, .mv, [(.tmp 12)], none⟩,
    ⟨some 14, .mv, [(.tmp 2)], (some (13, true))⟩,
    ⟨some 15, .mv, [(.tmp 1)], (some (13, true))⟩,
    ⟨some 16, (.call true []), [(.func 101), (.tmp 15)], (some (13, true))⟩,
    ⟨some 17, (.bin .leq), [(.tmp 14), (.tmp 16)], (some (13, true))⟩,
    ⟨some 18, .pick, [(.tmp 13), (.tmp 17), (.const (.bool false))], none⟩] [1, 2, 3, 6, 18])
  (.cond (.tmp 18)
    (.region [
      ⟨some 19, .mv, [(.tmp 1)], none⟩,
      ⟨some 20, .mv, [(.tmp 2)], none⟩,
      ⟨some 21, (.indexAddr (some 4) 1), [(.tmp 3), (.tmp 19)], none⟩,
      ⟨none, (.store 1), [(.tmp 21), (.tmp 20)], none⟩] [3, 6])
    .skip))
  (.seq
  (.region [
    ⟨some 22, (.load true 4), [(.tmp 3)], none⟩,
    ⟨none, (.store 4), [(.tmp 6), (.tmp 22)], none⟩] [6])
  .ret)))
def f86 : Ev.Fn := ⟨3, 23, [.cell 6 true 4], k86⟩
set_option maxRecDepth 100000 in
theorem e86 : compFn prog sig 86 3 [[1, 2, 3, 6], [1, 2, 3, 6, 18], [3, 6], [6]] = some f86 := by kernel_rfl
noncomputable def packet_With (p_0 : A4_Int) (f_1 : Int) (v_2 : Int) : Option (A4_Int) :=
  ((packet_is f_1).bind fun r7 =>
  (bif r7 then (bif decide (v_2 ≥ 0) then ((packet_Top f_1).bind fun r9 =>
  some (decide (v_2 ≤ r9))) else (some false)) else (some false)).bind fun b11 =>
  bif b11 then ((ixI f_1 4).bind fun n17 =>
  some (gt ([p_0.e0, p_0.e1, p_0.e2, p_0.e3].set n17 v_2) 0, gt ([p_0.e0, p_0.e1, p_0.e2, p_0.e3].set n17 v_2) 1, gt ([p_0.e0, p_0.e1, p_0.e2, p_0.e3].set n17 v_2) 2, gt ([p_0.e0, p_0.e1, p_0.e2, p_0.e3].set n17 v_2) 3)) else
  (some (p_0.e0, p_0.e1, p_0.e2, p_0.e3)) : Option ((Int × Int × Int × Int))).bind fun (i1, i2, i3, i4) =>
  some (⟨i1, i2, i3, i4⟩ : A4_Int)
theorem packet_With_ok {p_0 : A4_Int} {f_1 : Int} {v_2 : Int} {z : A4_Int} (hp : packet_With p_0 f_1 v_2 = some z) : Good prog 86 [.agg (c_A4_Int p_0), .d (.lit (.int .i64 f_1)), .d (.lit (.int .i64 v_2))] [.agg [.d (.lit (.int .i64 z.e0)), .d (.lit (.int .i64 z.e1)), .d (.lit (.int .i64 z.e2)), .d (.lit (.int .i64 z.e3))]] [] := by
  unfold packet_With at hp
  refine fn_good mixed e86 (fnS (m := [false]) (s := ⟨[(0, .agg [.d (.lit (.int .i64 p_0.e0)), .d (.lit (.int .i64 p_0.e1)), .d (.lit (.int .i64 p_0.e2)), .d (.lit (.int .i64 p_0.e3))]), (1, .c (.d (.lit (.int .i64 f_1)))), (2, .c (.d (.lit (.int .i64 v_2))))], [], 0, []⟩) (len := 0) (c := k86) rfl (Sub.of_eq rfl) rfl rfl ?_)
  refine w_seq ?_
  refine w_region ?_
  refine o2 rfl ?_
  refine o2 rfl ?_
  refine o_end (e' := [(1, .c (.d (.lit (.int .i64 f_1)))), (2, .c (.d (.lit (.int .i64 v_2)))), (3, .c (.op 0 0)), (6, .c (.op 1 0))]) rfl rfl ?_
  refine after_n ?_
  refine w_seq ?_
  obtain ⟨x6, h5, hp⟩ := bnd hp
  refine W.mono (Q := Jn (fun (x : (Int × Int × Int × Int)) o s => match x with | (i1, i2, i3, i4) => o = Out.normal ∧ Sub s ⟨[(3, .c (.op 0 0)), (6, .c (.op 1 0))], [(0, some (.box [.d (.lit (.int .i64 i1)), .d (.lit (.int .i64 i2)), .d (.lit (.int .i64 i3)), .d (.lit (.int .i64 i4))])), (1, some (.box [.d (.lit (.int .i64 0)), .d (.lit (.int .i64 0)), .d (.lit (.int .i64 0)), .d (.lit (.int .i64 0))]))], 2, []⟩) x6) ?_ ?_
  · intro o s hs19
    obtain ⟨i1, i2, i3, i4⟩ := x6
    obtain ⟨rfl, hs19⟩ := hs19
    refine after_n ?_
    refine W.sub hs19 ?_
    refine w_seq ?_
    refine w_region ?_
    refine o1 rfl ?_
    refine o0 rfl ?_
    refine o_end (e' := [(6, .c (.op 1 0))]) rfl rfl ?_
    refine after_n ?_
    refine w_ret ?_
    obtain rfl := Option.some.inj hp
    exact leave_at rfl rfl (pr_agg (pl_cons p_d (pl_cons p_d (pl_cons p_d (pl_cons p_d pl_nil)))) pr_nil) pc_nil rfl rfl
  · refine w_seq ?_
    obtain ⟨r7, h8, h5⟩ := bnd h5
    obtain ⟨b11, h12, h5⟩ := bnd h5
    refine w_join (J := fun s => Sub s ⟨[(1, .c (.d (.lit (.int .i64 f_1)))), (2, .c (.d (.lit (.int .i64 v_2)))), (3, .c (.op 0 0)), (6, .c (.op 1 0)), (18, .c (.d (.lit (.bool b11))))], [(0, some (.box [.d (.lit (.int .i64 p_0.e0)), .d (.lit (.int .i64 p_0.e1)), .d (.lit (.int .i64 p_0.e2)), .d (.lit (.int .i64 p_0.e3))])), (1, some (.box [.d (.lit (.int .i64 0)), .d (.lit (.int .i64 0)), .d (.lit (.int .i64 0)), .d (.lit (.int .i64 0))]))], 2, []⟩) ?_ ?_
    · refine w_region ?_
      refine o1 rfl ?_
      refine oc (rs := [.c (.d (.lit (.bool r7)))]) (outs := []) rfl (packet_is_ok h8) rfl ?_
      refine o1 rfl ?_
      cases hb13 : (r7 : Bool)
      · have h12 := cnd_f hb13 h12
        iterate 2 refine onot rfl rfl ?_
        iterate 2 refine o1 rfl ?_
        iterate 4 refine onot rfl rfl ?_
        refine o1 rfl ?_
        cases h12
        exact o_join (sub_ren [0, 1] [1, 2, 3, 6, 18] (by decide) rfl (.cons (.cons .nil)) (Nat.le_of_ble_eq_true rfl))
      · have h12 := cnd_t hb13 h12
        refine og rfl rfl rfl ?_
        refine og (v := .c (.d (.lit (.bool (decide (v_2 ≥ 0)))))) rfl rfl rfl ?_
        iterate 2 refine o1 rfl ?_
        cases hb14 : (decide (v_2 ≥ 0) : Bool)
        · have h12 := cnd_f hb14 h12
          iterate 4 refine onot rfl rfl ?_
          refine o1 rfl ?_
          cases h12
          exact o_join (sub_ren [0, 1] [1, 2, 3, 6, 18] (by decide) rfl (.cons (.cons .nil)) (Nat.le_of_ble_eq_true rfl))
        · have h12 := cnd_t hb14 h12
          obtain ⟨r9, h10, h12⟩ := bnd h12
          iterate 2 refine og rfl rfl rfl ?_
          refine ocg (rs := [.c (.d (.lit (.int .i64 r9)))]) (outs := []) rfl rfl rfl (packet_Top_ok h10) rfl ?_
          refine og (v := .c (.d (.lit (.bool (decide (v_2 ≤ r9)))))) rfl rfl rfl ?_
          refine o1 rfl ?_
          cases h12
          exact o_join (sub_ren [0, 1] [1, 2, 3, 6, 18] (by decide) rfl (.cons (.cons .nil)) (Nat.le_of_ble_eq_true rfl))
    · intro s hs15
      refine after_n ?_
      refine W.sub hs15 ?_
      refine w_cond (t := b11) rfl (fun hb16 => ?_) (fun hb16 => ?_)
      · have h5 := cnd_t hb16 h5
        obtain ⟨n17, h18, h5⟩ := bnd h5
        refine w_region ?_
        iterate 2 refine o1 rfl ?_
        refine o1 (ix_ar h18) ?_
        refine o0 (u := [(0, some (.box [.d (.lit (.int .i64 (gt ([p_0.e0, p_0.e1, p_0.e2, p_0.e3].set n17 v_2) 0))), .d (.lit (.int .i64 (gt ([p_0.e0, p_0.e1, p_0.e2, p_0.e3].set n17 v_2) 1))), .d (.lit (.int .i64 (gt ([p_0.e0, p_0.e1, p_0.e2, p_0.e3].set n17 v_2) 2))), .d (.lit (.int .i64 (gt ([p_0.e0, p_0.e1, p_0.e2, p_0.e3].set n17 v_2) 3)))]))]) (v := .tup []) (ids := [0]) (m := 2) (by apply ar4 (ixI_some.1 h18).2 <;> rfl) ?_
        refine o_end (e' := [(3, .c (.op 0 0)), (6, .c (.op 1 0))]) rfl rfl ?_
        obtain rfl := Option.some.inj h5
        exact And.intro rfl (sub_ren [0, 1] [3, 6] (by decide) rfl (.cons (.cons .nil)) (Nat.le_of_ble_eq_true rfl))
      · have h5 := cnd_f hb16 h5
        refine w_skip ?_
        obtain rfl := Option.some.inj h5
        exact And.intro rfl (sub_ren [0, 1] [3, 6] (by decide) rfl (.cons (.cons .nil)) (Nat.le_of_ble_eq_true rfl))

/- turnout/act.Run -/
def k57 : CC :=
  (.seq
  (.region [
    ⟨some 3, .box, [(.tmp 1)], none⟩,
    ⟨some 4, .mv, [(.const (.slice none 0 0))], none⟩] [0, 3])
  (.seq
  (.region [
    ⟨some 5, .mv, [(.const (.slice none 0 0))], none⟩] [0, 3, 5])
  (.seq
  (.region [
    ⟨some 9, (.load true 4), [(.tmp 3)], none⟩,
    ⟨some 6, (.alloc [(.int .i64 0), (.int .i64 0), (.int .i64 0), (.int .i64 0)]), [], none⟩,
    ⟨none, (.store 4), [(.tmp 6), (.tmp 9)], none⟩] [0, 3, 5, 6])
  (.seq
  (.seq
  (.region [
    ⟨some 10, .mv, [(.tmp 0)], none⟩,
    ⟨some 11, (.len false), [(.tmp 10)], none⟩,
    ⟨some 12, .mv, [(.const (.int .i64 0))], none⟩] [3, 5, 6, 10, 11, 12])
  (.block 0
    (.loop [3, 5, 6, 10, 11, 12]
      (.seq
      (.region [
        ⟨some 13, (.bin .lss), [(.tmp 12), (.tmp 11)], none⟩] [3, 5, 6, 10, 11, 12, 13])
      (.seq
      (.cond (.tmp 13)
        .skip
        (.exit 0))
      (.seq
      (.block 1
        (.seq
        (.region [
          ⟨some 14, (.indexAddr none 3), [(.tmp 10), (.tmp 12)], none⟩,
          ⟨some 15, (.load true 3), [(.tmp 14)], none⟩,
          ⟨some 8, (.alloc [(.int .i64 0), (.int .i64 0), (.int .i64 0)]), [], none⟩,
          ⟨none, (.store 3), [(.tmp 8), (.tmp 15)], none⟩] [3, 5, 6, 8, 10, 11, 12])
        (.seq
        (.region [
          ⟨some 16, (.fieldAddr 0), [(.tmp 8)], none⟩,
          ⟨some 17, (.load false 1), [(.tmp 16)], none⟩] [3, 5, 6, 8, 10, 11, 12, 17])
        (.block 2
          (.seq
          (.region [
            ⟨some 19, (.bin .eql), [(.tmp 17), (.const (.int .i64 3))], none⟩,
            ⟨some 18, .mv, [(.tmp 19)], none⟩] [3, 5, 6, 8, 10, 11, 12, 17, 18])
          (.cond (.tmp 18)
            (.region [
              ⟨some 20, (.load true 4), [(.tmp 6)], none⟩,
              ⟨none, (.store 4), [(.tmp 3), (.tmp 20)], none⟩] [3, 5, 6, 10, 11, 12])
            (.seq
            (.region [
              ⟨some 22, (.bin .eql), [(.tmp 17), (.const (.int .i64 1))], none⟩,
              ⟨some 21, .mv, [(.tmp 22)], none⟩] [3, 5, 6, 8, 10, 11, 12, 17, 21])
            (.cond (.tmp 21)
              (.region [
                ⟨some 23, (.load true 4), [(.tmp 3)], none⟩,
                ⟨some 24, (.fieldAddr 1), [(.tmp 8)], none⟩,
                ⟨some 25, (.load false 1), [(.tmp 24)], none⟩,
                ⟨some 26, (.fieldAddr 2), [(.tmp 8)], none⟩,
                ⟨some 27, (.load false 1), [(.tmp 26)], none⟩,
                ⟨some 28, (.call true []), [(.func 86), (.tmp 23), (.tmp 25), (.tmp 27)], none⟩,
                ⟨none, (.store 4), [(.tmp 3), (.tmp 28)], none⟩] [3, 5, 6, 10, 11, 12])
              (.seq
              (.region [
                ⟨some 30, (.bin .eql), [(.tmp 17), (.const (.int .i64 2))], none⟩,
                ⟨some 29, .mv, [(.tmp 30)], none⟩] [3, 5, 6, 8, 10, 11, 12, 29])
              (.cond (.tmp 29)
                (.region [
                  ⟨some 31, .mv, [(.tmp 5)], none⟩,
                  ⟨some 32, (.fieldAddr 2), [(.tmp 8)], none⟩,
                  ⟨some 33, (.load false 1), [(.tmp 32)], none⟩,
                  ⟨some 34, (.load true 4), [(.tmp 3)], none⟩,
                  ⟨some 35, (.build [(.int .i64 0), (.int .i64 0), (.int .i64 0), (.int .i64 0), (.int .i64 0)] [(0, 1), (1, 4)]), [(.tmp 33), (.tmp 34)], none⟩,
                  ⟨some 36, (.buildSlice 5 1 [(.int .i64 0), (.int .i64 0), (.int .i64 0), (.int .i64 0), (.int .i64 0)] [0]), [(.tmp 35)], none⟩,
                  ⟨some 37, (.append 5), [(.tmp 31), (.tmp 36)], none⟩,
                  ⟨some 5, .mv, [(.tmp 37)], none⟩] [3, 5, 6, 10, 11, 12])
                .skip))))))))))
      (.region [
        ⟨some 38, (.bin .add), [(.tmp 12), (.const (.int .i64 1))], none⟩,
        ⟨some 12, .mv, [(.tmp 38)], none⟩] [3, 5, 6, 10, 11, 12])))))))
  (.seq
  (.region [
    ⟨some 39, .mv, [(.tmp 5)], none⟩,
    ⟨some 4, .mv, [(.tmp 39)], none⟩] [4])
  .ret)))))
def f57 : Ev.Fn := ⟨2, 40, [.tmp 4], k57⟩
set_option maxRecDepth 100000 in
theorem e57 : compFn prog sig 57 2 [[0, 3], [0, 3, 5], [0, 3, 5, 6], [3, 5, 6, 10, 11, 12], [3, 5, 6, 10, 11, 12], [3, 5, 6, 10, 11, 12, 13], [3, 5, 6, 8, 10, 11, 12], [3, 5, 6, 8, 10, 11, 12, 17], [3, 5, 6, 8, 10, 11, 12, 17, 18], [3, 5, 6, 10, 11, 12], [3, 5, 6, 8, 10, 11, 12, 17, 21], [3, 5, 6, 10, 11, 12], [3, 5, 6, 8, 10, 11, 12, 29], [3, 5, 6, 10, 11, 12], [3, 5, 6, 10, 11, 12], [4]] = some f57 := by kernel_rfl
noncomputable def act_Run_L1 (l_0 : Sl api_Act) (p_1 : A4_Int) : (Int × Int × Int × Int × Sl api_Sent × Int) → Option (Sum ((Int × Int × Int × Int × Sl api_Sent × Int)) (Sl api_Sent)) := fun (i1, i2, i3, i4, s5, i6) =>
  bif decide (i6 < (l_0.l.length : Int)) then (((ixI i6 l_0.l.length).bind fun n24 =>
  bif (((gt l_0.l n24).Kind) == 3) then (some (p_1.e0, p_1.e1, p_1.e2, p_1.e3, s5)) else
  (bif (((gt l_0.l n24).Kind) == 1) then ((packet_With (⟨i1, i2, i3, i4⟩ : A4_Int) ((gt l_0.l n24).F) ((gt l_0.l n24).V)).bind fun r28 =>
  some (r28.e0, r28.e1, r28.e2, r28.e3, s5)) else
  (bif (((gt l_0.l n24).Kind) == 2) then ((capI (s5.l ++ [(⟨(gt l_0.l n24).V, (⟨i1, i2, i3, i4⟩ : A4_Int)⟩ : api_Sent)])).bind fun l31 =>
  some (i1, i2, i3, i4, (Sl.mk l31))) else
  (some (i1, i2, i3, i4, s5)))) : Option ((Int × Int × Int × Int × Sl api_Sent))).bind fun (i17, i18, i19, i20, s21) =>
  some (.inl (i17, i18, i19, i20, s21, wr .i64 (i6 + 1)))) else
  (some (.inr s5))

noncomputable def act_Run (l_0 : Sl api_Act) (p_1 : A4_Int) : Option (Sl api_Sent) :=
  (loopO (act_Run_L1 l_0 p_1) (p_1.e0, p_1.e1, p_1.e2, p_1.e3, Sl.nil, 0)).bind fun s13 =>
  some s13
theorem act_Run_ok {l_0 : Sl api_Act} {p_1 : A4_Int} {z : Sl api_Sent} (hp : act_Run l_0 p_1 = some z) : Good prog 57 [.d (slD 3 c_api_Act l_0), .agg (c_A4_Int p_1)] [.c (.d (slD 5 c_api_Sent z))] [] := by
  unfold act_Run at hp
  refine fn_good mixed e57 (fnS (m := [true]) (s := ⟨[(0, .c (.d (slD 3 c_api_Act l_0))), (1, .agg [.d (.lit (.int .i64 p_1.e0)), .d (.lit (.int .i64 p_1.e1)), .d (.lit (.int .i64 p_1.e2)), .d (.lit (.int .i64 p_1.e3))])], [], 0, []⟩) (len := 0) (c := k57) rfl (Sub.of_eq rfl) rfl rfl ?_)
  refine w_seq ?_
  refine w_region ?_
  refine o2 rfl ?_
  refine o1 rfl ?_
  refine o_end (e' := [(0, .c (.d (slD 3 c_api_Act l_0))), (3, .c (.op 0 0))]) rfl rfl ?_
  refine after_n ?_
  refine w_seq ?_
  refine w_region ?_
  refine o1 rfl ?_
  refine o_end (e' := [(0, .c (.d (slD 3 c_api_Act l_0))), (3, .c (.op 0 0)), (5, .c (.d (.lit (.slice none 0 0))))]) rfl rfl ?_
  refine after_n ?_
  refine w_seq ?_
  refine w_region ?_
  refine o1 rfl ?_
  refine o2 rfl ?_
  refine o0 rfl ?_
  refine o_end (e' := [(0, .c (.d (slD 3 c_api_Act l_0))), (3, .c (.op 0 0)), (5, .c (.d (.lit (.slice none 0 0)))), (6, .c (.op 1 0))]) rfl rfl ?_
  refine after_n ?_
  refine w_seq ?_
  refine w_seq ?_
  refine w_region ?_
  refine o1 rfl ?_
  refine o1 (v := .c (.d (.lit (.int .i64 (l_0.l.length : Int))))) len_sd ?_
  refine o1 rfl ?_
  refine o_end (e' := [(3, .c (.op 0 0)), (5, .c (.d (.lit (.slice none 0 0)))), (6, .c (.op 1 0)), (10, .c (.d (slD 3 c_api_Act l_0))), (11, .c (.d (.lit (.int .i64 (l_0.l.length : Int))))), (12, .c (.d (.lit (.int .i64 0))))]) rfl rfl ?_
  refine after_n ?_
  refine w_block ?_
  obtain ⟨s13, h15, hp⟩ := bnd hp
  refine W.mono ?_ (w_loopS (st := fun (v : (Int × Int × Int × Int × Sl api_Sent × Int)) => match v with | (i1, i2, i3, i4, s5, i6) => ⟨[(3, .c (.op 0 0)), (5, .c (slC 5 c_api_Sent 1 s5)), (6, .c (.op 2 0)), (10, .c (.d (slD 3 c_api_Act l_0))), (11, .c (.d (.lit (.int .i64 (l_0.l.length : Int))))), (12, .c (.d (.lit (.int .i64 i6))))], [(0, some (.box [.d (.lit (.int .i64 i1)), .d (.lit (.int .i64 i2)), .d (.lit (.int .i64 i3)), .d (.lit (.int .i64 i4))])), (1, slO 5 c_api_Sent s5), (2, some (.box [.d (.lit (.int .i64 p_1.e0)), .d (.lit (.int .i64 p_1.e1)), .d (.lit (.int .i64 p_1.e2)), .d (.lit (.int .i64 p_1.e3))]))], 3, []⟩) (a := (p_1.e0, p_1.e1, p_1.e2, p_1.e3, Sl.nil, 0)) (Q := Jn (fun (x : Sl api_Sent) o s => match x with | s13 => o = Out.exit 0 ∧ Sub s ⟨[(5, .c (slC 5 c_api_Sent 0 s13))], [(0, slO 5 c_api_Sent s13)], 1, []⟩)) ?_ h15 ?_)
  · intro o s hs35
    obtain ⟨rfl, hs35⟩ := hs35
    refine out_e ?_
    refine after_n ?_
    refine W.sub hs35 ?_
    refine w_seq ?_
    refine w_region ?_
    iterate 2 refine o1 rfl ?_
    refine o_end (e' := [(4, .c (slC 5 c_api_Sent 0 s13))]) rfl rfl ?_
    refine after_n ?_
    refine w_ret ?_
    obtain rfl := Option.some.inj hp
    rcases s13 with _ | s13'
    · exact leave_at rfl rfl (pr_c p_d pr_nil) pc_nil rfl rfl
    · exact leave_at rfl rfl (pr_c (p_o rfl) pr_nil) pc_nil rfl rfl
  · exact (sub_ren [0, 9001, 1] [3, 5, 6, 10, 11, 12] (by decide) rfl (.cons (.skip (.cons .nil))) (Nat.le_of_ble_eq_true rfl))
  · rintro ⟨i1, i2, i3, i4, s5, i6⟩ r hr
    unfold act_Run_L1 at hr
    refine w_seq ?_
    refine w_region ?_
    refine o1 (v := .c (.d (.lit (.bool (decide (i6 < (l_0.l.length : Int))))))) rfl ?_
    refine o_end (e' := [(3, .c (.op 0 0)), (5, .c (slC 5 c_api_Sent 1 s5)), (6, .c (.op 2 0)), (10, .c (.d (slD 3 c_api_Act l_0))), (11, .c (.d (.lit (.int .i64 (l_0.l.length : Int))))), (12, .c (.d (.lit (.int .i64 i6)))), (13, .c (.d (.lit (.bool (decide (i6 < (l_0.l.length : Int)))))))]) rfl rfl ?_
    refine after_n ?_
    refine w_seq ?_
    refine w_cond (t := decide (i6 < (l_0.l.length : Int))) rfl (fun hb16 => ?_) (fun hb16 => ?_)
    · have hr := cnd_t hb16 hr
      refine w_skip ?_
      refine after_n ?_
      refine w_seq ?_
      obtain ⟨x23, h22, hr⟩ := bnd hr
      refine W.mono (Q := Jn (fun (x : (Int × Int × Int × Int × Sl api_Sent)) o s => match x with | (i17, i18, i19, i20, s21) => o = Out.normal ∧ Sub s ⟨[(3, .c (.op 0 0)), (5, .c (slC 5 c_api_Sent 1 s21)), (6, .c (.op 2 0)), (10, .c (.d (slD 3 c_api_Act l_0))), (11, .c (.d (.lit (.int .i64 (l_0.l.length : Int))))), (12, .c (.d (.lit (.int .i64 i6))))], [(0, some (.box [.d (.lit (.int .i64 i17)), .d (.lit (.int .i64 i18)), .d (.lit (.int .i64 i19)), .d (.lit (.int .i64 i20))])), (1, slO 5 c_api_Sent s21), (2, some (.box [.d (.lit (.int .i64 p_1.e0)), .d (.lit (.int .i64 p_1.e1)), .d (.lit (.int .i64 p_1.e2)), .d (.lit (.int .i64 p_1.e3))]))], 3, []⟩) x23) ?_ ?_
      · intro o s hs34
        obtain ⟨i17, i18, i19, i20, s21⟩ := x23
        obtain ⟨rfl, hs34⟩ := hs34
        refine after_n ?_
        refine W.sub hs34 ?_
        refine w_region ?_
        refine o1 (v := .c (.d (.lit (.int .i64 (wr .i64 (i6 + 1)))))) rfl ?_
        refine o1 rfl ?_
        refine o_end (e' := [(3, .c (.op 0 0)), (5, .c (slC 5 c_api_Sent 1 s21)), (6, .c (.op 2 0)), (10, .c (.d (slD 3 c_api_Act l_0))), (11, .c (.d (.lit (.int .i64 (l_0.l.length : Int))))), (12, .c (.d (.lit (.int .i64 (wr .i64 (i6 + 1))))))]) rfl rfl ?_
        obtain rfl := Option.some.inj hr
        exact And.intro rfl (by rcases s21 with _ | _ <;> first | (exact sub_ren [0, 9001, 2] [3, 5, 6, 10, 11, 12] (by decide) rfl (.cons (.skip (.cons .nil))) (Nat.le_of_ble_eq_true rfl)) | (exact sub_ren [0, 1, 2] [3, 5, 6, 10, 11, 12] (by decide) rfl (.cons (.cons (.cons .nil))) (Nat.le_of_ble_eq_true rfl)))
      · refine w_block ?_
        refine w_seq ?_
        obtain ⟨n24, h25, h22⟩ := bnd h22
        refine w_region ?_
        refine o1 (ix_sd h25) ?_
        refine o1 rfl ?_
        refine o2 rfl ?_
        refine o0 rfl ?_
        refine o_end (e' := [(3, .c (.op 0 0)), (5, .c (slC 5 c_api_Sent 1 s5)), (6, .c (.op 2 0)), (8, .c (.op 3 0)), (10, .c (.d (slD 3 c_api_Act l_0))), (11, .c (.d (.lit (.int .i64 (l_0.l.length : Int))))), (12, .c (.d (.lit (.int .i64 i6))))]) rfl rfl ?_
        refine after_n ?_
        refine w_seq ?_
        refine w_region ?_
        iterate 2 refine o1 rfl ?_
        refine o_end (e' := [(3, .c (.op 0 0)), (5, .c (slC 5 c_api_Sent 1 s5)), (6, .c (.op 2 0)), (8, .c (.op 3 0)), (10, .c (.d (slD 3 c_api_Act l_0))), (11, .c (.d (.lit (.int .i64 (l_0.l.length : Int))))), (12, .c (.d (.lit (.int .i64 i6)))), (17, .c (.d (.lit (.int .i64 ((gt l_0.l n24).Kind)))))]) rfl rfl ?_
        refine after_n ?_
        refine w_block ?_
        refine w_seq ?_
        refine w_region ?_
        refine o1 (v := .c (.d (.lit (.bool (((gt l_0.l n24).Kind) == 3))))) rfl ?_
        refine o1 rfl ?_
        refine o_end (e' := [(3, .c (.op 0 0)), (5, .c (slC 5 c_api_Sent 1 s5)), (6, .c (.op 2 0)), (8, .c (.op 3 0)), (10, .c (.d (slD 3 c_api_Act l_0))), (11, .c (.d (.lit (.int .i64 (l_0.l.length : Int))))), (12, .c (.d (.lit (.int .i64 i6)))), (17, .c (.d (.lit (.int .i64 ((gt l_0.l n24).Kind))))), (18, .c (.d (.lit (.bool (((gt l_0.l n24).Kind) == 3)))))]) rfl rfl ?_
        refine after_n ?_
        refine w_cond (t := (((gt l_0.l n24).Kind) == 3)) rfl (fun hb26 => ?_) (fun hb26 => ?_)
        · have h22 := cnd_t hb26 h22
          refine w_region ?_
          refine o1 rfl ?_
          refine o0 rfl ?_
          refine o_end (e' := [(3, .c (.op 0 0)), (5, .c (slC 5 c_api_Sent 1 s5)), (6, .c (.op 2 0)), (10, .c (.d (slD 3 c_api_Act l_0))), (11, .c (.d (.lit (.int .i64 (l_0.l.length : Int))))), (12, .c (.d (.lit (.int .i64 i6))))]) rfl rfl ?_
          refine out_n ?_
          refine out_n ?_
          obtain rfl := Option.some.inj h22
          exact And.intro rfl (by rcases s5 with _ | _ <;> first | (exact sub_ren [0, 9001, 2] [3, 5, 6, 10, 11, 12] (by decide) rfl (.cons (.skip (.cons .nil))) (Nat.le_of_ble_eq_true rfl)) | (exact sub_ren [0, 1, 2] [3, 5, 6, 10, 11, 12] (by decide) rfl (.cons (.cons (.cons .nil))) (Nat.le_of_ble_eq_true rfl)))
        · have h22 := cnd_f hb26 h22
          refine w_seq ?_
          refine w_region ?_
          refine o1 (v := .c (.d (.lit (.bool (((gt l_0.l n24).Kind) == 1))))) rfl ?_
          refine o1 rfl ?_
          refine o_end (e' := [(3, .c (.op 0 0)), (5, .c (slC 5 c_api_Sent 1 s5)), (6, .c (.op 2 0)), (8, .c (.op 3 0)), (10, .c (.d (slD 3 c_api_Act l_0))), (11, .c (.d (.lit (.int .i64 (l_0.l.length : Int))))), (12, .c (.d (.lit (.int .i64 i6)))), (17, .c (.d (.lit (.int .i64 ((gt l_0.l n24).Kind))))), (21, .c (.d (.lit (.bool (((gt l_0.l n24).Kind) == 1)))))]) rfl rfl ?_
          refine after_n ?_
          refine w_cond (t := (((gt l_0.l n24).Kind) == 1)) rfl (fun hb27 => ?_) (fun hb27 => ?_)
          · have h22 := cnd_t hb27 h22
            obtain ⟨r28, h29, h22⟩ := bnd h22
            refine w_region ?_
            iterate 5 refine o1 rfl ?_
            refine oc (rs := [.agg [.d (.lit (.int .i64 r28.e0)), .d (.lit (.int .i64 r28.e1)), .d (.lit (.int .i64 r28.e2)), .d (.lit (.int .i64 r28.e3))]]) (outs := []) rfl (packet_With_ok h29) rfl ?_
            refine o0 rfl ?_
            refine o_end (e' := [(3, .c (.op 0 0)), (5, .c (slC 5 c_api_Sent 1 s5)), (6, .c (.op 2 0)), (10, .c (.d (slD 3 c_api_Act l_0))), (11, .c (.d (.lit (.int .i64 (l_0.l.length : Int))))), (12, .c (.d (.lit (.int .i64 i6))))]) rfl rfl ?_
            refine out_n ?_
            refine out_n ?_
            obtain rfl := Option.some.inj h22
            exact And.intro rfl (by rcases s5 with _ | _ <;> first | (exact sub_ren [0, 9001, 2] [3, 5, 6, 10, 11, 12] (by decide) rfl (.cons (.skip (.cons .nil))) (Nat.le_of_ble_eq_true rfl)) | (exact sub_ren [0, 1, 2] [3, 5, 6, 10, 11, 12] (by decide) rfl (.cons (.cons (.cons .nil))) (Nat.le_of_ble_eq_true rfl)))
          · have h22 := cnd_f hb27 h22
            refine w_seq ?_
            refine w_region ?_
            refine o1 (v := .c (.d (.lit (.bool (((gt l_0.l n24).Kind) == 2))))) rfl ?_
            refine o1 rfl ?_
            refine o_end (e' := [(3, .c (.op 0 0)), (5, .c (slC 5 c_api_Sent 1 s5)), (6, .c (.op 2 0)), (8, .c (.op 3 0)), (10, .c (.d (slD 3 c_api_Act l_0))), (11, .c (.d (.lit (.int .i64 (l_0.l.length : Int))))), (12, .c (.d (.lit (.int .i64 i6)))), (29, .c (.d (.lit (.bool (((gt l_0.l n24).Kind) == 2)))))]) rfl rfl ?_
            refine after_n ?_
            refine w_cond (t := (((gt l_0.l n24).Kind) == 2)) rfl (fun hb30 => ?_) (fun hb30 => ?_)
            · have h22 := cnd_t hb30 h22
              obtain ⟨l31, h32, h22⟩ := bnd h22
              refine w_join (J := fun s => Sub s ⟨[(3, .c (.op 0 0)), (5, .c (slC 5 c_api_Sent 1 (Sl.mk l31))), (6, .c (.op 2 0)), (10, .c (.d (slD 3 c_api_Act l_0))), (11, .c (.d (.lit (.int .i64 (l_0.l.length : Int))))), (12, .c (.d (.lit (.int .i64 i6))))], [(0, some (.box [.d (.lit (.int .i64 i1)), .d (.lit (.int .i64 i2)), .d (.lit (.int .i64 i3)), .d (.lit (.int .i64 i4))])), (1, slO 5 c_api_Sent (Sl.mk l31)), (2, some (.box [.d (.lit (.int .i64 p_1.e0)), .d (.lit (.int .i64 p_1.e1)), .d (.lit (.int .i64 p_1.e2)), .d (.lit (.int .i64 p_1.e3))]))], 3, []⟩) ?_ ?_
              · rcases s5 with _ | s5'
                · try dsimp only [slC, slO]
                  refine w_region ?_
                  iterate 5 refine o1 rfl ?_
                  refine o2 rfl ?_
                  refine o2 (app_nil (enc := c_api_Sent) rfl h32) ?_
                  refine o1 rfl ?_
                  exact o_join (sub_ren [0, 5, 2] [3, 5, 6, 10, 11, 12] (by decide) rfl (.cons (.cons (.cons .nil))) (Nat.le_of_ble_eq_true rfl))
                · try dsimp only [slC, slO]
                  refine w_region ?_
                  iterate 5 refine o1 rfl ?_
                  refine o2 rfl ?_
                  refine o2 (app_o rfl rfl h32) ?_
                  refine o1 rfl ?_
                  exact o_join (sub_ren [0, 5, 2] [3, 5, 6, 10, 11, 12] (by decide) rfl (.cons (.cons (.cons .nil))) (Nat.le_of_ble_eq_true rfl))
              · intro s hs33
                refine out_n ?_
                refine out_n ?_
                obtain rfl := Option.some.inj h22
                exact And.intro rfl (Sub.trans hs33 (sub_ren [0, 1, 2] [3, 5, 6, 10, 11, 12] (by decide) rfl (.cons (.cons (.cons .nil))) (Nat.le_of_ble_eq_true rfl)))
            · have h22 := cnd_f hb30 h22
              refine w_skip ?_
              refine out_n ?_
              refine out_n ?_
              obtain rfl := Option.some.inj h22
              exact And.intro rfl (by rcases s5 with _ | _ <;> first | (exact sub_ren [0, 9001, 2] [3, 5, 6, 10, 11, 12] (by decide) rfl (.cons (.skip (.cons .nil))) (Nat.le_of_ble_eq_true rfl)) | (exact sub_ren [0, 1, 2] [3, 5, 6, 10, 11, 12] (by decide) rfl (.cons (.cons (.cons .nil))) (Nat.le_of_ble_eq_true rfl)))
    · have hr := cnd_f hb16 hr
      refine w_exit ?_
      refine after_e ?_
      obtain rfl := Option.some.inj hr
      exact And.intro nofun (And.intro rfl (by rcases s5 with _ | _ <;> first | (exact sub_ren [9000] [5] (by decide) rfl (.skip .nil) (Nat.le_of_ble_eq_true rfl)) | (exact sub_ren [1] [5] (by decide) rfl (.cons .nil) (Nat.le_of_ble_eq_true rfl))))

/- turnout/table.Run -/
def k19 : CC :=
  (.seq
  (.region [
    ⟨some 5, .box, [(.tmp 2)], none⟩,
    ⟨some 6, .mv, [(.const (.slice none 0 0))], none⟩] [0, 1, 5])
  (.seq
  (.region [
    ⟨some 8, .mv, [(.tmp 0)], none⟩,
    ⟨some 9, .mv, [(.tmp 1)], none⟩,
    ⟨some 10, (.load true 4), [(.tmp 5)], none⟩,
    ⟨some 11, (.call true []), [(.func 56), (.tmp 8), (.tmp 9), (.tmp 10)], none⟩,
    ⟨some 7, .mv, [(.tmp 11)], none⟩] [0, 5, 7])
  (.seq
  (.seq
  (.region [
    ⟨some 12, .mv, [(.tmp 7)], none⟩,
    ⟨some 13, (.bin .lss), [(.tmp 12), (.const (.int .i64 0))], none⟩] [0, 5, 7, 13])
  (.cond (.tmp 13)
    (.seq
    (.region [
      ⟨some 6, .mv, [(.const (.slice none 0 0))], none⟩] [6])
    .ret)
    .skip))
  (.seq
  (.drawn [
    ⟨some 14, .mv, [(.tmp 0)], none⟩,
    ⟨some 15, .mv, [(.tmp 7)], none⟩,
    ⟨some 16, (.indexAddr none 11), [(.tmp 14), (.tmp 15)], none⟩,
    ⟨some 17, (.fieldAddr 10), [(.tmp 16)], none⟩,
    ⟨some 18, (.load false 1), [(.tmp 17)], none⟩,
    ⟨some 19, (.load true 4), [(.tmp 5)], none⟩,
    ⟨some 20, (.call false []), [(.func 57), (.tmp 18), (.tmp 19)], none⟩,
    ⟨some 6, .mv, [(.tmp 20)], none⟩] [] [6])
  .ret))))
def f19 : Ev.Fn := ⟨3, 21, [.tmp 6], k19⟩
set_option maxRecDepth 100000 in
theorem e19 : compFn prog sig 19 3 [[0, 1, 5], [0, 5, 7], [0, 5, 7, 13], [6], [6]] = some f19 := by kernel_rfl
noncomputable def table_Run (t_0 : Sl api_Rule) (port_1 : Int) (p_2 : A4_Int) : Option (Sl api_Sent) :=
  (table_Find t_0 port_1 p_2).bind fun r1 =>
  bif decide (r1 < 0) then (some Sl.nil) else
  ((ixI r1 t_0.l.length).bind fun n4 =>
  (act_Run ((gt t_0.l n4).Acts) p_2).bind fun r6 =>
  some r6)
theorem table_Run_ok {t_0 : Sl api_Rule} {port_1 : Int} {p_2 : A4_Int} {z : Sl api_Sent} (hp : table_Run t_0 port_1 p_2 = some z) : Good prog 19 [.d (slD 11 c_api_Rule t_0), .d (.lit (.int .i64 port_1)), .agg (c_A4_Int p_2)] [.c (.d (slD 5 c_api_Sent z))] [] := by
  unfold table_Run at hp
  refine fn_good mixed e19 (fnS (m := [true]) (s := ⟨[(0, .c (.d (slD 11 c_api_Rule t_0))), (1, .c (.d (.lit (.int .i64 port_1)))), (2, .agg [.d (.lit (.int .i64 p_2.e0)), .d (.lit (.int .i64 p_2.e1)), .d (.lit (.int .i64 p_2.e2)), .d (.lit (.int .i64 p_2.e3))])], [], 0, []⟩) (len := 0) (c := k19) rfl (Sub.of_eq rfl) rfl rfl ?_)
  refine w_seq ?_
  refine w_region ?_
  refine o2 rfl ?_
  refine o1 rfl ?_
  refine o_end (e' := [(0, .c (.d (slD 11 c_api_Rule t_0))), (1, .c (.d (.lit (.int .i64 port_1)))), (5, .c (.op 0 0))]) rfl rfl ?_
  refine after_n ?_
  refine w_seq ?_
  obtain ⟨r1, h2, hp⟩ := bnd hp
  refine w_region ?_
  iterate 3 refine o1 rfl ?_
  refine oc (rs := [.c (.d (.lit (.int .i64 r1)))]) (outs := []) rfl (table_Find_ok h2) rfl ?_
  refine o1 rfl ?_
  refine o_end (e' := [(0, .c (.d (slD 11 c_api_Rule t_0))), (5, .c (.op 0 0)), (7, .c (.d (.lit (.int .i64 r1))))]) rfl rfl ?_
  refine after_n ?_
  refine w_seq ?_
  refine w_seq ?_
  refine w_region ?_
  refine o1 rfl ?_
  refine o1 (v := .c (.d (.lit (.bool (decide (r1 < 0)))))) rfl ?_
  refine o_end (e' := [(0, .c (.d (slD 11 c_api_Rule t_0))), (5, .c (.op 0 0)), (7, .c (.d (.lit (.int .i64 r1)))), (13, .c (.d (.lit (.bool (decide (r1 < 0))))))]) rfl rfl ?_
  refine after_n ?_
  refine w_cond (t := decide (r1 < 0)) rfl (fun hb3 => ?_) (fun hb3 => ?_)
  · have hp := cnd_t hb3 hp
    refine w_seq ?_
    refine w_region ?_
    refine o1 rfl ?_
    refine o_end (e' := [(6, .c (.d (.lit (.slice none 0 0))))]) rfl rfl ?_
    refine after_n ?_
    refine w_ret ?_
    refine after_r ?_
    obtain rfl := Option.some.inj hp
    exact leave_at rfl rfl (pr_c p_d pr_nil) pc_nil rfl rfl
  · have hp := cnd_f hb3 hp
    refine w_skip ?_
    refine after_n ?_
    refine w_seq ?_
    obtain ⟨n4, h5, hp⟩ := bnd hp
    obtain ⟨r6, h7, hp⟩ := bnd hp
    refine w_drawn ?_
    iterate 2 refine d1 rfl ?_
    refine d1 (ix_sd h5) ?_
    iterate 3 refine d1 rfl ?_
    refine dc (rs := [.c (.d (slD 5 c_api_Sent r6))]) (outs := []) rfl (act_Run_ok h7) rfl (Nat.le_of_ble_eq_true rfl) ?_
    refine d1 rfl ?_
    refine d_fin (e' := [(6, .c (.d (slD 5 c_api_Sent r6)))]) (n' := 513) rfl rfl rfl rfl ?_
    refine after_n ?_
    refine w_ret ?_
    obtain rfl := Option.some.inj hp
    exact leave_at rfl rfl (pr_c p_d pr_nil) pc_nil rfl rfl

/- turnout/match.Right -/
def k87 : CC :=
  (.seq
  (.region [
    ⟨some 1, .box, [(.tmp 0)], none⟩,
    ⟨some 2, .mv, [(.const (.bool false))], none⟩] [1])
  (.seq
  (.seq
  (.region [
    ⟨some 5, (.fieldAddr 0), [(.tmp 1)], none⟩,
    ⟨some 6, (.load false 1), [(.tmp 5)], none⟩,
    ⟨some 7, (.bin .lss), [(.tmp 6), (.const (.int .i64 (-1)))], none⟩,
    ⟨some 8, .mv, [(.tmp 7)], none⟩,
    ⟨some 9, (.fieldAddr 0), [(.tmp 1)], (some (8, false))⟩,
    ⟨some 10, (.load false 1), [(.tmp 9)], (some (8, false))⟩,
    ⟨some 11, (.bin .geq), [(.tmp 10), (.const (.int .i64 8))], (some (8, false))⟩,
    ⟨some 12, .pick, [(.tmp 8), (.const (.bool true)), (.tmp 11)], none⟩] [1, 12])
  (.cond (.tmp 12)
    (.seq
    (.region [
      ⟨some 2, .mv, [(.const (.bool false))], none⟩] [2])
    .ret)
    .skip))
  (.seq
  (.seq
  (.region [
    ⟨some 13, (.fieldAddr 5), [(.tmp 1)], none⟩,
    ⟨some 14, (.load true 4), [(.tmp 13)], none⟩,
    ⟨some 15, .mv, [(.const (.int .i64 0))], none⟩] [1, 14, 15])
  (.block 0
    (.loop [1, 14, 15]
      (.seq
      (.region [
        ⟨some 16, (.bin .lss), [(.tmp 15), (.const (.int .i64 4))], none⟩] [1, 14, 15, 16])
      (.seq
      (.cond (.tmp 16)
        .skip
        (.exit 0))
      (.seq
      (.block 1
        (.seq
        (.region [
          ⟨some 17, .mv, [(.tmp 15)], none⟩,
          ⟨some 18, (.index false 4 1), [(.tmp 14), (.tmp 15)], none⟩,
          ⟨some 3, .mv, [(.tmp 17)], none⟩,
          ⟨some 4, .mv, [(.tmp 18)], none⟩] [1, 3, 4, 14, 15])
        (.seq
        (.region [
          ⟨some 19, .mv, [(.tmp 4)], none⟩,
          ⟨some 20, (.bin .lss), [(.tmp 19), (.const (.int .i64 0))], none⟩,
          ⟨some 21, .mv, [(.tmp 20)], none⟩,
          ⟨some 22, .mv, [(.tmp 4)], (some (21, false))⟩,
          ⟨some 23, .mv, [(.tmp 3)], (some (21, false))⟩,
          ⟨some 24, (.call true []), [(.func 101), (.tmp 23)], (some (21, false))⟩,
          ⟨some 25, (.bin .gtr), [(.tmp 22), (.tmp 24)], (some (21, false))⟩,
          ⟨some 26, .pick, [(.tmp 21), (.const (.bool true)), (.tmp 25)], none⟩,
          ⟨some 27, .mv, [(.tmp 26)], none⟩,
          ⟨some 28, .mv, [(.tmp 3)], (some (27, false))⟩,
          ⟨some 29, (.fieldAddr 1), [(.tmp 1)], (some (27, false))⟩,
          ⟨some 30, (.indexAddr (some 4) 1), [(.tmp 29), (.tmp 28)], (some (27, false))⟩,
          ⟨some 31, (.load false 1), [(.tmp 30)], (some (27, false))⟩,
          ⟨some 32, (.bin .lss), [(.tmp 31), (.const (.int .i64 0))], (some (27, false))⟩,
          ⟨some 33, .pick, [(.tmp 27), (.const (.bool true)), (.tmp 32)], none⟩,
          ⟨some 34, .mv, [(.tmp 33)], none⟩,
          ⟨some 35, .mv, [(.tmp 3)], (some (34, false))⟩,
          ⟨some 36, (.fieldAddr 1), [(.tmp 1)], (some (34, false))⟩,
          ⟨some 37, (.indexAddr (some 4) 1), [(.tmp 36), (.tmp 35)], (some (34, false))⟩,
          ⟨some 38, (.load false 1), [(.tmp 37)], (some (34, false))⟩,
          ⟨some 39, .mv, [(.tmp 4)], (some (34, false))⟩,
          ⟨some 40, (.bin .andNot), [(.tmp 38), (.tmp 39)], (some (34, false))⟩,
          ⟨some 41, (.bin .neq), [(.tmp 40), (.const (.int .i64 0))], (some (34, false))⟩,
          ⟨some 42, .pick, [(.tmp 34), (.const (.bool true)), (.tmp 41)], none⟩] [1, 14, 15, 42])
        (.cond (.tmp 42)
          (.seq
          (.region [
            ⟨some 2, .mv, [(.const (.bool false))], none⟩] [2])
          .ret)
          .skip))))
      (.region [
        ⟨some 43, (.bin .add), [(.tmp 15), (.const (.int .i64 1))], none⟩,
        ⟨some 15, .mv, [(.tmp 43)], none⟩] [1, 14, 15])))))))
  (.seq
  (.region [
    ⟨some 2, .mv, [(.const (.bool true))], none⟩] [2])
  .ret))))
def f87 : Ev.Fn := ⟨1, 44, [.tmp 2], k87⟩
set_option maxRecDepth 100000 in
theorem e87 : compFn prog sig 87 1 [[1], [1, 12], [2], [1, 14, 15], [1, 14, 15], [1, 14, 15, 16], [1, 3, 4, 14, 15], [1, 14, 15, 42], [2], [1, 14, 15], [2]] = some f87 := by kernel_rfl
noncomputable def match_Right_L1 (m_0 : api_Match) : Int → Option (Sum (Int) (Sum (Unit) (Unit))) := fun i5 =>
  bif decide (i5 < 4) then ((ixI i5 4).bind fun n10 =>
  (bif decide ((gt [m_0.Mask.e0, m_0.Mask.e1, m_0.Mask.e2, m_0.Mask.e3] n10) < 0) then (some true) else ((packet_Top i5).bind fun r12 =>
  bif decide ((gt [m_0.Mask.e0, m_0.Mask.e1, m_0.Mask.e2, m_0.Mask.e3] n10) > r12) then (some true) else (bif decide ((gt [m_0.Val.e0, m_0.Val.e1, m_0.Val.e2, m_0.Val.e3] n10) < 0) then (some true) else (some ((bAndNot .i64 (gt [m_0.Val.e0, m_0.Val.e1, m_0.Val.e2, m_0.Val.e3] n10) (gt [m_0.Mask.e0, m_0.Mask.e1, m_0.Mask.e2, m_0.Mask.e3] n10)) != 0))))).bind fun b14 =>
  bif b14 then (some (.inr (.inl ()))) else
  (some (.inl (wr .i64 (i5 + 1))))) else
  (some (.inr (.inr ())))

noncomputable def match_Right (m_0 : api_Match) : Option (Bool) :=
  bif ((decide (m_0.Port < (-1))) || (decide (m_0.Port ≥ 8))) then (some false) else
  ((loopO (match_Right_L1 m_0) 0).bind fun
  | .inl _ => (some false)
  | .inr (_) => (some true))
theorem match_Right_ok {m_0 : api_Match} {z : Bool} (hp : match_Right m_0 = some z) : Good prog 87 [.agg (c_api_Match m_0)] [.c (.d (.lit (.bool z)))] [] := by
  unfold match_Right at hp
  refine fn_good mixed e87 (fnS (m := [false]) (s := ⟨[(0, .agg [.d (.lit (.int .i64 m_0.Port)), .d (.lit (.int .i64 m_0.Val.e0)), .d (.lit (.int .i64 m_0.Val.e1)), .d (.lit (.int .i64 m_0.Val.e2)), .d (.lit (.int .i64 m_0.Val.e3)), .d (.lit (.int .i64 m_0.Mask.e0)), .d (.lit (.int .i64 m_0.Mask.e1)), .d (.lit (.int .i64 m_0.Mask.e2)), .d (.lit (.int .i64 m_0.Mask.e3))])], [], 0, []⟩) (len := 0) (c := k87) rfl (Sub.of_eq rfl) rfl rfl ?_)
  refine w_seq ?_
  refine w_region ?_
  refine o2 rfl ?_
  refine o1 rfl ?_
  refine o_end (e' := [(1, .c (.op 0 0))]) rfl rfl ?_
  refine after_n ?_
  refine w_seq ?_
  refine w_seq ?_
  refine w_join (J := fun s => Sub s ⟨[(1, .c (.op 0 0)), (12, .c (.d (.lit (.bool ((decide (m_0.Port < (-1))) || (decide (m_0.Port ≥ 8)))))))], [(0, some (.box [.d (.lit (.int .i64 m_0.Port)), .d (.lit (.int .i64 m_0.Val.e0)), .d (.lit (.int .i64 m_0.Val.e1)), .d (.lit (.int .i64 m_0.Val.e2)), .d (.lit (.int .i64 m_0.Val.e3)), .d (.lit (.int .i64 m_0.Mask.e0)), .d (.lit (.int .i64 m_0.Mask.e1)), .d (.lit (.int .i64 m_0.Mask.e2)), .d (.lit (.int .i64 m_0.Mask.e3))]))], 1, []⟩) ?_ ?_
  · refine w_region ?_
    iterate 2 refine o1 rfl ?_
    refine o1 (v := .c (.d (.lit (.bool (decide (m_0.Port < (-1))))))) rfl ?_
    refine o1 rfl ?_
    cases hb2 : (decide (m_0.Port < (-1)) : Bool)
    · refine og rfl rfl rfl ?_
      refine og rfl rfl rfl ?_
      refine og (v := .c (.d (.lit (.bool (decide (m_0.Port ≥ 8)))))) rfl rfl rfl ?_
      refine o1 rfl ?_
      exact o_join (sub_ren [0] [1, 12] (by decide) rfl (.cons .nil) (Nat.le_of_ble_eq_true rfl))
    · refine onot rfl rfl ?_
      iterate 2 refine onot rfl rfl ?_
      refine o1 rfl ?_
      exact o_join (sub_ren [0] [1, 12] (by decide) rfl (.cons .nil) (Nat.le_of_ble_eq_true rfl))
  · intro s hs3
    refine after_n ?_
    refine W.sub hs3 ?_
    refine w_cond (t := ((decide (m_0.Port < (-1))) || (decide (m_0.Port ≥ 8)))) rfl (fun hb4 => ?_) (fun hb4 => ?_)
    · have hp := cnd_t hb4 hp
      refine w_seq ?_
      refine w_region ?_
      refine o1 rfl ?_
      refine o_end (e' := [(2, .c (.d (.lit (.bool false))))]) rfl rfl ?_
      refine after_n ?_
      refine w_ret ?_
      refine after_r ?_
      obtain rfl := Option.some.inj hp
      exact leave_at rfl rfl (pr_c p_d pr_nil) pc_nil rfl rfl
    · have hp := cnd_f hb4 hp
      refine w_skip ?_
      refine after_n ?_
      refine w_seq ?_
      refine w_seq ?_
      refine w_region ?_
      iterate 3 refine o1 rfl ?_
      refine o_end (e' := [(1, .c (.op 0 0)), (14, .agg [.d (.lit (.int .i64 m_0.Mask.e0)), .d (.lit (.int .i64 m_0.Mask.e1)), .d (.lit (.int .i64 m_0.Mask.e2)), .d (.lit (.int .i64 m_0.Mask.e3))]), (15, .c (.d (.lit (.int .i64 0))))]) rfl rfl ?_
      refine after_n ?_
      refine w_block ?_
      obtain ⟨x7, h8, hp⟩ := bnd hp
      refine W.mono ?_ (w_loopS (st := fun (v : Int) => match v with | i5 => ⟨[(1, .c (.op 0 0)), (14, .agg [.d (.lit (.int .i64 m_0.Mask.e0)), .d (.lit (.int .i64 m_0.Mask.e1)), .d (.lit (.int .i64 m_0.Mask.e2)), .d (.lit (.int .i64 m_0.Mask.e3))]), (15, .c (.d (.lit (.int .i64 i5))))], [(0, some (.box [.d (.lit (.int .i64 m_0.Port)), .d (.lit (.int .i64 m_0.Val.e0)), .d (.lit (.int .i64 m_0.Val.e1)), .d (.lit (.int .i64 m_0.Val.e2)), .d (.lit (.int .i64 m_0.Val.e3)), .d (.lit (.int .i64 m_0.Mask.e0)), .d (.lit (.int .i64 m_0.Mask.e1)), .d (.lit (.int .i64 m_0.Mask.e2)), .d (.lit (.int .i64 m_0.Mask.e3))]))], 1, []⟩) (a := 0) (Q := Jn (fun (x : Sum (Unit) (Unit)) o s => match x with | .inl _ => o = Out.ret ∧ Sub s ⟨[(2, .c (.d (.lit (.bool false))))], [], 0, []⟩ | .inr (_) => o = Out.exit 0 ∧ Sub s ⟨[], [], 0, []⟩)) ?_ h8 ?_)
      · intro o s hs21
        rcases x7 with (_ | _)
        · obtain ⟨rfl, hs21⟩ := hs21
          refine out_r ?_
          refine after_r ?_
          obtain rfl := Option.some.inj hp
          refine wk.sub hs21 ?_
          exact leave_at rfl rfl (pr_c p_d pr_nil) pc_nil rfl rfl
        · obtain ⟨rfl, hs21⟩ := hs21
          refine out_e ?_
          refine after_n ?_
          refine W.sub hs21 ?_
          refine w_seq ?_
          refine w_region ?_
          refine o1 rfl ?_
          refine o_end (e' := [(2, .c (.d (.lit (.bool true))))]) rfl rfl ?_
          refine after_n ?_
          refine w_ret ?_
          obtain rfl := Option.some.inj hp
          exact leave_at rfl rfl (pr_c p_d pr_nil) pc_nil rfl rfl
      · exact (sub_ren [0] [1, 14, 15] (by decide) rfl (.cons .nil) (Nat.le_of_ble_eq_true rfl))
      · rintro i5 r hr
        unfold match_Right_L1 at hr
        refine w_seq ?_
        refine w_region ?_
        refine o1 (v := .c (.d (.lit (.bool (decide (i5 < 4)))))) rfl ?_
        refine o_end (e' := [(1, .c (.op 0 0)), (14, .agg [.d (.lit (.int .i64 m_0.Mask.e0)), .d (.lit (.int .i64 m_0.Mask.e1)), .d (.lit (.int .i64 m_0.Mask.e2)), .d (.lit (.int .i64 m_0.Mask.e3))]), (15, .c (.d (.lit (.int .i64 i5)))), (16, .c (.d (.lit (.bool (decide (i5 < 4))))))]) rfl rfl ?_
        refine after_n ?_
        refine w_seq ?_
        refine w_cond (t := decide (i5 < 4)) rfl (fun hb9 => ?_) (fun hb9 => ?_)
        · have hr := cnd_t hb9 hr
          refine w_skip ?_
          refine after_n ?_
          refine w_seq ?_
          refine w_block ?_
          refine w_seq ?_
          obtain ⟨n10, h11, hr⟩ := bnd hr
          refine w_region ?_
          refine o1 rfl ?_
          refine o1 (ix_av (f := fun x => .d (.lit (.int .i64 x))) (l := [m_0.Mask.e0, m_0.Mask.e1, m_0.Mask.e2, m_0.Mask.e3]) rfl rfl h11) ?_
          iterate 2 refine o1 rfl ?_
          refine o_end (e' := [(1, .c (.op 0 0)), (3, .c (.d (.lit (.int .i64 i5)))), (4, .c (.d (.lit (.int .i64 (gt [m_0.Mask.e0, m_0.Mask.e1, m_0.Mask.e2, m_0.Mask.e3] n10))))), (14, .agg [.d (.lit (.int .i64 m_0.Mask.e0)), .d (.lit (.int .i64 m_0.Mask.e1)), .d (.lit (.int .i64 m_0.Mask.e2)), .d (.lit (.int .i64 m_0.Mask.e3))]), (15, .c (.d (.lit (.int .i64 i5))))]) rfl rfl ?_
          refine after_n ?_
          refine w_seq ?_
          obtain ⟨b14, h15, hr⟩ := bnd hr
          refine w_join (J := fun s => Sub s ⟨[(1, .c (.op 0 0)), (14, .agg [.d (.lit (.int .i64 m_0.Mask.e0)), .d (.lit (.int .i64 m_0.Mask.e1)), .d (.lit (.int .i64 m_0.Mask.e2)), .d (.lit (.int .i64 m_0.Mask.e3))]), (15, .c (.d (.lit (.int .i64 i5)))), (42, .c (.d (.lit (.bool b14))))], [(0, some (.box [.d (.lit (.int .i64 m_0.Port)), .d (.lit (.int .i64 m_0.Val.e0)), .d (.lit (.int .i64 m_0.Val.e1)), .d (.lit (.int .i64 m_0.Val.e2)), .d (.lit (.int .i64 m_0.Val.e3)), .d (.lit (.int .i64 m_0.Mask.e0)), .d (.lit (.int .i64 m_0.Mask.e1)), .d (.lit (.int .i64 m_0.Mask.e2)), .d (.lit (.int .i64 m_0.Mask.e3))]))], 1, []⟩) ?_ ?_
          · refine w_region ?_
            refine o1 rfl ?_
            refine o1 (v := .c (.d (.lit (.bool (decide ((gt [m_0.Mask.e0, m_0.Mask.e1, m_0.Mask.e2, m_0.Mask.e3] n10) < 0)))))) rfl ?_
            refine o1 rfl ?_
            cases hb16 : (decide ((gt [m_0.Mask.e0, m_0.Mask.e1, m_0.Mask.e2, m_0.Mask.e3] n10) < 0) : Bool)
            · have h15 := cnd_f hb16 h15
              obtain ⟨r12, h13, h15⟩ := bnd h15
              iterate 2 refine og rfl rfl rfl ?_
              refine ocg (rs := [.c (.d (.lit (.int .i64 r12)))]) (outs := []) rfl rfl rfl (packet_Top_ok h13) rfl ?_
              refine og (v := .c (.d (.lit (.bool (decide ((gt [m_0.Mask.e0, m_0.Mask.e1, m_0.Mask.e2, m_0.Mask.e3] n10) > r12)))))) rfl rfl rfl ?_
              iterate 2 refine o1 rfl ?_
              cases hb17 : (decide ((gt [m_0.Mask.e0, m_0.Mask.e1, m_0.Mask.e2, m_0.Mask.e3] n10) > r12) : Bool)
              · have h15 := cnd_f hb17 h15
                iterate 2 refine og rfl rfl rfl ?_
                refine og rfl rfl (ix_ar h11) ?_
                refine og (v := .c (.d (.lit (.int .i64 (gt [m_0.Val.e0, m_0.Val.e1, m_0.Val.e2, m_0.Val.e3] n10))))) (ids := [0]) rfl rfl (by apply ar4 (ixI_some.1 h11).2 <;> rfl) ?_
                refine og (v := .c (.d (.lit (.bool (decide ((gt [m_0.Val.e0, m_0.Val.e1, m_0.Val.e2, m_0.Val.e3] n10) < 0)))))) rfl rfl rfl ?_
                iterate 2 refine o1 rfl ?_
                cases hb18 : (decide ((gt [m_0.Val.e0, m_0.Val.e1, m_0.Val.e2, m_0.Val.e3] n10) < 0) : Bool)
                · have h15 := cnd_f hb18 h15
                  iterate 2 refine og rfl rfl rfl ?_
                  refine og rfl rfl (ix_ar h11) ?_
                  refine og (v := .c (.d (.lit (.int .i64 (gt [m_0.Val.e0, m_0.Val.e1, m_0.Val.e2, m_0.Val.e3] n10))))) (ids := [0]) rfl rfl (by apply ar4 (ixI_some.1 h11).2 <;> rfl) ?_
                  refine og rfl rfl rfl ?_
                  refine og (v := .c (.d (.lit (.int .i64 (bAndNot .i64 (gt [m_0.Val.e0, m_0.Val.e1, m_0.Val.e2, m_0.Val.e3] n10) (gt [m_0.Mask.e0, m_0.Mask.e1, m_0.Mask.e2, m_0.Mask.e3] n10)))))) rfl rfl rfl ?_
                  refine og (v := .c (.d (.lit (.bool ((bAndNot .i64 (gt [m_0.Val.e0, m_0.Val.e1, m_0.Val.e2, m_0.Val.e3] n10) (gt [m_0.Mask.e0, m_0.Mask.e1, m_0.Mask.e2, m_0.Mask.e3] n10)) != 0))))) rfl rfl rfl ?_
                  refine o1 rfl ?_
                  cases h15
                  exact o_join (sub_ren [0] [1, 14, 15, 42] (by decide) rfl (.cons .nil) (Nat.le_of_ble_eq_true rfl))
                · have h15 := cnd_t hb18 h15
                  iterate 7 refine onot rfl rfl ?_
                  refine o1 rfl ?_
                  cases h15
                  exact o_join (sub_ren [0] [1, 14, 15, 42] (by decide) rfl (.cons .nil) (Nat.le_of_ble_eq_true rfl))
              · have h15 := cnd_t hb17 h15
                iterate 5 refine onot rfl rfl ?_
                iterate 2 refine o1 rfl ?_
                iterate 7 refine onot rfl rfl ?_
                refine o1 rfl ?_
                cases h15
                exact o_join (sub_ren [0] [1, 14, 15, 42] (by decide) rfl (.cons .nil) (Nat.le_of_ble_eq_true rfl))
            · have h15 := cnd_t hb16 h15
              iterate 4 refine onot rfl rfl ?_
              iterate 2 refine o1 rfl ?_
              iterate 5 refine onot rfl rfl ?_
              iterate 2 refine o1 rfl ?_
              iterate 7 refine onot rfl rfl ?_
              refine o1 rfl ?_
              cases h15
              exact o_join (sub_ren [0] [1, 14, 15, 42] (by decide) rfl (.cons .nil) (Nat.le_of_ble_eq_true rfl))
          · intro s hs19
            refine after_n ?_
            refine W.sub hs19 ?_
            refine w_cond (t := b14) rfl (fun hb20 => ?_) (fun hb20 => ?_)
            · have hr := cnd_t hb20 hr
              refine w_seq ?_
              refine w_region ?_
              refine o1 rfl ?_
              refine o_end (e' := [(2, .c (.d (.lit (.bool false))))]) rfl rfl ?_
              refine after_n ?_
              refine w_ret ?_
              refine out_r ?_
              refine after_r ?_
              obtain rfl := Option.some.inj hr
              exact And.intro nofun (And.intro rfl (sub_ren [] [2] (by decide) rfl .nil (Nat.le_of_ble_eq_true rfl)))
            · have hr := cnd_f hb20 hr
              refine w_skip ?_
              refine out_n ?_
              refine after_n ?_
              refine w_region ?_
              refine o1 (v := .c (.d (.lit (.int .i64 (wr .i64 (i5 + 1)))))) rfl ?_
              refine o1 rfl ?_
              refine o_end (e' := [(1, .c (.op 0 0)), (14, .agg [.d (.lit (.int .i64 m_0.Mask.e0)), .d (.lit (.int .i64 m_0.Mask.e1)), .d (.lit (.int .i64 m_0.Mask.e2)), .d (.lit (.int .i64 m_0.Mask.e3))]), (15, .c (.d (.lit (.int .i64 (wr .i64 (i5 + 1))))))]) rfl rfl ?_
              obtain rfl := Option.some.inj hr
              exact And.intro rfl (sub_ren [0] [1, 14, 15] (by decide) rfl (.cons .nil) (Nat.le_of_ble_eq_true rfl))
        · have hr := cnd_f hb9 hr
          refine w_exit ?_
          refine after_e ?_
          obtain rfl := Option.some.inj hr
          exact And.intro nofun (And.intro rfl (sub_ren [] [] (by decide) rfl .nil (Nat.le_of_ble_eq_true rfl)))

/- turnout/act.right -/
def k104 : CC :=
  (.seq
  (.region [
    ⟨some 2, .box, [(.tmp 0)], none⟩,
    ⟨some 4, .mv, [(.const (.bool false))], none⟩] [1, 2])
  (.seq
  (.seq
  (.region [
    ⟨some 5, (.fieldAddr 0), [(.tmp 2)], none⟩,
    ⟨some 6, (.load false 1), [(.tmp 5)], none⟩] [1, 2, 6])
  (.block 0
    (.seq
    (.region [
      ⟨some 8, (.bin .eql), [(.tmp 6), (.const (.int .i64 1))], none⟩,
      ⟨some 7, .mv, [(.tmp 8)], none⟩] [1, 2, 6, 7])
    (.cond (.tmp 7)
      (.seq
      (.drawn [
        ⟨some 9, (.fieldAddr 1), [(.tmp 2)], none⟩,
        ⟨some 10, (.load false 1), [(.tmp 9)], none⟩,
        ⟨some 11, (.bin .geq), [(.tmp 10), (.const (.int .i64 0))], none⟩,
        ⟨some 12, .mv, [(.tmp 11)], none⟩,
        ⟨some 13, (.fieldAddr 1), [(.tmp 2)], (some (12, true))⟩,
        ⟨some 14, (.load false 1), [(.tmp 13)], (some (12, true))⟩,
        ⟨some 15, (.bin .lss), [(.tmp 14), (.const (.int .i64 4))], (some (12, true))⟩,
        ⟨some 16, .pick, [(.tmp 12), (.tmp 15), (.const (.bool false))], none⟩,
        ⟨some 17, .mv, [(.tmp 16)], none⟩,
        ⟨some 18, (.fieldAddr 2), [(.tmp 2)], (some (17, true))⟩,
        ⟨some 19, (.load false 1), [(.tmp 18)], (some (17, true))⟩,
        ⟨some 20, (.bin .geq), [(.tmp 19), (.const (.int .i64 0))], (some (17, true))⟩,
        ⟨some 21, .pick, [(.tmp 17), (.tmp 20), (.const (.bool false))], none⟩,
        ⟨some 22, .mv, [(.tmp 21)], none⟩,
        ⟨some 23, (.fieldAddr 2), [(.tmp 2)], (some (22, true))⟩,
        ⟨some 24, (.load false 1), [(.tmp 23)], (some (22, true))⟩,
        ⟨some 25, (.fieldAddr 1), [(.tmp 2)], (some (22, true))⟩,
        ⟨some 26, (.load false 1), [(.tmp 25)], (some (22, true))⟩,
        ⟨some 27, (.call true []), [(.func 101), (.tmp 26)], (some (22, true))⟩,
        ⟨some 28, (.bin .leq), [(.tmp 24), (.tmp 27)], (some (22, true))⟩,
        ⟨some 29, .pick, [(.tmp 22), (.tmp 28), (.const (.bool false))], none⟩,
        ⟨some 4, .mv, [(.tmp 29)], none⟩] [(15, 18)] [4])
      .ret)
      (.seq
      (.region [
        ⟨some 31, (.bin .eql), [(.tmp 6), (.const (.int .i64 2))], none⟩,
        ⟨some 30, .mv, [(.tmp 31)], none⟩] [1, 2, 30])
      (.cond (.tmp 30)
        (.seq
        (.region [
          ⟨some 32, (.fieldAddr 1), [(.tmp 2)], none⟩,
          ⟨some 33, (.load false 1), [(.tmp 32)], none⟩,
          ⟨some 34, (.bin .eql), [(.tmp 33), (.const (.int .i64 0))], none⟩,
          ⟨some 35, .mv, [(.tmp 34)], none⟩,
          ⟨some 36, (.fieldAddr 2), [(.tmp 2)], (some (35, true))⟩,
          ⟨some 37, (.load false 1), [(.tmp 36)], (some (35, true))⟩,
          ⟨some 38, (.bin .geq), [(.tmp 37), (.const (.int .i64 0))], (some (35, true))⟩,
          ⟨some 39, .pick, [(.tmp 35), (.tmp 38), (.const (.bool false))], none⟩,
          ⟨some 40, .mv, [(.tmp 39)], none⟩,
          ⟨some 41, (.fieldAddr 2), [(.tmp 2)], (some (40, true))⟩,
          ⟨some 42, (.load false 1), [(.tmp 41)], (some (40, true))⟩,
          ⟨some 43, .mv, [(.tmp 1)], (some (40, true))⟩,
          ⟨some 44, (.bin .lss), [(.tmp 42), (.tmp 43)], (some (40, true))⟩,
          ⟨some 45, .pick, [(.tmp 40), (.tmp 44), (.const (.bool false))], none⟩,
          ⟨some 4, .mv, [(.tmp 45)], none⟩] [4])
        .ret)
        .skip))))))
  (.seq
  (.region [
    ⟨some 46, (.load true 3), [(.tmp 2)], none⟩,
    ⟨some 47, (.build [(.int .i64 0), (.int .i64 0), (.int .i64 0)] [(0, 1)]), [(.const (.int .i64 3))], none⟩,
    ⟨some 48, (.eqAgg false [(.i .i64), (.i .i64), (.i .i64)]), [(.tmp 46), (.tmp 47)], none⟩,
    ⟨some 4, .mv, [(.tmp 48)], none⟩] [4])
  .ret)))
def f104 : Ev.Fn := ⟨2, 49, [.tmp 4], k104⟩
set_option maxRecDepth 100000 in
theorem e104 : compFn prog sig 104 2 [[1, 2], [1, 2, 6], [1, 2, 6, 7], [4], [1, 2, 30], [4], [4]] = some f104 := by kernel_rfl
noncomputable def act_right (a_0 : api_Act) (ports_1 : Int) : Option (Bool) :=
  bif (a_0.Kind == 1) then ((bif decide (a_0.F ≥ 0) then (bif decide (a_0.F < 4) then (bif decide (a_0.V ≥ 0) then ((packet_Top a_0.F).bind fun r2 =>
  some (decide (a_0.V ≤ r2))) else (some false)) else (some false)) else (some false)).bind fun b4 =>
  some b4) else
  (bif (a_0.Kind == 2) then (some ((a_0.F == 0) && ((decide (a_0.V ≥ 0)) && (decide (a_0.V < ports_1))))) else
  (some ((a_0.Kind == 3) && ((a_0.F == 0) && ((a_0.V == 0) && true)))))
theorem act_right_ok {a_0 : api_Act} {ports_1 : Int} {z : Bool} (hp : act_right a_0 ports_1 = some z) : Good prog 104 [.agg (c_api_Act a_0), .d (.lit (.int .i64 ports_1))] [.c (.d (.lit (.bool z)))] [] := by
  unfold act_right at hp
  refine fn_good mixed e104 (fnS (m := [false]) (s := ⟨[(0, .agg [.d (.lit (.int .i64 a_0.Kind)), .d (.lit (.int .i64 a_0.F)), .d (.lit (.int .i64 a_0.V))]), (1, .c (.d (.lit (.int .i64 ports_1))))], [], 0, []⟩) (len := 0) (c := k104) rfl (Sub.of_eq rfl) rfl rfl ?_)
  refine w_seq ?_
  refine w_region ?_
  refine o2 rfl ?_
  refine o1 rfl ?_
  refine o_end (e' := [(1, .c (.d (.lit (.int .i64 ports_1)))), (2, .c (.op 0 0))]) rfl rfl ?_
  refine after_n ?_
  refine w_seq ?_
  refine w_seq ?_
  refine w_region ?_
  iterate 2 refine o1 rfl ?_
  refine o_end (e' := [(1, .c (.d (.lit (.int .i64 ports_1)))), (2, .c (.op 0 0)), (6, .c (.d (.lit (.int .i64 a_0.Kind))))]) rfl rfl ?_
  refine after_n ?_
  refine w_block ?_
  refine w_seq ?_
  refine w_region ?_
  refine o1 (v := .c (.d (.lit (.bool (a_0.Kind == 1))))) rfl ?_
  refine o1 rfl ?_
  refine o_end (e' := [(1, .c (.d (.lit (.int .i64 ports_1)))), (2, .c (.op 0 0)), (6, .c (.d (.lit (.int .i64 a_0.Kind)))), (7, .c (.d (.lit (.bool (a_0.Kind == 1)))))]) rfl rfl ?_
  refine after_n ?_
  refine w_cond (t := (a_0.Kind == 1)) rfl (fun hb1 => ?_) (fun hb1 => ?_)
  · have hp := cnd_t hb1 hp
    refine w_seq ?_
    obtain ⟨b4, h5, hp⟩ := bnd hp
    refine w_join (J := fun s => Sub s ⟨[(4, .c (.d (.lit (.bool b4))))], [], 0, []⟩) ?_ ?_
    · refine w_drawn ?_
      iterate 2 refine d1 rfl ?_
      refine d1 (v := .c (.d (.lit (.bool (decide (a_0.F ≥ 0)))))) rfl ?_
      refine d1 rfl ?_
      cases hb6 : (decide (a_0.F ≥ 0) : Bool)
      · have h5 := cnd_f hb6 h5
        iterate 3 refine dnot rfl rfl ?_
        iterate 2 refine d1 rfl ?_
        iterate 3 refine dnot rfl rfl ?_
        iterate 2 refine d1 rfl ?_
        iterate 6 refine dnot rfl rfl ?_
        iterate 2 refine d1 rfl ?_
        cases h5
        exact d_join rfl (sub_ren [] [4] (by decide) rfl .nil (Nat.le_of_ble_eq_true rfl))
      · have h5 := cnd_t hb6 h5
        iterate 2 refine dg rfl rfl rfl ?_
        refine dg (v := .c (.d (.lit (.bool (decide (a_0.F < 4)))))) rfl rfl rfl ?_
        iterate 2 refine d1 rfl ?_
        cases hb7 : (decide (a_0.F < 4) : Bool)
        · have h5 := cnd_f hb7 h5
          iterate 3 refine dnot rfl rfl ?_
          iterate 2 refine d1 rfl ?_
          iterate 6 refine dnot rfl rfl ?_
          iterate 2 refine d1 rfl ?_
          cases h5
          exact d_join rfl (sub_ren [] [4] (by decide) rfl .nil (Nat.le_of_ble_eq_true rfl))
        · have h5 := cnd_t hb7 h5
          iterate 2 refine dg rfl rfl rfl ?_
          refine dg (v := .c (.d (.lit (.bool (decide (a_0.V ≥ 0)))))) rfl rfl rfl ?_
          iterate 2 refine d1 rfl ?_
          cases hb8 : (decide (a_0.V ≥ 0) : Bool)
          · have h5 := cnd_f hb8 h5
            iterate 6 refine dnot rfl rfl ?_
            iterate 2 refine d1 rfl ?_
            cases h5
            exact d_join rfl (sub_ren [] [4] (by decide) rfl .nil (Nat.le_of_ble_eq_true rfl))
          · have h5 := cnd_t hb8 h5
            obtain ⟨r2, h3, h5⟩ := bnd h5
            iterate 4 refine dg rfl rfl rfl ?_
            refine dcg (rs := [.c (.d (.lit (.int .i64 r2)))]) (outs := []) rfl rfl rfl (packet_Top_ok h3) rfl (Nat.le_of_ble_eq_true rfl) ?_
            refine dg (v := .c (.d (.lit (.bool (decide (a_0.V ≤ r2)))))) rfl rfl rfl ?_
            iterate 2 refine d1 rfl ?_
            cases h5
            exact d_join rfl (sub_ren [] [4] (by decide) rfl .nil (Nat.le_of_ble_eq_true rfl))
    · intro s hs9
      refine after_n ?_
      refine W.sub hs9 ?_
      refine w_ret ?_
      refine out_r ?_
      refine after_r ?_
      obtain rfl := Option.some.inj hp
      exact leave_at rfl rfl (pr_c p_d pr_nil) pc_nil rfl rfl
  · have hp := cnd_f hb1 hp
    refine w_seq ?_
    refine w_region ?_
    refine o1 (v := .c (.d (.lit (.bool (a_0.Kind == 2))))) rfl ?_
    refine o1 rfl ?_
    refine o_end (e' := [(1, .c (.d (.lit (.int .i64 ports_1)))), (2, .c (.op 0 0)), (30, .c (.d (.lit (.bool (a_0.Kind == 2)))))]) rfl rfl ?_
    refine after_n ?_
    refine w_cond (t := (a_0.Kind == 2)) rfl (fun hb10 => ?_) (fun hb10 => ?_)
    · have hp := cnd_t hb10 hp
      refine w_seq ?_
      refine w_join (J := fun s => Sub s ⟨[(4, .c (.d (.lit (.bool ((a_0.F == 0) && ((decide (a_0.V ≥ 0)) && (decide (a_0.V < ports_1))))))))], [], 0, []⟩) ?_ ?_
      · refine w_region ?_
        iterate 2 refine o1 rfl ?_
        refine o1 (v := .c (.d (.lit (.bool (a_0.F == 0))))) rfl ?_
        refine o1 rfl ?_
        cases hb12 : ((a_0.F == 0) : Bool)
        · refine onot rfl rfl ?_
          iterate 2 refine onot rfl rfl ?_
          iterate 2 refine o1 rfl ?_
          iterate 4 refine onot rfl rfl ?_
          iterate 2 refine o1 rfl ?_
          exact o_join (sub_ren [] [4] (by decide) rfl .nil (Nat.le_of_ble_eq_true rfl))
        · refine og rfl rfl rfl ?_
          refine og rfl rfl rfl ?_
          refine og (v := .c (.d (.lit (.bool (decide (a_0.V ≥ 0)))))) rfl rfl rfl ?_
          iterate 2 refine o1 rfl ?_
          cases hb13 : (decide (a_0.V ≥ 0) : Bool)
          · refine onot rfl rfl ?_
            iterate 3 refine onot rfl rfl ?_
            iterate 2 refine o1 rfl ?_
            exact o_join (sub_ren [] [4] (by decide) rfl .nil (Nat.le_of_ble_eq_true rfl))
          · refine og rfl rfl rfl ?_
            iterate 2 refine og rfl rfl rfl ?_
            refine og (v := .c (.d (.lit (.bool (decide (a_0.V < ports_1)))))) rfl rfl rfl ?_
            iterate 2 refine o1 rfl ?_
            exact o_join (sub_ren [] [4] (by decide) rfl .nil (Nat.le_of_ble_eq_true rfl))
      · intro s hs14
        refine after_n ?_
        refine W.sub hs14 ?_
        refine w_ret ?_
        refine out_r ?_
        refine after_r ?_
        obtain rfl := Option.some.inj hp
        exact leave_at rfl rfl (pr_c p_d pr_nil) pc_nil rfl rfl
    · have hp := cnd_f hb10 hp
      refine w_skip ?_
      refine out_n ?_
      refine after_n ?_
      refine w_seq ?_
      refine w_region ?_
      iterate 2 refine o1 rfl ?_
      refine o1 (v := .c (.d (.lit (.bool ((a_0.Kind == 3) && ((a_0.F == 0) && ((a_0.V == 0) && true))))))) rfl ?_
      refine o1 rfl ?_
      refine o_end (e' := [(4, .c (.d (.lit (.bool ((a_0.Kind == 3) && ((a_0.F == 0) && ((a_0.V == 0) && true)))))))]) rfl rfl ?_
      refine after_n ?_
      refine w_ret ?_
      obtain rfl := Option.some.inj hp
      exact leave_at rfl rfl (pr_c p_d pr_nil) pc_nil rfl rfl

/- turnout/act.Right$1 -/
def k103 : CC :=
  (.seq
  (.region [
    ⟨some 2, .box, [(.tmp 0)], none⟩,
    ⟨some 3, .mv, [(.const (.bool false))], none⟩] [1, 2])
  (.seq
  (.region [
    ⟨some 4, (.load true 3), [(.tmp 2)], none⟩,
    ⟨some 5, (.load false 1), [(.tmp 1)], none⟩,
    ⟨some 6, (.call true []), [(.func 104), (.tmp 4), (.tmp 5)], none⟩,
    ⟨some 7, (.un .not), [(.tmp 6)], none⟩,
    ⟨some 3, .mv, [(.tmp 7)], none⟩] [3])
  .ret))
def f103 : Ev.Fn := ⟨2, 8, [.tmp 3], k103⟩
set_option maxRecDepth 100000 in
theorem e103 : compFn prog sig 103 2 [[1, 2], [3]] = some f103 := by kernel_rfl
noncomputable def act_Right_1 (a_0 : api_Act) (c_1 : Int) : Option (Bool) :=
  (act_right a_0 c_1).bind fun r1 =>
  some (!r1)
theorem act_Right_1_ok {a_0 : api_Act} {c_1 : Int} {z : Bool} (hp : act_Right_1 a_0 c_1 = some z) : Good prog 103 [.agg (c_api_Act a_0), .d (.pt (cI_i64 c_1))] [.c (.d (.lit (.bool z)))] [] := by
  unfold act_Right_1 at hp
  refine fn_good mixed e103 (fnS (m := [false]) (s := ⟨[(0, .agg [.d (.lit (.int .i64 a_0.Kind)), .d (.lit (.int .i64 a_0.F)), .d (.lit (.int .i64 a_0.V))]), (1, .c (.d (.pt (cI_i64 c_1))))], [], 0, []⟩) (len := 0) (c := k103) rfl (Sub.of_eq rfl) rfl rfl ?_)
  refine w_seq ?_
  refine w_region ?_
  refine o2 rfl ?_
  refine o1 rfl ?_
  refine o_end (e' := [(1, .c (.d (.pt (cI_i64 c_1)))), (2, .c (.op 0 0))]) rfl rfl ?_
  refine after_n ?_
  refine w_seq ?_
  obtain ⟨r1, h2, hp⟩ := bnd hp
  refine w_region ?_
  iterate 2 refine o1 rfl ?_
  refine oc (rs := [.c (.d (.lit (.bool r1)))]) (outs := []) rfl (act_right_ok h2) rfl ?_
  refine o1 (v := .c (.d (.lit (.bool (!r1))))) rfl ?_
  refine o1 rfl ?_
  refine o_end (e' := [(3, .c (.d (.lit (.bool (!r1)))))]) rfl rfl ?_
  refine after_n ?_
  refine w_ret ?_
  obtain rfl := Option.some.inj hp
  exact leave_at rfl rfl (pr_c p_d pr_nil) pc_nil rfl rfl

/- slices.IndexFunc[[]turnout/api.Act,turnout/api.Act] -/
def k121 : CC :=
  (.seq
  (.region [
    ⟨some 4, .mv, [(.const (.int .i64 0))], none⟩] [0, 1])
  (.seq
  (.seq
  (.region [
    ⟨some 6, .mv, [(.tmp 0)], none⟩,
    ⟨some 7, (.len false), [(.tmp 6)], none⟩,
    ⟨some 8, .mv, [(.const (.int .i64 0))], none⟩] [0, 1, 7, 8])
  (.block 0
    (.loop [0, 1, 7, 8]
      (.seq
      (.region [
        ⟨some 9, (.bin .lss), [(.tmp 8), (.tmp 7)], none⟩] [0, 1, 7, 8, 9])
      (.seq
      (.cond (.tmp 9)
        .skip
        (.exit 0))
      (.seq
      (.block 1
        (.seq
        (.region [
          ⟨some 10, .mv, [(.tmp 8)], none⟩,
          ⟨some 5, .mv, [(.tmp 10)], none⟩] [0, 1, 5, 7, 8])
        (.seq
        (.region [
          ⟨some 11, .mv, [(.tmp 1)], none⟩,
          ⟨some 12, .mv, [(.tmp 0)], none⟩,
          ⟨some 13, .mv, [(.tmp 5)], none⟩,
          ⟨some 14, (.indexAddr none 3), [(.tmp 12), (.tmp 13)], none⟩,
          ⟨some 15, (.load true 3), [(.tmp 14)], none⟩,
          ⟨some 16, (.call false []), [(.tmp 11), (.tmp 15)], none⟩] [0, 1, 5, 7, 8, 16])
        (.cond (.tmp 16)
          (.seq
          (.region [
            ⟨some 17, .mv, [(.tmp 5)], none⟩,
            ⟨some 4, .mv, [(.tmp 17)], none⟩] [4])
          .ret)
          .skip))))
      (.region [
        ⟨some 18, (.bin .add), [(.tmp 8), (.const (.int .i64 1))], none⟩,
        ⟨some 8, .mv, [(.tmp 18)], none⟩] [0, 1, 7, 8])))))))
  (.seq
  (.region [
    ⟨some 4, .mv, [(.const (.int .i64 (-1)))], none⟩] [4])
  .ret)))
def f121 : Ev.Fn := ⟨2, 19, [.tmp 4], k121⟩
set_option maxRecDepth 100000 in
theorem e121 : compFn prog sig 121 2 [[0, 1], [0, 1, 7, 8], [0, 1, 7, 8], [0, 1, 7, 8, 9], [0, 1, 5, 7, 8], [0, 1, 5, 7, 8, 16], [4], [0, 1, 7, 8], [4]] = some f121 := by kernel_rfl
noncomputable def slices_IndexFunc_api_Act_api_Act_act_Right_1_L1 (s_0 : Sl api_Act) (c_1_0 : Int) : Int → Option (Sum (Int) (Sum (Int) (Unit))) := fun i1 =>
  bif decide (i1 < (s_0.l.length : Int)) then ((ixI i1 s_0.l.length).bind fun n7 =>
  (act_Right_1 (⟨(gt s_0.l n7).Kind, (gt s_0.l n7).F, (gt s_0.l n7).V⟩ : api_Act) c_1_0).bind fun r9 =>
  bif r9 then (some (.inr (.inl i1))) else
  (some (.inl (wr .i64 (i1 + 1))))) else
  (some (.inr (.inr ())))

noncomputable def slices_IndexFunc_api_Act_api_Act_act_Right_1 (s_0 : Sl api_Act) (c_1_0 : Int) : Option (Int) :=
  (loopO (slices_IndexFunc_api_Act_api_Act_act_Right_1_L1 s_0 c_1_0) 0).bind fun
  | .inl i3 => (some i3)
  | .inr (_) => (some (-1))
theorem slices_IndexFunc_api_Act_api_Act_act_Right_1_ok {s_0 : Sl api_Act} {c_1_0 : Int} {z : Int} (hp : slices_IndexFunc_api_Act_api_Act_act_Right_1 s_0 c_1_0 = some z) : Good prog 121 [.d (slD 3 c_api_Act s_0), .d (.fn 103 [.pt (cI_i64 c_1_0)])] [.c (.d (.lit (.int .i64 z)))] [] := by
  unfold slices_IndexFunc_api_Act_api_Act_act_Right_1 at hp
  refine fn_good mixed e121 (fnS (m := [false]) (s := ⟨[(0, .c (.d (slD 3 c_api_Act s_0))), (1, .c (.d (.fn 103 [.pt (cI_i64 c_1_0)])))], [], 0, []⟩) (len := 0) (c := k121) rfl (Sub.of_eq rfl) rfl rfl ?_)
  refine w_seq ?_
  refine w_region ?_
  refine o1 rfl ?_
  refine o_end (e' := [(0, .c (.d (slD 3 c_api_Act s_0))), (1, .c (.d (.fn 103 [.pt (cI_i64 c_1_0)])))]) rfl rfl ?_
  refine after_n ?_
  refine w_seq ?_
  refine w_seq ?_
  refine w_region ?_
  refine o1 rfl ?_
  refine o1 (v := .c (.d (.lit (.int .i64 (s_0.l.length : Int))))) len_sd ?_
  refine o1 rfl ?_
  refine o_end (e' := [(0, .c (.d (slD 3 c_api_Act s_0))), (1, .c (.d (.fn 103 [.pt (cI_i64 c_1_0)]))), (7, .c (.d (.lit (.int .i64 (s_0.l.length : Int))))), (8, .c (.d (.lit (.int .i64 0))))]) rfl rfl ?_
  refine after_n ?_
  refine w_block ?_
  obtain ⟨x4, h5, hp⟩ := bnd hp
  refine W.mono ?_ (w_loopS (st := fun (v : Int) => match v with | i1 => ⟨[(0, .c (.d (slD 3 c_api_Act s_0))), (1, .c (.d (.fn 103 [.pt (cI_i64 c_1_0)]))), (7, .c (.d (.lit (.int .i64 (s_0.l.length : Int))))), (8, .c (.d (.lit (.int .i64 i1))))], [], 0, []⟩) (a := 0) (Q := Jn (fun (x : Sum (Int) (Unit)) o s => match x with | .inl i3 => o = Out.ret ∧ Sub s ⟨[(4, .c (.d (.lit (.int .i64 i3))))], [], 0, []⟩ | .inr (_) => o = Out.exit 0 ∧ Sub s ⟨[], [], 0, []⟩)) ?_ h5 ?_)
  · intro o s hs12
    rcases x4 with (i3 | _)
    · obtain ⟨rfl, hs12⟩ := hs12
      refine out_r ?_
      refine after_r ?_
      obtain rfl := Option.some.inj hp
      refine wk.sub hs12 ?_
      exact leave_at rfl rfl (pr_c p_d pr_nil) pc_nil rfl rfl
    · obtain ⟨rfl, hs12⟩ := hs12
      refine out_e ?_
      refine after_n ?_
      refine W.sub hs12 ?_
      refine w_seq ?_
      refine w_region ?_
      refine o1 rfl ?_
      refine o_end (e' := [(4, .c (.d (.lit (.int .i64 (-1)))))]) rfl rfl ?_
      refine after_n ?_
      refine w_ret ?_
      obtain rfl := Option.some.inj hp
      exact leave_at rfl rfl (pr_c p_d pr_nil) pc_nil rfl rfl
  · exact (sub_ren [] [0, 1, 7, 8] (by decide) rfl .nil (Nat.le_of_ble_eq_true rfl))
  · rintro i1 r hr
    unfold slices_IndexFunc_api_Act_api_Act_act_Right_1_L1 at hr
    refine w_seq ?_
    refine w_region ?_
    refine o1 (v := .c (.d (.lit (.bool (decide (i1 < (s_0.l.length : Int))))))) rfl ?_
    refine o_end (e' := [(0, .c (.d (slD 3 c_api_Act s_0))), (1, .c (.d (.fn 103 [.pt (cI_i64 c_1_0)]))), (7, .c (.d (.lit (.int .i64 (s_0.l.length : Int))))), (8, .c (.d (.lit (.int .i64 i1)))), (9, .c (.d (.lit (.bool (decide (i1 < (s_0.l.length : Int)))))))]) rfl rfl ?_
    refine after_n ?_
    refine w_seq ?_
    refine w_cond (t := decide (i1 < (s_0.l.length : Int))) rfl (fun hb6 => ?_) (fun hb6 => ?_)
    · have hr := cnd_t hb6 hr
      refine w_skip ?_
      refine after_n ?_
      refine w_seq ?_
      refine w_block ?_
      refine w_seq ?_
      refine w_region ?_
      iterate 2 refine o1 rfl ?_
      refine o_end (e' := [(0, .c (.d (slD 3 c_api_Act s_0))), (1, .c (.d (.fn 103 [.pt (cI_i64 c_1_0)]))), (5, .c (.d (.lit (.int .i64 i1)))), (7, .c (.d (.lit (.int .i64 (s_0.l.length : Int))))), (8, .c (.d (.lit (.int .i64 i1))))]) rfl rfl ?_
      refine after_n ?_
      refine w_seq ?_
      obtain ⟨n7, h8, hr⟩ := bnd hr
      obtain ⟨r9, h10, hr⟩ := bnd hr
      refine w_region ?_
      iterate 3 refine o1 rfl ?_
      refine o1 (ix_sd h8) ?_
      refine o1 rfl ?_
      refine oc (rs := [.c (.d (.lit (.bool r9)))]) (outs := []) rfl (act_Right_1_ok h10) rfl ?_
      refine o_end (e' := [(0, .c (.d (slD 3 c_api_Act s_0))), (1, .c (.d (.fn 103 [.pt (cI_i64 c_1_0)]))), (5, .c (.d (.lit (.int .i64 i1)))), (7, .c (.d (.lit (.int .i64 (s_0.l.length : Int))))), (8, .c (.d (.lit (.int .i64 i1)))), (16, .c (.d (.lit (.bool r9))))]) rfl rfl ?_
      refine after_n ?_
      refine w_cond (t := r9) rfl (fun hb11 => ?_) (fun hb11 => ?_)
      · have hr := cnd_t hb11 hr
        refine w_seq ?_
        refine w_region ?_
        iterate 2 refine o1 rfl ?_
        refine o_end (e' := [(4, .c (.d (.lit (.int .i64 i1))))]) rfl rfl ?_
        refine after_n ?_
        refine w_ret ?_
        refine out_r ?_
        refine after_r ?_
        obtain rfl := Option.some.inj hr
        exact And.intro nofun (And.intro rfl (sub_ren [] [4] (by decide) rfl .nil (Nat.le_of_ble_eq_true rfl)))
      · have hr := cnd_f hb11 hr
        refine w_skip ?_
        refine out_n ?_
        refine after_n ?_
        refine w_region ?_
        refine o1 (v := .c (.d (.lit (.int .i64 (wr .i64 (i1 + 1)))))) rfl ?_
        refine o1 rfl ?_
        refine o_end (e' := [(0, .c (.d (slD 3 c_api_Act s_0))), (1, .c (.d (.fn 103 [.pt (cI_i64 c_1_0)]))), (7, .c (.d (.lit (.int .i64 (s_0.l.length : Int))))), (8, .c (.d (.lit (.int .i64 (wr .i64 (i1 + 1))))))]) rfl rfl ?_
        obtain rfl := Option.some.inj hr
        exact And.intro rfl (sub_ren [] [0, 1, 7, 8] (by decide) rfl .nil (Nat.le_of_ble_eq_true rfl))
    · have hr := cnd_f hb6 hr
      refine w_exit ?_
      refine after_e ?_
      obtain rfl := Option.some.inj hr
      exact And.intro nofun (And.intro rfl (sub_ren [] [] (by decide) rfl .nil (Nat.le_of_ble_eq_true rfl)))

/- slices.ContainsFunc[[]turnout/api.Act,turnout/api.Act] -/
def k102 : CC :=
  (.seq
  (.region [
    ⟨some 4, .mv, [(.const (.bool false))], none⟩] [0, 1])
  (.seq
  (.region [
    ⟨some 5, .mv, [(.tmp 0)], none⟩,
    ⟨some 6, .mv, [(.tmp 1)], none⟩,
    ⟨some 7, (.call true []), [(.func 121), (.tmp 5), (.tmp 6)], none⟩,
    ⟨some 8, (.bin .geq), [(.tmp 7), (.const (.int .i64 0))], none⟩,
    ⟨some 4, .mv, [(.tmp 8)], none⟩] [4])
  .ret))
def f102 : Ev.Fn := ⟨2, 9, [.tmp 4], k102⟩
set_option maxRecDepth 100000 in
theorem e102 : compFn prog sig 102 2 [[0, 1], [4]] = some f102 := by kernel_rfl
noncomputable def slices_ContainsFunc_api_Act_api_Act_act_Right_1 (s_0 : Sl api_Act) (c_1_0 : Int) : Option (Bool) :=
  (slices_IndexFunc_api_Act_api_Act_act_Right_1 s_0 c_1_0).bind fun r1 =>
  some (decide (r1 ≥ 0))
theorem slices_ContainsFunc_api_Act_api_Act_act_Right_1_ok {s_0 : Sl api_Act} {c_1_0 : Int} {z : Bool} (hp : slices_ContainsFunc_api_Act_api_Act_act_Right_1 s_0 c_1_0 = some z) : Good prog 102 [.d (slD 3 c_api_Act s_0), .d (.fn 103 [.pt (cI_i64 c_1_0)])] [.c (.d (.lit (.bool z)))] [] := by
  unfold slices_ContainsFunc_api_Act_api_Act_act_Right_1 at hp
  refine fn_good mixed e102 (fnS (m := [false]) (s := ⟨[(0, .c (.d (slD 3 c_api_Act s_0))), (1, .c (.d (.fn 103 [.pt (cI_i64 c_1_0)])))], [], 0, []⟩) (len := 0) (c := k102) rfl (Sub.of_eq rfl) rfl rfl ?_)
  refine w_seq ?_
  refine w_region ?_
  refine o1 rfl ?_
  refine o_end (e' := [(0, .c (.d (slD 3 c_api_Act s_0))), (1, .c (.d (.fn 103 [.pt (cI_i64 c_1_0)])))]) rfl rfl ?_
  refine after_n ?_
  refine w_seq ?_
  obtain ⟨r1, h2, hp⟩ := bnd hp
  refine w_region ?_
  iterate 2 refine o1 rfl ?_
  refine oc (rs := [.c (.d (.lit (.int .i64 r1)))]) (outs := []) rfl (slices_IndexFunc_api_Act_api_Act_act_Right_1_ok h2) rfl ?_
  refine o1 (v := .c (.d (.lit (.bool (decide (r1 ≥ 0)))))) rfl ?_
  refine o1 rfl ?_
  refine o_end (e' := [(4, .c (.d (.lit (.bool (decide (r1 ≥ 0))))))]) rfl rfl ?_
  refine after_n ?_
  refine w_ret ?_
  obtain rfl := Option.some.inj hp
  exact leave_at rfl rfl (pr_c p_d pr_nil) pc_nil rfl rfl

/- turnout/act.Right -/
def k88 : CC :=
  (.seq
  (.region [
    ⟨some 3, .box, [(.tmp 1)], none⟩,
    ⟨some 4, .mv, [(.const (.bool false))], none⟩] [0, 3])
  (.seq
  (.region [
    ⟨some 5, .mv, [(.tmp 0)], none⟩,
    ⟨some 6, (.len false), [(.tmp 5)], none⟩,
    ⟨some 7, (.bin .leq), [(.tmp 6), (.const (.int .i64 16))], none⟩,
    ⟨some 8, .mv, [(.tmp 7)], none⟩,
    ⟨some 9, .mv, [(.tmp 0)], (some (8, true))⟩,
    ⟨some 10, (.mkFn 103), [(.tmp 3)], (some (8, true))⟩,
    ⟨some 11, (.call true []), [(.func 102), (.tmp 9), (.tmp 10)], (some (8, true))⟩,
    ⟨some 12, (.un .not), [(.tmp 11)], (some (8, true))⟩,
    ⟨some 13, .pick, [(.tmp 8), (.tmp 12), (.const (.bool false))], none⟩,
    ⟨some 4, .mv, [(.tmp 13)], none⟩] [4])
  .ret))
def f88 : Ev.Fn := ⟨2, 14, [.tmp 4], k88⟩
set_option maxRecDepth 100000 in
theorem e88 : compFn prog sig 88 2 [[0, 3], [4]] = some f88 := by kernel_rfl
noncomputable def act_Right (l_0 : Sl api_Act) (ports_1 : Int) : Option (Bool) :=
  (bif decide ((l_0.l.length : Int) ≤ 16) then ((slices_ContainsFunc_api_Act_api_Act_act_Right_1 l_0 ports_1).bind fun r1 =>
  some (!r1)) else (some false)).bind fun b3 =>
  some b3
theorem act_Right_ok {l_0 : Sl api_Act} {ports_1 : Int} {z : Bool} (hp : act_Right l_0 ports_1 = some z) : Good prog 88 [.d (slD 3 c_api_Act l_0), .d (.lit (.int .i64 ports_1))] [.c (.d (.lit (.bool z)))] [] := by
  unfold act_Right at hp
  refine fn_good mixed e88 (fnS (m := [false]) (s := ⟨[(0, .c (.d (slD 3 c_api_Act l_0))), (1, .c (.d (.lit (.int .i64 ports_1))))], [], 0, []⟩) (len := 0) (c := k88) rfl (Sub.of_eq rfl) rfl rfl ?_)
  refine w_seq ?_
  refine w_region ?_
  refine o2 rfl ?_
  refine o1 rfl ?_
  refine o_end (e' := [(0, .c (.d (slD 3 c_api_Act l_0))), (3, .c (.op 0 0))]) rfl rfl ?_
  refine after_n ?_
  refine w_seq ?_
  obtain ⟨b3, h4, hp⟩ := bnd hp
  refine w_join (J := fun s => Sub s ⟨[(4, .c (.d (.lit (.bool b3))))], [], 0, []⟩) ?_ ?_
  · refine w_region ?_
    refine o1 rfl ?_
    refine o1 (v := .c (.d (.lit (.int .i64 (l_0.l.length : Int))))) len_sd ?_
    refine o1 (v := .c (.d (.lit (.bool (decide ((l_0.l.length : Int) ≤ 16)))))) rfl ?_
    refine o1 rfl ?_
    cases hb5 : (decide ((l_0.l.length : Int) ≤ 16) : Bool)
    · have h4 := cnd_f hb5 h4
      iterate 4 refine onot rfl rfl ?_
      iterate 2 refine o1 rfl ?_
      cases h4
      exact o_join (sub_ren [] [4] (by decide) rfl .nil (Nat.le_of_ble_eq_true rfl))
    · have h4 := cnd_t hb5 h4
      obtain ⟨r1, h2, h4⟩ := bnd h4
      iterate 2 refine og rfl rfl rfl ?_
      refine ocg (rs := [.c (.d (.lit (.bool r1)))]) (outs := []) rfl rfl rfl (slices_ContainsFunc_api_Act_api_Act_act_Right_1_ok h2) rfl ?_
      refine og (v := .c (.d (.lit (.bool (!r1))))) rfl rfl rfl ?_
      iterate 2 refine o1 rfl ?_
      cases h4
      exact o_join (sub_ren [] [4] (by decide) rfl .nil (Nat.le_of_ble_eq_true rfl))
  · intro s hs6
    refine after_n ?_
    refine W.sub hs6 ?_
    refine w_ret ?_
    obtain rfl := Option.some.inj hp
    exact leave_at rfl rfl (pr_c p_d pr_nil) pc_nil rfl rfl

/- turnout/rule.Right -/
def k58 : CC :=
  (.seq
  (.region [
    ⟨some 2, .box, [(.tmp 0)], none⟩,
    ⟨some 4, .mv, [(.const (.bool false))], none⟩] [1, 2])
  (.seq
  (.region [
    ⟨some 5, (.fieldAddr 0), [(.tmp 2)], none⟩,
    ⟨some 6, (.load false 1), [(.tmp 5)], none⟩,
    ⟨some 7, (.bin .geq), [(.tmp 6), (.const (.int .i64 0))], none⟩,
    ⟨some 8, .mv, [(.tmp 7)], none⟩,
    ⟨some 9, (.fieldAddr 0), [(.tmp 2)], (some (8, true))⟩,
    ⟨some 10, (.load false 1), [(.tmp 9)], (some (8, true))⟩,
    ⟨some 11, (.bin .lss), [(.tmp 10), (.const (.int .i64 65536))], (some (8, true))⟩,
    ⟨some 12, .pick, [(.tmp 8), (.tmp 11), (.const (.bool false))], none⟩,
    ⟨some 13, .mv, [(.tmp 12)], none⟩,
    ⟨some 14, (.fieldAddr 1), [(.tmp 2)], (some (13, true))⟩,
    ⟨some 15, (.load true 9), [(.tmp 14)], (some (13, true))⟩,
    ⟨some 16, (.call true []), [(.func 87), (.tmp 15)], (some (13, true))⟩,
    ⟨some 17, .pick, [(.tmp 13), (.tmp 16), (.const (.bool false))], none⟩,
    ⟨some 18, .mv, [(.tmp 17)], none⟩,
    ⟨some 19, (.fieldAddr 10), [(.tmp 2)], (some (18, true))⟩,
    ⟨some 20, (.load false 1), [(.tmp 19)], (some (18, true))⟩,
    ⟨some 21, .mv, [(.tmp 1)], (some (18, true))⟩,
    ⟨some 22, (.call true []), [(.func 88), (.tmp 20), (.tmp 21)], (some (18, true))⟩,
    ⟨some 23, .pick, [(.tmp 18), (.tmp 22), (.const (.bool false))], none⟩,
    ⟨some 4, .mv, [(.tmp 23)], none⟩] [4])
  .ret))
def f58 : Ev.Fn := ⟨2, 24, [.tmp 4], k58⟩
set_option maxRecDepth 100000 in
theorem e58 : compFn prog sig 58 2 [[1, 2], [4]] = some f58 := by kernel_rfl
noncomputable def rule_Right (x_0 : api_Rule) (ports_1 : Int) : Option (Bool) :=
  (bif decide (x_0.Prio ≥ 0) then (bif decide (x_0.Prio < 65536) then ((match_Right x_0.M).bind fun r1 =>
  bif r1 then ((act_Right x_0.Acts ports_1).bind fun r3 =>
  some r3) else (some false)) else (some false)) else (some false)).bind fun b5 =>
  some b5
theorem rule_Right_ok {x_0 : api_Rule} {ports_1 : Int} {z : Bool} (hp : rule_Right x_0 ports_1 = some z) : Good prog 58 [.agg (c_api_Rule x_0), .d (.lit (.int .i64 ports_1))] [.c (.d (.lit (.bool z)))] [] := by
  unfold rule_Right at hp
  refine fn_good mixed e58 (fnS (m := [false]) (s := ⟨[(0, .agg [.d (.lit (.int .i64 x_0.Prio)), .d (.lit (.int .i64 x_0.M.Port)), .d (.lit (.int .i64 x_0.M.Val.e0)), .d (.lit (.int .i64 x_0.M.Val.e1)), .d (.lit (.int .i64 x_0.M.Val.e2)), .d (.lit (.int .i64 x_0.M.Val.e3)), .d (.lit (.int .i64 x_0.M.Mask.e0)), .d (.lit (.int .i64 x_0.M.Mask.e1)), .d (.lit (.int .i64 x_0.M.Mask.e2)), .d (.lit (.int .i64 x_0.M.Mask.e3)), .d (slD 3 c_api_Act x_0.Acts)]), (1, .c (.d (.lit (.int .i64 ports_1))))], [], 0, []⟩) (len := 0) (c := k58) rfl (Sub.of_eq rfl) rfl rfl ?_)
  refine w_seq ?_
  refine w_region ?_
  refine o2 rfl ?_
  refine o1 rfl ?_
  refine o_end (e' := [(1, .c (.d (.lit (.int .i64 ports_1)))), (2, .c (.op 0 0))]) rfl rfl ?_
  refine after_n ?_
  refine w_seq ?_
  obtain ⟨b5, h6, hp⟩ := bnd hp
  refine w_join (J := fun s => Sub s ⟨[(4, .c (.d (.lit (.bool b5))))], [], 0, []⟩) ?_ ?_
  · refine w_region ?_
    iterate 2 refine o1 rfl ?_
    refine o1 (v := .c (.d (.lit (.bool (decide (x_0.Prio ≥ 0)))))) rfl ?_
    refine o1 rfl ?_
    cases hb7 : (decide (x_0.Prio ≥ 0) : Bool)
    · have h6 := cnd_f hb7 h6
      iterate 3 refine onot rfl rfl ?_
      iterate 2 refine o1 rfl ?_
      iterate 3 refine onot rfl rfl ?_
      iterate 2 refine o1 rfl ?_
      iterate 4 refine onot rfl rfl ?_
      iterate 2 refine o1 rfl ?_
      cases h6
      exact o_join (sub_ren [] [4] (by decide) rfl .nil (Nat.le_of_ble_eq_true rfl))
    · have h6 := cnd_t hb7 h6
      iterate 2 refine og rfl rfl rfl ?_
      refine og (v := .c (.d (.lit (.bool (decide (x_0.Prio < 65536)))))) rfl rfl rfl ?_
      iterate 2 refine o1 rfl ?_
      cases hb8 : (decide (x_0.Prio < 65536) : Bool)
      · have h6 := cnd_f hb8 h6
        iterate 3 refine onot rfl rfl ?_
        iterate 2 refine o1 rfl ?_
        iterate 4 refine onot rfl rfl ?_
        iterate 2 refine o1 rfl ?_
        cases h6
        exact o_join (sub_ren [] [4] (by decide) rfl .nil (Nat.le_of_ble_eq_true rfl))
      · have h6 := cnd_t hb8 h6
        obtain ⟨r1, h2, h6⟩ := bnd h6
        iterate 2 refine og rfl rfl rfl ?_
        refine ocg (rs := [.c (.d (.lit (.bool r1)))]) (outs := []) rfl rfl rfl (match_Right_ok h2) rfl ?_
        iterate 2 refine o1 rfl ?_
        cases hb9 : (r1 : Bool)
        · have h6 := cnd_f hb9 h6
          iterate 4 refine onot rfl rfl ?_
          iterate 2 refine o1 rfl ?_
          cases h6
          exact o_join (sub_ren [] [4] (by decide) rfl .nil (Nat.le_of_ble_eq_true rfl))
        · have h6 := cnd_t hb9 h6
          obtain ⟨r3, h4, h6⟩ := bnd h6
          iterate 3 refine og rfl rfl rfl ?_
          refine ocg (rs := [.c (.d (.lit (.bool r3)))]) (outs := []) rfl rfl rfl (act_Right_ok h4) rfl ?_
          iterate 2 refine o1 rfl ?_
          cases h6
          exact o_join (sub_ren [] [4] (by decide) rfl .nil (Nat.le_of_ble_eq_true rfl))
  · intro s hs10
    refine after_n ?_
    refine W.sub hs10 ?_
    refine w_ret ?_
    obtain rfl := Option.some.inj hp
    exact leave_at rfl rfl (pr_c p_d pr_nil) pc_nil rfl rfl

/- turnout/rule.Ahead -/
def k59 : CC :=
  (.seq
  (.region [
    ⟨some 2, .box, [(.tmp 0)], none⟩,
    ⟨some 3, .box, [(.tmp 1)], none⟩,
    ⟨some 4, .mv, [(.const (.bool false))], none⟩] [2, 3])
  (.seq
  (.region [
    ⟨some 5, (.fieldAddr 0), [(.tmp 2)], none⟩,
    ⟨some 6, (.load false 1), [(.tmp 5)], none⟩,
    ⟨some 7, (.fieldAddr 0), [(.tmp 3)], none⟩,
    ⟨some 8, (.load false 1), [(.tmp 7)], none⟩,
    ⟨some 9, (.bin .gtr), [(.tmp 6), (.tmp 8)], none⟩,
    ⟨some 4, .mv, [(.tmp 9)], none⟩] [4])
  .ret))
def f59 : Ev.Fn := ⟨2, 10, [.tmp 4], k59⟩
set_option maxRecDepth 100000 in
theorem e59 : compFn prog sig 59 2 [[2, 3], [4]] = some f59 := by kernel_rfl
noncomputable def rule_Ahead (a_0 : api_Rule) (b_1 : api_Rule) : Option (Bool) :=
  some (decide (a_0.Prio > b_1.Prio))
theorem rule_Ahead_ok {a_0 : api_Rule} {b_1 : api_Rule} {z : Bool} (hp : rule_Ahead a_0 b_1 = some z) : Good prog 59 [.agg (c_api_Rule a_0), .agg (c_api_Rule b_1)] [.c (.d (.lit (.bool z)))] [] := by
  unfold rule_Ahead at hp
  refine fn_good mixed e59 (fnS (m := [false]) (s := ⟨[(0, .agg [.d (.lit (.int .i64 a_0.Prio)), .d (.lit (.int .i64 a_0.M.Port)), .d (.lit (.int .i64 a_0.M.Val.e0)), .d (.lit (.int .i64 a_0.M.Val.e1)), .d (.lit (.int .i64 a_0.M.Val.e2)), .d (.lit (.int .i64 a_0.M.Val.e3)), .d (.lit (.int .i64 a_0.M.Mask.e0)), .d (.lit (.int .i64 a_0.M.Mask.e1)), .d (.lit (.int .i64 a_0.M.Mask.e2)), .d (.lit (.int .i64 a_0.M.Mask.e3)), .d (slD 3 c_api_Act a_0.Acts)]), (1, .agg [.d (.lit (.int .i64 b_1.Prio)), .d (.lit (.int .i64 b_1.M.Port)), .d (.lit (.int .i64 b_1.M.Val.e0)), .d (.lit (.int .i64 b_1.M.Val.e1)), .d (.lit (.int .i64 b_1.M.Val.e2)), .d (.lit (.int .i64 b_1.M.Val.e3)), .d (.lit (.int .i64 b_1.M.Mask.e0)), .d (.lit (.int .i64 b_1.M.Mask.e1)), .d (.lit (.int .i64 b_1.M.Mask.e2)), .d (.lit (.int .i64 b_1.M.Mask.e3)), .d (slD 3 c_api_Act b_1.Acts)])], [], 0, []⟩) (len := 0) (c := k59) rfl (Sub.of_eq rfl) rfl rfl ?_)
  refine w_seq ?_
  refine w_region ?_
  refine o2 rfl ?_
  refine o2 rfl ?_
  refine o1 rfl ?_
  refine o_end (e' := [(2, .c (.op 0 0)), (3, .c (.op 1 0))]) rfl rfl ?_
  refine after_n ?_
  refine w_seq ?_
  refine w_region ?_
  iterate 4 refine o1 rfl ?_
  refine o1 (v := .c (.d (.lit (.bool (decide (a_0.Prio > b_1.Prio)))))) rfl ?_
  refine o1 rfl ?_
  refine o_end (e' := [(4, .c (.d (.lit (.bool (decide (a_0.Prio > b_1.Prio))))))]) rfl rfl ?_
  refine after_n ?_
  refine w_ret ?_
  obtain rfl := Option.some.inj hp
  exact leave_at rfl rfl (pr_c p_d pr_nil) pc_nil rfl rfl

/- turnout/rule.Key -/
def k90 : CC :=
  (.seq
  (.region [
    ⟨some 2, .box, [(.tmp 0)], none⟩,
    ⟨some 3, .box, [(.tmp 1)], none⟩,
    ⟨some 4, .mv, [(.const (.bool false))], none⟩] [2, 3])
  (.seq
  (.region [
    ⟨some 5, (.fieldAddr 0), [(.tmp 2)], none⟩,
    ⟨some 6, (.load false 1), [(.tmp 5)], none⟩,
    ⟨some 7, (.fieldAddr 0), [(.tmp 3)], none⟩,
    ⟨some 8, (.load false 1), [(.tmp 7)], none⟩,
    ⟨some 9, (.bin .eql), [(.tmp 6), (.tmp 8)], none⟩,
    ⟨some 10, .mv, [(.tmp 9)], none⟩,
    ⟨some 11, (.fieldAddr 1), [(.tmp 2)], (some (10, true))⟩,
    ⟨some 12, (.load true 9), [(.tmp 11)], (some (10, true))⟩,
    ⟨some 13, (.fieldAddr 1), [(.tmp 3)], (some (10, true))⟩,
    ⟨some 14, (.load true 9), [(.tmp 13)], (some (10, true))⟩,
    ⟨some 15, (.eqAgg false [(.i .i64), (.i .i64), (.i .i64), (.i .i64), (.i .i64), (.i .i64), (.i .i64), (.i .i64), (.i .i64)]), [(.tmp 12), (.tmp 14)], (some (10, true))⟩,
    ⟨some 16, .pick, [(.tmp 10), (.tmp 15), (.const (.bool false))], none⟩,
    ⟨some 4, .mv, [(.tmp 16)], none⟩] [4])
  .ret))
def f90 : Ev.Fn := ⟨2, 17, [.tmp 4], k90⟩
set_option maxRecDepth 100000 in
theorem e90 : compFn prog sig 90 2 [[2, 3], [4]] = some f90 := by kernel_rfl
noncomputable def rule_Key (a_0 : api_Rule) (b_1 : api_Rule) : Option (Bool) :=
  some ((a_0.Prio == b_1.Prio) && ((a_0.M.Port == b_1.M.Port) && ((a_0.M.Val.e0 == b_1.M.Val.e0) && ((a_0.M.Val.e1 == b_1.M.Val.e1) && ((a_0.M.Val.e2 == b_1.M.Val.e2) && ((a_0.M.Val.e3 == b_1.M.Val.e3) && ((a_0.M.Mask.e0 == b_1.M.Mask.e0) && ((a_0.M.Mask.e1 == b_1.M.Mask.e1) && ((a_0.M.Mask.e2 == b_1.M.Mask.e2) && ((a_0.M.Mask.e3 == b_1.M.Mask.e3) && true))))))))))
theorem rule_Key_ok {a_0 : api_Rule} {b_1 : api_Rule} {z : Bool} (hp : rule_Key a_0 b_1 = some z) : Good prog 90 [.agg (c_api_Rule a_0), .agg (c_api_Rule b_1)] [.c (.d (.lit (.bool z)))] [] := by
  unfold rule_Key at hp
  refine fn_good mixed e90 (fnS (m := [false]) (s := ⟨[(0, .agg [.d (.lit (.int .i64 a_0.Prio)), .d (.lit (.int .i64 a_0.M.Port)), .d (.lit (.int .i64 a_0.M.Val.e0)), .d (.lit (.int .i64 a_0.M.Val.e1)), .d (.lit (.int .i64 a_0.M.Val.e2)), .d (.lit (.int .i64 a_0.M.Val.e3)), .d (.lit (.int .i64 a_0.M.Mask.e0)), .d (.lit (.int .i64 a_0.M.Mask.e1)), .d (.lit (.int .i64 a_0.M.Mask.e2)), .d (.lit (.int .i64 a_0.M.Mask.e3)), .d (slD 3 c_api_Act a_0.Acts)]), (1, .agg [.d (.lit (.int .i64 b_1.Prio)), .d (.lit (.int .i64 b_1.M.Port)), .d (.lit (.int .i64 b_1.M.Val.e0)), .d (.lit (.int .i64 b_1.M.Val.e1)), .d (.lit (.int .i64 b_1.M.Val.e2)), .d (.lit (.int .i64 b_1.M.Val.e3)), .d (.lit (.int .i64 b_1.M.Mask.e0)), .d (.lit (.int .i64 b_1.M.Mask.e1)), .d (.lit (.int .i64 b_1.M.Mask.e2)), .d (.lit (.int .i64 b_1.M.Mask.e3)), .d (slD 3 c_api_Act b_1.Acts)])], [], 0, []⟩) (len := 0) (c := k90) rfl (Sub.of_eq rfl) rfl rfl ?_)
  refine w_seq ?_
  refine w_region ?_
  refine o2 rfl ?_
  refine o2 rfl ?_
  refine o1 rfl ?_
  refine o_end (e' := [(2, .c (.op 0 0)), (3, .c (.op 1 0))]) rfl rfl ?_
  refine after_n ?_
  refine w_seq ?_
  refine w_join (J := fun s => Sub s ⟨[(4, .c (.d (.lit (.bool ((a_0.Prio == b_1.Prio) && ((a_0.M.Port == b_1.M.Port) && ((a_0.M.Val.e0 == b_1.M.Val.e0) && ((a_0.M.Val.e1 == b_1.M.Val.e1) && ((a_0.M.Val.e2 == b_1.M.Val.e2) && ((a_0.M.Val.e3 == b_1.M.Val.e3) && ((a_0.M.Mask.e0 == b_1.M.Mask.e0) && ((a_0.M.Mask.e1 == b_1.M.Mask.e1) && ((a_0.M.Mask.e2 == b_1.M.Mask.e2) && ((a_0.M.Mask.e3 == b_1.M.Mask.e3) && true))))))))))))))], [], 0, []⟩) ?_ ?_
  · refine w_region ?_
    iterate 4 refine o1 rfl ?_
    refine o1 (v := .c (.d (.lit (.bool (a_0.Prio == b_1.Prio))))) rfl ?_
    refine o1 rfl ?_
    cases hb2 : ((a_0.Prio == b_1.Prio) : Bool)
    · refine onot rfl rfl ?_
      iterate 4 refine onot rfl rfl ?_
      iterate 2 refine o1 rfl ?_
      exact o_join (sub_ren [] [4] (by decide) rfl .nil (Nat.le_of_ble_eq_true rfl))
    · refine og rfl rfl rfl ?_
      iterate 3 refine og rfl rfl rfl ?_
      refine og (v := .c (.d (.lit (.bool ((a_0.M.Port == b_1.M.Port) && ((a_0.M.Val.e0 == b_1.M.Val.e0) && ((a_0.M.Val.e1 == b_1.M.Val.e1) && ((a_0.M.Val.e2 == b_1.M.Val.e2) && ((a_0.M.Val.e3 == b_1.M.Val.e3) && ((a_0.M.Mask.e0 == b_1.M.Mask.e0) && ((a_0.M.Mask.e1 == b_1.M.Mask.e1) && ((a_0.M.Mask.e2 == b_1.M.Mask.e2) && ((a_0.M.Mask.e3 == b_1.M.Mask.e3) && true))))))))))))) rfl rfl rfl ?_
      iterate 2 refine o1 rfl ?_
      exact o_join (sub_ren [] [4] (by decide) rfl .nil (Nat.le_of_ble_eq_true rfl))
  · intro s hs3
    refine after_n ?_
    refine W.sub hs3 ?_
    refine w_ret ?_
    obtain rfl := Option.some.inj hp
    exact leave_at rfl rfl (pr_c p_d pr_nil) pc_nil rfl rfl

/- turnout/table.key$1 -/
def k89 : CC :=
  (.seq
  (.region [
    ⟨some 2, .box, [(.tmp 0)], none⟩,
    ⟨some 3, .mv, [(.const (.bool false))], none⟩] [1, 2])
  (.seq
  (.region [
    ⟨some 4, (.load true 11), [(.tmp 1)], none⟩,
    ⟨some 5, (.load true 11), [(.tmp 2)], none⟩,
    ⟨some 6, (.call true []), [(.func 90), (.tmp 4), (.tmp 5)], none⟩,
    ⟨some 3, .mv, [(.tmp 6)], none⟩] [3])
  .ret))
def f89 : Ev.Fn := ⟨2, 7, [.tmp 3], k89⟩
set_option maxRecDepth 100000 in
theorem e89 : compFn prog sig 89 2 [[1, 2], [3]] = some f89 := by kernel_rfl
noncomputable def table_key_1 (y_0 : api_Rule) (c_1 : api_Rule) : Option (Bool) :=
  (rule_Key c_1 y_0).bind fun r1 =>
  some r1
theorem table_key_1_ok {y_0 : api_Rule} {c_1 : api_Rule} {z : Bool} (hp : table_key_1 y_0 c_1 = some z) : Good prog 89 [.agg (c_api_Rule y_0), .d (.pt (c_api_Rule c_1))] [.c (.d (.lit (.bool z)))] [] := by
  unfold table_key_1 at hp
  refine fn_good mixed e89 (fnS (m := [false]) (s := ⟨[(0, .agg [.d (.lit (.int .i64 y_0.Prio)), .d (.lit (.int .i64 y_0.M.Port)), .d (.lit (.int .i64 y_0.M.Val.e0)), .d (.lit (.int .i64 y_0.M.Val.e1)), .d (.lit (.int .i64 y_0.M.Val.e2)), .d (.lit (.int .i64 y_0.M.Val.e3)), .d (.lit (.int .i64 y_0.M.Mask.e0)), .d (.lit (.int .i64 y_0.M.Mask.e1)), .d (.lit (.int .i64 y_0.M.Mask.e2)), .d (.lit (.int .i64 y_0.M.Mask.e3)), .d (slD 3 c_api_Act y_0.Acts)]), (1, .c (.d (.pt (c_api_Rule c_1))))], [], 0, []⟩) (len := 0) (c := k89) rfl (Sub.of_eq rfl) rfl rfl ?_)
  refine w_seq ?_
  refine w_region ?_
  refine o2 rfl ?_
  refine o1 rfl ?_
  refine o_end (e' := [(1, .c (.d (.pt (c_api_Rule c_1)))), (2, .c (.op 0 0))]) rfl rfl ?_
  refine after_n ?_
  refine w_seq ?_
  obtain ⟨r1, h2, hp⟩ := bnd hp
  refine w_region ?_
  iterate 2 refine o1 rfl ?_
  refine oc (rs := [.c (.d (.lit (.bool r1)))]) (outs := []) rfl (rule_Key_ok h2) rfl ?_
  refine o1 rfl ?_
  refine o_end (e' := [(3, .c (.d (.lit (.bool r1))))]) rfl rfl ?_
  refine after_n ?_
  refine w_ret ?_
  obtain rfl := Option.some.inj hp
  exact leave_at rfl rfl (pr_c p_d pr_nil) pc_nil rfl rfl

noncomputable def slices_IndexFunc_api_Rule_api_Rule_table_key_1_L1 (s_0 : Sl api_Rule) (c_1_0 : api_Rule) : Int → Option (Sum (Int) (Sum (Int) (Unit))) := fun i1 =>
  bif decide (i1 < (s_0.l.length : Int)) then ((ixI i1 s_0.l.length).bind fun n7 =>
  (table_key_1 (⟨(gt s_0.l n7).Prio, (gt s_0.l n7).M, (gt s_0.l n7).Acts⟩ : api_Rule) c_1_0).bind fun r9 =>
  bif r9 then (some (.inr (.inl i1))) else
  (some (.inl (wr .i64 (i1 + 1))))) else
  (some (.inr (.inr ())))

noncomputable def slices_IndexFunc_api_Rule_api_Rule_table_key_1 (s_0 : Sl api_Rule) (c_1_0 : api_Rule) : Option (Int) :=
  (loopO (slices_IndexFunc_api_Rule_api_Rule_table_key_1_L1 s_0 c_1_0) 0).bind fun
  | .inl i3 => (some i3)
  | .inr (_) => (some (-1))
theorem slices_IndexFunc_api_Rule_api_Rule_table_key_1_ok {s_0 : Sl api_Rule} {c_1_0 : api_Rule} {z : Int} (hp : slices_IndexFunc_api_Rule_api_Rule_table_key_1 s_0 c_1_0 = some z) : Good prog 83 [.d (slD 11 c_api_Rule s_0), .d (.fn 89 [.pt (c_api_Rule c_1_0)])] [.c (.d (.lit (.int .i64 z)))] [] := by
  unfold slices_IndexFunc_api_Rule_api_Rule_table_key_1 at hp
  refine fn_good mixed e83 (fnS (m := [false]) (s := ⟨[(0, .c (.d (slD 11 c_api_Rule s_0))), (1, .c (.d (.fn 89 [.pt (c_api_Rule c_1_0)])))], [], 0, []⟩) (len := 0) (c := k83) rfl (Sub.of_eq rfl) rfl rfl ?_)
  refine w_seq ?_
  refine w_region ?_
  refine o1 rfl ?_
  refine o_end (e' := [(0, .c (.d (slD 11 c_api_Rule s_0))), (1, .c (.d (.fn 89 [.pt (c_api_Rule c_1_0)])))]) rfl rfl ?_
  refine after_n ?_
  refine w_seq ?_
  refine w_seq ?_
  refine w_region ?_
  refine o1 rfl ?_
  refine o1 (v := .c (.d (.lit (.int .i64 (s_0.l.length : Int))))) len_sd ?_
  refine o1 rfl ?_
  refine o_end (e' := [(0, .c (.d (slD 11 c_api_Rule s_0))), (1, .c (.d (.fn 89 [.pt (c_api_Rule c_1_0)]))), (7, .c (.d (.lit (.int .i64 (s_0.l.length : Int))))), (8, .c (.d (.lit (.int .i64 0))))]) rfl rfl ?_
  refine after_n ?_
  refine w_block ?_
  obtain ⟨x4, h5, hp⟩ := bnd hp
  refine W.mono ?_ (w_loopS (st := fun (v : Int) => match v with | i1 => ⟨[(0, .c (.d (slD 11 c_api_Rule s_0))), (1, .c (.d (.fn 89 [.pt (c_api_Rule c_1_0)]))), (7, .c (.d (.lit (.int .i64 (s_0.l.length : Int))))), (8, .c (.d (.lit (.int .i64 i1))))], [], 0, []⟩) (a := 0) (Q := Jn (fun (x : Sum (Int) (Unit)) o s => match x with | .inl i3 => o = Out.ret ∧ Sub s ⟨[(4, .c (.d (.lit (.int .i64 i3))))], [], 0, []⟩ | .inr (_) => o = Out.exit 0 ∧ Sub s ⟨[], [], 0, []⟩)) ?_ h5 ?_)
  · intro o s hs12
    rcases x4 with (i3 | _)
    · obtain ⟨rfl, hs12⟩ := hs12
      refine out_r ?_
      refine after_r ?_
      obtain rfl := Option.some.inj hp
      refine wk.sub hs12 ?_
      exact leave_at rfl rfl (pr_c p_d pr_nil) pc_nil rfl rfl
    · obtain ⟨rfl, hs12⟩ := hs12
      refine out_e ?_
      refine after_n ?_
      refine W.sub hs12 ?_
      refine w_seq ?_
      refine w_region ?_
      refine o1 rfl ?_
      refine o_end (e' := [(4, .c (.d (.lit (.int .i64 (-1)))))]) rfl rfl ?_
      refine after_n ?_
      refine w_ret ?_
      obtain rfl := Option.some.inj hp
      exact leave_at rfl rfl (pr_c p_d pr_nil) pc_nil rfl rfl
  · exact (sub_ren [] [0, 1, 7, 8] (by decide) rfl .nil (Nat.le_of_ble_eq_true rfl))
  · rintro i1 r hr
    unfold slices_IndexFunc_api_Rule_api_Rule_table_key_1_L1 at hr
    refine w_seq ?_
    refine w_region ?_
    refine o1 (v := .c (.d (.lit (.bool (decide (i1 < (s_0.l.length : Int))))))) rfl ?_
    refine o_end (e' := [(0, .c (.d (slD 11 c_api_Rule s_0))), (1, .c (.d (.fn 89 [.pt (c_api_Rule c_1_0)]))), (7, .c (.d (.lit (.int .i64 (s_0.l.length : Int))))), (8, .c (.d (.lit (.int .i64 i1)))), (9, .c (.d (.lit (.bool (decide (i1 < (s_0.l.length : Int)))))))]) rfl rfl ?_
    refine after_n ?_
    refine w_seq ?_
    refine w_cond (t := decide (i1 < (s_0.l.length : Int))) rfl (fun hb6 => ?_) (fun hb6 => ?_)
    · have hr := cnd_t hb6 hr
      refine w_skip ?_
      refine after_n ?_
      refine w_seq ?_
      refine w_block ?_
      refine w_seq ?_
      refine w_region ?_
      iterate 2 refine o1 rfl ?_
      refine o_end (e' := [(0, .c (.d (slD 11 c_api_Rule s_0))), (1, .c (.d (.fn 89 [.pt (c_api_Rule c_1_0)]))), (5, .c (.d (.lit (.int .i64 i1)))), (7, .c (.d (.lit (.int .i64 (s_0.l.length : Int))))), (8, .c (.d (.lit (.int .i64 i1))))]) rfl rfl ?_
      refine after_n ?_
      refine w_seq ?_
      obtain ⟨n7, h8, hr⟩ := bnd hr
      obtain ⟨r9, h10, hr⟩ := bnd hr
      refine w_region ?_
      iterate 3 refine o1 rfl ?_
      refine o1 (ix_sd h8) ?_
      refine o1 rfl ?_
      refine oc (rs := [.c (.d (.lit (.bool r9)))]) (outs := []) rfl (table_key_1_ok h10) rfl ?_
      refine o_end (e' := [(0, .c (.d (slD 11 c_api_Rule s_0))), (1, .c (.d (.fn 89 [.pt (c_api_Rule c_1_0)]))), (5, .c (.d (.lit (.int .i64 i1)))), (7, .c (.d (.lit (.int .i64 (s_0.l.length : Int))))), (8, .c (.d (.lit (.int .i64 i1)))), (16, .c (.d (.lit (.bool r9))))]) rfl rfl ?_
      refine after_n ?_
      refine w_cond (t := r9) rfl (fun hb11 => ?_) (fun hb11 => ?_)
      · have hr := cnd_t hb11 hr
        refine w_seq ?_
        refine w_region ?_
        iterate 2 refine o1 rfl ?_
        refine o_end (e' := [(4, .c (.d (.lit (.int .i64 i1))))]) rfl rfl ?_
        refine after_n ?_
        refine w_ret ?_
        refine out_r ?_
        refine after_r ?_
        obtain rfl := Option.some.inj hr
        exact And.intro nofun (And.intro rfl (sub_ren [] [4] (by decide) rfl .nil (Nat.le_of_ble_eq_true rfl)))
      · have hr := cnd_f hb11 hr
        refine w_skip ?_
        refine out_n ?_
        refine after_n ?_
        refine w_region ?_
        refine o1 (v := .c (.d (.lit (.int .i64 (wr .i64 (i1 + 1)))))) rfl ?_
        refine o1 rfl ?_
        refine o_end (e' := [(0, .c (.d (slD 11 c_api_Rule s_0))), (1, .c (.d (.fn 89 [.pt (c_api_Rule c_1_0)]))), (7, .c (.d (.lit (.int .i64 (s_0.l.length : Int))))), (8, .c (.d (.lit (.int .i64 (wr .i64 (i1 + 1))))))]) rfl rfl ?_
        obtain rfl := Option.some.inj hr
        exact And.intro rfl (sub_ren [] [0, 1, 7, 8] (by decide) rfl .nil (Nat.le_of_ble_eq_true rfl))
    · have hr := cnd_f hb6 hr
      refine w_exit ?_
      refine after_e ?_
      obtain rfl := Option.some.inj hr
      exact And.intro nofun (And.intro rfl (sub_ren [] [] (by decide) rfl .nil (Nat.le_of_ble_eq_true rfl)))

/- turnout/table.key -/
def k60 : CC :=
  (.seq
  (.region [
    ⟨some 3, .box, [(.tmp 1)], none⟩,
    ⟨some 4, .mv, [(.const (.int .i64 0))], none⟩] [0, 3])
  (.seq
  (.region [
    ⟨some 5, .mv, [(.tmp 0)], none⟩,
    ⟨some 6, (.mkFn 89), [(.tmp 3)], none⟩,
    ⟨some 7, (.call true []), [(.func 83), (.tmp 5), (.tmp 6)], none⟩,
    ⟨some 4, .mv, [(.tmp 7)], none⟩] [4])
  .ret))
def f60 : Ev.Fn := ⟨2, 8, [.tmp 4], k60⟩
set_option maxRecDepth 100000 in
theorem e60 : compFn prog sig 60 2 [[0, 3], [4]] = some f60 := by kernel_rfl
noncomputable def table_key (t_0 : Sl api_Rule) (x_1 : api_Rule) : Option (Int) :=
  (slices_IndexFunc_api_Rule_api_Rule_table_key_1 t_0 x_1).bind fun r1 =>
  some r1
theorem table_key_ok {t_0 : Sl api_Rule} {x_1 : api_Rule} {z : Int} (hp : table_key t_0 x_1 = some z) : Good prog 60 [.d (slD 11 c_api_Rule t_0), .agg (c_api_Rule x_1)] [.c (.d (.lit (.int .i64 z)))] [] := by
  unfold table_key at hp
  refine fn_good mixed e60 (fnS (m := [false]) (s := ⟨[(0, .c (.d (slD 11 c_api_Rule t_0))), (1, .agg [.d (.lit (.int .i64 x_1.Prio)), .d (.lit (.int .i64 x_1.M.Port)), .d (.lit (.int .i64 x_1.M.Val.e0)), .d (.lit (.int .i64 x_1.M.Val.e1)), .d (.lit (.int .i64 x_1.M.Val.e2)), .d (.lit (.int .i64 x_1.M.Val.e3)), .d (.lit (.int .i64 x_1.M.Mask.e0)), .d (.lit (.int .i64 x_1.M.Mask.e1)), .d (.lit (.int .i64 x_1.M.Mask.e2)), .d (.lit (.int .i64 x_1.M.Mask.e3)), .d (slD 3 c_api_Act x_1.Acts)])], [], 0, []⟩) (len := 0) (c := k60) rfl (Sub.of_eq rfl) rfl rfl ?_)
  refine w_seq ?_
  refine w_region ?_
  refine o2 rfl ?_
  refine o1 rfl ?_
  refine o_end (e' := [(0, .c (.d (slD 11 c_api_Rule t_0))), (3, .c (.op 0 0))]) rfl rfl ?_
  refine after_n ?_
  refine w_seq ?_
  obtain ⟨r1, h2, hp⟩ := bnd hp
  refine w_region ?_
  iterate 2 refine o1 rfl ?_
  refine oc (rs := [.c (.d (.lit (.int .i64 r1)))]) (outs := []) rfl (slices_IndexFunc_api_Rule_api_Rule_table_key_1_ok h2) rfl ?_
  refine o1 rfl ?_
  refine o_end (e' := [(4, .c (.d (.lit (.int .i64 r1))))]) rfl rfl ?_
  refine after_n ?_
  refine w_ret ?_
  obtain rfl := Option.some.inj hp
  exact leave_at rfl rfl (pr_c p_d pr_nil) pc_nil rfl rfl

/- turnout/table.Right -/
def k20 : CC :=
  (.seq
  (.region [
    ⟨some 6, .mv, [(.const (.bool false))], none⟩] [0, 1, 2])
  (.seq
  (.seq
  (.region [
    ⟨some 9, .mv, [(.tmp 0)], none⟩,
    ⟨some 10, (.len false), [(.tmp 9)], none⟩,
    ⟨some 11, .mv, [(.tmp 2)], none⟩,
    ⟨some 12, (.bin .gtr), [(.tmp 10), (.tmp 11)], none⟩] [0, 1, 12])
  (.cond (.tmp 12)
    (.seq
    (.region [
      ⟨some 6, .mv, [(.const (.bool false))], none⟩] [6])
    .ret)
    .skip))
  (.seq
  (.seq
  (.region [
    ⟨some 13, .mv, [(.tmp 0)], none⟩,
    ⟨some 14, (.len false), [(.tmp 13)], none⟩,
    ⟨some 15, .mv, [(.const (.int .i64 0))], none⟩] [0, 1, 13, 14, 15])
  (.block 0
    (.loop [0, 1, 13, 14, 15]
      (.seq
      (.region [
        ⟨some 16, (.bin .lss), [(.tmp 15), (.tmp 14)], none⟩] [0, 1, 13, 14, 15, 16])
      (.seq
      (.cond (.tmp 16)
        .skip
        (.exit 0))
      (.seq
      (.block 1
        (.seq
        (.region [
          ⟨some 17, .mv, [(.tmp 15)], none⟩,
          ⟨some 18, (.indexAddr none 11), [(.tmp 13), (.tmp 15)], none⟩,
          ⟨some 19, (.load true 11), [(.tmp 18)], none⟩,
          ⟨some 8, (.alloc [(.int .i64 0), (.int .i64 0), (.int .i64 0), (.int .i64 0), (.int .i64 0), (.int .i64 0), (.int .i64 0), (.int .i64 0), (.int .i64 0), (.int .i64 0), (.slice none 0 0)]), [], none⟩,
          ⟨some 7, .mv, [(.tmp 17)], none⟩,
          ⟨none, (.store 11), [(.tmp 8), (.tmp 19)], none⟩] [0, 1, 7, 8, 13, 14, 15])
        (.seq
        (.seq
        (.drawn [
          ⟨some 20, (.load true 11), [(.tmp 8)], none⟩,
          ⟨some 21, .mv, [(.tmp 1)], none⟩,
          ⟨some 22, (.call true []), [(.func 58), (.tmp 20), (.tmp 21)], none⟩,
          ⟨some 23, (.un .not), [(.tmp 22)], none⟩,
          ⟨some 24, .mv, [(.tmp 23)], none⟩,
          ⟨some 25, .mv, [(.tmp 7)], (some (24, false))⟩,
          ⟨some 26, (.bin .gtr), [(.tmp 25), (.const (.int .i64 0))], (some (24, false))⟩,
          ⟨some 27, .mv, [(.tmp 26)], (some (24, false))⟩,
          ⟨some 28, (.load true 11), [(.tmp 8)], (some (27, true))⟩,
          ⟨some 29, .mv, [(.tmp 0)], (some (27, true))⟩,
          ⟨some 30, .mv, [(.tmp 7)], (some (27, true))⟩,
          ⟨some 31, (.bin .sub), [(.tmp 30), (.const (.int .i64 1))], (some (27, true))⟩,
          ⟨some 32, (.indexAddr none 11), [(.tmp 29), (.tmp 31)], (some (27, true))⟩,
          ⟨some 33, (.load true 11), [(.tmp 32)], (some (27, true))⟩,
          ⟨some 34, (.call true []), [(.func 59), (.tmp 28), (.tmp 33)], (some (27, true))⟩,
          ⟨some 35, .pick, [(.tmp 27), (.tmp 34), (.const (.bool false))], (some (24, false))⟩,
          ⟨some 36, .pick, [(.tmp 24), (.const (.bool true)), (.tmp 35)], none⟩] [] [0, 1, 7, 8, 13, 14, 15, 36])
        (.cond (.tmp 36)
          (.seq
          (.region [
            ⟨some 6, .mv, [(.const (.bool false))], none⟩] [6])
          .ret)
          .skip))
        (.seq
        (.drawn [
          ⟨some 37, .mv, [(.tmp 0)], none⟩,
          ⟨some 38, .mv, [(.tmp 7)], none⟩,
          ⟨some 39, (.slice false 11 false true), [(.tmp 37), (.tmp 38)], none⟩,
          ⟨some 40, (.load true 11), [(.tmp 8)], none⟩,
          ⟨some 41, (.call true []), [(.func 60), (.tmp 39), (.tmp 40)], none⟩,
          ⟨some 42, (.bin .geq), [(.tmp 41), (.const (.int .i64 0))], none⟩] [] [0, 1, 13, 14, 15, 42])
        (.cond (.tmp 42)
          (.seq
          (.region [
            ⟨some 6, .mv, [(.const (.bool false))], none⟩] [6])
          .ret)
          .skip)))))
      (.region [
        ⟨some 43, (.bin .add), [(.tmp 15), (.const (.int .i64 1))], none⟩,
        ⟨some 15, .mv, [(.tmp 43)], none⟩] [0, 1, 13, 14, 15])))))))
  (.seq
  (.region [
    ⟨some 6, .mv, [(.const (.bool true))], none⟩] [6])
  .ret))))
def f20 : Ev.Fn := ⟨3, 44, [.tmp 6], k20⟩
set_option maxRecDepth 100000 in
theorem e20 : compFn prog sig 20 3 [[0, 1, 2], [0, 1, 12], [6], [0, 1, 13, 14, 15], [0, 1, 13, 14, 15], [0, 1, 13, 14, 15, 16], [0, 1, 7, 8, 13, 14, 15], [0, 1, 7, 8, 13, 14, 15, 36], [6], [0, 1, 13, 14, 15, 42], [6], [0, 1, 13, 14, 15], [6]] = some f20 := by kernel_rfl
noncomputable def table_Right_L1 (t_0 : Sl api_Rule) (ports_1 : Int) : Int → Option (Sum (Int) (Sum (Unit) (Unit))) := fun i2 =>
  bif decide (i2 < (t_0.l.length : Int)) then ((ixI i2 t_0.l.length).bind fun n7 =>
  (rule_Right (gt t_0.l n7) ports_1).bind fun r9 =>
  (bif (!r9) then (some true) else (bif decide (i2 > 0) then ((ixI (wr .i64 (i2 - 1)) t_0.l.length).bind fun n11 =>
  (rule_Ahead (gt t_0.l n7) (gt t_0.l n11)).bind fun r13 =>
  some r13) else (some false))).bind fun b15 =>
  bif b15 then (some (.inr (.inl ()))) else
  ((cutI t_0.l 0 i2).bind fun l21 =>
  (table_key (t_0.to l21) (gt t_0.l n7)).bind fun r23 =>
  bif decide (r23 ≥ 0) then (some (.inr (.inl ()))) else
  (some (.inl (wr .i64 (i2 + 1)))))) else
  (some (.inr (.inr ())))

noncomputable def table_Right (t_0 : Sl api_Rule) (ports_1 : Int) (room_2 : Int) : Option (Bool) :=
  bif decide ((t_0.l.length : Int) > room_2) then (some false) else
  ((loopO (table_Right_L1 t_0 ports_1) 0).bind fun
  | .inl _ => (some false)
  | .inr (_) => (some true))
theorem table_Right_ok {t_0 : Sl api_Rule} {ports_1 : Int} {room_2 : Int} {z : Bool} (hp : table_Right t_0 ports_1 room_2 = some z) : Good prog 20 [.d (slD 11 c_api_Rule t_0), .d (.lit (.int .i64 ports_1)), .d (.lit (.int .i64 room_2))] [.c (.d (.lit (.bool z)))] [] := by
  unfold table_Right at hp
  refine fn_good mixed e20 (fnS (m := [false]) (s := ⟨[(0, .c (.d (slD 11 c_api_Rule t_0))), (1, .c (.d (.lit (.int .i64 ports_1)))), (2, .c (.d (.lit (.int .i64 room_2))))], [], 0, []⟩) (len := 0) (c := k20) rfl (Sub.of_eq rfl) rfl rfl ?_)
  refine w_seq ?_
  refine w_region ?_
  refine o1 rfl ?_
  refine o_end (e' := [(0, .c (.d (slD 11 c_api_Rule t_0))), (1, .c (.d (.lit (.int .i64 ports_1)))), (2, .c (.d (.lit (.int .i64 room_2))))]) rfl rfl ?_
  refine after_n ?_
  refine w_seq ?_
  refine w_seq ?_
  refine w_region ?_
  refine o1 rfl ?_
  refine o1 (v := .c (.d (.lit (.int .i64 (t_0.l.length : Int))))) len_sd ?_
  refine o1 rfl ?_
  refine o1 (v := .c (.d (.lit (.bool (decide ((t_0.l.length : Int) > room_2)))))) rfl ?_
  refine o_end (e' := [(0, .c (.d (slD 11 c_api_Rule t_0))), (1, .c (.d (.lit (.int .i64 ports_1)))), (12, .c (.d (.lit (.bool (decide ((t_0.l.length : Int) > room_2))))))]) rfl rfl ?_
  refine after_n ?_
  refine w_cond (t := decide ((t_0.l.length : Int) > room_2)) rfl (fun hb1 => ?_) (fun hb1 => ?_)
  · have hp := cnd_t hb1 hp
    refine w_seq ?_
    refine w_region ?_
    refine o1 rfl ?_
    refine o_end (e' := [(6, .c (.d (.lit (.bool false))))]) rfl rfl ?_
    refine after_n ?_
    refine w_ret ?_
    refine after_r ?_
    obtain rfl := Option.some.inj hp
    exact leave_at rfl rfl (pr_c p_d pr_nil) pc_nil rfl rfl
  · have hp := cnd_f hb1 hp
    refine w_skip ?_
    refine after_n ?_
    refine w_seq ?_
    refine w_seq ?_
    refine w_region ?_
    refine o1 rfl ?_
    refine o1 (v := .c (.d (.lit (.int .i64 (t_0.l.length : Int))))) len_sd ?_
    refine o1 rfl ?_
    refine o_end (e' := [(0, .c (.d (slD 11 c_api_Rule t_0))), (1, .c (.d (.lit (.int .i64 ports_1)))), (13, .c (.d (slD 11 c_api_Rule t_0))), (14, .c (.d (.lit (.int .i64 (t_0.l.length : Int))))), (15, .c (.d (.lit (.int .i64 0))))]) rfl rfl ?_
    refine after_n ?_
    refine w_block ?_
    obtain ⟨x4, h5, hp⟩ := bnd hp
    refine W.mono ?_ (w_loopS (st := fun (v : Int) => match v with | i2 => ⟨[(0, .c (.d (slD 11 c_api_Rule t_0))), (1, .c (.d (.lit (.int .i64 ports_1)))), (13, .c (.d (slD 11 c_api_Rule t_0))), (14, .c (.d (.lit (.int .i64 (t_0.l.length : Int))))), (15, .c (.d (.lit (.int .i64 i2))))], [], 0, []⟩) (a := 0) (Q := Jn (fun (x : Sum (Unit) (Unit)) o s => match x with | .inl _ => o = Out.ret ∧ Sub s ⟨[(6, .c (.d (.lit (.bool false))))], [], 0, []⟩ | .inr (_) => o = Out.exit 0 ∧ Sub s ⟨[], [], 0, []⟩)) ?_ h5 ?_)
    · intro o s hs26
      rcases x4 with (_ | _)
      · obtain ⟨rfl, hs26⟩ := hs26
        refine out_r ?_
        refine after_r ?_
        obtain rfl := Option.some.inj hp
        refine wk.sub hs26 ?_
        exact leave_at rfl rfl (pr_c p_d pr_nil) pc_nil rfl rfl
      · obtain ⟨rfl, hs26⟩ := hs26
        refine out_e ?_
        refine after_n ?_
        refine W.sub hs26 ?_
        refine w_seq ?_
        refine w_region ?_
        refine o1 rfl ?_
        refine o_end (e' := [(6, .c (.d (.lit (.bool true))))]) rfl rfl ?_
        refine after_n ?_
        refine w_ret ?_
        obtain rfl := Option.some.inj hp
        exact leave_at rfl rfl (pr_c p_d pr_nil) pc_nil rfl rfl
    · exact (sub_ren [] [0, 1, 13, 14, 15] (by decide) rfl .nil (Nat.le_of_ble_eq_true rfl))
    · rintro i2 r hr
      unfold table_Right_L1 at hr
      refine w_seq ?_
      refine w_region ?_
      refine o1 (v := .c (.d (.lit (.bool (decide (i2 < (t_0.l.length : Int))))))) rfl ?_
      refine o_end (e' := [(0, .c (.d (slD 11 c_api_Rule t_0))), (1, .c (.d (.lit (.int .i64 ports_1)))), (13, .c (.d (slD 11 c_api_Rule t_0))), (14, .c (.d (.lit (.int .i64 (t_0.l.length : Int))))), (15, .c (.d (.lit (.int .i64 i2)))), (16, .c (.d (.lit (.bool (decide (i2 < (t_0.l.length : Int)))))))]) rfl rfl ?_
      refine after_n ?_
      refine w_seq ?_
      refine w_cond (t := decide (i2 < (t_0.l.length : Int))) rfl (fun hb6 => ?_) (fun hb6 => ?_)
      · have hr := cnd_t hb6 hr
        refine w_skip ?_
        refine after_n ?_
        refine w_seq ?_
        refine w_block ?_
        refine w_seq ?_
        obtain ⟨n7, h8, hr⟩ := bnd hr
        refine w_region ?_
        refine o1 rfl ?_
        refine o1 (ix_sd h8) ?_
        refine o1 rfl ?_
        refine o2 rfl ?_
        refine o1 rfl ?_
        refine o0 rfl ?_
        refine o_end (e' := [(0, .c (.d (slD 11 c_api_Rule t_0))), (1, .c (.d (.lit (.int .i64 ports_1)))), (7, .c (.d (.lit (.int .i64 i2)))), (8, .c (.op 0 0)), (13, .c (.d (slD 11 c_api_Rule t_0))), (14, .c (.d (.lit (.int .i64 (t_0.l.length : Int))))), (15, .c (.d (.lit (.int .i64 i2))))]) rfl rfl ?_
        refine after_n ?_
        refine w_seq ?_
        refine w_seq ?_
        obtain ⟨r9, h10, hr⟩ := bnd hr
        obtain ⟨b15, h16, hr⟩ := bnd hr
        refine w_join (J := fun s => Sub s ⟨[(0, .c (.d (slD 11 c_api_Rule t_0))), (1, .c (.d (.lit (.int .i64 ports_1)))), (7, .c (.d (.lit (.int .i64 i2)))), (8, .c (.op 0 0)), (13, .c (.d (slD 11 c_api_Rule t_0))), (14, .c (.d (.lit (.int .i64 (t_0.l.length : Int))))), (15, .c (.d (.lit (.int .i64 i2)))), (36, .c (.d (.lit (.bool b15))))], [(0, some (.box [.d (.lit (.int .i64 ((gt t_0.l n7).Prio))), .d (.lit (.int .i64 (((gt t_0.l n7).M).Port))), .d (.lit (.int .i64 ((((gt t_0.l n7).M).Val).e0))), .d (.lit (.int .i64 ((((gt t_0.l n7).M).Val).e1))), .d (.lit (.int .i64 ((((gt t_0.l n7).M).Val).e2))), .d (.lit (.int .i64 ((((gt t_0.l n7).M).Val).e3))), .d (.lit (.int .i64 ((((gt t_0.l n7).M).Mask).e0))), .d (.lit (.int .i64 ((((gt t_0.l n7).M).Mask).e1))), .d (.lit (.int .i64 ((((gt t_0.l n7).M).Mask).e2))), .d (.lit (.int .i64 ((((gt t_0.l n7).M).Mask).e3))), .d (slD 3 c_api_Act ((gt t_0.l n7).Acts))]))], 1, []⟩) ?_ ?_
        · refine w_drawn ?_
          iterate 2 refine d1 rfl ?_
          refine dc (rs := [.c (.d (.lit (.bool r9)))]) (outs := []) rfl (rule_Right_ok h10) rfl (Nat.le_of_ble_eq_true rfl) ?_
          refine d1 (v := .c (.d (.lit (.bool (!r9))))) rfl ?_
          refine d1 rfl ?_
          cases hb17 : ((!r9) : Bool)
          · have h16 := cnd_f hb17 h16
            refine dg rfl rfl rfl ?_
            refine dg (v := .c (.d (.lit (.bool (decide (i2 > 0)))))) rfl rfl rfl ?_
            refine dg rfl rfl rfl ?_
            cases hb18 : (decide (i2 > 0) : Bool)
            · have h16 := cnd_f hb18 h16
              iterate 7 refine dnot rfl rfl ?_
              refine dg rfl rfl rfl ?_
              refine d1 rfl ?_
              cases h16
              exact d_join rfl (sub_ren [0] [0, 1, 7, 8, 13, 14, 15, 36] (by decide) rfl (.cons .nil) (Nat.le_of_ble_eq_true rfl))
            · have h16 := cnd_t hb18 h16
              obtain ⟨n11, h12, h16⟩ := bnd h16
              obtain ⟨r13, h14, h16⟩ := bnd h16
              iterate 3 refine dg rfl rfl rfl ?_
              refine dg (v := .c (.d (.lit (.int .i64 (wr .i64 (i2 - 1)))))) rfl rfl rfl ?_
              refine dg rfl rfl (ix_sd h12) ?_
              refine dg rfl rfl rfl ?_
              refine dcg (rs := [.c (.d (.lit (.bool r13)))]) (outs := []) rfl rfl rfl (rule_Ahead_ok h14) rfl (Nat.le_of_ble_eq_true rfl) ?_
              refine dg rfl rfl rfl ?_
              refine d1 rfl ?_
              cases h16
              exact d_join rfl (sub_ren [0] [0, 1, 7, 8, 13, 14, 15, 36] (by decide) rfl (.cons .nil) (Nat.le_of_ble_eq_true rfl))
          · have h16 := cnd_t hb17 h16
            iterate 3 refine dnot rfl rfl ?_
            iterate 7 refine dnil rfl ?_
            refine dnot rfl rfl ?_
            refine d1 rfl ?_
            cases h16
            exact d_join rfl (sub_ren [0] [0, 1, 7, 8, 13, 14, 15, 36] (by decide) rfl (.cons .nil) (Nat.le_of_ble_eq_true rfl))
        · intro s hs19
          refine after_n ?_
          refine W.sub hs19 ?_
          refine w_cond (t := b15) rfl (fun hb20 => ?_) (fun hb20 => ?_)
          · have hr := cnd_t hb20 hr
            refine w_seq ?_
            refine w_region ?_
            refine o1 rfl ?_
            refine o_end (e' := [(6, .c (.d (.lit (.bool false))))]) rfl rfl ?_
            refine after_n ?_
            refine w_ret ?_
            refine after_r ?_
            refine out_r ?_
            refine after_r ?_
            obtain rfl := Option.some.inj hr
            exact And.intro nofun (And.intro rfl (sub_ren [] [6] (by decide) rfl .nil (Nat.le_of_ble_eq_true rfl)))
          · have hr := cnd_f hb20 hr
            refine w_skip ?_
            refine after_n ?_
            refine w_seq ?_
            obtain ⟨l21, h22, hr⟩ := bnd hr
            obtain ⟨r23, h24, hr⟩ := bnd hr
            refine w_drawn ?_
            iterate 2 refine d1 rfl ?_
            refine d1 (cut_sdft h22) ?_
            refine d1 rfl ?_
            refine dc (rs := [.c (.d (.lit (.int .i64 r23)))]) (outs := []) rfl (table_key_ok h24) rfl (Nat.le_of_ble_eq_true rfl) ?_
            refine d1 (v := .c (.d (.lit (.bool (decide (r23 ≥ 0)))))) rfl ?_
            refine d_fin (e' := [(0, .c (.d (slD 11 c_api_Rule t_0))), (1, .c (.d (.lit (.int .i64 ports_1)))), (13, .c (.d (slD 11 c_api_Rule t_0))), (14, .c (.d (.lit (.int .i64 (t_0.l.length : Int))))), (15, .c (.d (.lit (.int .i64 i2)))), (42, .c (.d (.lit (.bool (decide (r23 ≥ 0))))))]) (n' := 385) rfl rfl rfl rfl ?_
            refine after_n ?_
            refine w_cond (t := decide (r23 ≥ 0)) rfl (fun hb25 => ?_) (fun hb25 => ?_)
            · have hr := cnd_t hb25 hr
              refine w_seq ?_
              refine w_region ?_
              refine o1 rfl ?_
              refine o_end (e' := [(6, .c (.d (.lit (.bool false))))]) rfl rfl ?_
              refine after_n ?_
              refine w_ret ?_
              refine out_r ?_
              refine after_r ?_
              obtain rfl := Option.some.inj hr
              exact And.intro nofun (And.intro rfl (sub_ren [] [6] (by decide) rfl .nil (Nat.le_of_ble_eq_true rfl)))
            · have hr := cnd_f hb25 hr
              refine w_skip ?_
              refine out_n ?_
              refine after_n ?_
              refine w_region ?_
              refine o1 (v := .c (.d (.lit (.int .i64 (wr .i64 (i2 + 1)))))) rfl ?_
              refine o1 rfl ?_
              refine o_end (e' := [(0, .c (.d (slD 11 c_api_Rule t_0))), (1, .c (.d (.lit (.int .i64 ports_1)))), (13, .c (.d (slD 11 c_api_Rule t_0))), (14, .c (.d (.lit (.int .i64 (t_0.l.length : Int))))), (15, .c (.d (.lit (.int .i64 (wr .i64 (i2 + 1))))))]) rfl rfl ?_
              obtain rfl := Option.some.inj hr
              exact And.intro rfl (sub_ren [] [0, 1, 13, 14, 15] (by decide) rfl .nil (Nat.le_of_ble_eq_true rfl))
      · have hr := cnd_f hb6 hr
        refine w_exit ?_
        refine after_e ?_
        obtain rfl := Option.some.inj hr
        exact And.intro nofun (And.intro rfl (sub_ren [] [] (by decide) rfl .nil (Nat.le_of_ble_eq_true rfl)))

/- turnout/turnoutlaw21.RouteTables -/
def k4 : CC :=
  (.seq
  (.region [
    ⟨some 5, .box, [(.tmp 0)], none⟩,
    ⟨some 9, .box, [(.tmp 4)], none⟩,
    ⟨some 10, .mv, [(.const (.bool false))], none⟩] [1, 2, 3, 5, 9])
  (.seq
  (.seq
  (.region [
    ⟨some 13, (.load true 3), [(.tmp 5)], none⟩,
    ⟨some 14, .mv, [(.tmp 1)], none⟩,
    ⟨some 15, (.call true []), [(.func 11), (.tmp 13), (.tmp 14)], none⟩,
    ⟨some 16, (.un .not), [(.tmp 15)], none⟩,
    ⟨some 17, .mv, [(.tmp 16)], none⟩,
    ⟨some 18, (.load true 3), [(.tmp 5)], (some (17, false))⟩,
    ⟨some 19, .mv, [(.tmp 1)], (some (17, false))⟩,
    ⟨some 20, (.call true []), [(.func 16), (.tmp 18), (.tmp 19)], (some (17, false))⟩,
    ⟨some 21, (.un .not), [(.tmp 20)], (some (17, false))⟩,
    ⟨some 22, .pick, [(.tmp 17), (.const (.bool true)), (.tmp 21)], none⟩,
    ⟨some 23, .mv, [(.tmp 22)], none⟩,
    ⟨some 24, .mv, [(.tmp 2)], (some (23, false))⟩,
    ⟨some 25, (.bin .lss), [(.tmp 24), (.const (.int .i64 0))], (some (23, false))⟩,
    ⟨some 26, .pick, [(.tmp 23), (.const (.bool true)), (.tmp 25)], none⟩,
    ⟨some 27, .mv, [(.tmp 26)], none⟩,
    ⟨some 28, .mv, [(.tmp 2)], (some (27, false))⟩,
    ⟨some 29, .mv, [(.tmp 1)], (some (27, false))⟩,
    ⟨some 30, (.len false), [(.tmp 29)], (some (27, false))⟩,
    ⟨some 31, (.bin .geq), [(.tmp 28), (.tmp 30)], (some (27, false))⟩,
    ⟨some 32, .pick, [(.tmp 27), (.const (.bool true)), (.tmp 31)], none⟩,
    ⟨some 33, .mv, [(.tmp 32)], none⟩,
    ⟨some 34, (.load true 4), [(.tmp 9)], (some (33, false))⟩,
    ⟨some 35, (.call true []), [(.func 17), (.tmp 34)], (some (33, false))⟩,
    ⟨some 36, (.un .not), [(.tmp 35)], (some (33, false))⟩,
    ⟨some 37, .pick, [(.tmp 33), (.const (.bool true)), (.tmp 36)], none⟩] [1, 2, 3, 5, 9, 37])
  (.cond (.tmp 37)
    (.seq
    (.region [
      ⟨some 38, (.call true []), [(.func 12)], none⟩,
      ⟨some 10, .mv, [(.tmp 38)], none⟩] [10])
    .ret)
    .skip))
  (.seq
  (.region [
    ⟨some 39, .mv, [(.tmp 1)], none⟩,
    ⟨some 40, .mv, [(.tmp 2)], none⟩,
    ⟨some 41, (.call false []), [(.func 18), (.tmp 39), (.tmp 40)], none⟩,
    ⟨some 11, .mv, [(.tmp 41)], none⟩] [1, 2, 3, 5, 9, 11])
  (.seq
  (.region [
    ⟨some 42, .mv, [(.tmp 11)], none⟩,
    ⟨some 43, .mv, [(.tmp 3)], none⟩,
    ⟨some 44, (.load true 4), [(.tmp 9)], none⟩,
    ⟨some 45, (.call false []), [(.func 19), (.tmp 42), (.tmp 43), (.tmp 44)], none⟩,
    ⟨some 12, .mv, [(.tmp 45)], none⟩] [1, 2, 5, 9, 11, 12])
  (.seq
  (.seq
  (.region [
    ⟨some 46, (.indexAddr (some 4) 1), [(.tmp 9), (.const (.int .i64 1))], none⟩,
    ⟨some 47, (.load false 1), [(.tmp 46)], none⟩,
    ⟨some 48, (.fieldAddr 2), [(.tmp 5)], none⟩,
    ⟨some 49, (.load false 1), [(.tmp 48)], none⟩,
    ⟨some 50, (.len false), [(.tmp 49)], none⟩,
    ⟨some 51, (.bin .geq), [(.tmp 47), (.tmp 50)], none⟩] [1, 2, 9, 11, 12, 51])
  (.cond (.tmp 51)
    (.seq
    (.region [
      ⟨some 52, .mv, [(.tmp 12)], none⟩,
      ⟨some 53, (.len false), [(.tmp 52)], none⟩,
      ⟨some 54, (.bin .eql), [(.tmp 53), (.const (.int .i64 0))], none⟩,
      ⟨some 55, .mv, [(.tmp 54)], none⟩,
      ⟨some 56, (.call true []), [(.func 12)], (some (55, true))⟩,
      ⟨some 57, .pick, [(.tmp 55), (.tmp 56), (.const (.bool false))], none⟩,
      ⟨some 10, .mv, [(.tmp 57)], none⟩] [10])
    .ret)
    .skip))
  (.seq
  (.drawn [
    ⟨some 58, .mv, [(.tmp 11)], none⟩,
    ⟨some 59, (.call true []), [(.func 20), (.tmp 58), (.const (.int .i64 8)), (.const (.int .i64 8))], none⟩,
    ⟨some 60, .mv, [(.tmp 59)], none⟩,
    ⟨some 61, .mv, [(.tmp 12)], (some (60, true))⟩,
    ⟨some 62, (.len false), [(.tmp 61)], (some (60, true))⟩,
    ⟨some 63, (.bin .eql), [(.tmp 62), (.const (.int .i64 1))], (some (60, true))⟩,
    ⟨some 64, .pick, [(.tmp 60), (.tmp 63), (.const (.bool false))], none⟩,
    ⟨some 65, .mv, [(.tmp 64)], none⟩,
    ⟨some 66, .mv, [(.tmp 12)], (some (65, true))⟩,
    ⟨some 67, (.indexAddr none 5), [(.tmp 66), (.const (.int .i64 0))], (some (65, true))⟩,
    ⟨some 68, (.load true 5), [(.tmp 67)], (some (65, true))⟩,
    ⟨some 69, .mv, [(.tmp 1)], (some (65, true))⟩,
    ⟨some 70, .mv, [(.tmp 2)], (some (65, true))⟩,
    ⟨some 71, (.indexAddr none 1), [(.tmp 69), (.tmp 70)], (some (65, true))⟩,
    ⟨some 72, (.load false 1), [(.tmp 71)], (some (65, true))⟩,
    ⟨some 73, (.indexAddr (some 4) 1), [(.tmp 9), (.const (.int .i64 1))], (some (65, true))⟩,
    ⟨some 74, (.load false 1), [(.tmp 73)], (some (65, true))⟩,
    ⟨some 75, (.indexAddr none 1), [(.tmp 72), (.tmp 74)], (some (65, true))⟩,
    ⟨some 76, (.load false 1), [(.tmp 75)], (some (65, true))⟩,
    ⟨some 77, (.load true 4), [(.tmp 9)], (some (65, true))⟩,
    ⟨some 78, (.build [(.int .i64 0), (.int .i64 0), (.int .i64 0), (.int .i64 0), (.int .i64 0)] [(0, 1), (1, 4)]), [(.tmp 76), (.tmp 77)], (some (65, true))⟩,
    ⟨some 79, (.eqAgg false [(.i .i64), (.i .i64), (.i .i64), (.i .i64), (.i .i64)]), [(.tmp 68), (.tmp 78)], (some (65, true))⟩,
    ⟨some 80, .pick, [(.tmp 65), (.tmp 79), (.const (.bool false))], none⟩,
    ⟨some 81, .mv, [(.tmp 80)], none⟩,
    ⟨some 82, (.call true []), [(.func 12)], (some (81, true))⟩,
    ⟨some 83, .pick, [(.tmp 81), (.tmp 82), (.const (.bool false))], none⟩,
    ⟨some 10, .mv, [(.tmp 83)], none⟩] [] [10])
  .ret))))))
def f4 : Ev.Fn := ⟨5, 84, [.tmp 10], k4⟩
set_option maxRecDepth 100000 in
theorem e4 : compFn prog sig 4 5 [[1, 2, 3, 5, 9], [1, 2, 3, 5, 9, 37], [10], [1, 2, 3, 5, 9, 11], [1, 2, 5, 9, 11, 12], [1, 2, 9, 11, 12, 51], [10], [10]] = some f4 := by kernel_rfl
noncomputable def law21_RouteTables (t_0 : api_Topo) (r_1 : Sl (Sl Int)) (sw_2 : Int) (port_3 : Int) (p_4 : A4_Int) : Option (Bool) :=
  (law21_small t_0 r_1).bind fun r1 =>
  (bif (!r1) then (some true) else ((ref21_Right t_0 r_1).bind fun r3 =>
  bif (!r3) then (some true) else (bif decide (sw_2 < 0) then (some true) else (bif decide (sw_2 ≥ (r_1.l.length : Int)) then (some true) else ((ref07_Right p_4).bind fun r5 =>
  some (!r5)))))).bind fun b7 =>
  bif b7 then ((law21_awake).bind fun r15 =>
  some r15) else
  ((route_Table r_1 sw_2).bind fun r17 =>
  (table_Run r17 port_3 p_4).bind fun r19 =>
  (ixI 1 4).bind fun n21 =>
  bif decide ((gt [p_4.e0, p_4.e1, p_4.e2, p_4.e3] n21) ≥ (t_0.Hosts.l.length : Int)) then ((bif ((r19.l.length : Int) == 0) then ((law21_awake).bind fun r24 =>
  some r24) else (some false)).bind fun b26 =>
  some b26) else
  ((table_Right r17 8 8).bind fun r30 =>
  (bif r30 then (bif ((r19.l.length : Int) == 1) then ((ixI 0 r19.l.length).bind fun n32 =>
  (ixI sw_2 r_1.l.length).bind fun n34 =>
  (ixI (gt [p_4.e0, p_4.e1, p_4.e2, p_4.e3] n21) ((gt r_1.l n34).l).length).bind fun n36 =>
  bif ((((gt r19.l n32).Port) == (gt ((gt r_1.l n34).l) n36)) && (((((gt r19.l n32).P).e0) == p_4.e0) && (((((gt r19.l n32).P).e1) == p_4.e1) && (((((gt r19.l n32).P).e2) == p_4.e2) && (((((gt r19.l n32).P).e3) == p_4.e3) && true))))) then ((law21_awake).bind fun r38 =>
  some r38) else (some false)) else (some false)) else (some false)).bind fun b40 =>
  some b40))
theorem law21_RouteTables_ok {t_0 : api_Topo} {r_1 : Sl (Sl Int)} {sw_2 : Int} {port_3 : Int} {p_4 : A4_Int} {z : Bool} (hp : law21_RouteTables t_0 r_1 sw_2 port_3 p_4 = some z) : Good prog 4 [.agg (c_api_Topo t_0), .d (slD 1 cL_I_i64 r_1), .d (.lit (.int .i64 sw_2)), .d (.lit (.int .i64 port_3)), .agg (c_A4_Int p_4)] [.c (.d (.lit (.bool z)))] [] := by
  unfold law21_RouteTables at hp
  refine fn_good mixed e4 (fnS (m := [false]) (s := ⟨[(0, .agg [.d (.lit (.int .i64 t_0.Switches)), .d (slD 6 c_api_Link t_0.Links), .d (slD 2 c_api_Host t_0.Hosts)]), (1, .c (.d (slD 1 cL_I_i64 r_1))), (2, .c (.d (.lit (.int .i64 sw_2)))), (3, .c (.d (.lit (.int .i64 port_3)))), (4, .agg [.d (.lit (.int .i64 p_4.e0)), .d (.lit (.int .i64 p_4.e1)), .d (.lit (.int .i64 p_4.e2)), .d (.lit (.int .i64 p_4.e3))])], [], 0, []⟩) (len := 0) (c := k4) rfl (Sub.of_eq rfl) rfl rfl ?_)
  refine w_seq ?_
  refine w_region ?_
  refine o2 rfl ?_
  refine o2 rfl ?_
  refine o1 rfl ?_
  refine o_end (e' := [(1, .c (.d (slD 1 cL_I_i64 r_1))), (2, .c (.d (.lit (.int .i64 sw_2)))), (3, .c (.d (.lit (.int .i64 port_3)))), (5, .c (.op 0 0)), (9, .c (.op 1 0))]) rfl rfl ?_
  refine after_n ?_
  refine w_seq ?_
  refine w_seq ?_
  obtain ⟨r1, h2, hp⟩ := bnd hp
  obtain ⟨b7, h8, hp⟩ := bnd hp
  refine w_join (J := fun s => Sub s ⟨[(1, .c (.d (slD 1 cL_I_i64 r_1))), (2, .c (.d (.lit (.int .i64 sw_2)))), (3, .c (.d (.lit (.int .i64 port_3)))), (5, .c (.op 0 0)), (9, .c (.op 1 0)), (37, .c (.d (.lit (.bool b7))))], [(0, some (.box [.d (.lit (.int .i64 t_0.Switches)), .d (slD 6 c_api_Link t_0.Links), .d (slD 2 c_api_Host t_0.Hosts)])), (1, some (.box [.d (.lit (.int .i64 p_4.e0)), .d (.lit (.int .i64 p_4.e1)), .d (.lit (.int .i64 p_4.e2)), .d (.lit (.int .i64 p_4.e3))]))], 2, []⟩) ?_ ?_
  · refine w_region ?_
    iterate 2 refine o1 rfl ?_
    refine oc (rs := [.c (.d (.lit (.bool r1)))]) (outs := []) rfl (law21_small_ok h2) rfl ?_
    refine o1 (v := .c (.d (.lit (.bool (!r1))))) rfl ?_
    refine o1 rfl ?_
    cases hb9 : ((!r1) : Bool)
    · have h8 := cnd_f hb9 h8
      obtain ⟨r3, h4, h8⟩ := bnd h8
      iterate 2 refine og rfl rfl rfl ?_
      refine ocg (rs := [.c (.d (.lit (.bool r3)))]) (outs := []) rfl rfl rfl (ref21_Right_ok h4) rfl ?_
      refine og (v := .c (.d (.lit (.bool (!r3))))) rfl rfl rfl ?_
      iterate 2 refine o1 rfl ?_
      cases hb10 : ((!r3) : Bool)
      · have h8 := cnd_f hb10 h8
        refine og rfl rfl rfl ?_
        refine og (v := .c (.d (.lit (.bool (decide (sw_2 < 0)))))) rfl rfl rfl ?_
        iterate 2 refine o1 rfl ?_
        cases hb11 : (decide (sw_2 < 0) : Bool)
        · have h8 := cnd_f hb11 h8
          iterate 2 refine og rfl rfl rfl ?_
          refine og (v := .c (.d (.lit (.int .i64 (r_1.l.length : Int))))) rfl rfl len_sd ?_
          refine og (v := .c (.d (.lit (.bool (decide (sw_2 ≥ (r_1.l.length : Int))))))) rfl rfl rfl ?_
          iterate 2 refine o1 rfl ?_
          cases hb12 : (decide (sw_2 ≥ (r_1.l.length : Int)) : Bool)
          · have h8 := cnd_f hb12 h8
            obtain ⟨r5, h6, h8⟩ := bnd h8
            refine og rfl rfl rfl ?_
            refine ocg (rs := [.c (.d (.lit (.bool r5)))]) (outs := []) rfl rfl rfl (ref07_Right_ok h6) rfl ?_
            refine og (v := .c (.d (.lit (.bool (!r5))))) rfl rfl rfl ?_
            refine o1 rfl ?_
            cases h8
            exact o_join (sub_ren [0, 1] [1, 2, 3, 5, 9, 37] (by decide) rfl (.cons (.cons .nil)) (Nat.le_of_ble_eq_true rfl))
          · have h8 := cnd_t hb12 h8
            iterate 3 refine onot rfl rfl ?_
            refine o1 rfl ?_
            cases h8
            exact o_join (sub_ren [0, 1] [1, 2, 3, 5, 9, 37] (by decide) rfl (.cons (.cons .nil)) (Nat.le_of_ble_eq_true rfl))
        · have h8 := cnd_t hb11 h8
          iterate 4 refine onot rfl rfl ?_
          iterate 2 refine o1 rfl ?_
          iterate 3 refine onot rfl rfl ?_
          refine o1 rfl ?_
          cases h8
          exact o_join (sub_ren [0, 1] [1, 2, 3, 5, 9, 37] (by decide) rfl (.cons (.cons .nil)) (Nat.le_of_ble_eq_true rfl))
      · have h8 := cnd_t hb10 h8
        iterate 2 refine onot rfl rfl ?_
        iterate 2 refine o1 rfl ?_
        iterate 4 refine onot rfl rfl ?_
        iterate 2 refine o1 rfl ?_
        iterate 3 refine onot rfl rfl ?_
        refine o1 rfl ?_
        cases h8
        exact o_join (sub_ren [0, 1] [1, 2, 3, 5, 9, 37] (by decide) rfl (.cons (.cons .nil)) (Nat.le_of_ble_eq_true rfl))
    · have h8 := cnd_t hb9 h8
      iterate 4 refine onot rfl rfl ?_
      iterate 2 refine o1 rfl ?_
      iterate 2 refine onot rfl rfl ?_
      iterate 2 refine o1 rfl ?_
      iterate 4 refine onot rfl rfl ?_
      iterate 2 refine o1 rfl ?_
      iterate 3 refine onot rfl rfl ?_
      refine o1 rfl ?_
      cases h8
      exact o_join (sub_ren [0, 1] [1, 2, 3, 5, 9, 37] (by decide) rfl (.cons (.cons .nil)) (Nat.le_of_ble_eq_true rfl))
  · intro s hs13
    refine after_n ?_
    refine W.sub hs13 ?_
    refine w_cond (t := b7) rfl (fun hb14 => ?_) (fun hb14 => ?_)
    · have hp := cnd_t hb14 hp
      refine w_seq ?_
      obtain ⟨r15, h16, hp⟩ := bnd hp
      refine w_region ?_
      refine oc (rs := [.c (.d (.lit (.bool r15)))]) (outs := []) rfl (law21_awake_ok h16) rfl ?_
      refine o1 rfl ?_
      refine o_end (e' := [(10, .c (.d (.lit (.bool r15))))]) rfl rfl ?_
      refine after_n ?_
      refine w_ret ?_
      refine after_r ?_
      obtain rfl := Option.some.inj hp
      exact leave_at rfl rfl (pr_c p_d pr_nil) pc_nil rfl rfl
    · have hp := cnd_f hb14 hp
      refine w_skip ?_
      refine after_n ?_
      refine w_seq ?_
      obtain ⟨r17, h18, hp⟩ := bnd hp
      refine w_region ?_
      iterate 2 refine o1 rfl ?_
      refine oc (rs := [.c (.d (slD 11 c_api_Rule r17))]) (outs := []) rfl (route_Table_ok h18) rfl ?_
      refine o1 rfl ?_
      refine o_end (e' := [(1, .c (.d (slD 1 cL_I_i64 r_1))), (2, .c (.d (.lit (.int .i64 sw_2)))), (3, .c (.d (.lit (.int .i64 port_3)))), (5, .c (.op 0 0)), (9, .c (.op 1 0)), (11, .c (.d (slD 11 c_api_Rule r17)))]) rfl rfl ?_
      refine after_n ?_
      refine w_seq ?_
      obtain ⟨r19, h20, hp⟩ := bnd hp
      refine w_region ?_
      iterate 3 refine o1 rfl ?_
      refine oc (rs := [.c (.d (slD 5 c_api_Sent r19))]) (outs := []) rfl (table_Run_ok h20) rfl ?_
      refine o1 rfl ?_
      refine o_end (e' := [(1, .c (.d (slD 1 cL_I_i64 r_1))), (2, .c (.d (.lit (.int .i64 sw_2)))), (5, .c (.op 0 0)), (9, .c (.op 1 0)), (11, .c (.d (slD 11 c_api_Rule r17))), (12, .c (.d (slD 5 c_api_Sent r19)))]) rfl rfl ?_
      refine after_n ?_
      refine w_seq ?_
      refine w_seq ?_
      obtain ⟨n21, h22, hp⟩ := bnd hp
      refine w_region ?_
      refine o1 (ix_ar h22) ?_
      refine o1 (v := .c (.d (.lit (.int .i64 (gt [p_4.e0, p_4.e1, p_4.e2, p_4.e3] n21))))) (ids := [1]) (by apply ar4 (ixI_some.1 h22).2 <;> rfl) ?_
      iterate 2 refine o1 rfl ?_
      refine o1 (v := .c (.d (.lit (.int .i64 (t_0.Hosts.l.length : Int))))) len_sd ?_
      refine o1 (v := .c (.d (.lit (.bool (decide ((gt [p_4.e0, p_4.e1, p_4.e2, p_4.e3] n21) ≥ (t_0.Hosts.l.length : Int))))))) rfl ?_
      refine o_end (e' := [(1, .c (.d (slD 1 cL_I_i64 r_1))), (2, .c (.d (.lit (.int .i64 sw_2)))), (9, .c (.op 1 0)), (11, .c (.d (slD 11 c_api_Rule r17))), (12, .c (.d (slD 5 c_api_Sent r19))), (51, .c (.d (.lit (.bool (decide ((gt [p_4.e0, p_4.e1, p_4.e2, p_4.e3] n21) ≥ (t_0.Hosts.l.length : Int)))))))]) rfl rfl ?_
      refine after_n ?_
      refine w_cond (t := decide ((gt [p_4.e0, p_4.e1, p_4.e2, p_4.e3] n21) ≥ (t_0.Hosts.l.length : Int))) rfl (fun hb23 => ?_) (fun hb23 => ?_)
      · have hp := cnd_t hb23 hp
        refine w_seq ?_
        obtain ⟨b26, h27, hp⟩ := bnd hp
        refine w_join (J := fun s => Sub s ⟨[(10, .c (.d (.lit (.bool b26))))], [], 0, []⟩) ?_ ?_
        · refine w_region ?_
          refine o1 rfl ?_
          refine o1 (v := .c (.d (.lit (.int .i64 (r19.l.length : Int))))) len_sd ?_
          refine o1 (v := .c (.d (.lit (.bool ((r19.l.length : Int) == 0))))) rfl ?_
          refine o1 rfl ?_
          cases hb28 : (((r19.l.length : Int) == 0) : Bool)
          · have h27 := cnd_f hb28 h27
            refine onot rfl rfl ?_
            iterate 2 refine o1 rfl ?_
            cases h27
            exact o_join (sub_ren [] [10] (by decide) rfl .nil (Nat.le_of_ble_eq_true rfl))
          · have h27 := cnd_t hb28 h27
            obtain ⟨r24, h25, h27⟩ := bnd h27
            refine ocg (rs := [.c (.d (.lit (.bool r24)))]) (outs := []) rfl rfl rfl (law21_awake_ok h25) rfl ?_
            iterate 2 refine o1 rfl ?_
            cases h27
            exact o_join (sub_ren [] [10] (by decide) rfl .nil (Nat.le_of_ble_eq_true rfl))
        · intro s hs29
          refine after_n ?_
          refine W.sub hs29 ?_
          refine w_ret ?_
          refine after_r ?_
          obtain rfl := Option.some.inj hp
          exact leave_at rfl rfl (pr_c p_d pr_nil) pc_nil rfl rfl
      · have hp := cnd_f hb23 hp
        refine w_skip ?_
        refine after_n ?_
        refine w_seq ?_
        obtain ⟨r30, h31, hp⟩ := bnd hp
        obtain ⟨b40, h41, hp⟩ := bnd hp
        refine w_join (J := fun s => Sub s ⟨[(10, .c (.d (.lit (.bool b40))))], [], 0, []⟩) ?_ ?_
        · refine w_drawn ?_
          refine d1 rfl ?_
          refine dc (rs := [.c (.d (.lit (.bool r30)))]) (outs := []) rfl (table_Right_ok h31) rfl (Nat.le_of_ble_eq_true rfl) ?_
          refine d1 rfl ?_
          cases hb42 : (r30 : Bool)
          · have h41 := cnd_f hb42 h41
            iterate 3 refine dnot rfl rfl ?_
            iterate 2 refine d1 rfl ?_
            iterate 14 refine dnot rfl rfl ?_
            iterate 2 refine d1 rfl ?_
            refine dnot rfl rfl ?_
            iterate 2 refine d1 rfl ?_
            cases h41
            exact d_join rfl (sub_ren [] [10] (by decide) rfl .nil (Nat.le_of_ble_eq_true rfl))
          · have h41 := cnd_t hb42 h41
            refine dg rfl rfl rfl ?_
            refine dg (v := .c (.d (.lit (.int .i64 (r19.l.length : Int))))) rfl rfl len_sd ?_
            refine dg (v := .c (.d (.lit (.bool ((r19.l.length : Int) == 1))))) rfl rfl rfl ?_
            iterate 2 refine d1 rfl ?_
            cases hb43 : (((r19.l.length : Int) == 1) : Bool)
            · have h41 := cnd_f hb43 h41
              iterate 14 refine dnot rfl rfl ?_
              iterate 2 refine d1 rfl ?_
              refine dnot rfl rfl ?_
              iterate 2 refine d1 rfl ?_
              cases h41
              exact d_join rfl (sub_ren [] [10] (by decide) rfl .nil (Nat.le_of_ble_eq_true rfl))
            · have h41 := cnd_t hb43 h41
              obtain ⟨n32, h33, h41⟩ := bnd h41
              obtain ⟨n34, h35, h41⟩ := bnd h41
              obtain ⟨n36, h37, h41⟩ := bnd h41
              refine dg rfl rfl rfl ?_
              refine dg rfl rfl (ix_sd h33) ?_
              iterate 3 refine dg rfl rfl rfl ?_
              refine dg rfl rfl (ix_sd h35) ?_
              refine dg rfl rfl rfl ?_
              refine dg rfl rfl (ix_ar h22) ?_
              refine dg (v := .c (.d (.lit (.int .i64 (gt [p_4.e0, p_4.e1, p_4.e2, p_4.e3] n21))))) (ids := [1]) rfl rfl (by apply ar4 (ixI_some.1 h22).2 <;> rfl) ?_
              refine dg rfl rfl (ix_sd h37) ?_
              iterate 3 refine dg rfl rfl rfl ?_
              refine dg (v := .c (.d (.lit (.bool ((((gt r19.l n32).Port) == (gt ((gt r_1.l n34).l) n36)) && (((((gt r19.l n32).P).e0) == p_4.e0) && (((((gt r19.l n32).P).e1) == p_4.e1) && (((((gt r19.l n32).P).e2) == p_4.e2) && (((((gt r19.l n32).P).e3) == p_4.e3) && true))))))))) rfl rfl rfl ?_
              iterate 2 refine d1 rfl ?_
              cases hb44 : (((((gt r19.l n32).Port) == (gt ((gt r_1.l n34).l) n36)) && (((((gt r19.l n32).P).e0) == p_4.e0) && (((((gt r19.l n32).P).e1) == p_4.e1) && (((((gt r19.l n32).P).e2) == p_4.e2) && (((((gt r19.l n32).P).e3) == p_4.e3) && true))))) : Bool)
              · have h41 := cnd_f hb44 h41
                refine dnot rfl rfl ?_
                iterate 2 refine d1 rfl ?_
                cases h41
                exact d_join rfl (sub_ren [] [10] (by decide) rfl .nil (Nat.le_of_ble_eq_true rfl))
              · have h41 := cnd_t hb44 h41
                obtain ⟨r38, h39, h41⟩ := bnd h41
                refine dcg (rs := [.c (.d (.lit (.bool r38)))]) (outs := []) rfl rfl rfl (law21_awake_ok h39) rfl (Nat.le_of_ble_eq_true rfl) ?_
                iterate 2 refine d1 rfl ?_
                cases h41
                exact d_join rfl (sub_ren [] [10] (by decide) rfl .nil (Nat.le_of_ble_eq_true rfl))
        · intro s hs45
          refine after_n ?_
          refine W.sub hs45 ?_
          refine w_ret ?_
          obtain rfl := Option.some.inj hp
          exact leave_at rfl rfl (pr_c p_d pr_nil) pc_nil rfl rfl

end Go.Proofs.Ytjfhiochcdjkhaa.R
