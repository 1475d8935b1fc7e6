/- What functions of the program compute, and that the model's run computes it. Conditions: as stated. -/
import Derived.Test.YtjfhiochcdjkhaaTpa
open Go.Ev Go
namespace Go.Proofs.Ytjfhiochcdjkhaa.T

/- turnout/topo.Near -/
def k45 : CC :=
  (.seq
  (.region [
    ⟨some 2, .box, [(.tmp 0)], none⟩,
    ⟨some 4, .mv, [(.const (.slice none 0 0))], none⟩] [1, 2])
  (.seq
  (.region [
    ⟨some 5, .mv, [(.const (.slice none 0 0))], none⟩] [1, 2, 5])
  (.seq
  (.seq
  (.region [
    ⟨some 8, (.fieldAddr 1), [(.tmp 2)], none⟩,
    ⟨some 9, (.load false 1), [(.tmp 8)], none⟩,
    ⟨some 10, (.len false), [(.tmp 9)], none⟩,
    ⟨some 11, .mv, [(.const (.int .i64 0))], none⟩] [1, 5, 9, 10, 11])
  (.block 0
    (.loop [1, 5, 9, 10, 11]
      (.seq
      (.region [
        ⟨some 12, (.bin .lss), [(.tmp 11), (.tmp 10)], none⟩] [1, 5, 9, 10, 11, 12])
      (.seq
      (.cond (.tmp 12)
        .skip
        (.exit 0))
      (.seq
      (.block 1
        (.seq
        (.region [
          ⟨some 13, .mv, [(.tmp 11)], none⟩,
          ⟨some 14, (.indexAddr none 6), [(.tmp 9), (.tmp 11)], none⟩,
          ⟨some 15, (.load true 6), [(.tmp 14)], none⟩,
          ⟨some 7, (.alloc [(.int .i64 0), (.int .i64 0), (.int .i64 0), (.int .i64 0), (.int .i64 0), (.int .i64 0)]), [], none⟩,
          ⟨some 6, .mv, [(.tmp 13)], none⟩,
          ⟨none, (.store 6), [(.tmp 7), (.tmp 15)], none⟩] [1, 5, 6, 7, 9, 10, 11])
        (.seq
        (.seq
        (.region [
          ⟨some 16, (.fieldAddr 0), [(.tmp 7)], none⟩,
          ⟨some 17, (.load false 1), [(.tmp 16)], none⟩,
          ⟨some 18, .mv, [(.tmp 1)], none⟩,
          ⟨some 19, (.bin .eql), [(.tmp 17), (.tmp 18)], none⟩] [1, 5, 6, 7, 9, 10, 11, 19])
        (.cond (.tmp 19)
          (.region [
            ⟨some 20, .mv, [(.tmp 5)], none⟩,
            ⟨some 21, (.fieldAddr 1), [(.tmp 7)], none⟩,
            ⟨some 22, (.load false 1), [(.tmp 21)], none⟩,
            ⟨some 23, (.fieldAddr 2), [(.tmp 7)], none⟩,
            ⟨some 24, (.load false 1), [(.tmp 23)], none⟩,
            ⟨some 25, .mv, [(.tmp 6)], none⟩,
            ⟨some 26, (.build [(.int .i64 0), (.int .i64 0), (.int .i64 0)] [(0, 1), (1, 1), (2, 1)]), [(.tmp 22), (.tmp 24), (.tmp 25)], none⟩,
            ⟨some 27, (.buildSlice 3 1 [(.int .i64 0), (.int .i64 0), (.int .i64 0)] [0]), [(.tmp 26)], none⟩,
            ⟨some 28, (.append 3), [(.tmp 20), (.tmp 27)], none⟩,
            ⟨some 5, .mv, [(.tmp 28)], none⟩] [1, 5, 6, 7, 9, 10, 11])
          .skip))
        (.seq
        (.region [
          ⟨some 29, (.fieldAddr 2), [(.tmp 7)], none⟩,
          ⟨some 30, (.load false 1), [(.tmp 29)], none⟩,
          ⟨some 31, .mv, [(.tmp 1)], none⟩,
          ⟨some 32, (.bin .eql), [(.tmp 30), (.tmp 31)], none⟩] [1, 5, 6, 7, 9, 10, 11, 32])
        (.cond (.tmp 32)
          (.region [
            ⟨some 33, .mv, [(.tmp 5)], none⟩,
            ⟨some 34, (.fieldAddr 3), [(.tmp 7)], none⟩,
            ⟨some 35, (.load false 1), [(.tmp 34)], none⟩,
            ⟨some 36, (.fieldAddr 0), [(.tmp 7)], none⟩,
            ⟨some 37, (.load false 1), [(.tmp 36)], none⟩,
            ⟨some 38, .mv, [(.tmp 6)], none⟩,
            ⟨some 39, (.build [(.int .i64 0), (.int .i64 0), (.int .i64 0)] [(0, 1), (1, 1), (2, 1)]), [(.tmp 35), (.tmp 37), (.tmp 38)], none⟩,
            ⟨some 40, (.buildSlice 3 1 [(.int .i64 0), (.int .i64 0), (.int .i64 0)] [0]), [(.tmp 39)], none⟩,
            ⟨some 41, (.append 3), [(.tmp 33), (.tmp 40)], none⟩,
            ⟨some 5, .mv, [(.tmp 41)], none⟩] [1, 5, 9, 10, 11])
          .skip)))))
      (.region [
        ⟨some 42, (.bin .add), [(.tmp 11), (.const (.int .i64 1))], none⟩,
        ⟨some 11, .mv, [(.tmp 42)], none⟩] [1, 5, 9, 10, 11])))))))
  (.seq
  (.region [
    ⟨some 43, .mv, [(.tmp 5)], none⟩,
    ⟨some 44, (.call false [true, false]), [(.func 76), (.tmp 43), (.func 77)], none⟩] [5])
  (.seq
  (.region [
    ⟨some 45, .mv, [(.tmp 5)], none⟩,
    ⟨some 4, .mv, [(.tmp 45)], none⟩] [4])
  .ret)))))
def f45 : Ev.Fn := ⟨2, 46, [.tmp 4], k45⟩
set_option maxRecDepth 100000 in
theorem e45 : compFn prog sig 45 2 [[1, 2], [1, 2, 5], [1, 5, 9, 10, 11], [1, 5, 9, 10, 11], [1, 5, 9, 10, 11, 12], [1, 5, 6, 7, 9, 10, 11], [1, 5, 6, 7, 9, 10, 11, 19], [1, 5, 6, 7, 9, 10, 11], [1, 5, 6, 7, 9, 10, 11, 32], [1, 5, 9, 10, 11], [1, 5, 9, 10, 11], [5], [4]] = some f45 := by kernel_rfl
noncomputable def topo_Near_L1 (t_0 : api_Topo) (sw_1 : Int) : (Sl topo_Side × Int) → Option (Sum ((Sl topo_Side × Int)) (Sl topo_Side)) := fun (s1, i2) =>
  bif decide (i2 < (t_0.Links.l.length : Int)) then (((ixI i2 t_0.Links.l.length).bind fun n12 =>
  (bif (((gt t_0.Links.l n12).A) == sw_1) then ((capI (s1.l ++ [(⟨(gt t_0.Links.l n12).PortA, (gt t_0.Links.l n12).B, i2⟩ : topo_Side)])).bind fun l18 =>
  some (Sl.mk l18)) else
  (some s1) : Option (Sl topo_Side)).bind fun s14 =>
  bif (((gt t_0.Links.l n12).B) == sw_1) then ((capI (s14.l ++ [(⟨(gt t_0.Links.l n12).PortB, (gt t_0.Links.l n12).A, i2⟩ : topo_Side)])).bind fun l23 =>
  some (Sl.mk l23)) else
  (some s14) : Option (Sl topo_Side)).bind fun s9 =>
  some (.inl (s9, wr .i64 (i2 + 1)))) else
  (some (.inr s1))

noncomputable def topo_Near (t_0 : api_Topo) (sw_1 : Int) : Option (Sl topo_Side) :=
  (loopO (topo_Near_L1 t_0 sw_1) (Sl.nil, 0)).bind fun s5 =>
  (lendO s5 (fun l => slices_SortFunc_topo_Side_topo_Side_topo_Near_1 l) (slices_SortFunc_topo_Side_topo_Side_nil_topo_Near_1)).bind fun r28 =>
  some r28
theorem topo_Near_ok {t_0 : api_Topo} {sw_1 : Int} {z : Sl topo_Side} (hp : topo_Near t_0 sw_1 = some z) : Good prog 45 [.agg (c_api_Topo t_0), .d (.lit (.int .i64 sw_1))] [.c (.d (slD 3 c_topo_Side z))] [] := by
  unfold topo_Near at hp
  refine fn_good mixed e45 (fnS (m := [true]) (s := ⟨[(0, .agg [.d (.lit (.int .i64 t_0.Switches)), .d (slD 6 c_api_Link t_0.Links), .d (slD 2 c_api_Host t_0.Hosts)]), (1, .c (.d (.lit (.int .i64 sw_1))))], [], 0, []⟩) (len := 0) (c := k45) rfl (Sub.of_eq rfl) rfl rfl ?_)
  refine w_seq ?_
  refine w_region ?_
  refine o2 rfl ?_
  refine o1 rfl ?_
  refine o_end (e' := [(1, .c (.d (.lit (.int .i64 sw_1)))), (2, .c (.op 0 0))]) rfl rfl ?_
  refine after_n ?_
  refine w_seq ?_
  refine w_region ?_
  refine o1 rfl ?_
  refine o_end (e' := [(1, .c (.d (.lit (.int .i64 sw_1)))), (2, .c (.op 0 0)), (5, .c (.d (.lit (.slice none 0 0))))]) rfl rfl ?_
  refine after_n ?_
  refine w_seq ?_
  refine w_seq ?_
  refine w_region ?_
  iterate 2 refine o1 rfl ?_
  refine o1 (v := .c (.d (.lit (.int .i64 (t_0.Links.l.length : Int))))) len_sd ?_
  refine o1 rfl ?_
  refine o_end (e' := [(1, .c (.d (.lit (.int .i64 sw_1)))), (5, .c (.d (.lit (.slice none 0 0)))), (9, .c (.d (slD 6 c_api_Link t_0.Links))), (10, .c (.d (.lit (.int .i64 (t_0.Links.l.length : Int))))), (11, .c (.d (.lit (.int .i64 0))))]) rfl rfl ?_
  refine after_n ?_
  refine w_block ?_
  obtain ⟨s5, h7, hp⟩ := bnd hp
  refine W.mono ?_ (w_loopS (st := fun (v : (Sl topo_Side × Int)) => match v with | (s1, i2) => ⟨[(1, .c (.d (.lit (.int .i64 sw_1)))), (5, .c (slC 3 c_topo_Side 0 s1)), (9, .c (.d (slD 6 c_api_Link t_0.Links))), (10, .c (.d (.lit (.int .i64 (t_0.Links.l.length : Int))))), (11, .c (.d (.lit (.int .i64 i2))))], [(0, slO 3 c_topo_Side s1)], 1, []⟩) (a := (Sl.nil, 0)) (Q := Jn (fun (x : Sl topo_Side) o s => match x with | s5 => o = Out.exit 0 ∧ Sub s ⟨[(5, .c (slC 3 c_topo_Side 0 s5))], [(0, slO 3 c_topo_Side s5)], 1, []⟩)) ?_ h7 ?_)
  · intro o s hs27
    obtain ⟨rfl, hs27⟩ := hs27
    refine out_e ?_
    refine after_n ?_
    refine W.sub hs27 ?_
    refine w_seq ?_
    obtain ⟨r28, h29, hp⟩ := bnd hp
    refine w_join (J := fun s => Sub s ⟨[(5, .c (slC 3 c_topo_Side 0 r28))], [(0, slO 3 c_topo_Side r28)], 1, []⟩) ?_ ?_
    · rcases r28 with _ | r28' <;> rcases s5 with _ | s5'
      · try dsimp only [slC, slO]
        refine w_region ?_
        refine o1 rfl ?_
        refine oc (rs := []) (outs := [slT 3 c_topo_Side Sl.nil]) rfl (lend_ok (enc := c_topo_Side) (G := fun a b => Good prog 76 [.mt a, .d (.fn 77 [])] [] [b]) h29 (fun l l' h => slices_SortFunc_topo_Side_topo_Side_topo_Near_1_ok h) (fun h => slices_SortFunc_topo_Side_topo_Side_nil_topo_Near_1_ok h)) rfl ?_
        exact o_join (sub_ren [9000] [5] (by decide) rfl (.skip .nil) (Nat.le_of_ble_eq_true rfl))
      · try dsimp only [slC, slO]
        refine w_region ?_
        refine o1 rfl ?_
        exact lend_mk h29
      · try dsimp only [slC, slO]
        refine w_region ?_
        refine o1 rfl ?_
        exact lend_nil h29
      · try dsimp only [slC, slO]
        refine w_region ?_
        refine o1 rfl ?_
        refine oc' (rs := []) (outs := [slT 3 c_topo_Side (Sl.mk r28')]) (call_at rfl rfl (ea_mt (p_o rfl) rfl (ea_c rfl rfl ea_nil)) (wh_o rfl wh_nil) rfl (land rfl (back_ms (lend_len (enc := c_topo_Side) h29) back_nil))) (lend_ok (enc := c_topo_Side) (G := fun a b => Good prog 76 [.mt a, .d (.fn 77 [])] [] [b]) h29 (fun l l' h => slices_SortFunc_topo_Side_topo_Side_topo_Near_1_ok h) (fun h => slices_SortFunc_topo_Side_topo_Side_nil_topo_Near_1_ok h)) ?_
        rw [← lend_len (enc := c_topo_Side) h29]
        exact o_join (sub_ren [0] [5] (by decide) rfl (.cons .nil) (Nat.le_of_ble_eq_true rfl))
    · intro s hs30
      refine after_n ?_
      refine W.sub hs30 ?_
      refine w_seq ?_
      refine w_region ?_
      iterate 2 refine o1 rfl ?_
      refine o_end (e' := [(4, .c (slC 3 c_topo_Side 0 r28))]) rfl rfl ?_
      refine after_n ?_
      refine w_ret ?_
      obtain rfl := Option.some.inj hp
      rcases r28 with _ | r28'
      · exact leave_at rfl rfl (pr_c p_d pr_nil) pc_nil rfl rfl
      · exact leave_at rfl rfl (pr_c (p_o rfl) pr_nil) pc_nil rfl rfl
  · exact (sub_ren [9000] [1, 5, 9, 10, 11] (by decide) rfl (.skip .nil) (Nat.le_of_ble_eq_true rfl))
  · rintro ⟨s1, i2⟩ r hr
    unfold topo_Near_L1 at hr
    refine w_seq ?_
    refine w_region ?_
    refine o1 (v := .c (.d (.lit (.bool (decide (i2 < (t_0.Links.l.length : Int))))))) rfl ?_
    refine o_end (e' := [(1, .c (.d (.lit (.int .i64 sw_1)))), (5, .c (slC 3 c_topo_Side 0 s1)), (9, .c (.d (slD 6 c_api_Link t_0.Links))), (10, .c (.d (.lit (.int .i64 (t_0.Links.l.length : Int))))), (11, .c (.d (.lit (.int .i64 i2)))), (12, .c (.d (.lit (.bool (decide (i2 < (t_0.Links.l.length : Int)))))))]) rfl rfl ?_
    refine after_n ?_
    refine w_seq ?_
    refine w_cond (t := decide (i2 < (t_0.Links.l.length : Int))) rfl (fun hb8 => ?_) (fun hb8 => ?_)
    · have hr := cnd_t hb8 hr
      refine w_skip ?_
      refine after_n ?_
      refine w_seq ?_
      obtain ⟨s9, h10, hr⟩ := bnd hr
      refine W.mono (Q := Jn (fun (x : Sl topo_Side) o s => match x with | s9 => o = Out.normal ∧ Sub s ⟨[(1, .c (.d (.lit (.int .i64 sw_1)))), (5, .c (slC 3 c_topo_Side 0 s9)), (9, .c (.d (slD 6 c_api_Link t_0.Links))), (10, .c (.d (.lit (.int .i64 (t_0.Links.l.length : Int))))), (11, .c (.d (.lit (.int .i64 i2))))], [(0, slO 3 c_topo_Side s9)], 1, []⟩) s9) ?_ ?_
      · intro o s hs26
        obtain ⟨rfl, hs26⟩ := hs26
        refine after_n ?_
        refine W.sub hs26 ?_
        refine w_region ?_
        refine o1 (v := .c (.d (.lit (.int .i64 (wr .i64 (i2 + 1)))))) rfl ?_
        refine o1 rfl ?_
        refine o_end (e' := [(1, .c (.d (.lit (.int .i64 sw_1)))), (5, .c (slC 3 c_topo_Side 0 s9)), (9, .c (.d (slD 6 c_api_Link t_0.Links))), (10, .c (.d (.lit (.int .i64 (t_0.Links.l.length : Int))))), (11, .c (.d (.lit (.int .i64 (wr .i64 (i2 + 1))))))]) rfl rfl ?_
        obtain rfl := Option.some.inj hr
        exact And.intro rfl (by rcases s9 with _ | _ <;> first | (exact sub_ren [9000] [1, 5, 9, 10, 11] (by decide) rfl (.skip .nil) (Nat.le_of_ble_eq_true rfl)) | (exact sub_ren [0] [1, 5, 9, 10, 11] (by decide) rfl (.cons .nil) (Nat.le_of_ble_eq_true rfl)))
      · refine w_block ?_
        refine w_seq ?_
        obtain ⟨n12, h13, h10⟩ := bnd h10
        refine w_region ?_
        refine o1 rfl ?_
        refine o1 (ix_sd h13) ?_
        refine o1 rfl ?_
        refine o2 rfl ?_
        refine o1 rfl ?_
        refine o0 rfl ?_
        refine o_end (e' := [(1, .c (.d (.lit (.int .i64 sw_1)))), (5, .c (slC 3 c_topo_Side 0 s1)), (6, .c (.d (.lit (.int .i64 i2)))), (7, .c (.op 1 0)), (9, .c (.d (slD 6 c_api_Link t_0.Links))), (10, .c (.d (.lit (.int .i64 (t_0.Links.l.length : Int))))), (11, .c (.d (.lit (.int .i64 i2))))]) rfl rfl ?_
        refine after_n ?_
        refine w_seq ?_
        obtain ⟨s14, h15, h10⟩ := bnd h10
        refine W.mono (Q := Jn (fun (x : Sl topo_Side) o s => match x with | s14 => o = Out.normal ∧ Sub s ⟨[(1, .c (.d (.lit (.int .i64 sw_1)))), (5, .c (slC 3 c_topo_Side 0 s14)), (6, .c (.d (.lit (.int .i64 i2)))), (7, .c (.op 1 0)), (9, .c (.d (slD 6 c_api_Link t_0.Links))), (10, .c (.d (.lit (.int .i64 (t_0.Links.l.length : Int))))), (11, .c (.d (.lit (.int .i64 i2))))], [(0, slO 3 c_topo_Side s14), (1, some (.box [.d (.lit (.int .i64 ((gt t_0.Links.l n12).A))), .d (.lit (.int .i64 ((gt t_0.Links.l n12).PortA))), .d (.lit (.int .i64 ((gt t_0.Links.l n12).B))), .d (.lit (.int .i64 ((gt t_0.Links.l n12).PortB))), .d (.lit (.int .i64 ((gt t_0.Links.l n12).Least))), .d (.lit (.int .i64 ((gt t_0.Links.l n12).Most)))]))], 2, []⟩) s14) ?_ ?_
        · intro o s hs21
          obtain ⟨rfl, hs21⟩ := hs21
          refine after_n ?_
          refine W.sub hs21 ?_
          refine w_seq ?_
          refine w_region ?_
          iterate 3 refine o1 rfl ?_
          refine o1 (v := .c (.d (.lit (.bool (((gt t_0.Links.l n12).B) == sw_1))))) rfl ?_
          refine o_end (e' := [(1, .c (.d (.lit (.int .i64 sw_1)))), (5, .c (slC 3 c_topo_Side 0 s14)), (6, .c (.d (.lit (.int .i64 i2)))), (7, .c (.op 1 0)), (9, .c (.d (slD 6 c_api_Link t_0.Links))), (10, .c (.d (.lit (.int .i64 (t_0.Links.l.length : Int))))), (11, .c (.d (.lit (.int .i64 i2)))), (32, .c (.d (.lit (.bool (((gt t_0.Links.l n12).B) == sw_1)))))]) rfl rfl ?_
          refine after_n ?_
          refine w_cond (t := (((gt t_0.Links.l n12).B) == sw_1)) rfl (fun hb22 => ?_) (fun hb22 => ?_)
          · have h10 := cnd_t hb22 h10
            obtain ⟨l23, h24, h10⟩ := bnd h10
            refine w_join (J := fun s => Sub s ⟨[(1, .c (.d (.lit (.int .i64 sw_1)))), (5, .c (slC 3 c_topo_Side 0 (Sl.mk l23))), (9, .c (.d (slD 6 c_api_Link t_0.Links))), (10, .c (.d (.lit (.int .i64 (t_0.Links.l.length : Int))))), (11, .c (.d (.lit (.int .i64 i2))))], [(0, slO 3 c_topo_Side (Sl.mk l23))], 1, []⟩) ?_ ?_
            · rcases s14 with _ | s14'
              · try dsimp only [slC, slO]
                refine w_region ?_
                iterate 7 refine o1 rfl ?_
                refine o2 rfl ?_
                refine o2 (app_nil (enc := c_topo_Side) rfl h24) ?_
                refine o1 rfl ?_
                exact o_join (sub_ren [3] [1, 5, 9, 10, 11] (by decide) rfl (.cons .nil) (Nat.le_of_ble_eq_true rfl))
              · try dsimp only [slC, slO]
                refine w_region ?_
                iterate 7 refine o1 rfl ?_
                refine o2 rfl ?_
                refine o2 (app_o rfl rfl h24) ?_
                refine o1 rfl ?_
                exact o_join (sub_ren [3] [1, 5, 9, 10, 11] (by decide) rfl (.cons .nil) (Nat.le_of_ble_eq_true rfl))
            · intro s hs25
              refine out_n ?_
              obtain rfl := Option.some.inj h10
              exact And.intro rfl (Sub.trans hs25 (sub_ren [0] [1, 5, 9, 10, 11] (by decide) rfl (.cons .nil) (Nat.le_of_ble_eq_true rfl)))
          · have h10 := cnd_f hb22 h10
            refine w_skip ?_
            refine out_n ?_
            obtain rfl := Option.some.inj h10
            exact And.intro rfl (by rcases s14 with _ | _ <;> first | (exact sub_ren [9000] [1, 5, 9, 10, 11] (by decide) rfl (.skip .nil) (Nat.le_of_ble_eq_true rfl)) | (exact sub_ren [0] [1, 5, 9, 10, 11] (by decide) rfl (.cons .nil) (Nat.le_of_ble_eq_true rfl)))
        · refine w_seq ?_
          refine w_region ?_
          iterate 3 refine o1 rfl ?_
          refine o1 (v := .c (.d (.lit (.bool (((gt t_0.Links.l n12).A) == sw_1))))) rfl ?_
          refine o_end (e' := [(1, .c (.d (.lit (.int .i64 sw_1)))), (5, .c (slC 3 c_topo_Side 0 s1)), (6, .c (.d (.lit (.int .i64 i2)))), (7, .c (.op 1 0)), (9, .c (.d (slD 6 c_api_Link t_0.Links))), (10, .c (.d (.lit (.int .i64 (t_0.Links.l.length : Int))))), (11, .c (.d (.lit (.int .i64 i2)))), (19, .c (.d (.lit (.bool (((gt t_0.Links.l n12).A) == sw_1)))))]) rfl rfl ?_
          refine after_n ?_
          refine w_cond (t := (((gt t_0.Links.l n12).A) == sw_1)) rfl (fun hb17 => ?_) (fun hb17 => ?_)
          · have h15 := cnd_t hb17 h15
            obtain ⟨l18, h19, h15⟩ := bnd h15
            refine w_join (J := fun s => Sub s ⟨[(1, .c (.d (.lit (.int .i64 sw_1)))), (5, .c (slC 3 c_topo_Side 0 (Sl.mk l18))), (6, .c (.d (.lit (.int .i64 i2)))), (7, .c (.op 1 0)), (9, .c (.d (slD 6 c_api_Link t_0.Links))), (10, .c (.d (.lit (.int .i64 (t_0.Links.l.length : Int))))), (11, .c (.d (.lit (.int .i64 i2))))], [(0, slO 3 c_topo_Side (Sl.mk l18)), (1, some (.box [.d (.lit (.int .i64 ((gt t_0.Links.l n12).A))), .d (.lit (.int .i64 ((gt t_0.Links.l n12).PortA))), .d (.lit (.int .i64 ((gt t_0.Links.l n12).B))), .d (.lit (.int .i64 ((gt t_0.Links.l n12).PortB))), .d (.lit (.int .i64 ((gt t_0.Links.l n12).Least))), .d (.lit (.int .i64 ((gt t_0.Links.l n12).Most)))]))], 2, []⟩) ?_ ?_
            · rcases s1 with _ | s1'
              · try dsimp only [slC, slO]
                refine w_region ?_
                iterate 7 refine o1 rfl ?_
                refine o2 rfl ?_
                refine o2 (app_nil (enc := c_topo_Side) rfl h19) ?_
                refine o1 rfl ?_
                exact o_join (sub_ren [3, 1] [1, 5, 6, 7, 9, 10, 11] (by decide) rfl (.cons (.cons .nil)) (Nat.le_of_ble_eq_true rfl))
              · try dsimp only [slC, slO]
                refine w_region ?_
                iterate 7 refine o1 rfl ?_
                refine o2 rfl ?_
                refine o2 (app_o rfl rfl h19) ?_
                refine o1 rfl ?_
                exact o_join (sub_ren [3, 1] [1, 5, 6, 7, 9, 10, 11] (by decide) rfl (.cons (.cons .nil)) (Nat.le_of_ble_eq_true rfl))
            · intro s hs20
              obtain rfl := Option.some.inj h15
              exact And.intro rfl (Sub.trans hs20 (sub_ren [0, 1] [1, 5, 6, 7, 9, 10, 11] (by decide) rfl (.cons (.cons .nil)) (Nat.le_of_ble_eq_true rfl)))
          · have h15 := cnd_f hb17 h15
            refine w_skip ?_
            obtain rfl := Option.some.inj h15
            exact And.intro rfl (by rcases s1 with _ | _ <;> first | (exact sub_ren [9000, 1] [1, 5, 6, 7, 9, 10, 11] (by decide) rfl (.skip (.cons .nil)) (Nat.le_of_ble_eq_true rfl)) | (exact sub_ren [0, 1] [1, 5, 6, 7, 9, 10, 11] (by decide) rfl (.cons (.cons .nil)) (Nat.le_of_ble_eq_true rfl)))
    · have hr := cnd_f hb8 hr
      refine w_exit ?_
      refine after_e ?_
      obtain rfl := Option.some.inj hr
      exact And.intro nofun (And.intro rfl (by rcases s1 with _ | _ <;> first | (exact sub_ren [9000] [5] (by decide) rfl (.skip .nil) (Nat.le_of_ble_eq_true rfl)) | (exact sub_ren [0] [5] (by decide) rfl (.cons .nil) (Nat.le_of_ble_eq_true rfl))))

/- turnout/topo.Hops -/
def k39 : CC :=
  (.seq
  (.region [
    ⟨some 2, .box, [(.tmp 0)], none⟩,
    ⟨some 4, .mv, [(.const (.slice none 0 0))], none⟩] [1, 2])
  (.seq
  (.region [
    ⟨some 9, (.buildSlice 1 1 [(.int .i64 0)] [0]), [(.const (.int .i64 (-1)))], none⟩,
    ⟨some 10, (.fieldAddr 0), [(.tmp 2)], none⟩,
    ⟨some 11, (.load false 1), [(.tmp 10)], none⟩,
    ⟨some 12, (.minmax true), [(.tmp 11), (.const (.int .i64 0))], none⟩,
    ⟨some 13, (.call false []), [(.func 74), (.tmp 9), (.tmp 12)], none⟩,
    ⟨some 5, .mv, [(.tmp 13)], none⟩] [1, 2, 5])
  (.seq
  (.seq
  (.region [
    ⟨some 14, .mv, [(.tmp 1)], none⟩,
    ⟨some 15, (.bin .lss), [(.tmp 14), (.const (.int .i64 0))], none⟩,
    ⟨some 16, .mv, [(.tmp 15)], none⟩,
    ⟨some 17, .mv, [(.tmp 1)], (some (16, false))⟩,
    ⟨some 18, (.fieldAddr 0), [(.tmp 2)], (some (16, false))⟩,
    ⟨some 19, (.load false 1), [(.tmp 18)], (some (16, false))⟩,
    ⟨some 20, (.bin .geq), [(.tmp 17), (.tmp 19)], (some (16, false))⟩,
    ⟨some 21, .pick, [(.tmp 16), (.const (.bool true)), (.tmp 20)], none⟩] [1, 2, 5, 21])
  (.cond (.tmp 21)
    (.seq
    (.region [
      ⟨some 22, .mv, [(.tmp 5)], none⟩,
      ⟨some 4, .mv, [(.tmp 22)], none⟩] [4])
    .ret)
    .skip))
  (.seq
  (.region [
    ⟨some 23, .mv, [(.tmp 5)], none⟩,
    ⟨some 24, .mv, [(.tmp 1)], none⟩,
    ⟨some 25, (.indexAddr none 1), [(.tmp 23), (.tmp 24)], none⟩,
    ⟨none, (.store 1), [(.tmp 25), (.const (.int .i64 0))], none⟩] [1, 2, 5])
  (.seq
  (.seq
  (.region [
    ⟨some 26, .mv, [(.tmp 1)], none⟩,
    ⟨some 27, (.buildSlice 1 1 [(.int .i64 0)] [0]), [(.tmp 26)], none⟩,
    ⟨some 6, .mv, [(.tmp 27)], none⟩] [2, 5, 6])
  (.block 0
    (.loop [2, 5, 6]
      (.seq
      (.seq
      (.region [
        ⟨some 28, .mv, [(.tmp 6)], none⟩,
        ⟨some 29, (.len false), [(.tmp 28)], none⟩,
        ⟨some 30, (.bin .gtr), [(.tmp 29), (.const (.int .i64 0))], none⟩] [2, 5, 6, 30])
      (.cond (.tmp 30)
        .skip
        (.exit 0)))
      (.seq
      (.block 1
        (.seq
        (.drawn [
          ⟨some 33, (.load true 3), [(.tmp 2)], none⟩,
          ⟨some 34, .mv, [(.tmp 6)], none⟩,
          ⟨some 35, (.indexAddr none 1), [(.tmp 34), (.const (.int .i64 0))], none⟩,
          ⟨some 36, (.load false 1), [(.tmp 35)], none⟩,
          ⟨some 37, (.call false []), [(.func 45), (.tmp 33), (.tmp 36)], none⟩,
          ⟨some 38, (.len false), [(.tmp 37)], none⟩,
          ⟨some 39, .mv, [(.const (.int .i64 0))], none⟩] [] [2, 5, 6, 37, 38, 39])
        (.block 2
          (.loop [2, 5, 6, 37, 38, 39]
            (.seq
            (.region [
              ⟨some 40, (.bin .lss), [(.tmp 39), (.tmp 38)], none⟩] [2, 5, 6, 37, 38, 39, 40])
            (.seq
            (.cond (.tmp 40)
              .skip
              (.exit 2))
            (.seq
            (.block 3
              (.seq
              (.region [
                ⟨some 41, (.indexAddr none 3), [(.tmp 37), (.tmp 39)], none⟩,
                ⟨some 42, (.load true 3), [(.tmp 41)], none⟩,
                ⟨some 8, (.alloc [(.int .i64 0), (.int .i64 0), (.int .i64 0)]), [], none⟩,
                ⟨none, (.store 3), [(.tmp 8), (.tmp 42)], none⟩] [2, 5, 6, 8, 37, 38, 39])
              (.seq
              (.region [
                ⟨some 43, .mv, [(.tmp 5)], none⟩,
                ⟨some 44, (.fieldAddr 1), [(.tmp 8)], none⟩,
                ⟨some 45, (.load false 1), [(.tmp 44)], none⟩,
                ⟨some 46, (.indexAddr none 1), [(.tmp 43), (.tmp 45)], none⟩,
                ⟨some 47, (.load false 1), [(.tmp 46)], none⟩,
                ⟨some 48, (.bin .lss), [(.tmp 47), (.const (.int .i64 0))], none⟩] [2, 5, 6, 8, 37, 38, 39, 48])
              (.cond (.tmp 48)
                (.seq
                (.drawn [
                  ⟨some 49, .mv, [(.tmp 5)], none⟩,
                  ⟨some 50, (.fieldAddr 1), [(.tmp 8)], none⟩,
                  ⟨some 51, (.load false 1), [(.tmp 50)], none⟩,
                  ⟨some 52, .mv, [(.tmp 5)], none⟩,
                  ⟨some 53, .mv, [(.tmp 6)], none⟩,
                  ⟨some 54, (.indexAddr none 1), [(.tmp 53), (.const (.int .i64 0))], none⟩,
                  ⟨some 55, (.load false 1), [(.tmp 54)], none⟩,
                  ⟨some 56, (.indexAddr none 1), [(.tmp 52), (.tmp 55)], none⟩,
                  ⟨some 57, (.load false 1), [(.tmp 56)], none⟩,
                  ⟨some 58, (.bin .add), [(.tmp 57), (.const (.int .i64 1))], none⟩,
                  ⟨some 59, (.indexAddr none 1), [(.tmp 49), (.tmp 51)], none⟩,
                  ⟨none, (.store 1), [(.tmp 59), (.tmp 58)], none⟩] [] [2, 5, 6, 8, 37, 38, 39])
                (.region [
                  ⟨some 60, .mv, [(.tmp 6)], none⟩,
                  ⟨some 61, (.fieldAddr 1), [(.tmp 8)], none⟩,
                  ⟨some 62, (.load false 1), [(.tmp 61)], none⟩,
                  ⟨some 63, (.buildSlice 1 1 [(.int .i64 0)] [0]), [(.tmp 62)], none⟩,
                  ⟨some 64, (.append 1), [(.tmp 60), (.tmp 63)], none⟩,
                  ⟨some 6, .mv, [(.tmp 64)], none⟩] [2, 5, 6, 37, 38, 39]))
                .skip))))
            (.region [
              ⟨some 65, (.bin .add), [(.tmp 39), (.const (.int .i64 1))], none⟩,
              ⟨some 39, .mv, [(.tmp 65)], none⟩] [2, 5, 6, 37, 38, 39]))))))))
      (.region [
        ⟨some 31, .mv, [(.tmp 6)], none⟩,
        ⟨some 32, (.slice false 1 true false), [(.tmp 31), (.const (.int .i64 1))], none⟩,
        ⟨some 6, .mv, [(.tmp 32)], none⟩] [2, 5, 6]))))))
  (.seq
  (.region [
    ⟨some 66, .mv, [(.tmp 5)], none⟩,
    ⟨some 4, .mv, [(.tmp 66)], none⟩] [4])
  .ret))))))
def f39 : Ev.Fn := ⟨2, 67, [.tmp 4], k39⟩
set_option maxRecDepth 100000 in
theorem e39 : compFn prog sig 39 2 [[1, 2], [1, 2, 5], [1, 2, 5, 21], [4], [1, 2, 5], [2, 5, 6], [2, 5, 6], [2, 5, 6, 30], [2, 5, 6, 37, 38, 39], [2, 5, 6, 37, 38, 39], [2, 5, 6, 37, 38, 39, 40], [2, 5, 6, 8, 37, 38, 39], [2, 5, 6, 8, 37, 38, 39, 48], [2, 5, 6, 8, 37, 38, 39], [2, 5, 6, 37, 38, 39], [2, 5, 6, 37, 38, 39], [2, 5, 6], [4]] = some f39 := by kernel_rfl
noncomputable def topo_Hops_L2 (r21 : Sl topo_Side) : (List Int × List Int × Int) → Option (Sum ((List Int × List Int × Int)) ((List Int × List Int))) := fun (l23, l24, i25) =>
  bif decide (i25 < (r21.l.length : Int)) then (((ixI i25 r21.l.length).bind fun n38 =>
  (ixI ((gt r21.l n38).To) l23.length).bind fun n40 =>
  bif decide ((gt l23 n40) < 0) then ((ixI 0 l24.length).bind fun n43 =>
  (ixI (gt l24 n43) l23.length).bind fun n45 =>
  (capI (l24 ++ [(gt r21.l n38).To])).bind fun l47 =>
  some ((l23.set n40 (wr .i64 ((gt l23 n45) + 1))), l47)) else
  (some (l23, l24)) : Option ((List Int × List Int))).bind fun (l34, l35) =>
  some (.inl (l34, l35, wr .i64 (i25 + 1)))) else
  (some (.inr (l23, l24)))

noncomputable def topo_Hops_L1 (t_0 : api_Topo) : (List Int × List Int) → Option (Sum ((List Int × List Int)) (List Int)) := fun (l11, l12) =>
  bif decide ((l12.length : Int) > 0) then ((ixI 0 l12.length).bind fun n19 =>
  (topo_Near t_0 (gt l12 n19)).bind fun r21 =>
  (loopO (topo_Hops_L2 r21) (l11, l12, 0)).bind fun (l29, l30) =>
  (cutI l30 1 l30.length).bind fun l51 =>
  some (.inl (l29, l51))) else
  (some (.inr l11))

noncomputable def topo_Hops (t_0 : api_Topo) (sw_1 : Int) : Option (Sl Int) :=
  (slices_Repeat_int_int (Sl.mk [(-1)]) (if 0 > t_0.Switches then 0 else t_0.Switches)).bind fun r1 =>
  bif ((decide (sw_1 < 0)) || (decide (sw_1 ≥ t_0.Switches))) then (some r1) else
  ((ixI sw_1 r1.l.length).bind fun n8 =>
  (loopO (topo_Hops_L1 t_0) ((r1.l.set n8 0), [sw_1])).bind fun l15 =>
  some (Sl.mk l15))
theorem topo_Hops_ok {t_0 : api_Topo} {sw_1 : Int} {z : Sl Int} (hp : topo_Hops t_0 sw_1 = some z) : Good prog 39 [.agg (c_api_Topo t_0), .d (.lit (.int .i64 sw_1))] [.c (.d (slD 1 cI_i64 z))] [] := by
  unfold topo_Hops at hp
  refine fn_good mixed e39 (fnS (m := [true]) (s := ⟨[(0, .agg [.d (.lit (.int .i64 t_0.Switches)), .d (slD 6 c_api_Link t_0.Links), .d (slD 2 c_api_Host t_0.Hosts)]), (1, .c (.d (.lit (.int .i64 sw_1))))], [], 0, []⟩) (len := 0) (c := k39) rfl (Sub.of_eq rfl) rfl rfl ?_)
  refine w_seq ?_
  refine w_region ?_
  refine o2 rfl ?_
  refine o1 rfl ?_
  refine o_end (e' := [(1, .c (.d (.lit (.int .i64 sw_1)))), (2, .c (.op 0 0))]) rfl rfl ?_
  refine after_n ?_
  refine w_seq ?_
  obtain ⟨r1, h2, hp⟩ := bnd hp
  refine w_join (J := fun s => Sub s ⟨[(1, .c (.d (.lit (.int .i64 sw_1)))), (2, .c (.op 0 0)), (5, .c (slC 1 cI_i64 1 r1))], [(0, some (.box [.d (.lit (.int .i64 t_0.Switches)), .d (slD 6 c_api_Link t_0.Links), .d (slD 2 c_api_Host t_0.Hosts)])), (1, slO 1 cI_i64 r1)], 2, []⟩) ?_ ?_
  · rcases r1 with _ | r1'
    · try dsimp only [slC, slO]
      refine w_region ?_
      refine o2 rfl ?_
      iterate 2 refine o1 rfl ?_
      refine o1 (v := .c (.d (.lit (.int .i64 (if 0 > t_0.Switches then 0 else t_0.Switches))))) rfl ?_
      refine oc' (rs := [.c (slT 1 cI_i64 Sl.nil)]) (outs := []) (call_at rfl rfl (ea_c rfl rfl (ea_c rfl rfl ea_nil)) wh_nil rfl rfl) (slices_Repeat_int_int_ok h2) ?_
      refine o1 rfl ?_
      exact o_join (sub_ren [0, 9001] [1, 2, 5] (by decide) rfl (.cons (.skip .nil)) (Nat.le_of_ble_eq_true rfl))
    · try dsimp only [slC, slO]
      refine w_region ?_
      refine o2 rfl ?_
      iterate 2 refine o1 rfl ?_
      refine o1 (v := .c (.d (.lit (.int .i64 (if 0 > t_0.Switches then 0 else t_0.Switches))))) rfl ?_
      refine oc' (rs := [.c (slT 1 cI_i64 (Sl.mk r1'))]) (outs := []) (call_at rfl rfl (ea_c rfl rfl (ea_c rfl rfl ea_nil)) wh_nil rfl rfl) (slices_Repeat_int_int_ok h2) ?_
      refine o1 rfl ?_
      exact o_join (sub_ren [0, 2] [1, 2, 5] (by decide) rfl (.cons (.cons .nil)) (Nat.le_of_ble_eq_true rfl))
  · intro s hs3
    refine after_n ?_
    refine W.sub hs3 ?_
    refine w_seq ?_
    refine w_seq ?_
    refine w_join (J := fun s => Sub s ⟨[(1, .c (.d (.lit (.int .i64 sw_1)))), (2, .c (.op 0 0)), (5, .c (slC 1 cI_i64 1 r1)), (21, .c (.d (.lit (.bool ((decide (sw_1 < 0)) || (decide (sw_1 ≥ t_0.Switches)))))))], [(0, some (.box [.d (.lit (.int .i64 t_0.Switches)), .d (slD 6 c_api_Link t_0.Links), .d (slD 2 c_api_Host t_0.Hosts)])), (1, slO 1 cI_i64 r1)], 2, []⟩) ?_ ?_
    · refine w_region ?_
      refine o1 rfl ?_
      refine o1 (v := .c (.d (.lit (.bool (decide (sw_1 < 0)))))) rfl ?_
      refine o1 rfl ?_
      cases hb5 : (decide (sw_1 < 0) : Bool)
      · refine og rfl (by first | rfl | exact hb5) rfl ?_
        refine og rfl (by first | rfl | exact hb5) rfl ?_
        refine og rfl (by first | rfl | exact hb5) rfl ?_
        refine og (v := .c (.d (.lit (.bool (decide (sw_1 ≥ t_0.Switches)))))) rfl (by first | rfl | exact hb5) rfl ?_
        refine o1 (pk_f (by first | rfl | exact hb5)) ?_
        exact o_join (by rcases r1 with _ | _ <;> first | (exact sub_ren [0, 9001] [1, 2, 5, 21] (by decide) rfl (.cons (.skip .nil)) (Nat.le_of_ble_eq_true rfl)) | (exact sub_ren [0, 1] [1, 2, 5, 21] (by decide) rfl (.cons (.cons .nil)) (Nat.le_of_ble_eq_true rfl)))
      · refine onot rfl (by first | rfl | exact hb5) ?_
        refine onot rfl (by first | rfl | exact hb5) ?_
        refine onot rfl (by first | rfl | exact hb5) ?_
        refine onot rfl (by first | rfl | exact hb5) ?_
        refine o1 (pk_t (by first | rfl | exact hb5)) ?_
        exact o_join (by rcases r1 with _ | _ <;> first | (exact sub_ren [0, 9001] [1, 2, 5, 21] (by decide) rfl (.cons (.skip .nil)) (Nat.le_of_ble_eq_true rfl)) | (exact sub_ren [0, 1] [1, 2, 5, 21] (by decide) rfl (.cons (.cons .nil)) (Nat.le_of_ble_eq_true rfl)))
    · intro s hs6
      refine after_n ?_
      refine W.sub hs6 ?_
      refine w_cond (t := ((decide (sw_1 < 0)) || (decide (sw_1 ≥ t_0.Switches)))) rfl (fun hb7 => ?_) (fun hb7 => ?_)
      · have hp := cnd_t hb7 hp
        refine w_seq ?_
        refine w_region ?_
        iterate 2 refine o1 rfl ?_
        refine o_end (e' := [(4, .c (slC 1 cI_i64 1 r1))]) rfl rfl ?_
        refine after_n ?_
        refine w_ret ?_
        refine after_r ?_
        obtain rfl := Option.some.inj hp
        rcases r1 with _ | r1'
        · exact leave_at rfl rfl (pr_c p_d pr_nil) pc_nil rfl rfl
        · exact leave_at rfl rfl (pr_c (p_o rfl) pr_nil) pc_nil rfl rfl
      · have hp := cnd_f hb7 hp
        refine w_skip ?_
        refine after_n ?_
        refine w_seq ?_
        obtain ⟨n8, h9, hp⟩ := bnd hp
        refine w_join (J := fun s => Sub s ⟨[(1, .c (.d (.lit (.int .i64 sw_1)))), (2, .c (.op 0 0)), (5, .c (slC 1 cI_i64 1 (Sl.mk (r1.l.set n8 0))))], [(0, some (.box [.d (.lit (.int .i64 t_0.Switches)), .d (slD 6 c_api_Link t_0.Links), .d (slD 2 c_api_Host t_0.Hosts)])), (1, slO 1 cI_i64 (Sl.mk (r1.l.set n8 0)))], 2, []⟩) ?_ ?_
        · rcases r1 with _ | r1'
          · try dsimp only [slC, slO]
            refine w_region ?_
            iterate 2 refine o1 rfl ?_
            exact ix_nil h9
          · try dsimp only [slC, slO]
            refine w_region ?_
            iterate 2 refine o1 rfl ?_
            refine o1 (ix_o h9) ?_
            refine o0 (st_row (y := 0) rfl (ixI_some.1 h9).2 rfl rfl rfl (Nat.le_of_ble_eq_true rfl) rfl) ?_
            rw [len_set r1' cI_i64 n8 0]
            exact o_join (sub_ren [0, 1] [1, 2, 5] (by decide) rfl (.cons (.cons .nil)) (Nat.le_of_ble_eq_true rfl))
        · intro s hs10
          refine after_n ?_
          refine W.sub hs10 ?_
          refine w_seq ?_
          refine w_seq ?_
          refine w_region ?_
          refine o1 rfl ?_
          refine o2 rfl ?_
          refine o1 rfl ?_
          refine o_end (e' := [(2, .c (.op 0 0)), (5, .c (slC 1 cI_i64 1 (Sl.mk (r1.l.set n8 0)))), (6, .c (slC 1 cI_i64 2 (Sl.mk [sw_1])))]) rfl rfl ?_
          refine after_n ?_
          refine w_block ?_
          obtain ⟨l15, h17, hp⟩ := bnd hp
          refine W.mono ?_ (w_loopS (st := fun (v : (List Int × List Int)) => match v with | (l11, l12) => ⟨[(2, .c (.op 0 0)), (5, .c (slC 1 cI_i64 1 (Sl.mk l11))), (6, .c (slC 1 cI_i64 2 (Sl.mk l12)))], [(0, some (.box [.d (.lit (.int .i64 t_0.Switches)), .d (slD 6 c_api_Link t_0.Links), .d (slD 2 c_api_Host t_0.Hosts)])), (1, slO 1 cI_i64 (Sl.mk l11)), (2, slO 1 cI_i64 (Sl.mk l12))], 3, []⟩) (a := ((r1.l.set n8 0), [sw_1])) (Q := Jn (fun (x : List Int) o s => match x with | l15 => o = Out.exit 0 ∧ Sub s ⟨[(5, .c (slC 1 cI_i64 0 (Sl.mk l15)))], [(0, slO 1 cI_i64 (Sl.mk l15))], 1, []⟩)) ?_ h17 ?_)
          · intro o s hs53
            obtain ⟨rfl, hs53⟩ := hs53
            refine out_e ?_
            refine after_n ?_
            refine W.sub hs53 ?_
            refine w_seq ?_
            refine w_region ?_
            iterate 2 refine o1 rfl ?_
            refine o_end (e' := [(4, .c (slC 1 cI_i64 0 (Sl.mk l15)))]) rfl rfl ?_
            refine after_n ?_
            refine w_ret ?_
            obtain rfl := Option.some.inj hp
            exact leave_at rfl rfl (pr_c (p_o rfl) pr_nil) pc_nil rfl rfl
          · exact (sub_ren [0, 1, 2] [2, 5, 6] (by decide) rfl (.cons (.cons (.cons .nil))) (Nat.le_of_ble_eq_true rfl))
          · rintro ⟨l11, l12⟩ r hr
            unfold topo_Hops_L1 at hr
            refine w_seq ?_
            refine w_seq ?_
            refine w_region ?_
            refine o1 rfl ?_
            refine o1 (v := .c (.d (.lit (.int .i64 (l12.length : Int))))) len_o ?_
            refine o1 (v := .c (.d (.lit (.bool (decide ((l12.length : Int) > 0)))))) rfl ?_
            refine o_end (e' := [(2, .c (.op 0 0)), (5, .c (slC 1 cI_i64 1 (Sl.mk l11))), (6, .c (slC 1 cI_i64 2 (Sl.mk l12))), (30, .c (.d (.lit (.bool (decide ((l12.length : Int) > 0))))))]) rfl rfl ?_
            refine after_n ?_
            refine w_cond (t := decide ((l12.length : Int) > 0)) rfl (fun hb18 => ?_) (fun hb18 => ?_)
            · have hr := cnd_t hb18 hr
              refine w_skip ?_
              refine after_n ?_
              refine w_seq ?_
              refine w_block ?_
              refine w_seq ?_
              obtain ⟨n19, h20, hr⟩ := bnd hr
              obtain ⟨r21, h22, hr⟩ := bnd hr
              refine w_drawn ?_
              iterate 2 refine d1 rfl ?_
              refine d1 (ix_o h20) ?_
              refine d1 (ld_row rfl (ixI_some.1 h20).2 rfl) ?_
              refine dc (rs := [.c (.d (slD 3 c_topo_Side r21))]) (outs := []) rfl (topo_Near_ok h22) rfl (Nat.le_of_ble_eq_true rfl) ?_
              refine d1 (v := .c (.d (.lit (.int .i64 (r21.l.length : Int))))) len_sd ?_
              refine d1 rfl ?_
              refine d_fin (e' := [(2, .c (.op 0 0)), (5, .c (slC 1 cI_i64 1 (Sl.mk l11))), (6, .c (slC 1 cI_i64 2 (Sl.mk l12))), (37, .c (.d (slD 3 c_topo_Side r21))), (38, .c (.d (.lit (.int .i64 (r21.l.length : Int))))), (39, .c (.d (.lit (.int .i64 0))))]) (n' := 451) rfl rfl rfl rfl ?_
              refine after_n ?_
              refine w_block ?_
              obtain ⟨x31, h32, hr⟩ := bnd hr
              refine W.mono ?_ (w_loopS (st := fun (v : (List Int × List Int × Int)) => match v with | (l23, l24, i25) => ⟨[(2, .c (.op 0 0)), (5, .c (slC 1 cI_i64 1 (Sl.mk l23))), (6, .c (slC 1 cI_i64 2 (Sl.mk l24))), (37, .c (.d (slD 3 c_topo_Side r21))), (38, .c (.d (.lit (.int .i64 (r21.l.length : Int))))), (39, .c (.d (.lit (.int .i64 i25))))], [(0, some (.box [.d (.lit (.int .i64 t_0.Switches)), .d (slD 6 c_api_Link t_0.Links), .d (slD 2 c_api_Host t_0.Hosts)])), (1, slO 1 cI_i64 (Sl.mk l23)), (2, slO 1 cI_i64 (Sl.mk l24))], 3, []⟩) (a := (l11, l12, 0)) (Q := Jn (fun (x : (List Int × List Int)) o s => match x with | (l29, l30) => o = Out.exit 2 ∧ Sub s ⟨[(2, .c (.op 0 0)), (5, .c (slC 1 cI_i64 1 (Sl.mk l29))), (6, .c (slC 1 cI_i64 2 (Sl.mk l30)))], [(0, some (.box [.d (.lit (.int .i64 t_0.Switches)), .d (slD 6 c_api_Link t_0.Links), .d (slD 2 c_api_Host t_0.Hosts)])), (1, slO 1 cI_i64 (Sl.mk l29)), (2, slO 1 cI_i64 (Sl.mk l30))], 3, []⟩)) ?_ h32 ?_)
              · intro o s hs50
                obtain ⟨l29, l30⟩ := x31
                obtain ⟨rfl, hs50⟩ := hs50
                refine out_e ?_
                refine out_n ?_
                refine after_n ?_
                refine W.sub hs50 ?_
                obtain ⟨l51, h52, hr⟩ := bnd hr
                refine w_region ?_
                refine o1 rfl ?_
                refine o1 (cut_otf h52) ?_
                refine o1 rfl ?_
                refine o_end (e' := [(2, .c (.op 0 0)), (5, .c (slC 1 cI_i64 1 (Sl.mk l29))), (6, .c (.osl 1 2 ((1 : Int).toNat) (l51.map cI_i64).length))]) rfl rfl ?_
                obtain rfl := Option.some.inj hr
                exact And.intro rfl (Sub.trans (sub_cutS 6 (enc := cI_i64) h52 rfl rfl) (sub_ren [0, 1, 3] [2, 5, 6] (by decide) rfl (.cons (.cons (.cons .nil))) (Nat.le_of_ble_eq_true rfl)))
              · exact (sub_ren [0, 1, 2] [2, 5, 6, 37, 38, 39] (by decide) rfl (.cons (.cons (.cons .nil))) (Nat.le_of_ble_eq_true rfl))
              · rintro ⟨l23, l24, i25⟩ r hr
                unfold topo_Hops_L2 at hr
                refine w_seq ?_
                refine w_region ?_
                refine o1 (v := .c (.d (.lit (.bool (decide (i25 < (r21.l.length : Int))))))) rfl ?_
                refine o_end (e' := [(2, .c (.op 0 0)), (5, .c (slC 1 cI_i64 1 (Sl.mk l23))), (6, .c (slC 1 cI_i64 2 (Sl.mk l24))), (37, .c (.d (slD 3 c_topo_Side r21))), (38, .c (.d (.lit (.int .i64 (r21.l.length : Int))))), (39, .c (.d (.lit (.int .i64 i25)))), (40, .c (.d (.lit (.bool (decide (i25 < (r21.l.length : Int)))))))]) rfl rfl ?_
                refine after_n ?_
                refine w_seq ?_
                refine w_cond (t := decide (i25 < (r21.l.length : Int))) rfl (fun hb33 => ?_) (fun hb33 => ?_)
                · have hr := cnd_t hb33 hr
                  refine w_skip ?_
                  refine after_n ?_
                  refine w_seq ?_
                  obtain ⟨x37, h36, hr⟩ := bnd hr
                  refine W.mono (Q := Jn (fun (x : (List Int × List Int)) o s => match x with | (l34, l35) => o = Out.normal ∧ Sub s ⟨[(2, .c (.op 0 0)), (5, .c (slC 1 cI_i64 1 (Sl.mk l34))), (6, .c (slC 1 cI_i64 2 (Sl.mk l35))), (37, .c (.d (slD 3 c_topo_Side r21))), (38, .c (.d (.lit (.int .i64 (r21.l.length : Int))))), (39, .c (.d (.lit (.int .i64 i25))))], [(0, some (.box [.d (.lit (.int .i64 t_0.Switches)), .d (slD 6 c_api_Link t_0.Links), .d (slD 2 c_api_Host t_0.Hosts)])), (1, slO 1 cI_i64 (Sl.mk l34)), (2, slO 1 cI_i64 (Sl.mk l35))], 3, []⟩) x37) ?_ ?_
                  · intro o s hs49
                    obtain ⟨l34, l35⟩ := x37
                    obtain ⟨rfl, hs49⟩ := hs49
                    refine after_n ?_
                    refine W.sub hs49 ?_
                    refine w_region ?_
                    refine o1 (v := .c (.d (.lit (.int .i64 (wr .i64 (i25 + 1)))))) rfl ?_
                    refine o1 rfl ?_
                    refine o_end (e' := [(2, .c (.op 0 0)), (5, .c (slC 1 cI_i64 1 (Sl.mk l34))), (6, .c (slC 1 cI_i64 2 (Sl.mk l35))), (37, .c (.d (slD 3 c_topo_Side r21))), (38, .c (.d (.lit (.int .i64 (r21.l.length : Int))))), (39, .c (.d (.lit (.int .i64 (wr .i64 (i25 + 1))))))]) rfl rfl ?_
                    obtain rfl := Option.some.inj hr
                    exact And.intro rfl (sub_ren [0, 1, 2] [2, 5, 6, 37, 38, 39] (by decide) rfl (.cons (.cons (.cons .nil))) (Nat.le_of_ble_eq_true rfl))
                  · refine w_block ?_
                    refine w_seq ?_
                    obtain ⟨n38, h39, h36⟩ := bnd h36
                    refine w_region ?_
                    refine o1 (ix_sd h39) ?_
                    refine o1 rfl ?_
                    refine o2 rfl ?_
                    refine o0 rfl ?_
                    refine o_end (e' := [(2, .c (.op 0 0)), (5, .c (slC 1 cI_i64 1 (Sl.mk l23))), (6, .c (slC 1 cI_i64 2 (Sl.mk l24))), (8, .c (.op 3 0)), (37, .c (.d (slD 3 c_topo_Side r21))), (38, .c (.d (.lit (.int .i64 (r21.l.length : Int))))), (39, .c (.d (.lit (.int .i64 i25))))]) rfl rfl ?_
                    refine after_n ?_
                    refine w_seq ?_
                    obtain ⟨n40, h41, h36⟩ := bnd h36
                    refine w_region ?_
                    iterate 3 refine o1 rfl ?_
                    refine o1 (ix_o h41) ?_
                    refine o1 (ld_row rfl (ixI_some.1 h41).2 rfl) ?_
                    refine o1 (v := .c (.d (.lit (.bool (decide ((gt l23 n40) < 0)))))) rfl ?_
                    refine o_end (e' := [(2, .c (.op 0 0)), (5, .c (slC 1 cI_i64 1 (Sl.mk l23))), (6, .c (slC 1 cI_i64 2 (Sl.mk l24))), (8, .c (.op 3 0)), (37, .c (.d (slD 3 c_topo_Side r21))), (38, .c (.d (.lit (.int .i64 (r21.l.length : Int))))), (39, .c (.d (.lit (.int .i64 i25)))), (48, .c (.d (.lit (.bool (decide ((gt l23 n40) < 0))))))]) rfl rfl ?_
                    refine after_n ?_
                    refine w_cond (t := decide ((gt l23 n40) < 0)) rfl (fun hb42 => ?_) (fun hb42 => ?_)
                    · have h36 := cnd_t hb42 h36
                      refine w_seq ?_
                      obtain ⟨n43, h44, h36⟩ := bnd h36
                      obtain ⟨n45, h46, h36⟩ := bnd h36
                      try dsimp only [slC, slO]
                      refine w_drawn ?_
                      iterate 5 refine d1 rfl ?_
                      refine d1 (ix_o h44) ?_
                      refine d1 (ld_row rfl (ixI_some.1 h44).2 rfl) ?_
                      refine d1 (ix_o h46) ?_
                      refine d1 (ld_row rfl (ixI_some.1 h46).2 rfl) ?_
                      refine d1 (v := .c (.d (.lit (.int .i64 (wr .i64 ((gt l23 n45) + 1)))))) rfl ?_
                      refine d1 (ix_o h41) ?_
                      refine d0 (st_row (y := wr .i64 ((gt l23 n45) + 1)) rfl (ixI_some.1 h41).2 rfl rfl rfl (Nat.le_of_ble_eq_true rfl) rfl) (Nat.le_of_ble_eq_true rfl) ?_
                      rw [len_set l23 cI_i64 n40 (wr .i64 ((gt l23 n45) + 1))]
                      refine d_fin (e' := [(2, .c (.op 0 0)), (5, .c (slC 1 cI_i64 1 (Sl.mk (l23.set n40 (wr .i64 ((gt l23 n45) + 1)))))), (6, .c (slC 1 cI_i64 2 (Sl.mk l24))), (8, .c (.op 3 0)), (37, .c (.d (slD 3 c_topo_Side r21))), (38, .c (.d (.lit (.int .i64 (r21.l.length : Int))))), (39, .c (.d (.lit (.int .i64 i25))))]) (n' := 772) rfl rfl rfl rfl ?_
                      refine after_n ?_
                      obtain ⟨l47, h48, h36⟩ := bnd h36
                      refine w_region ?_
                      iterate 3 refine o1 rfl ?_
                      refine o2 rfl ?_
                      refine o2 (app_o rfl rfl h48) ?_
                      refine o1 rfl ?_
                      refine o_end (e' := [(2, .c (.op 0 0)), (5, .c (slC 1 cI_i64 1 (Sl.mk (l23.set n40 (wr .i64 ((gt l23 n45) + 1)))))), (6, .c (slC 1 cI_i64 773 (Sl.mk l47))), (37, .c (.d (slD 3 c_topo_Side r21))), (38, .c (.d (.lit (.int .i64 (r21.l.length : Int))))), (39, .c (.d (.lit (.int .i64 i25))))]) rfl rfl ?_
                      refine out_n ?_
                      obtain rfl := Option.some.inj h36
                      exact And.intro rfl (sub_ren [0, 1, 773] [2, 5, 6, 37, 38, 39] (by decide) rfl (.cons (.cons (.cons .nil))) (Nat.le_of_ble_eq_true rfl))
                    · have h36 := cnd_f hb42 h36
                      refine w_skip ?_
                      refine out_n ?_
                      obtain rfl := Option.some.inj h36
                      exact And.intro rfl (sub_ren [0, 1, 2] [2, 5, 6, 37, 38, 39] (by decide) rfl (.cons (.cons (.cons .nil))) (Nat.le_of_ble_eq_true rfl))
                · have hr := cnd_f hb33 hr
                  refine w_exit ?_
                  refine after_e ?_
                  obtain rfl := Option.some.inj hr
                  exact And.intro nofun (And.intro rfl (sub_ren [0, 1, 2] [2, 5, 6] (by decide) rfl (.cons (.cons (.cons .nil))) (Nat.le_of_ble_eq_true rfl)))
            · have hr := cnd_f hb18 hr
              refine w_exit ?_
              refine after_e ?_
              obtain rfl := Option.some.inj hr
              exact And.intro nofun (And.intro rfl (sub_ren [1] [5] (by decide) rfl (.cons .nil) (Nat.le_of_ble_eq_true rfl)))

/- slices.Index[[]int,int] -/
def k97 : CC :=
  (.seq
  (.region [
    ⟨some 4, .mv, [(.const (.int .i64 0))], none⟩] [0, 1])
  (.seq
  (.seq
  (.region [
    ⟨some 6, .mv, [(.tmp 0)], none⟩,
    ⟨some 7, (.len false), [(.tmp 6)], none⟩,
    ⟨some 8, .mv, [(.const (.int .i64 0))], none⟩] [0, 1, 7, 8])
  (.block 0
    (.loop [0, 1, 7, 8]
      (.seq
      (.region [
        ⟨some 9, (.bin .lss), [(.tmp 8), (.tmp 7)], none⟩] [0, 1, 7, 8, 9])
      (.seq
      (.cond (.tmp 9)
        .skip
        (.exit 0))
      (.seq
      (.block 1
        (.seq
        (.region [
          ⟨some 10, .mv, [(.tmp 8)], none⟩,
          ⟨some 5, .mv, [(.tmp 10)], none⟩] [0, 1, 5, 7, 8])
        (.seq
        (.region [
          ⟨some 11, .mv, [(.tmp 1)], none⟩,
          ⟨some 12, .mv, [(.tmp 0)], none⟩,
          ⟨some 13, .mv, [(.tmp 5)], none⟩,
          ⟨some 14, (.indexAddr none 1), [(.tmp 12), (.tmp 13)], none⟩,
          ⟨some 15, (.load false 1), [(.tmp 14)], none⟩,
          ⟨some 16, (.bin .eql), [(.tmp 11), (.tmp 15)], none⟩] [0, 1, 5, 7, 8, 16])
        (.cond (.tmp 16)
          (.seq
          (.region [
            ⟨some 17, .mv, [(.tmp 5)], none⟩,
            ⟨some 4, .mv, [(.tmp 17)], none⟩] [4])
          .ret)
          .skip))))
      (.region [
        ⟨some 18, (.bin .add), [(.tmp 8), (.const (.int .i64 1))], none⟩,
        ⟨some 8, .mv, [(.tmp 18)], none⟩] [0, 1, 7, 8])))))))
  (.seq
  (.region [
    ⟨some 4, .mv, [(.const (.int .i64 (-1)))], none⟩] [4])
  .ret)))
def f97 : Ev.Fn := ⟨2, 19, [.tmp 4], k97⟩
set_option maxRecDepth 100000 in
theorem e97 : compFn prog sig 97 2 [[0, 1], [0, 1, 7, 8], [0, 1, 7, 8], [0, 1, 7, 8, 9], [0, 1, 5, 7, 8], [0, 1, 5, 7, 8, 16], [4], [0, 1, 7, 8], [4]] = some f97 := by kernel_rfl
noncomputable def slices_Index_int_int_L1 (s_0 : Sl Int) (v_1 : Int) : Int → Option (Sum (Int) (Sum (Int) (Unit))) := fun i1 =>
  bif decide (i1 < (s_0.l.length : Int)) then ((ixI i1 s_0.l.length).bind fun n7 =>
  bif (v_1 == (gt s_0.l n7)) then (some (.inr (.inl i1))) else
  (some (.inl (wr .i64 (i1 + 1))))) else
  (some (.inr (.inr ())))

noncomputable def slices_Index_int_int (s_0 : Sl Int) (v_1 : Int) : Option (Int) :=
  (loopO (slices_Index_int_int_L1 s_0 v_1) 0).bind fun
  | .inl i3 => (some i3)
  | .inr (_) => (some (-1))
theorem slices_Index_int_int_ok {s_0 : Sl Int} {v_1 : Int} {z : Int} (hp : slices_Index_int_int s_0 v_1 = some z) : Good prog 97 [.d (slD 1 cI_i64 s_0), .d (.lit (.int .i64 v_1))] [.c (.d (.lit (.int .i64 z)))] [] := by
  unfold slices_Index_int_int at hp
  refine fn_good mixed e97 (fnS (m := [false]) (s := ⟨[(0, .c (.d (slD 1 cI_i64 s_0))), (1, .c (.d (.lit (.int .i64 v_1))))], [], 0, []⟩) (len := 0) (c := k97) rfl (Sub.of_eq rfl) rfl rfl ?_)
  refine w_seq ?_
  refine w_region ?_
  refine o1 rfl ?_
  refine o_end (e' := [(0, .c (.d (slD 1 cI_i64 s_0))), (1, .c (.d (.lit (.int .i64 v_1))))]) rfl rfl ?_
  refine after_n ?_
  refine w_seq ?_
  refine w_seq ?_
  refine w_region ?_
  refine o1 rfl ?_
  refine o1 (v := .c (.d (.lit (.int .i64 (s_0.l.length : Int))))) len_sd ?_
  refine o1 rfl ?_
  refine o_end (e' := [(0, .c (.d (slD 1 cI_i64 s_0))), (1, .c (.d (.lit (.int .i64 v_1)))), (7, .c (.d (.lit (.int .i64 (s_0.l.length : Int))))), (8, .c (.d (.lit (.int .i64 0))))]) rfl rfl ?_
  refine after_n ?_
  refine w_block ?_
  obtain ⟨x4, h5, hp⟩ := bnd hp
  refine W.mono ?_ (w_loopS (st := fun (v : Int) => match v with | i1 => ⟨[(0, .c (.d (slD 1 cI_i64 s_0))), (1, .c (.d (.lit (.int .i64 v_1)))), (7, .c (.d (.lit (.int .i64 (s_0.l.length : Int))))), (8, .c (.d (.lit (.int .i64 i1))))], [], 0, []⟩) (a := 0) (Q := Jn (fun (x : Sum (Int) (Unit)) o s => match x with | .inl i3 => o = Out.ret ∧ Sub s ⟨[(4, .c (.d (.lit (.int .i64 i3))))], [], 0, []⟩ | .inr (_) => o = Out.exit 0 ∧ Sub s ⟨[], [], 0, []⟩)) ?_ h5 ?_)
  · intro o s hs10
    rcases x4 with (i3 | _)
    · obtain ⟨rfl, hs10⟩ := hs10
      refine out_r ?_
      refine after_r ?_
      obtain rfl := Option.some.inj hp
      refine wk.sub hs10 ?_
      exact leave_at rfl rfl (pr_c p_d pr_nil) pc_nil rfl rfl
    · obtain ⟨rfl, hs10⟩ := hs10
      refine out_e ?_
      refine after_n ?_
      refine W.sub hs10 ?_
      refine w_seq ?_
      refine w_region ?_
      refine o1 rfl ?_
      refine o_end (e' := [(4, .c (.d (.lit (.int .i64 (-1)))))]) rfl rfl ?_
      refine after_n ?_
      refine w_ret ?_
      obtain rfl := Option.some.inj hp
      exact leave_at rfl rfl (pr_c p_d pr_nil) pc_nil rfl rfl
  · exact (sub_ren [] [0, 1, 7, 8] (by decide) rfl .nil (Nat.le_of_ble_eq_true rfl))
  · rintro i1 r hr
    unfold slices_Index_int_int_L1 at hr
    refine w_seq ?_
    refine w_region ?_
    refine o1 (v := .c (.d (.lit (.bool (decide (i1 < (s_0.l.length : Int))))))) rfl ?_
    refine o_end (e' := [(0, .c (.d (slD 1 cI_i64 s_0))), (1, .c (.d (.lit (.int .i64 v_1)))), (7, .c (.d (.lit (.int .i64 (s_0.l.length : Int))))), (8, .c (.d (.lit (.int .i64 i1)))), (9, .c (.d (.lit (.bool (decide (i1 < (s_0.l.length : Int)))))))]) rfl rfl ?_
    refine after_n ?_
    refine w_seq ?_
    refine w_cond (t := decide (i1 < (s_0.l.length : Int))) rfl (fun hb6 => ?_) (fun hb6 => ?_)
    · have hr := cnd_t hb6 hr
      refine w_skip ?_
      refine after_n ?_
      refine w_seq ?_
      refine w_block ?_
      refine w_seq ?_
      refine w_region ?_
      iterate 2 refine o1 rfl ?_
      refine o_end (e' := [(0, .c (.d (slD 1 cI_i64 s_0))), (1, .c (.d (.lit (.int .i64 v_1)))), (5, .c (.d (.lit (.int .i64 i1)))), (7, .c (.d (.lit (.int .i64 (s_0.l.length : Int))))), (8, .c (.d (.lit (.int .i64 i1))))]) rfl rfl ?_
      refine after_n ?_
      refine w_seq ?_
      obtain ⟨n7, h8, hr⟩ := bnd hr
      refine w_region ?_
      iterate 3 refine o1 rfl ?_
      refine o1 (ix_sd h8) ?_
      refine o1 rfl ?_
      refine o1 (v := .c (.d (.lit (.bool (v_1 == (gt s_0.l n7)))))) rfl ?_
      refine o_end (e' := [(0, .c (.d (slD 1 cI_i64 s_0))), (1, .c (.d (.lit (.int .i64 v_1)))), (5, .c (.d (.lit (.int .i64 i1)))), (7, .c (.d (.lit (.int .i64 (s_0.l.length : Int))))), (8, .c (.d (.lit (.int .i64 i1)))), (16, .c (.d (.lit (.bool (v_1 == (gt s_0.l n7))))))]) rfl rfl ?_
      refine after_n ?_
      refine w_cond (t := (v_1 == (gt s_0.l n7))) rfl (fun hb9 => ?_) (fun hb9 => ?_)
      · have hr := cnd_t hb9 hr
        refine w_seq ?_
        refine w_region ?_
        iterate 2 refine o1 rfl ?_
        refine o_end (e' := [(4, .c (.d (.lit (.int .i64 i1))))]) rfl rfl ?_
        refine after_n ?_
        refine w_ret ?_
        refine out_r ?_
        refine after_r ?_
        obtain rfl := Option.some.inj hr
        exact And.intro nofun (And.intro rfl (sub_ren [] [4] (by decide) rfl .nil (Nat.le_of_ble_eq_true rfl)))
      · have hr := cnd_f hb9 hr
        refine w_skip ?_
        refine out_n ?_
        refine after_n ?_
        refine w_region ?_
        refine o1 (v := .c (.d (.lit (.int .i64 (wr .i64 (i1 + 1)))))) rfl ?_
        refine o1 rfl ?_
        refine o_end (e' := [(0, .c (.d (slD 1 cI_i64 s_0))), (1, .c (.d (.lit (.int .i64 v_1)))), (7, .c (.d (.lit (.int .i64 (s_0.l.length : Int))))), (8, .c (.d (.lit (.int .i64 (wr .i64 (i1 + 1))))))]) rfl rfl ?_
        obtain rfl := Option.some.inj hr
        exact And.intro rfl (sub_ren [] [0, 1, 7, 8] (by decide) rfl .nil (Nat.le_of_ble_eq_true rfl))
    · have hr := cnd_f hb6 hr
      refine w_exit ?_
      refine after_e ?_
      obtain rfl := Option.some.inj hr
      exact And.intro nofun (And.intro rfl (sub_ren [] [] (by decide) rfl .nil (Nat.le_of_ble_eq_true rfl)))

/- slices.Contains[[]int,int] -/
def k79 : CC :=
  (.seq
  (.region [
    ⟨some 4, .mv, [(.const (.bool false))], none⟩] [0, 1])
  (.seq
  (.region [
    ⟨some 5, .mv, [(.tmp 0)], none⟩,
    ⟨some 6, .mv, [(.tmp 1)], none⟩,
    ⟨some 7, (.call true []), [(.func 97), (.tmp 5), (.tmp 6)], none⟩,
    ⟨some 8, (.bin .geq), [(.tmp 7), (.const (.int .i64 0))], none⟩,
    ⟨some 4, .mv, [(.tmp 8)], none⟩] [4])
  .ret))
def f79 : Ev.Fn := ⟨2, 9, [.tmp 4], k79⟩
set_option maxRecDepth 100000 in
theorem e79 : compFn prog sig 79 2 [[0, 1], [4]] = some f79 := by kernel_rfl
noncomputable def slices_Contains_int_int (s_0 : Sl Int) (v_1 : Int) : Option (Bool) :=
  (slices_Index_int_int s_0 v_1).bind fun r1 =>
  some (decide (r1 ≥ 0))
theorem slices_Contains_int_int_ok {s_0 : Sl Int} {v_1 : Int} {z : Bool} (hp : slices_Contains_int_int s_0 v_1 = some z) : Good prog 79 [.d (slD 1 cI_i64 s_0), .d (.lit (.int .i64 v_1))] [.c (.d (.lit (.bool z)))] [] := by
  unfold slices_Contains_int_int at hp
  refine fn_good mixed e79 (fnS (m := [false]) (s := ⟨[(0, .c (.d (slD 1 cI_i64 s_0))), (1, .c (.d (.lit (.int .i64 v_1))))], [], 0, []⟩) (len := 0) (c := k79) rfl (Sub.of_eq rfl) rfl rfl ?_)
  refine w_seq ?_
  refine w_region ?_
  refine o1 rfl ?_
  refine o_end (e' := [(0, .c (.d (slD 1 cI_i64 s_0))), (1, .c (.d (.lit (.int .i64 v_1))))]) rfl rfl ?_
  refine after_n ?_
  refine w_seq ?_
  obtain ⟨r1, h2, hp⟩ := bnd hp
  refine w_region ?_
  iterate 2 refine o1 rfl ?_
  refine oc (rs := [.c (.d (.lit (.int .i64 r1)))]) (outs := []) rfl (slices_Index_int_int_ok h2) rfl ?_
  refine o1 (v := .c (.d (.lit (.bool (decide (r1 ≥ 0)))))) rfl ?_
  refine o1 rfl ?_
  refine o_end (e' := [(4, .c (.d (.lit (.bool (decide (r1 ≥ 0))))))]) rfl rfl ?_
  refine after_n ?_
  refine w_ret ?_
  obtain rfl := Option.some.inj hp
  exact leave_at rfl rfl (pr_c p_d pr_nil) pc_nil rfl rfl

/- turnout/topo.Whole -/
def k48 : CC :=
  (.seq
  (.region [
    ⟨some 1, .box, [(.tmp 0)], none⟩,
    ⟨some 2, .mv, [(.const (.bool false))], none⟩] [1])
  (.seq
  (.region [
    ⟨some 3, (.load true 3), [(.tmp 1)], none⟩,
    ⟨some 4, (.call false []), [(.func 39), (.tmp 3), (.const (.int .i64 0))], none⟩,
    ⟨some 5, (.call true []), [(.func 79), (.tmp 4), (.const (.int .i64 (-1)))], none⟩,
    ⟨some 6, (.un .not), [(.tmp 5)], none⟩,
    ⟨some 2, .mv, [(.tmp 6)], none⟩] [2])
  .ret))
def f48 : Ev.Fn := ⟨1, 7, [.tmp 2], k48⟩
set_option maxRecDepth 100000 in
theorem e48 : compFn prog sig 48 1 [[1], [2]] = some f48 := by kernel_rfl
noncomputable def topo_Whole (t_0 : api_Topo) : Option (Bool) :=
  (topo_Hops t_0 0).bind fun r1 =>
  (slices_Contains_int_int r1 (-1)).bind fun r3 =>
  some (!r3)
theorem topo_Whole_ok {t_0 : api_Topo} {z : Bool} (hp : topo_Whole t_0 = some z) : Good prog 48 [.agg (c_api_Topo t_0)] [.c (.d (.lit (.bool z)))] [] := by
  unfold topo_Whole at hp
  refine fn_good mixed e48 (fnS (m := [false]) (s := ⟨[(0, .agg [.d (.lit (.int .i64 t_0.Switches)), .d (slD 6 c_api_Link t_0.Links), .d (slD 2 c_api_Host t_0.Hosts)])], [], 0, []⟩) (len := 0) (c := k48) rfl (Sub.of_eq rfl) rfl rfl ?_)
  refine w_seq ?_
  refine w_region ?_
  refine o2 rfl ?_
  refine o1 rfl ?_
  refine o_end (e' := [(1, .c (.op 0 0))]) rfl rfl ?_
  refine after_n ?_
  refine w_seq ?_
  obtain ⟨r1, h2, hp⟩ := bnd hp
  obtain ⟨r3, h4, hp⟩ := bnd hp
  refine w_region ?_
  refine o1 rfl ?_
  refine oc (rs := [.c (.d (slD 1 cI_i64 r1))]) (outs := []) rfl (topo_Hops_ok h2) rfl ?_
  refine oc (rs := [.c (.d (.lit (.bool r3)))]) (outs := []) rfl (slices_Contains_int_int_ok h4) rfl ?_
  refine o1 (v := .c (.d (.lit (.bool (!r3))))) rfl ?_
  refine o1 rfl ?_
  refine o_end (e' := [(2, .c (.d (.lit (.bool (!r3)))))]) rfl rfl ?_
  refine after_n ?_
  refine w_ret ?_
  obtain rfl := Option.some.inj hp
  exact leave_at rfl rfl (pr_c p_d pr_nil) pc_nil rfl rfl

/- turnout/turnoutlaw17.awake -/
def k36 : CC :=
  (.seq
  (.region [
    ⟨some 0, .mv, [(.const (.bool false))], none⟩] [])
  (.seq
  (.region [
    ⟨some 6, (.build [(.int .i64 0), (.int .i64 0), (.int .i64 0), (.int .i64 0), (.int .i64 0), (.int .i64 0)] [(0, 1), (1, 1), (2, 1), (3, 1), (4, 1), (5, 1)]), [(.const (.int .i64 0)), (.const (.int .i64 0)), (.const (.int .i64 1)), (.const (.int .i64 1)), (.const (.int .i64 1)), (.const (.int .i64 4))], none⟩,
    ⟨some 7, (.buildSlice 6 1 [(.int .i64 0), (.int .i64 0), (.int .i64 0), (.int .i64 0), (.int .i64 0), (.int .i64 0)] [0]), [(.tmp 6)], none⟩,
    ⟨some 8, (.build [(.int .i64 0), (.int .i64 0)] [(0, 1), (1, 1)]), [(.const (.int .i64 0)), (.const (.int .i64 2))], none⟩,
    ⟨some 9, (.buildSlice 2 1 [(.int .i64 0), (.int .i64 0)] [0]), [(.tmp 8)], none⟩,
    ⟨some 10, (.build [(.int .i64 0), (.slice none 0 0), (.slice none 0 0)] [(0, 1), (1, 1), (2, 1)]), [(.const (.int .i64 2)), (.tmp 7), (.tmp 9)], none⟩,
    ⟨some 1, (.alloc [(.int .i64 0), (.slice none 0 0), (.slice none 0 0)]), [], none⟩,
    ⟨none, (.store 3), [(.tmp 1), (.tmp 10)], none⟩] [1])
  (.seq
  (.region [
    ⟨some 12, (.load true 3), [(.tmp 1)], none⟩,
    ⟨some 13, (.call true []), [(.func 37), (.tmp 12), (.const (.int .i64 0)), (.const (.int .i64 0))], none⟩,
    ⟨some 11, .mv, [(.tmp 13)], none⟩,
    ⟨some 14, (.extract 0), [(.tmp 11)], none⟩,
    ⟨some 15, (.extract 1), [(.tmp 11)], none⟩,
    ⟨some 16, (.extract 2), [(.tmp 11)], none⟩,
    ⟨some 17, (.extract 3), [(.tmp 11)], none⟩,
    ⟨some 2, .mv, [(.tmp 14)], none⟩,
    ⟨some 3, .mv, [(.tmp 15)], none⟩,
    ⟨some 4, .mv, [(.tmp 16)], none⟩,
    ⟨some 5, .mv, [(.tmp 17)], none⟩] [1, 2, 3, 4, 5])
  (.seq
  (.region [
    ⟨some 18, (.load true 3), [(.tmp 1)], none⟩,
    ⟨some 19, (.call true []), [(.func 40), (.tmp 18)], none⟩,
    ⟨some 20, .mv, [(.tmp 19)], none⟩,
    ⟨some 21, .mv, [(.tmp 2)], (some (20, true))⟩,
    ⟨some 22, (.bin .eql), [(.tmp 21), (.const (.int .i64 1))], (some (20, true))⟩,
    ⟨some 23, .pick, [(.tmp 20), (.tmp 22), (.const (.bool false))], none⟩,
    ⟨some 24, .mv, [(.tmp 23)], none⟩,
    ⟨some 25, .mv, [(.tmp 3)], (some (24, true))⟩,
    ⟨some 26, (.bin .eql), [(.tmp 25), (.const (.int .i64 1))], (some (24, true))⟩,
    ⟨some 27, .pick, [(.tmp 24), (.tmp 26), (.const (.bool false))], none⟩,
    ⟨some 28, .mv, [(.tmp 27)], none⟩,
    ⟨some 29, .mv, [(.tmp 4)], (some (28, true))⟩,
    ⟨some 30, (.bin .eql), [(.tmp 29), (.const (.int .i64 0))], (some (28, true))⟩,
    ⟨some 31, .pick, [(.tmp 28), (.tmp 30), (.const (.bool false))], none⟩,
    ⟨some 32, .mv, [(.tmp 31)], none⟩,
    ⟨some 33, .mv, [(.tmp 5)], (some (32, true))⟩,
    ⟨some 34, .pick, [(.tmp 32), (.tmp 33), (.const (.bool false))], none⟩,
    ⟨some 35, .mv, [(.tmp 34)], none⟩,
    ⟨some 36, (.load true 3), [(.tmp 1)], (some (35, true))⟩,
    ⟨some 37, (.call true []), [(.func 38), (.tmp 36), (.const (.int .i64 0)), (.const (.int .i64 2))], (some (35, true))⟩,
    ⟨some 38, (.bin .eql), [(.tmp 37), (.const (.int .i64 0))], (some (35, true))⟩,
    ⟨some 39, .pick, [(.tmp 35), (.tmp 38), (.const (.bool false))], none⟩,
    ⟨some 40, .mv, [(.tmp 39)], none⟩,
    ⟨some 41, (.load true 3), [(.tmp 1)], (some (40, true))⟩,
    ⟨some 42, (.call true []), [(.func 38), (.tmp 41), (.const (.int .i64 1)), (.const (.int .i64 1))], (some (40, true))⟩,
    ⟨some 43, (.bin .eql), [(.tmp 42), (.const (.int .i64 (-1)))], (some (40, true))⟩,
    ⟨some 44, .pick, [(.tmp 40), (.tmp 43), (.const (.bool false))], none⟩,
    ⟨some 45, .mv, [(.tmp 44)], none⟩,
    ⟨some 46, (.load true 3), [(.tmp 1)], (some (45, true))⟩,
    ⟨some 47, (.call true []), [(.func 48), (.tmp 46)], (some (45, true))⟩,
    ⟨some 48, .pick, [(.tmp 45), (.tmp 47), (.const (.bool false))], none⟩,
    ⟨some 0, .mv, [(.tmp 48)], none⟩] [0])
  .ret))))
def f36 : Ev.Fn := ⟨0, 49, [.tmp 0], k36⟩
set_option maxRecDepth 100000 in
theorem e36 : compFn prog sig 36 0 [[], [1], [1, 2, 3, 4, 5], [0]] = some f36 := by kernel_rfl
noncomputable def law17_awake : Option (Bool) :=
  (topo_Peer (⟨2, (Sl.mk [(⟨0, 0, 1, 1, 1, 4⟩ : api_Link)]), (Sl.mk [(⟨0, 2⟩ : api_Host)])⟩ : api_Topo) 0 0).bind fun (r1, r2, r3, r4) =>
  (topo_Right (⟨2, (Sl.mk [(⟨0, 0, 1, 1, 1, 4⟩ : api_Link)]), (Sl.mk [(⟨0, 2⟩ : api_Host)])⟩ : api_Topo)).bind fun r6 =>
  (bif r6 then (bif (r1 == 1) then (bif (r2 == 1) then (bif (r3 == 0) then (bif r4 then ((topo_HostAt (⟨2, (Sl.mk [(⟨0, 0, 1, 1, 1, 4⟩ : api_Link)]), (Sl.mk [(⟨0, 2⟩ : api_Host)])⟩ : api_Topo) 0 2).bind fun r8 =>
  bif (r8 == 0) then ((topo_HostAt (⟨2, (Sl.mk [(⟨0, 0, 1, 1, 1, 4⟩ : api_Link)]), (Sl.mk [(⟨0, 2⟩ : api_Host)])⟩ : api_Topo) 1 1).bind fun r10 =>
  bif (r10 == (-1)) then ((topo_Whole (⟨2, (Sl.mk [(⟨0, 0, 1, 1, 1, 4⟩ : api_Link)]), (Sl.mk [(⟨0, 2⟩ : api_Host)])⟩ : api_Topo)).bind fun r12 =>
  some r12) else (some false)) else (some false)) else (some false)) else (some false)) else (some false)) else (some false)) else (some false)).bind fun b14 =>
  some b14
theorem law17_awake_ok {z : Bool} (hp : law17_awake = some z) : Good prog 36 [] [.c (.d (.lit (.bool z)))] [] := by
  unfold law17_awake at hp
  refine fn_good mixed e36 (fnS (m := [false]) (s := ⟨[], [], 0, []⟩) (len := 0) (c := k36) rfl (Sub.of_eq rfl) rfl rfl ?_)
  refine w_seq ?_
  refine w_region ?_
  refine o1 rfl ?_
  refine o_end (e' := []) rfl rfl ?_
  refine after_n ?_
  refine w_seq ?_
  refine w_region ?_
  refine o1 rfl ?_
  refine o2 rfl ?_
  refine o1 rfl ?_
  refine o2 rfl ?_
  refine o1 rfl ?_
  refine o2 rfl ?_
  refine o0 rfl ?_
  refine o_end (e' := [(1, .c (.op 2 0))]) rfl rfl ?_
  refine after_n ?_
  refine w_seq ?_
  obtain ⟨⟨r1, r2, r3, r4⟩, h5, hp⟩ := bnd hp
  refine w_region ?_
  refine o1 rfl ?_
  refine oc' (rs := [.c (.d (.lit (.int .i64 r1))), .c (.d (.lit (.int .i64 r2))), .c (.d (.lit (.int .i64 r3))), .c (.d (.lit (.bool r4)))]) (outs := []) (call_at rfl rfl (ea_agg (vs_cons v_d (vs_cons rfl (vs_cons rfl vs_nil))) rfl (ea_c rfl rfl (ea_c rfl rfl ea_nil))) wh_nil rfl rfl) (topo_Peer_ok h5) ?_
  iterate 9 refine o1 rfl ?_
  refine o_end (e' := [(1, .c (.op 2 0)), (2, .c (.d (.lit (.int .i64 r1)))), (3, .c (.d (.lit (.int .i64 r2)))), (4, .c (.d (.lit (.int .i64 r3)))), (5, .c (.d (.lit (.bool r4))))]) rfl rfl ?_
  refine after_n ?_
  refine w_seq ?_
  obtain ⟨r6, h7, hp⟩ := bnd hp
  obtain ⟨b14, h15, hp⟩ := bnd hp
  refine w_join (J := fun s => Sub s ⟨[(0, .c (.d (.lit (.bool b14))))], [], 0, []⟩) ?_ ?_
  · refine w_region ?_
    refine o1 rfl ?_
    refine oc' (rs := [.c (.d (.lit (.bool r6)))]) (outs := []) (call_at rfl rfl (ea_agg (vs_cons v_d (vs_cons rfl (vs_cons rfl vs_nil))) rfl ea_nil) wh_nil rfl rfl) (topo_Right_ok h7) ?_
    refine o1 rfl ?_
    cases hb16 : (r6 : Bool)
    · have h15 := cnd_f hb16 h15
      refine onot rfl (by first | rfl | exact hb16) ?_
      refine onot rfl (by first | rfl | exact hb16) ?_
      refine o1 (pk_f (by first | rfl | exact hb16)) ?_
      refine o1 rfl ?_
      iterate 2 refine onot rfl rfl ?_
      iterate 2 refine o1 rfl ?_
      iterate 2 refine onot rfl rfl ?_
      iterate 2 refine o1 rfl ?_
      refine onot rfl rfl ?_
      iterate 2 refine o1 rfl ?_
      iterate 3 refine onot rfl rfl ?_
      iterate 2 refine o1 rfl ?_
      iterate 3 refine onot rfl rfl ?_
      iterate 2 refine o1 rfl ?_
      iterate 2 refine onot rfl rfl ?_
      iterate 2 refine o1 rfl ?_
      cases h15
      exact o_join (sub_ren [] [0] (by decide) rfl .nil (Nat.le_of_ble_eq_true rfl))
    · have h15 := cnd_t hb16 h15
      refine og rfl (by first | rfl | exact hb16) rfl ?_
      refine og (v := .c (.d (.lit (.bool (r1 == 1))))) rfl (by first | rfl | exact hb16) rfl ?_
      refine o1 (pk_t (by first | rfl | exact hb16)) ?_
      refine o1 rfl ?_
      cases hb17 : ((r1 == 1) : Bool)
      · have h15 := cnd_f hb17 h15
        refine onot rfl (by first | rfl | exact hb17) ?_
        refine onot rfl (by first | rfl | exact hb17) ?_
        refine o1 (pk_f (by first | rfl | exact hb17)) ?_
        refine o1 rfl ?_
        iterate 2 refine onot rfl rfl ?_
        iterate 2 refine o1 rfl ?_
        refine onot rfl rfl ?_
        iterate 2 refine o1 rfl ?_
        iterate 3 refine onot rfl rfl ?_
        iterate 2 refine o1 rfl ?_
        iterate 3 refine onot rfl rfl ?_
        iterate 2 refine o1 rfl ?_
        iterate 2 refine onot rfl rfl ?_
        iterate 2 refine o1 rfl ?_
        cases h15
        exact o_join (sub_ren [] [0] (by decide) rfl .nil (Nat.le_of_ble_eq_true rfl))
      · have h15 := cnd_t hb17 h15
        refine og rfl (by first | rfl | exact hb17) rfl ?_
        refine og (v := .c (.d (.lit (.bool (r2 == 1))))) rfl (by first | rfl | exact hb17) rfl ?_
        refine o1 (pk_t (by first | rfl | exact hb17)) ?_
        refine o1 rfl ?_
        cases hb18 : ((r2 == 1) : Bool)
        · have h15 := cnd_f hb18 h15
          refine onot rfl (by first | rfl | exact hb18) ?_
          refine onot rfl (by first | rfl | exact hb18) ?_
          refine o1 (pk_f (by first | rfl | exact hb18)) ?_
          refine o1 rfl ?_
          refine onot rfl rfl ?_
          iterate 2 refine o1 rfl ?_
          iterate 3 refine onot rfl rfl ?_
          iterate 2 refine o1 rfl ?_
          iterate 3 refine onot rfl rfl ?_
          iterate 2 refine o1 rfl ?_
          iterate 2 refine onot rfl rfl ?_
          iterate 2 refine o1 rfl ?_
          cases h15
          exact o_join (sub_ren [] [0] (by decide) rfl .nil (Nat.le_of_ble_eq_true rfl))
        · have h15 := cnd_t hb18 h15
          refine og rfl (by first | rfl | exact hb18) rfl ?_
          refine og (v := .c (.d (.lit (.bool (r3 == 0))))) rfl (by first | rfl | exact hb18) rfl ?_
          refine o1 (pk_t (by first | rfl | exact hb18)) ?_
          refine o1 rfl ?_
          cases hb19 : ((r3 == 0) : Bool)
          · have h15 := cnd_f hb19 h15
            refine onot rfl (by first | rfl | exact hb19) ?_
            refine o1 (pk_f (by first | rfl | exact hb19)) ?_
            refine o1 rfl ?_
            iterate 3 refine onot rfl rfl ?_
            iterate 2 refine o1 rfl ?_
            iterate 3 refine onot rfl rfl ?_
            iterate 2 refine o1 rfl ?_
            iterate 2 refine onot rfl rfl ?_
            iterate 2 refine o1 rfl ?_
            cases h15
            exact o_join (sub_ren [] [0] (by decide) rfl .nil (Nat.le_of_ble_eq_true rfl))
          · have h15 := cnd_t hb19 h15
            refine og rfl (by first | rfl | exact hb19) rfl ?_
            refine o1 (pk_t (by first | rfl | exact hb19)) ?_
            refine o1 rfl ?_
            cases hb20 : (r4 : Bool)
            · have h15 := cnd_f hb20 h15
              refine onot rfl (by first | rfl | exact hb20) ?_
              refine onot rfl (by first | rfl | exact hb20) ?_
              refine onot rfl (by first | rfl | exact hb20) ?_
              refine o1 (pk_f (by first | rfl | exact hb20)) ?_
              refine o1 rfl ?_
              iterate 3 refine onot rfl rfl ?_
              iterate 2 refine o1 rfl ?_
              iterate 2 refine onot rfl rfl ?_
              iterate 2 refine o1 rfl ?_
              cases h15
              exact o_join (sub_ren [] [0] (by decide) rfl .nil (Nat.le_of_ble_eq_true rfl))
            · have h15 := cnd_t hb20 h15
              obtain ⟨r8, h9, h15⟩ := bnd h15
              refine og rfl (by first | rfl | exact hb20) rfl ?_
              refine ocg' (rs := [.c (.d (.lit (.int .i64 r8)))]) (outs := []) rfl (by first | rfl | exact hb20) (call_at rfl rfl (ea_agg (vs_cons v_d (vs_cons rfl (vs_cons rfl vs_nil))) rfl (ea_c rfl rfl (ea_c rfl rfl ea_nil))) wh_nil rfl rfl) (topo_HostAt_ok h9) ?_
              refine og (v := .c (.d (.lit (.bool (r8 == 0))))) rfl (by first | rfl | exact hb20) rfl ?_
              refine o1 (pk_t (by first | rfl | exact hb20)) ?_
              refine o1 rfl ?_
              cases hb21 : ((r8 == 0) : Bool)
              · have h15 := cnd_f hb21 h15
                refine onot rfl (by first | rfl | exact hb21) ?_
                refine onot rfl (by first | rfl | exact hb21) ?_
                refine onot rfl (by first | rfl | exact hb21) ?_
                refine o1 (pk_f (by first | rfl | exact hb21)) ?_
                refine o1 rfl ?_
                iterate 2 refine onot rfl rfl ?_
                iterate 2 refine o1 rfl ?_
                cases h15
                exact o_join (sub_ren [] [0] (by decide) rfl .nil (Nat.le_of_ble_eq_true rfl))
              · have h15 := cnd_t hb21 h15
                obtain ⟨r10, h11, h15⟩ := bnd h15
                refine og rfl (by first | rfl | exact hb21) rfl ?_
                refine ocg' (rs := [.c (.d (.lit (.int .i64 r10)))]) (outs := []) rfl (by first | rfl | exact hb21) (call_at rfl rfl (ea_agg (vs_cons v_d (vs_cons rfl (vs_cons rfl vs_nil))) rfl (ea_c rfl rfl (ea_c rfl rfl ea_nil))) wh_nil rfl rfl) (topo_HostAt_ok h11) ?_
                refine og (v := .c (.d (.lit (.bool (r10 == (-1)))))) rfl (by first | rfl | exact hb21) rfl ?_
                refine o1 (pk_t (by first | rfl | exact hb21)) ?_
                refine o1 rfl ?_
                cases hb22 : ((r10 == (-1)) : Bool)
                · have h15 := cnd_f hb22 h15
                  refine onot rfl (by first | rfl | exact hb22) ?_
                  refine onot rfl (by first | rfl | exact hb22) ?_
                  refine o1 (pk_f (by first | rfl | exact hb22)) ?_
                  refine o1 rfl ?_
                  cases h15
                  exact o_join (sub_ren [] [0] (by decide) rfl .nil (Nat.le_of_ble_eq_true rfl))
                · have h15 := cnd_t hb22 h15
                  obtain ⟨r12, h13, h15⟩ := bnd h15
                  refine og rfl (by first | rfl | exact hb22) rfl ?_
                  refine ocg' (rs := [.c (.d (.lit (.bool r12)))]) (outs := []) rfl (by first | rfl | exact hb22) (call_at rfl rfl (ea_agg (vs_cons v_d (vs_cons rfl (vs_cons rfl vs_nil))) rfl ea_nil) wh_nil rfl rfl) (topo_Whole_ok h13) ?_
                  refine o1 (pk_t (by first | rfl | exact hb22)) ?_
                  refine o1 rfl ?_
                  cases h15
                  exact o_join (sub_ren [] [0] (by decide) rfl .nil (Nat.le_of_ble_eq_true rfl))
  · intro s hs23
    refine after_n ?_
    refine W.sub hs23 ?_
    refine w_ret ?_
    obtain rfl := Option.some.inj hp
    exact leave_at rfl rfl (pr_c p_d pr_nil) pc_nil rfl rfl

/- turnout/turnoutlaw17.TopoPeers -/
def k8 : CC :=
  (.seq
  (.region [
    ⟨some 3, .box, [(.tmp 0)], none⟩,
    ⟨some 6, .mv, [(.const (.bool false))], none⟩] [1, 2, 3])
  (.seq
  (.seq
  (.region [
    ⟨some 15, (.load true 3), [(.tmp 3)], none⟩,
    ⟨some 16, (.call true []), [(.func 35), (.tmp 15)], none⟩,
    ⟨some 17, (.un .not), [(.tmp 16)], none⟩,
    ⟨some 18, .mv, [(.tmp 17)], none⟩,
    ⟨some 19, (.load true 3), [(.tmp 3)], (some (18, false))⟩,
    ⟨some 20, (.call true []), [(.func 29), (.tmp 19)], (some (18, false))⟩,
    ⟨some 21, (.un .not), [(.tmp 20)], (some (18, false))⟩,
    ⟨some 22, .pick, [(.tmp 18), (.const (.bool true)), (.tmp 21)], none⟩] [1, 2, 3, 22])
  (.cond (.tmp 22)
    (.seq
    (.region [
      ⟨some 23, (.call true []), [(.func 36)], none⟩,
      ⟨some 6, .mv, [(.tmp 23)], none⟩] [6])
    .ret)
    .skip))
  (.seq
  (.region [
    ⟨some 25, (.load true 3), [(.tmp 3)], none⟩,
    ⟨some 26, .mv, [(.tmp 1)], none⟩,
    ⟨some 27, .mv, [(.tmp 2)], none⟩,
    ⟨some 28, (.call true []), [(.func 37), (.tmp 25), (.tmp 26), (.tmp 27)], none⟩,
    ⟨some 24, .mv, [(.tmp 28)], none⟩,
    ⟨some 29, (.extract 0), [(.tmp 24)], none⟩,
    ⟨some 30, (.extract 1), [(.tmp 24)], none⟩,
    ⟨some 31, (.extract 2), [(.tmp 24)], none⟩,
    ⟨some 32, (.extract 3), [(.tmp 24)], none⟩,
    ⟨some 7, .mv, [(.tmp 29)], none⟩,
    ⟨some 8, .mv, [(.tmp 30)], none⟩,
    ⟨some 9, .mv, [(.tmp 31)], none⟩,
    ⟨some 10, .mv, [(.tmp 32)], none⟩] [1, 2, 3, 7, 8, 9, 10])
  (.seq
  (.seq
  (.region [
    ⟨some 33, .mv, [(.tmp 10)], none⟩,
    ⟨some 34, (.un .not), [(.tmp 33)], none⟩] [1, 2, 3, 7, 8, 9, 34])
  (.cond (.tmp 34)
    (.seq
    (.region [
      ⟨some 35, .mv, [(.tmp 7)], none⟩,
      ⟨some 36, (.bin .eql), [(.tmp 35), (.const (.int .i64 0))], none⟩,
      ⟨some 37, .mv, [(.tmp 36)], none⟩,
      ⟨some 38, .mv, [(.tmp 8)], (some (37, true))⟩,
      ⟨some 39, (.bin .eql), [(.tmp 38), (.const (.int .i64 0))], (some (37, true))⟩,
      ⟨some 40, .pick, [(.tmp 37), (.tmp 39), (.const (.bool false))], none⟩,
      ⟨some 41, .mv, [(.tmp 40)], none⟩,
      ⟨some 42, .mv, [(.tmp 9)], (some (41, true))⟩,
      ⟨some 43, (.bin .eql), [(.tmp 42), (.const (.int .i64 0))], (some (41, true))⟩,
      ⟨some 44, .pick, [(.tmp 41), (.tmp 43), (.const (.bool false))], none⟩,
      ⟨some 45, .mv, [(.tmp 44)], none⟩,
      ⟨some 46, (.call true []), [(.func 36)], (some (45, true))⟩,
      ⟨some 47, .pick, [(.tmp 45), (.tmp 46), (.const (.bool false))], none⟩,
      ⟨some 6, .mv, [(.tmp 47)], none⟩] [6])
    .ret)
    .skip))
  (.seq
  (.region [
    ⟨some 49, (.load true 3), [(.tmp 3)], none⟩,
    ⟨some 50, .mv, [(.tmp 7)], none⟩,
    ⟨some 51, .mv, [(.tmp 8)], none⟩,
    ⟨some 52, (.call true []), [(.func 37), (.tmp 49), (.tmp 50), (.tmp 51)], none⟩,
    ⟨some 48, .mv, [(.tmp 52)], none⟩,
    ⟨some 53, (.extract 0), [(.tmp 48)], none⟩,
    ⟨some 54, (.extract 1), [(.tmp 48)], none⟩,
    ⟨some 55, (.extract 2), [(.tmp 48)], none⟩,
    ⟨some 56, (.extract 3), [(.tmp 48)], none⟩,
    ⟨some 11, .mv, [(.tmp 53)], none⟩,
    ⟨some 12, .mv, [(.tmp 54)], none⟩,
    ⟨some 13, .mv, [(.tmp 55)], none⟩,
    ⟨some 14, .mv, [(.tmp 56)], none⟩] [1, 2, 3, 7, 9, 11, 12, 13, 14])
  (.seq
  (.region [
    ⟨some 57, .mv, [(.tmp 14)], none⟩,
    ⟨some 58, .mv, [(.tmp 57)], none⟩,
    ⟨some 59, .mv, [(.tmp 11)], (some (58, true))⟩,
    ⟨some 60, .mv, [(.tmp 1)], (some (58, true))⟩,
    ⟨some 61, (.bin .eql), [(.tmp 59), (.tmp 60)], (some (58, true))⟩,
    ⟨some 62, .pick, [(.tmp 58), (.tmp 61), (.const (.bool false))], none⟩,
    ⟨some 63, .mv, [(.tmp 62)], none⟩,
    ⟨some 64, .mv, [(.tmp 12)], (some (63, true))⟩,
    ⟨some 65, .mv, [(.tmp 2)], (some (63, true))⟩,
    ⟨some 66, (.bin .eql), [(.tmp 64), (.tmp 65)], (some (63, true))⟩,
    ⟨some 67, .pick, [(.tmp 63), (.tmp 66), (.const (.bool false))], none⟩,
    ⟨some 68, .mv, [(.tmp 67)], none⟩,
    ⟨some 69, .mv, [(.tmp 13)], (some (68, true))⟩,
    ⟨some 70, .mv, [(.tmp 9)], (some (68, true))⟩,
    ⟨some 71, (.bin .eql), [(.tmp 69), (.tmp 70)], (some (68, true))⟩,
    ⟨some 72, .pick, [(.tmp 68), (.tmp 71), (.const (.bool false))], none⟩,
    ⟨some 73, .mv, [(.tmp 72)], none⟩,
    ⟨some 74, .mv, [(.tmp 7)], (some (73, true))⟩,
    ⟨some 75, .mv, [(.tmp 1)], (some (73, true))⟩,
    ⟨some 76, (.bin .neq), [(.tmp 74), (.tmp 75)], (some (73, true))⟩,
    ⟨some 77, .pick, [(.tmp 73), (.tmp 76), (.const (.bool false))], none⟩,
    ⟨some 78, .mv, [(.tmp 77)], none⟩,
    ⟨some 79, (.load true 3), [(.tmp 3)], (some (78, true))⟩,
    ⟨some 80, .mv, [(.tmp 1)], (some (78, true))⟩,
    ⟨some 81, .mv, [(.tmp 2)], (some (78, true))⟩,
    ⟨some 82, (.call true []), [(.func 38), (.tmp 79), (.tmp 80), (.tmp 81)], (some (78, true))⟩,
    ⟨some 83, (.bin .eql), [(.tmp 82), (.const (.int .i64 (-1)))], (some (78, true))⟩,
    ⟨some 84, .pick, [(.tmp 78), (.tmp 83), (.const (.bool false))], none⟩,
    ⟨some 85, .mv, [(.tmp 84)], none⟩,
    ⟨some 86, (.call true []), [(.func 36)], (some (85, true))⟩,
    ⟨some 87, .pick, [(.tmp 85), (.tmp 86), (.const (.bool false))], none⟩,
    ⟨some 6, .mv, [(.tmp 87)], none⟩] [6])
  .ret))))))
def f8 : Ev.Fn := ⟨3, 88, [.tmp 6], k8⟩
set_option maxRecDepth 100000 in
theorem e8 : compFn prog sig 8 3 [[1, 2, 3], [1, 2, 3, 22], [6], [1, 2, 3, 7, 8, 9, 10], [1, 2, 3, 7, 8, 9, 34], [6], [1, 2, 3, 7, 9, 11, 12, 13, 14], [6]] = some f8 := by kernel_rfl
noncomputable def law17_TopoPeers (t_0 : api_Topo) (sw_1 : Int) (port_2 : Int) : Option (Bool) :=
  (law17_small t_0).bind fun r1 =>
  (bif (!r1) then (some true) else ((ref17_Right t_0).bind fun r3 =>
  some (!r3))).bind fun b5 =>
  bif b5 then ((law17_awake).bind fun r10 =>
  some r10) else
  ((topo_Peer t_0 sw_1 port_2).bind fun (r12, r13, r14, r15) =>
  bif (!r15) then ((bif (r12 == 0) then (bif (r13 == 0) then (bif (r14 == 0) then ((law17_awake).bind fun r18 =>
  some r18) else (some false)) else (some false)) else (some false)).bind fun b20 =>
  some b20) else
  ((topo_Peer t_0 r12 r13).bind fun (r26, r27, r28, r29) =>
  (bif r29 then (bif (r26 == sw_1) then (bif (r27 == port_2) then (bif (r28 == r14) then (bif (r12 != sw_1) then ((topo_HostAt t_0 sw_1 port_2).bind fun r31 =>
  bif (r31 == (-1)) then ((law17_awake).bind fun r33 =>
  some r33) else (some false)) else (some false)) else (some false)) else (some false)) else (some false)) else (some false)).bind fun b35 =>
  some b35))
theorem law17_TopoPeers_ok {t_0 : api_Topo} {sw_1 : Int} {port_2 : Int} {z : Bool} (hp : law17_TopoPeers t_0 sw_1 port_2 = some z) : Good prog 8 [.agg (c_api_Topo t_0), .d (.lit (.int .i64 sw_1)), .d (.lit (.int .i64 port_2))] [.c (.d (.lit (.bool z)))] [] := by
  unfold law17_TopoPeers at hp
  refine fn_good mixed e8 (fnS (m := [false]) (s := ⟨[(0, .agg [.d (.lit (.int .i64 t_0.Switches)), .d (slD 6 c_api_Link t_0.Links), .d (slD 2 c_api_Host t_0.Hosts)]), (1, .c (.d (.lit (.int .i64 sw_1)))), (2, .c (.d (.lit (.int .i64 port_2))))], [], 0, []⟩) (len := 0) (c := k8) rfl (Sub.of_eq rfl) rfl rfl ?_)
  refine w_seq ?_
  refine w_region ?_
  refine o2 rfl ?_
  refine o1 rfl ?_
  refine o_end (e' := [(1, .c (.d (.lit (.int .i64 sw_1)))), (2, .c (.d (.lit (.int .i64 port_2)))), (3, .c (.op 0 0))]) rfl rfl ?_
  refine after_n ?_
  refine w_seq ?_
  refine w_seq ?_
  obtain ⟨r1, h2, hp⟩ := bnd hp
  obtain ⟨b5, h6, hp⟩ := bnd hp
  refine w_join (J := fun s => Sub s ⟨[(1, .c (.d (.lit (.int .i64 sw_1)))), (2, .c (.d (.lit (.int .i64 port_2)))), (3, .c (.op 0 0)), (22, .c (.d (.lit (.bool b5))))], [(0, some (.box [.d (.lit (.int .i64 t_0.Switches)), .d (slD 6 c_api_Link t_0.Links), .d (slD 2 c_api_Host t_0.Hosts)]))], 1, []⟩) ?_ ?_
  · refine w_region ?_
    refine o1 rfl ?_
    refine oc (rs := [.c (.d (.lit (.bool r1)))]) (outs := []) rfl (law17_small_ok h2) rfl ?_
    refine o1 (v := .c (.d (.lit (.bool (!r1))))) rfl ?_
    refine o1 rfl ?_
    cases hb7 : ((!r1) : Bool)
    · have h6 := cnd_f hb7 h6
      obtain ⟨r3, h4, h6⟩ := bnd h6
      refine og rfl (by first | rfl | exact hb7) rfl ?_
      refine ocg (rs := [.c (.d (.lit (.bool r3)))]) (outs := []) rfl (by first | rfl | exact hb7) rfl (ref17_Right_ok h4) rfl ?_
      refine og (v := .c (.d (.lit (.bool (!r3))))) rfl (by first | rfl | exact hb7) rfl ?_
      refine o1 (pk_f (by first | rfl | exact hb7)) ?_
      cases h6
      exact o_join (sub_ren [0] [1, 2, 3, 22] (by decide) rfl (.cons .nil) (Nat.le_of_ble_eq_true rfl))
    · have h6 := cnd_t hb7 h6
      refine onot rfl (by first | rfl | exact hb7) ?_
      refine onot rfl (by first | rfl | exact hb7) ?_
      refine onot rfl (by first | rfl | exact hb7) ?_
      refine o1 (pk_t (by first | rfl | exact hb7)) ?_
      cases h6
      exact o_join (sub_ren [0] [1, 2, 3, 22] (by decide) rfl (.cons .nil) (Nat.le_of_ble_eq_true rfl))
  · intro s hs8
    refine after_n ?_
    refine W.sub hs8 ?_
    refine w_cond (t := b5) rfl (fun hb9 => ?_) (fun hb9 => ?_)
    · have hp := cnd_t hb9 hp
      refine w_seq ?_
      obtain ⟨r10, h11, hp⟩ := bnd hp
      refine w_region ?_
      refine oc (rs := [.c (.d (.lit (.bool r10)))]) (outs := []) rfl (law17_awake_ok h11) rfl ?_
      refine o1 rfl ?_
      refine o_end (e' := [(6, .c (.d (.lit (.bool r10))))]) rfl rfl ?_
      refine after_n ?_
      refine w_ret ?_
      refine after_r ?_
      obtain rfl := Option.some.inj hp
      exact leave_at rfl rfl (pr_c p_d pr_nil) pc_nil rfl rfl
    · have hp := cnd_f hb9 hp
      refine w_skip ?_
      refine after_n ?_
      refine w_seq ?_
      obtain ⟨⟨r12, r13, r14, r15⟩, h16, hp⟩ := bnd hp
      refine w_region ?_
      iterate 3 refine o1 rfl ?_
      refine oc (rs := [.c (.d (.lit (.int .i64 r12))), .c (.d (.lit (.int .i64 r13))), .c (.d (.lit (.int .i64 r14))), .c (.d (.lit (.bool r15)))]) (outs := []) rfl (topo_Peer_ok h16) rfl ?_
      iterate 9 refine o1 rfl ?_
      refine o_end (e' := [(1, .c (.d (.lit (.int .i64 sw_1)))), (2, .c (.d (.lit (.int .i64 port_2)))), (3, .c (.op 0 0)), (7, .c (.d (.lit (.int .i64 r12)))), (8, .c (.d (.lit (.int .i64 r13)))), (9, .c (.d (.lit (.int .i64 r14)))), (10, .c (.d (.lit (.bool r15))))]) rfl rfl ?_
      refine after_n ?_
      refine w_seq ?_
      refine w_seq ?_
      refine w_region ?_
      refine o1 rfl ?_
      refine o1 (v := .c (.d (.lit (.bool (!r15))))) rfl ?_
      refine o_end (e' := [(1, .c (.d (.lit (.int .i64 sw_1)))), (2, .c (.d (.lit (.int .i64 port_2)))), (3, .c (.op 0 0)), (7, .c (.d (.lit (.int .i64 r12)))), (8, .c (.d (.lit (.int .i64 r13)))), (9, .c (.d (.lit (.int .i64 r14)))), (34, .c (.d (.lit (.bool (!r15)))))]) rfl rfl ?_
      refine after_n ?_
      refine w_cond (t := (!r15)) rfl (fun hb17 => ?_) (fun hb17 => ?_)
      · have hp := cnd_t hb17 hp
        refine w_seq ?_
        obtain ⟨b20, h21, hp⟩ := bnd hp
        refine w_join (J := fun s => Sub s ⟨[(6, .c (.d (.lit (.bool b20))))], [], 0, []⟩) ?_ ?_
        · refine w_region ?_
          refine o1 rfl ?_
          refine o1 (v := .c (.d (.lit (.bool (r12 == 0))))) rfl ?_
          refine o1 rfl ?_
          cases hb22 : ((r12 == 0) : Bool)
          · have h21 := cnd_f hb22 h21
            refine onot rfl (by first | rfl | exact hb22) ?_
            refine onot rfl (by first | rfl | exact hb22) ?_
            refine o1 (pk_f (by first | rfl | exact hb22)) ?_
            refine o1 rfl ?_
            iterate 2 refine onot rfl rfl ?_
            iterate 2 refine o1 rfl ?_
            refine onot rfl rfl ?_
            iterate 2 refine o1 rfl ?_
            cases h21
            exact o_join (sub_ren [] [6] (by decide) rfl .nil (Nat.le_of_ble_eq_true rfl))
          · have h21 := cnd_t hb22 h21
            refine og rfl (by first | rfl | exact hb22) rfl ?_
            refine og (v := .c (.d (.lit (.bool (r13 == 0))))) rfl (by first | rfl | exact hb22) rfl ?_
            refine o1 (pk_t (by first | rfl | exact hb22)) ?_
            refine o1 rfl ?_
            cases hb23 : ((r13 == 0) : Bool)
            · have h21 := cnd_f hb23 h21
              refine onot rfl (by first | rfl | exact hb23) ?_
              refine onot rfl (by first | rfl | exact hb23) ?_
              refine o1 (pk_f (by first | rfl | exact hb23)) ?_
              refine o1 rfl ?_
              refine onot rfl rfl ?_
              iterate 2 refine o1 rfl ?_
              cases h21
              exact o_join (sub_ren [] [6] (by decide) rfl .nil (Nat.le_of_ble_eq_true rfl))
            · have h21 := cnd_t hb23 h21
              refine og rfl (by first | rfl | exact hb23) rfl ?_
              refine og (v := .c (.d (.lit (.bool (r14 == 0))))) rfl (by first | rfl | exact hb23) rfl ?_
              refine o1 (pk_t (by first | rfl | exact hb23)) ?_
              refine o1 rfl ?_
              cases hb24 : ((r14 == 0) : Bool)
              · have h21 := cnd_f hb24 h21
                refine onot rfl (by first | rfl | exact hb24) ?_
                refine o1 (pk_f (by first | rfl | exact hb24)) ?_
                refine o1 rfl ?_
                cases h21
                exact o_join (sub_ren [] [6] (by decide) rfl .nil (Nat.le_of_ble_eq_true rfl))
              · have h21 := cnd_t hb24 h21
                obtain ⟨r18, h19, h21⟩ := bnd h21
                refine ocg (rs := [.c (.d (.lit (.bool r18)))]) (outs := []) rfl (by first | rfl | exact hb24) rfl (law17_awake_ok h19) rfl ?_
                refine o1 (pk_t (by first | rfl | exact hb24)) ?_
                refine o1 rfl ?_
                cases h21
                exact o_join (sub_ren [] [6] (by decide) rfl .nil (Nat.le_of_ble_eq_true rfl))
        · intro s hs25
          refine after_n ?_
          refine W.sub hs25 ?_
          refine w_ret ?_
          refine after_r ?_
          obtain rfl := Option.some.inj hp
          exact leave_at rfl rfl (pr_c p_d pr_nil) pc_nil rfl rfl
      · have hp := cnd_f hb17 hp
        refine w_skip ?_
        refine after_n ?_
        refine w_seq ?_
        obtain ⟨⟨r26, r27, r28, r29⟩, h30, hp⟩ := bnd hp
        refine w_region ?_
        iterate 3 refine o1 rfl ?_
        refine oc (rs := [.c (.d (.lit (.int .i64 r26))), .c (.d (.lit (.int .i64 r27))), .c (.d (.lit (.int .i64 r28))), .c (.d (.lit (.bool r29)))]) (outs := []) rfl (topo_Peer_ok h30) rfl ?_
        iterate 9 refine o1 rfl ?_
        refine o_end (e' := [(1, .c (.d (.lit (.int .i64 sw_1)))), (2, .c (.d (.lit (.int .i64 port_2)))), (3, .c (.op 0 0)), (7, .c (.d (.lit (.int .i64 r12)))), (9, .c (.d (.lit (.int .i64 r14)))), (11, .c (.d (.lit (.int .i64 r26)))), (12, .c (.d (.lit (.int .i64 r27)))), (13, .c (.d (.lit (.int .i64 r28)))), (14, .c (.d (.lit (.bool r29))))]) rfl rfl ?_
        refine after_n ?_
        refine w_seq ?_
        obtain ⟨b35, h36, hp⟩ := bnd hp
        refine w_join (J := fun s => Sub s ⟨[(6, .c (.d (.lit (.bool b35))))], [], 0, []⟩) ?_ ?_
        · refine w_region ?_
          iterate 2 refine o1 rfl ?_
          cases hb37 : (r29 : Bool)
          · have h36 := cnd_f hb37 h36
            refine onot rfl (by first | rfl | exact hb37) ?_
            refine onot rfl (by first | rfl | exact hb37) ?_
            refine onot rfl (by first | rfl | exact hb37) ?_
            refine o1 (pk_f (by first | rfl | exact hb37)) ?_
            refine o1 rfl ?_
            iterate 3 refine onot rfl rfl ?_
            iterate 2 refine o1 rfl ?_
            iterate 3 refine onot rfl rfl ?_
            iterate 2 refine o1 rfl ?_
            iterate 3 refine onot rfl rfl ?_
            iterate 2 refine o1 rfl ?_
            iterate 5 refine onot rfl rfl ?_
            iterate 2 refine o1 rfl ?_
            refine onot rfl rfl ?_
            iterate 2 refine o1 rfl ?_
            cases h36
            exact o_join (sub_ren [] [6] (by decide) rfl .nil (Nat.le_of_ble_eq_true rfl))
          · have h36 := cnd_t hb37 h36
            refine og rfl (by first | rfl | exact hb37) rfl ?_
            refine og rfl (by first | rfl | exact hb37) rfl ?_
            refine og (v := .c (.d (.lit (.bool (r26 == sw_1))))) rfl (by first | rfl | exact hb37) rfl ?_
            refine o1 (pk_t (by first | rfl | exact hb37)) ?_
            refine o1 rfl ?_
            cases hb38 : ((r26 == sw_1) : Bool)
            · have h36 := cnd_f hb38 h36
              refine onot rfl (by first | rfl | exact hb38) ?_
              refine onot rfl (by first | rfl | exact hb38) ?_
              refine onot rfl (by first | rfl | exact hb38) ?_
              refine o1 (pk_f (by first | rfl | exact hb38)) ?_
              refine o1 rfl ?_
              iterate 3 refine onot rfl rfl ?_
              iterate 2 refine o1 rfl ?_
              iterate 3 refine onot rfl rfl ?_
              iterate 2 refine o1 rfl ?_
              iterate 5 refine onot rfl rfl ?_
              iterate 2 refine o1 rfl ?_
              refine onot rfl rfl ?_
              iterate 2 refine o1 rfl ?_
              cases h36
              exact o_join (sub_ren [] [6] (by decide) rfl .nil (Nat.le_of_ble_eq_true rfl))
            · have h36 := cnd_t hb38 h36
              refine og rfl (by first | rfl | exact hb38) rfl ?_
              refine og rfl (by first | rfl | exact hb38) rfl ?_
              refine og (v := .c (.d (.lit (.bool (r27 == port_2))))) rfl (by first | rfl | exact hb38) rfl ?_
              refine o1 (pk_t (by first | rfl | exact hb38)) ?_
              refine o1 rfl ?_
              cases hb39 : ((r27 == port_2) : Bool)
              · have h36 := cnd_f hb39 h36
                refine onot rfl (by first | rfl | exact hb39) ?_
                refine onot rfl (by first | rfl | exact hb39) ?_
                refine onot rfl (by first | rfl | exact hb39) ?_
                refine o1 (pk_f (by first | rfl | exact hb39)) ?_
                refine o1 rfl ?_
                iterate 3 refine onot rfl rfl ?_
                iterate 2 refine o1 rfl ?_
                iterate 5 refine onot rfl rfl ?_
                iterate 2 refine o1 rfl ?_
                refine onot rfl rfl ?_
                iterate 2 refine o1 rfl ?_
                cases h36
                exact o_join (sub_ren [] [6] (by decide) rfl .nil (Nat.le_of_ble_eq_true rfl))
              · have h36 := cnd_t hb39 h36
                refine og rfl (by first | rfl | exact hb39) rfl ?_
                refine og rfl (by first | rfl | exact hb39) rfl ?_
                refine og (v := .c (.d (.lit (.bool (r28 == r14))))) rfl (by first | rfl | exact hb39) rfl ?_
                refine o1 (pk_t (by first | rfl | exact hb39)) ?_
                refine o1 rfl ?_
                cases hb40 : ((r28 == r14) : Bool)
                · have h36 := cnd_f hb40 h36
                  refine onot rfl (by first | rfl | exact hb40) ?_
                  refine onot rfl (by first | rfl | exact hb40) ?_
                  refine onot rfl (by first | rfl | exact hb40) ?_
                  refine o1 (pk_f (by first | rfl | exact hb40)) ?_
                  refine o1 rfl ?_
                  iterate 5 refine onot rfl rfl ?_
                  iterate 2 refine o1 rfl ?_
                  refine onot rfl rfl ?_
                  iterate 2 refine o1 rfl ?_
                  cases h36
                  exact o_join (sub_ren [] [6] (by decide) rfl .nil (Nat.le_of_ble_eq_true rfl))
                · have h36 := cnd_t hb40 h36
                  refine og rfl (by first | rfl | exact hb40) rfl ?_
                  refine og rfl (by first | rfl | exact hb40) rfl ?_
                  refine og (v := .c (.d (.lit (.bool (r12 != sw_1))))) rfl (by first | rfl | exact hb40) rfl ?_
                  refine o1 (pk_t (by first | rfl | exact hb40)) ?_
                  refine o1 rfl ?_
                  cases hb41 : ((r12 != sw_1) : Bool)
                  · have h36 := cnd_f hb41 h36
                    refine onot rfl (by first | rfl | exact hb41) ?_
                    refine onot rfl (by first | rfl | exact hb41) ?_
                    refine onot rfl (by first | rfl | exact hb41) ?_
                    refine onot rfl (by first | rfl | exact hb41) ?_
                    refine onot rfl (by first | rfl | exact hb41) ?_
                    refine o1 (pk_f (by first | rfl | exact hb41)) ?_
                    refine o1 rfl ?_
                    refine onot rfl rfl ?_
                    iterate 2 refine o1 rfl ?_
                    cases h36
                    exact o_join (sub_ren [] [6] (by decide) rfl .nil (Nat.le_of_ble_eq_true rfl))
                  · have h36 := cnd_t hb41 h36
                    obtain ⟨r31, h32, h36⟩ := bnd h36
                    refine og rfl (by first | rfl | exact hb41) rfl ?_
                    refine og rfl (by first | rfl | exact hb41) rfl ?_
                    refine og rfl (by first | rfl | exact hb41) rfl ?_
                    refine ocg (rs := [.c (.d (.lit (.int .i64 r31)))]) (outs := []) rfl (by first | rfl | exact hb41) rfl (topo_HostAt_ok h32) rfl ?_
                    refine og (v := .c (.d (.lit (.bool (r31 == (-1)))))) rfl (by first | rfl | exact hb41) rfl ?_
                    refine o1 (pk_t (by first | rfl | exact hb41)) ?_
                    refine o1 rfl ?_
                    cases hb42 : ((r31 == (-1)) : Bool)
                    · have h36 := cnd_f hb42 h36
                      refine onot rfl (by first | rfl | exact hb42) ?_
                      refine o1 (pk_f (by first | rfl | exact hb42)) ?_
                      refine o1 rfl ?_
                      cases h36
                      exact o_join (sub_ren [] [6] (by decide) rfl .nil (Nat.le_of_ble_eq_true rfl))
                    · have h36 := cnd_t hb42 h36
                      obtain ⟨r33, h34, h36⟩ := bnd h36
                      refine ocg (rs := [.c (.d (.lit (.bool r33)))]) (outs := []) rfl (by first | rfl | exact hb42) rfl (law17_awake_ok h34) rfl ?_
                      refine o1 (pk_t (by first | rfl | exact hb42)) ?_
                      refine o1 rfl ?_
                      cases h36
                      exact o_join (sub_ren [] [6] (by decide) rfl .nil (Nat.le_of_ble_eq_true rfl))
        · intro s hs43
          refine after_n ?_
          refine W.sub hs43 ?_
          refine w_ret ?_
          obtain rfl := Option.some.inj hp
          exact leave_at rfl rfl (pr_c p_d pr_nil) pc_nil rfl rfl

/- turnout/turnoutlaw17.TopoHops -/
def k9 : CC :=
  (.seq
  (.region [
    ⟨some 4, .box, [(.tmp 0)], none⟩,
    ⟨some 8, .mv, [(.const (.bool false))], none⟩] [1, 2, 3, 4])
  (.seq
  (.seq
  (.region [
    ⟨some 14, (.load true 3), [(.tmp 4)], none⟩,
    ⟨some 15, (.call true []), [(.func 35), (.tmp 14)], none⟩,
    ⟨some 16, (.un .not), [(.tmp 15)], none⟩,
    ⟨some 17, .mv, [(.tmp 16)], none⟩,
    ⟨some 18, (.load true 3), [(.tmp 4)], (some (17, false))⟩,
    ⟨some 19, (.call true []), [(.func 29), (.tmp 18)], (some (17, false))⟩,
    ⟨some 20, (.un .not), [(.tmp 19)], (some (17, false))⟩,
    ⟨some 21, .pick, [(.tmp 17), (.const (.bool true)), (.tmp 20)], none⟩,
    ⟨some 22, .mv, [(.tmp 21)], none⟩,
    ⟨some 23, .mv, [(.tmp 1)], (some (22, false))⟩,
    ⟨some 24, (.bin .lss), [(.tmp 23), (.const (.int .i64 0))], (some (22, false))⟩,
    ⟨some 25, .pick, [(.tmp 22), (.const (.bool true)), (.tmp 24)], none⟩,
    ⟨some 26, .mv, [(.tmp 25)], none⟩,
    ⟨some 27, .mv, [(.tmp 1)], (some (26, false))⟩,
    ⟨some 28, (.fieldAddr 0), [(.tmp 4)], (some (26, false))⟩,
    ⟨some 29, (.load false 1), [(.tmp 28)], (some (26, false))⟩,
    ⟨some 30, (.bin .geq), [(.tmp 27), (.tmp 29)], (some (26, false))⟩,
    ⟨some 31, .pick, [(.tmp 26), (.const (.bool true)), (.tmp 30)], none⟩,
    ⟨some 32, .mv, [(.tmp 31)], none⟩,
    ⟨some 33, .mv, [(.tmp 2)], (some (32, false))⟩,
    ⟨some 34, (.bin .lss), [(.tmp 33), (.const (.int .i64 0))], (some (32, false))⟩,
    ⟨some 35, .pick, [(.tmp 32), (.const (.bool true)), (.tmp 34)], none⟩,
    ⟨some 36, .mv, [(.tmp 35)], none⟩,
    ⟨some 37, .mv, [(.tmp 2)], (some (36, false))⟩,
    ⟨some 38, (.fieldAddr 0), [(.tmp 4)], (some (36, false))⟩,
    ⟨some 39, (.load false 1), [(.tmp 38)], (some (36, false))⟩,
    ⟨some 40, (.bin .geq), [(.tmp 37), (.tmp 39)], (some (36, false))⟩,
    ⟨some 41, .pick, [(.tmp 36), (.const (.bool true)), (.tmp 40)], none⟩] [1, 2, 3, 4, 41])
  (.cond (.tmp 41)
    (.seq
    (.region [
      ⟨some 42, (.call true []), [(.func 36)], none⟩,
      ⟨some 8, .mv, [(.tmp 42)], none⟩] [8])
    .ret)
    .skip))
  (.seq
  (.drawn [
    ⟨some 43, (.load true 3), [(.tmp 4)], none⟩,
    ⟨some 44, .mv, [(.tmp 1)], none⟩,
    ⟨some 45, (.call false []), [(.func 39), (.tmp 43), (.tmp 44)], none⟩,
    ⟨some 46, (.load true 3), [(.tmp 4)], none⟩,
    ⟨some 47, .mv, [(.tmp 2)], none⟩,
    ⟨some 48, (.call false []), [(.func 39), (.tmp 46), (.tmp 47)], none⟩,
    ⟨some 9, .mv, [(.tmp 45)], none⟩,
    ⟨some 10, .mv, [(.tmp 48)], none⟩] [(2, 3)] [1, 2, 3, 4, 9, 10])
  (.seq
  (.seq
  (.drawn [
    ⟨some 49, .mv, [(.tmp 9)], none⟩,
    ⟨some 50, (.len false), [(.tmp 49)], none⟩,
    ⟨some 51, (.fieldAddr 0), [(.tmp 4)], none⟩,
    ⟨some 52, (.load false 1), [(.tmp 51)], none⟩,
    ⟨some 53, (.bin .neq), [(.tmp 50), (.tmp 52)], none⟩,
    ⟨some 54, .mv, [(.tmp 53)], none⟩,
    ⟨some 55, .mv, [(.tmp 10)], (some (54, false))⟩,
    ⟨some 56, (.len false), [(.tmp 55)], (some (54, false))⟩,
    ⟨some 57, (.fieldAddr 0), [(.tmp 4)], (some (54, false))⟩,
    ⟨some 58, (.load false 1), [(.tmp 57)], (some (54, false))⟩,
    ⟨some 59, (.bin .neq), [(.tmp 56), (.tmp 58)], (some (54, false))⟩,
    ⟨some 60, .pick, [(.tmp 54), (.const (.bool true)), (.tmp 59)], none⟩,
    ⟨some 61, .mv, [(.tmp 60)], none⟩,
    ⟨some 62, .mv, [(.tmp 9)], (some (61, false))⟩,
    ⟨some 63, .mv, [(.tmp 2)], (some (61, false))⟩,
    ⟨some 64, (.indexAddr none 1), [(.tmp 62), (.tmp 63)], (some (61, false))⟩,
    ⟨some 65, (.load false 1), [(.tmp 64)], (some (61, false))⟩,
    ⟨some 66, .mv, [(.tmp 10)], (some (61, false))⟩,
    ⟨some 67, .mv, [(.tmp 1)], (some (61, false))⟩,
    ⟨some 68, (.indexAddr none 1), [(.tmp 66), (.tmp 67)], (some (61, false))⟩,
    ⟨some 69, (.load false 1), [(.tmp 68)], (some (61, false))⟩,
    ⟨some 70, (.bin .neq), [(.tmp 65), (.tmp 69)], (some (61, false))⟩,
    ⟨some 71, .pick, [(.tmp 61), (.const (.bool true)), (.tmp 70)], none⟩,
    ⟨some 72, .mv, [(.tmp 71)], none⟩,
    ⟨some 73, .mv, [(.tmp 9)], (some (72, false))⟩,
    ⟨some 74, .mv, [(.tmp 1)], (some (72, false))⟩,
    ⟨some 75, (.indexAddr none 1), [(.tmp 73), (.tmp 74)], (some (72, false))⟩,
    ⟨some 76, (.load false 1), [(.tmp 75)], (some (72, false))⟩,
    ⟨some 77, (.bin .neq), [(.tmp 76), (.const (.int .i64 0))], (some (72, false))⟩,
    ⟨some 78, .pick, [(.tmp 72), (.const (.bool true)), (.tmp 77)], none⟩] [] [1, 2, 3, 4, 9, 10, 78])
  (.cond (.tmp 78)
    (.seq
    (.region [
      ⟨some 8, .mv, [(.const (.bool false))], none⟩] [8])
    .ret)
    .skip))
  (.seq
  (.seq
  (.region [
    ⟨some 11, .mv, [(.const (.int .i64 0))], none⟩] [1, 2, 3, 4, 9, 10, 11])
  (.block 0
    (.loop [1, 2, 3, 4, 9, 10, 11]
      (.seq
      (.seq
      (.region [
        ⟨some 79, .mv, [(.tmp 11)], none⟩,
        ⟨some 80, .mv, [(.tmp 9)], none⟩,
        ⟨some 81, (.len false), [(.tmp 80)], none⟩,
        ⟨some 82, (.bin .lss), [(.tmp 79), (.tmp 81)], none⟩] [1, 2, 3, 4, 9, 10, 11, 82])
      (.cond (.tmp 82)
        .skip
        (.exit 0)))
      (.seq
      (.block 1
        (.seq
        (.drawn [
          ⟨some 85, .mv, [(.tmp 9)], none⟩,
          ⟨some 86, .mv, [(.tmp 11)], none⟩,
          ⟨some 87, (.indexAddr none 1), [(.tmp 85), (.tmp 86)], none⟩,
          ⟨some 88, (.load false 1), [(.tmp 87)], none⟩,
          ⟨some 89, (.bin .eql), [(.tmp 88), (.const (.int .i64 0))], none⟩,
          ⟨some 90, .mv, [(.tmp 11)], none⟩,
          ⟨some 91, .mv, [(.tmp 1)], none⟩,
          ⟨some 92, (.bin .eql), [(.tmp 90), (.tmp 91)], none⟩,
          ⟨some 93, (.eqBool true), [(.tmp 89), (.tmp 92)], none⟩,
          ⟨some 94, .mv, [(.tmp 93)], none⟩,
          ⟨some 95, .mv, [(.tmp 9)], (some (94, false))⟩,
          ⟨some 96, .mv, [(.tmp 11)], (some (94, false))⟩,
          ⟨some 97, (.indexAddr none 1), [(.tmp 95), (.tmp 96)], (some (94, false))⟩,
          ⟨some 98, (.load false 1), [(.tmp 97)], (some (94, false))⟩,
          ⟨some 99, (.bin .lss), [(.tmp 98), (.const (.int .i64 (-1)))], (some (94, false))⟩,
          ⟨some 100, .pick, [(.tmp 94), (.const (.bool true)), (.tmp 99)], none⟩,
          ⟨some 101, .mv, [(.tmp 100)], none⟩,
          ⟨some 102, .mv, [(.tmp 9)], (some (101, false))⟩,
          ⟨some 103, .mv, [(.tmp 2)], (some (101, false))⟩,
          ⟨some 104, (.indexAddr none 1), [(.tmp 102), (.tmp 103)], (some (101, false))⟩,
          ⟨some 105, (.load false 1), [(.tmp 104)], (some (101, false))⟩,
          ⟨some 106, (.bin .geq), [(.tmp 105), (.const (.int .i64 0))], (some (101, false))⟩,
          ⟨some 107, .mv, [(.tmp 106)], (some (101, false))⟩,
          ⟨some 108, .mv, [(.tmp 9)], (some (107, true))⟩,
          ⟨some 109, .mv, [(.tmp 11)], (some (107, true))⟩,
          ⟨some 110, (.indexAddr none 1), [(.tmp 108), (.tmp 109)], (some (107, true))⟩,
          ⟨some 111, (.load false 1), [(.tmp 110)], (some (107, true))⟩,
          ⟨some 112, (.bin .lss), [(.tmp 111), (.const (.int .i64 0))], (some (107, true))⟩,
          ⟨some 113, .mv, [(.tmp 10)], (some (107, true))⟩,
          ⟨some 114, .mv, [(.tmp 11)], (some (107, true))⟩,
          ⟨some 115, (.indexAddr none 1), [(.tmp 113), (.tmp 114)], (some (107, true))⟩,
          ⟨some 116, (.load false 1), [(.tmp 115)], (some (107, true))⟩,
          ⟨some 117, (.bin .lss), [(.tmp 116), (.const (.int .i64 0))], (some (107, true))⟩,
          ⟨some 118, (.eqBool true), [(.tmp 112), (.tmp 117)], (some (107, true))⟩,
          ⟨some 119, .pick, [(.tmp 107), (.tmp 118), (.const (.bool false))], (some (101, false))⟩,
          ⟨some 120, .pick, [(.tmp 101), (.const (.bool true)), (.tmp 119)], none⟩,
          ⟨some 121, .mv, [(.tmp 120)], none⟩,
          ⟨some 122, .mv, [(.tmp 9)], (some (121, false))⟩,
          ⟨some 123, .mv, [(.tmp 2)], (some (121, false))⟩,
          ⟨some 124, (.indexAddr none 1), [(.tmp 122), (.tmp 123)], (some (121, false))⟩,
          ⟨some 125, (.load false 1), [(.tmp 124)], (some (121, false))⟩,
          ⟨some 126, (.bin .geq), [(.tmp 125), (.const (.int .i64 0))], (some (121, false))⟩,
          ⟨some 127, .mv, [(.tmp 126)], (some (121, false))⟩,
          ⟨some 128, .mv, [(.tmp 9)], (some (127, true))⟩,
          ⟨some 129, .mv, [(.tmp 11)], (some (127, true))⟩,
          ⟨some 130, (.indexAddr none 1), [(.tmp 128), (.tmp 129)], (some (127, true))⟩,
          ⟨some 131, (.load false 1), [(.tmp 130)], (some (127, true))⟩,
          ⟨some 132, .mv, [(.tmp 9)], (some (127, true))⟩,
          ⟨some 133, .mv, [(.tmp 2)], (some (127, true))⟩,
          ⟨some 134, (.indexAddr none 1), [(.tmp 132), (.tmp 133)], (some (127, true))⟩,
          ⟨some 135, (.load false 1), [(.tmp 134)], (some (127, true))⟩,
          ⟨some 136, .mv, [(.tmp 10)], (some (127, true))⟩,
          ⟨some 137, .mv, [(.tmp 11)], (some (127, true))⟩,
          ⟨some 138, (.indexAddr none 1), [(.tmp 136), (.tmp 137)], (some (127, true))⟩,
          ⟨some 139, (.load false 1), [(.tmp 138)], (some (127, true))⟩,
          ⟨some 140, (.bin .add), [(.tmp 135), (.tmp 139)], (some (127, true))⟩,
          ⟨some 141, (.bin .gtr), [(.tmp 131), (.tmp 140)], (some (127, true))⟩,
          ⟨some 142, .pick, [(.tmp 127), (.tmp 141), (.const (.bool false))], (some (121, false))⟩,
          ⟨some 143, .pick, [(.tmp 121), (.const (.bool true)), (.tmp 142)], none⟩] [] [1, 2, 3, 4, 9, 10, 11, 143])
        (.cond (.tmp 143)
          (.seq
          (.region [
            ⟨some 8, .mv, [(.const (.bool false))], none⟩] [8])
          .ret)
          .skip)))
      (.region [
        ⟨some 83, .mv, [(.tmp 11)], none⟩,
        ⟨some 84, (.bin .add), [(.tmp 83), (.const (.int .i64 1))], none⟩,
        ⟨some 11, .mv, [(.tmp 84)], none⟩] [1, 2, 3, 4, 9, 10, 11]))))))
  (.seq
  (.seq
  (.region [
    ⟨some 144, .mv, [(.tmp 3)], none⟩,
    ⟨some 145, (.bin .lss), [(.tmp 144), (.const (.int .i64 0))], none⟩,
    ⟨some 146, .mv, [(.tmp 145)], none⟩,
    ⟨some 147, .mv, [(.tmp 3)], (some (146, false))⟩,
    ⟨some 148, (.fieldAddr 1), [(.tmp 4)], (some (146, false))⟩,
    ⟨some 149, (.load false 1), [(.tmp 148)], (some (146, false))⟩,
    ⟨some 150, (.len false), [(.tmp 149)], (some (146, false))⟩,
    ⟨some 151, (.bin .geq), [(.tmp 147), (.tmp 150)], (some (146, false))⟩,
    ⟨some 152, .pick, [(.tmp 146), (.const (.bool true)), (.tmp 151)], none⟩] [3, 4, 9, 152])
  (.cond (.tmp 152)
    (.seq
    (.region [
      ⟨some 153, (.call true []), [(.func 36)], none⟩,
      ⟨some 8, .mv, [(.tmp 153)], none⟩] [8])
    .ret)
    .skip))
  (.seq
  (.drawn [
    ⟨some 154, .mv, [(.tmp 9)], none⟩,
    ⟨some 155, (.fieldAddr 1), [(.tmp 4)], none⟩,
    ⟨some 156, (.load false 1), [(.tmp 155)], none⟩,
    ⟨some 157, .mv, [(.tmp 3)], none⟩,
    ⟨some 158, (.indexAddr none 6), [(.tmp 156), (.tmp 157)], none⟩,
    ⟨some 159, (.fieldAddr 0), [(.tmp 158)], none⟩,
    ⟨some 160, (.load false 1), [(.tmp 159)], none⟩,
    ⟨some 161, (.indexAddr none 1), [(.tmp 154), (.tmp 160)], none⟩,
    ⟨some 162, (.load false 1), [(.tmp 161)], none⟩,
    ⟨some 163, .mv, [(.tmp 9)], none⟩,
    ⟨some 164, (.fieldAddr 1), [(.tmp 4)], none⟩,
    ⟨some 165, (.load false 1), [(.tmp 164)], none⟩,
    ⟨some 166, .mv, [(.tmp 3)], none⟩,
    ⟨some 167, (.indexAddr none 6), [(.tmp 165), (.tmp 166)], none⟩,
    ⟨some 168, (.fieldAddr 2), [(.tmp 167)], none⟩,
    ⟨some 169, (.load false 1), [(.tmp 168)], none⟩,
    ⟨some 170, (.indexAddr none 1), [(.tmp 163), (.tmp 169)], none⟩,
    ⟨some 171, (.load false 1), [(.tmp 170)], none⟩,
    ⟨some 12, .mv, [(.tmp 162)], none⟩,
    ⟨some 13, .mv, [(.tmp 171)], none⟩] [] [12, 13])
  (.seq
  (.region [
    ⟨some 172, .mv, [(.tmp 12)], none⟩,
    ⟨some 173, .mv, [(.tmp 13)], none⟩,
    ⟨some 174, (.bin .sub), [(.tmp 172), (.tmp 173)], none⟩,
    ⟨some 175, (.bin .leq), [(.tmp 174), (.const (.int .i64 1))], none⟩,
    ⟨some 176, .mv, [(.tmp 175)], none⟩,
    ⟨some 177, .mv, [(.tmp 13)], (some (176, true))⟩,
    ⟨some 178, .mv, [(.tmp 12)], (some (176, true))⟩,
    ⟨some 179, (.bin .sub), [(.tmp 177), (.tmp 178)], (some (176, true))⟩,
    ⟨some 180, (.bin .leq), [(.tmp 179), (.const (.int .i64 1))], (some (176, true))⟩,
    ⟨some 181, .pick, [(.tmp 176), (.tmp 180), (.const (.bool false))], none⟩,
    ⟨some 182, .mv, [(.tmp 181)], none⟩,
    ⟨some 183, .mv, [(.tmp 12)], (some (182, true))⟩,
    ⟨some 184, (.bin .lss), [(.tmp 183), (.const (.int .i64 0))], (some (182, true))⟩,
    ⟨some 185, .mv, [(.tmp 13)], (some (182, true))⟩,
    ⟨some 186, (.bin .lss), [(.tmp 185), (.const (.int .i64 0))], (some (182, true))⟩,
    ⟨some 187, (.eqBool false), [(.tmp 184), (.tmp 186)], (some (182, true))⟩,
    ⟨some 188, .pick, [(.tmp 182), (.tmp 187), (.const (.bool false))], none⟩,
    ⟨some 189, .mv, [(.tmp 188)], none⟩,
    ⟨some 190, (.call true []), [(.func 36)], (some (189, true))⟩,
    ⟨some 191, .pick, [(.tmp 189), (.tmp 190), (.const (.bool false))], none⟩,
    ⟨some 8, .mv, [(.tmp 191)], none⟩] [8])
  .ret))))))))
def f9 : Ev.Fn := ⟨4, 192, [.tmp 8], k9⟩
set_option maxRecDepth 100000 in
theorem e9 : compFn prog sig 9 4 [[1, 2, 3, 4], [1, 2, 3, 4, 41], [8], [1, 2, 3, 4, 9, 10], [1, 2, 3, 4, 9, 10, 78], [8], [1, 2, 3, 4, 9, 10, 11], [1, 2, 3, 4, 9, 10, 11], [1, 2, 3, 4, 9, 10, 11, 82], [1, 2, 3, 4, 9, 10, 11, 143], [8], [1, 2, 3, 4, 9, 10, 11], [3, 4, 9, 152], [8], [12, 13], [8]] = some f9 := by kernel_rfl
noncomputable def law17_TopoHops_L1 (sw_1 : Int) (other_2 : Int) (r16 : Sl Int) (r18 : Sl Int) : Int → Option (Sum (Int) (Sum (Unit) (Unit))) := fun i33 =>
  bif decide (i33 < (r16.l.length : Int)) then ((ixI i33 r16.l.length).bind fun n38 =>
  (bif (!(((gt r16.l n38) == 0) == (i33 == sw_1))) then (some true) else (bif decide ((gt r16.l n38) < (-1)) then (some true) else ((ixI other_2 r16.l.length).bind fun n40 =>
  bif decide ((gt r16.l n40) ≥ 0) then ((ixI i33 r18.l.length).bind fun n42 =>
  bif (!((decide ((gt r16.l n38) < 0)) == (decide ((gt r18.l n42) < 0)))) then (some true) else (some (decide ((gt r16.l n38) > (wr .i64 ((gt r16.l n40) + (gt r18.l n42))))))) else (some false)))).bind fun b44 =>
  bif b44 then (some (.inr (.inl ()))) else
  (some (.inl (wr .i64 (i33 + 1))))) else
  (some (.inr (.inr ())))

noncomputable def law17_TopoHops (t_0 : api_Topo) (sw_1 : Int) (other_2 : Int) (link_3 : Int) : Option (Bool) :=
  (law17_small t_0).bind fun r1 =>
  (bif (!r1) then (some true) else ((ref17_Right t_0).bind fun r3 =>
  bif (!r3) then (some true) else (bif decide (sw_1 < 0) then (some true) else (bif decide (sw_1 ≥ t_0.Switches) then (some true) else (bif decide (other_2 < 0) then (some true) else (some (decide (other_2 ≥ t_0.Switches)))))))).bind fun b5 =>
  bif b5 then ((law17_awake).bind fun r14 =>
  some r14) else
  ((topo_Hops t_0 sw_1).bind fun r16 =>
  (topo_Hops t_0 other_2).bind fun r18 =>
  (bif ((r16.l.length : Int) != t_0.Switches) then (some true) else (bif ((r18.l.length : Int) != t_0.Switches) then (some true) else ((ixI other_2 r16.l.length).bind fun n20 =>
  (ixI sw_1 r18.l.length).bind fun n22 =>
  bif ((gt r16.l n20) != (gt r18.l n22)) then (some true) else ((ixI sw_1 r16.l.length).bind fun n24 =>
  some ((gt r16.l n24) != 0))))).bind fun b26 =>
  bif b26 then (some false) else
  ((loopO (law17_TopoHops_L1 sw_1 other_2 r16 r18) 0).bind fun
  | .inl _ => (some false)
  | .inr (_) => (bif ((decide (link_3 < 0)) || (decide (link_3 ≥ (t_0.Links.l.length : Int)))) then ((law17_awake).bind fun r57 =>
  some r57) else
  ((ixI link_3 t_0.Links.l.length).bind fun n59 =>
  (ixI ((gt t_0.Links.l n59).A) r16.l.length).bind fun n61 =>
  (ixI ((gt t_0.Links.l n59).B) r16.l.length).bind fun n63 =>
  (bif decide ((wr .i64 ((gt r16.l n61) - (gt r16.l n63))) ≤ 1) then (bif decide ((wr .i64 ((gt r16.l n63) - (gt r16.l n61))) ≤ 1) then (bif ((decide ((gt r16.l n61) < 0)) == (decide ((gt r16.l n63) < 0))) then ((law17_awake).bind fun r65 =>
  some r65) else (some false)) else (some false)) else (some false)).bind fun b67 =>
  some b67))))
theorem law17_TopoHops_ok {t_0 : api_Topo} {sw_1 : Int} {other_2 : Int} {link_3 : Int} {z : Bool} (hp : law17_TopoHops t_0 sw_1 other_2 link_3 = some z) : Good prog 9 [.agg (c_api_Topo t_0), .d (.lit (.int .i64 sw_1)), .d (.lit (.int .i64 other_2)), .d (.lit (.int .i64 link_3))] [.c (.d (.lit (.bool z)))] [] := by
  unfold law17_TopoHops at hp
  refine fn_good mixed e9 (fnS (m := [false]) (s := ⟨[(0, .agg [.d (.lit (.int .i64 t_0.Switches)), .d (slD 6 c_api_Link t_0.Links), .d (slD 2 c_api_Host t_0.Hosts)]), (1, .c (.d (.lit (.int .i64 sw_1)))), (2, .c (.d (.lit (.int .i64 other_2)))), (3, .c (.d (.lit (.int .i64 link_3))))], [], 0, []⟩) (len := 0) (c := k9) rfl (Sub.of_eq rfl) rfl rfl ?_)
  refine w_seq ?_
  refine w_region ?_
  refine o2 rfl ?_
  refine o1 rfl ?_
  refine o_end (e' := [(1, .c (.d (.lit (.int .i64 sw_1)))), (2, .c (.d (.lit (.int .i64 other_2)))), (3, .c (.d (.lit (.int .i64 link_3)))), (4, .c (.op 0 0))]) rfl rfl ?_
  refine after_n ?_
  refine w_seq ?_
  refine w_seq ?_
  obtain ⟨r1, h2, hp⟩ := bnd hp
  obtain ⟨b5, h6, hp⟩ := bnd hp
  refine w_join (J := fun s => Sub s ⟨[(1, .c (.d (.lit (.int .i64 sw_1)))), (2, .c (.d (.lit (.int .i64 other_2)))), (3, .c (.d (.lit (.int .i64 link_3)))), (4, .c (.op 0 0)), (41, .c (.d (.lit (.bool b5))))], [(0, some (.box [.d (.lit (.int .i64 t_0.Switches)), .d (slD 6 c_api_Link t_0.Links), .d (slD 2 c_api_Host t_0.Hosts)]))], 1, []⟩) ?_ ?_
  · refine w_region ?_
    refine o1 rfl ?_
    refine oc (rs := [.c (.d (.lit (.bool r1)))]) (outs := []) rfl (law17_small_ok h2) rfl ?_
    refine o1 (v := .c (.d (.lit (.bool (!r1))))) rfl ?_
    refine o1 rfl ?_
    cases hb7 : ((!r1) : Bool)
    · have h6 := cnd_f hb7 h6
      obtain ⟨r3, h4, h6⟩ := bnd h6
      refine og rfl (by first | rfl | exact hb7) rfl ?_
      refine ocg (rs := [.c (.d (.lit (.bool r3)))]) (outs := []) rfl (by first | rfl | exact hb7) rfl (ref17_Right_ok h4) rfl ?_
      refine og (v := .c (.d (.lit (.bool (!r3))))) rfl (by first | rfl | exact hb7) rfl ?_
      refine o1 (pk_f (by first | rfl | exact hb7)) ?_
      refine o1 rfl ?_
      cases hb8 : ((!r3) : Bool)
      · have h6 := cnd_f hb8 h6
        refine og rfl (by first | rfl | exact hb8) rfl ?_
        refine og (v := .c (.d (.lit (.bool (decide (sw_1 < 0)))))) rfl (by first | rfl | exact hb8) rfl ?_
        refine o1 (pk_f (by first | rfl | exact hb8)) ?_
        refine o1 rfl ?_
        cases hb9 : (decide (sw_1 < 0) : Bool)
        · have h6 := cnd_f hb9 h6
          refine og rfl (by first | rfl | exact hb9) rfl ?_
          refine og rfl (by first | rfl | exact hb9) rfl ?_
          refine og rfl (by first | rfl | exact hb9) rfl ?_
          refine og (v := .c (.d (.lit (.bool (decide (sw_1 ≥ t_0.Switches)))))) rfl (by first | rfl | exact hb9) rfl ?_
          refine o1 (pk_f (by first | rfl | exact hb9)) ?_
          refine o1 rfl ?_
          cases hb10 : (decide (sw_1 ≥ t_0.Switches) : Bool)
          · have h6 := cnd_f hb10 h6
            refine og rfl (by first | rfl | exact hb10) rfl ?_
            refine og (v := .c (.d (.lit (.bool (decide (other_2 < 0)))))) rfl (by first | rfl | exact hb10) rfl ?_
            refine o1 (pk_f (by first | rfl | exact hb10)) ?_
            refine o1 rfl ?_
            cases hb11 : (decide (other_2 < 0) : Bool)
            · have h6 := cnd_f hb11 h6
              refine og rfl (by first | rfl | exact hb11) rfl ?_
              refine og rfl (by first | rfl | exact hb11) rfl ?_
              refine og rfl (by first | rfl | exact hb11) rfl ?_
              refine og (v := .c (.d (.lit (.bool (decide (other_2 ≥ t_0.Switches)))))) rfl (by first | rfl | exact hb11) rfl ?_
              refine o1 (pk_f (by first | rfl | exact hb11)) ?_
              cases h6
              exact o_join (sub_ren [0] [1, 2, 3, 4, 41] (by decide) rfl (.cons .nil) (Nat.le_of_ble_eq_true rfl))
            · have h6 := cnd_t hb11 h6
              refine onot rfl (by first | rfl | exact hb11) ?_
              refine onot rfl (by first | rfl | exact hb11) ?_
              refine onot rfl (by first | rfl | exact hb11) ?_
              refine onot rfl (by first | rfl | exact hb11) ?_
              refine o1 (pk_t (by first | rfl | exact hb11)) ?_
              cases h6
              exact o_join (sub_ren [0] [1, 2, 3, 4, 41] (by decide) rfl (.cons .nil) (Nat.le_of_ble_eq_true rfl))
          · have h6 := cnd_t hb10 h6
            refine onot rfl (by first | rfl | exact hb10) ?_
            refine onot rfl (by first | rfl | exact hb10) ?_
            refine o1 (pk_t (by first | rfl | exact hb10)) ?_
            refine o1 rfl ?_
            iterate 4 refine onot rfl rfl ?_
            refine o1 rfl ?_
            cases h6
            exact o_join (sub_ren [0] [1, 2, 3, 4, 41] (by decide) rfl (.cons .nil) (Nat.le_of_ble_eq_true rfl))
        · have h6 := cnd_t hb9 h6
          refine onot rfl (by first | rfl | exact hb9) ?_
          refine onot rfl (by first | rfl | exact hb9) ?_
          refine onot rfl (by first | rfl | exact hb9) ?_
          refine onot rfl (by first | rfl | exact hb9) ?_
          refine o1 (pk_t (by first | rfl | exact hb9)) ?_
          refine o1 rfl ?_
          iterate 2 refine onot rfl rfl ?_
          iterate 2 refine o1 rfl ?_
          iterate 4 refine onot rfl rfl ?_
          refine o1 rfl ?_
          cases h6
          exact o_join (sub_ren [0] [1, 2, 3, 4, 41] (by decide) rfl (.cons .nil) (Nat.le_of_ble_eq_true rfl))
      · have h6 := cnd_t hb8 h6
        refine onot rfl (by first | rfl | exact hb8) ?_
        refine onot rfl (by first | rfl | exact hb8) ?_
        refine o1 (pk_t (by first | rfl | exact hb8)) ?_
        refine o1 rfl ?_
        iterate 4 refine onot rfl rfl ?_
        iterate 2 refine o1 rfl ?_
        iterate 2 refine onot rfl rfl ?_
        iterate 2 refine o1 rfl ?_
        iterate 4 refine onot rfl rfl ?_
        refine o1 rfl ?_
        cases h6
        exact o_join (sub_ren [0] [1, 2, 3, 4, 41] (by decide) rfl (.cons .nil) (Nat.le_of_ble_eq_true rfl))
    · have h6 := cnd_t hb7 h6
      refine onot rfl (by first | rfl | exact hb7) ?_
      refine onot rfl (by first | rfl | exact hb7) ?_
      refine onot rfl (by first | rfl | exact hb7) ?_
      refine o1 (pk_t (by first | rfl | exact hb7)) ?_
      refine o1 rfl ?_
      iterate 2 refine onot rfl rfl ?_
      iterate 2 refine o1 rfl ?_
      iterate 4 refine onot rfl rfl ?_
      iterate 2 refine o1 rfl ?_
      iterate 2 refine onot rfl rfl ?_
      iterate 2 refine o1 rfl ?_
      iterate 4 refine onot rfl rfl ?_
      refine o1 rfl ?_
      cases h6
      exact o_join (sub_ren [0] [1, 2, 3, 4, 41] (by decide) rfl (.cons .nil) (Nat.le_of_ble_eq_true rfl))
  · intro s hs12
    refine after_n ?_
    refine W.sub hs12 ?_
    refine w_cond (t := b5) rfl (fun hb13 => ?_) (fun hb13 => ?_)
    · have hp := cnd_t hb13 hp
      refine w_seq ?_
      obtain ⟨r14, h15, hp⟩ := bnd hp
      refine w_region ?_
      refine oc (rs := [.c (.d (.lit (.bool r14)))]) (outs := []) rfl (law17_awake_ok h15) rfl ?_
      refine o1 rfl ?_
      refine o_end (e' := [(8, .c (.d (.lit (.bool r14))))]) rfl rfl ?_
      refine after_n ?_
      refine w_ret ?_
      refine after_r ?_
      obtain rfl := Option.some.inj hp
      exact leave_at rfl rfl (pr_c p_d pr_nil) pc_nil rfl rfl
    · have hp := cnd_f hb13 hp
      refine w_skip ?_
      refine after_n ?_
      refine w_seq ?_
      obtain ⟨r16, h17, hp⟩ := bnd hp
      obtain ⟨r18, h19, hp⟩ := bnd hp
      refine w_drawn ?_
      iterate 2 refine d1 rfl ?_
      refine dc (rs := [.c (.d (slD 1 cI_i64 r16))]) (outs := []) rfl (topo_Hops_ok h17) rfl (Nat.le_of_ble_eq_true rfl) ?_
      iterate 2 refine d1 rfl ?_
      refine dc (rs := [.c (.d (slD 1 cI_i64 r18))]) (outs := []) rfl (topo_Hops_ok h19) rfl (Nat.le_of_ble_eq_true rfl) ?_
      iterate 2 refine d1 rfl ?_
      refine d_fin (e' := [(1, .c (.d (.lit (.int .i64 sw_1)))), (2, .c (.d (.lit (.int .i64 other_2)))), (3, .c (.d (.lit (.int .i64 link_3)))), (4, .c (.op 0 0)), (9, .c (.d (slD 1 cI_i64 r16))), (10, .c (.d (slD 1 cI_i64 r18)))]) (n' := 513) rfl rfl rfl rfl ?_
      refine after_n ?_
      refine w_seq ?_
      refine w_seq ?_
      obtain ⟨b26, h27, hp⟩ := bnd hp
      refine w_join (J := fun s => Sub s ⟨[(1, .c (.d (.lit (.int .i64 sw_1)))), (2, .c (.d (.lit (.int .i64 other_2)))), (3, .c (.d (.lit (.int .i64 link_3)))), (4, .c (.op 0 0)), (9, .c (.d (slD 1 cI_i64 r16))), (10, .c (.d (slD 1 cI_i64 r18))), (78, .c (.d (.lit (.bool b26))))], [(0, some (.box [.d (.lit (.int .i64 t_0.Switches)), .d (slD 6 c_api_Link t_0.Links), .d (slD 2 c_api_Host t_0.Hosts)]))], 1, []⟩) ?_ ?_
      · refine w_drawn ?_
        refine d1 rfl ?_
        refine d1 (v := .c (.d (.lit (.int .i64 (r16.l.length : Int))))) len_sd ?_
        iterate 2 refine d1 rfl ?_
        refine d1 (v := .c (.d (.lit (.bool ((r16.l.length : Int) != t_0.Switches))))) rfl ?_
        refine d1 rfl ?_
        cases hb28 : (((r16.l.length : Int) != t_0.Switches) : Bool)
        · have h27 := cnd_f hb28 h27
          refine dg rfl (by first | rfl | exact hb28) rfl ?_
          refine dg (v := .c (.d (.lit (.int .i64 (r18.l.length : Int))))) rfl (by first | rfl | exact hb28) len_sd ?_
          refine dg rfl (by first | rfl | exact hb28) rfl ?_
          refine dg rfl (by first | rfl | exact hb28) rfl ?_
          refine dg (v := .c (.d (.lit (.bool ((r18.l.length : Int) != t_0.Switches))))) rfl (by first | rfl | exact hb28) rfl ?_
          refine d1 (pk_f (by first | rfl | exact hb28)) ?_
          refine d1 rfl ?_
          cases hb29 : (((r18.l.length : Int) != t_0.Switches) : Bool)
          · have h27 := cnd_f hb29 h27
            obtain ⟨n20, h21, h27⟩ := bnd h27
            obtain ⟨n22, h23, h27⟩ := bnd h27
            refine dg rfl (by first | rfl | exact hb29) rfl ?_
            refine dg rfl (by first | rfl | exact hb29) rfl ?_
            refine dg rfl (by first | rfl | exact hb29) (ix_sd h21) ?_
            refine dg rfl (by first | rfl | exact hb29) rfl ?_
            refine dg rfl (by first | rfl | exact hb29) rfl ?_
            refine dg rfl (by first | rfl | exact hb29) rfl ?_
            refine dg rfl (by first | rfl | exact hb29) (ix_sd h23) ?_
            refine dg rfl (by first | rfl | exact hb29) rfl ?_
            refine dg (v := .c (.d (.lit (.bool ((gt r16.l n20) != (gt r18.l n22)))))) rfl (by first | rfl | exact hb29) rfl ?_
            refine d1 (pk_f (by first | rfl | exact hb29)) ?_
            refine d1 rfl ?_
            cases hb30 : (((gt r16.l n20) != (gt r18.l n22)) : Bool)
            · have h27 := cnd_f hb30 h27
              obtain ⟨n24, h25, h27⟩ := bnd h27
              refine dg rfl (by first | rfl | exact hb30) rfl ?_
              refine dg rfl (by first | rfl | exact hb30) rfl ?_
              refine dg rfl (by first | rfl | exact hb30) (ix_sd h25) ?_
              refine dg rfl (by first | rfl | exact hb30) rfl ?_
              refine dg (v := .c (.d (.lit (.bool ((gt r16.l n24) != 0))))) rfl (by first | rfl | exact hb30) rfl ?_
              refine d1 (pk_f (by first | rfl | exact hb30)) ?_
              cases h27
              exact d_join rfl (sub_ren [0] [1, 2, 3, 4, 9, 10, 78] (by decide) rfl (.cons .nil) (Nat.le_of_ble_eq_true rfl))
            · have h27 := cnd_t hb30 h27
              refine dnot rfl (by first | rfl | exact hb30) ?_
              refine dnot rfl (by first | rfl | exact hb30) ?_
              refine dnot rfl (by first | rfl | exact hb30) ?_
              refine dnot rfl (by first | rfl | exact hb30) ?_
              refine dnot rfl (by first | rfl | exact hb30) ?_
              refine d1 (pk_t (by first | rfl | exact hb30)) ?_
              cases h27
              exact d_join rfl (sub_ren [0] [1, 2, 3, 4, 9, 10, 78] (by decide) rfl (.cons .nil) (Nat.le_of_ble_eq_true rfl))
          · have h27 := cnd_t hb29 h27
            refine dnot rfl (by first | rfl | exact hb29) ?_
            refine dnot rfl (by first | rfl | exact hb29) ?_
            refine dnot rfl (by first | rfl | exact hb29) ?_
            refine dnot rfl (by first | rfl | exact hb29) ?_
            refine dnot rfl (by first | rfl | exact hb29) ?_
            refine dnot rfl (by first | rfl | exact hb29) ?_
            refine dnot rfl (by first | rfl | exact hb29) ?_
            refine dnot rfl (by first | rfl | exact hb29) ?_
            refine dnot rfl (by first | rfl | exact hb29) ?_
            refine d1 (pk_t (by first | rfl | exact hb29)) ?_
            refine d1 rfl ?_
            iterate 5 refine dnot rfl rfl ?_
            refine d1 rfl ?_
            cases h27
            exact d_join rfl (sub_ren [0] [1, 2, 3, 4, 9, 10, 78] (by decide) rfl (.cons .nil) (Nat.le_of_ble_eq_true rfl))
        · have h27 := cnd_t hb28 h27
          refine dnot rfl (by first | rfl | exact hb28) ?_
          refine dnot rfl (by first | rfl | exact hb28) ?_
          refine dnot rfl (by first | rfl | exact hb28) ?_
          refine dnot rfl (by first | rfl | exact hb28) ?_
          refine dnot rfl (by first | rfl | exact hb28) ?_
          refine d1 (pk_t (by first | rfl | exact hb28)) ?_
          refine d1 rfl ?_
          iterate 9 refine dnot rfl rfl ?_
          iterate 2 refine d1 rfl ?_
          iterate 5 refine dnot rfl rfl ?_
          refine d1 rfl ?_
          cases h27
          exact d_join rfl (sub_ren [0] [1, 2, 3, 4, 9, 10, 78] (by decide) rfl (.cons .nil) (Nat.le_of_ble_eq_true rfl))
      · intro s hs31
        refine after_n ?_
        refine W.sub hs31 ?_
        refine w_cond (t := b26) rfl (fun hb32 => ?_) (fun hb32 => ?_)
        · have hp := cnd_t hb32 hp
          refine w_seq ?_
          refine w_region ?_
          refine o1 rfl ?_
          refine o_end (e' := [(8, .c (.d (.lit (.bool false))))]) rfl rfl ?_
          refine after_n ?_
          refine w_ret ?_
          refine after_r ?_
          obtain rfl := Option.some.inj hp
          exact leave_at rfl rfl (pr_c p_d pr_nil) pc_nil rfl rfl
        · have hp := cnd_f hb32 hp
          refine w_skip ?_
          refine after_n ?_
          refine w_seq ?_
          refine w_seq ?_
          refine w_region ?_
          refine o1 rfl ?_
          refine o_end (e' := [(1, .c (.d (.lit (.int .i64 sw_1)))), (2, .c (.d (.lit (.int .i64 other_2)))), (3, .c (.d (.lit (.int .i64 link_3)))), (4, .c (.op 0 0)), (9, .c (.d (slD 1 cI_i64 r16))), (10, .c (.d (slD 1 cI_i64 r18))), (11, .c (.d (.lit (.int .i64 0))))]) rfl rfl ?_
          refine after_n ?_
          refine w_block ?_
          obtain ⟨x35, h36, hp⟩ := bnd hp
          refine W.mono ?_ (w_loopS (st := fun (v : Int) => match v with | i33 => ⟨[(1, .c (.d (.lit (.int .i64 sw_1)))), (2, .c (.d (.lit (.int .i64 other_2)))), (3, .c (.d (.lit (.int .i64 link_3)))), (4, .c (.op 0 0)), (9, .c (.d (slD 1 cI_i64 r16))), (10, .c (.d (slD 1 cI_i64 r18))), (11, .c (.d (.lit (.int .i64 i33))))], [(0, some (.box [.d (.lit (.int .i64 t_0.Switches)), .d (slD 6 c_api_Link t_0.Links), .d (slD 2 c_api_Host t_0.Hosts)]))], 1, []⟩) (a := 0) (Q := Jn (fun (x : Sum (Unit) (Unit)) o s => match x with | .inl _ => o = Out.ret ∧ Sub s ⟨[(8, .c (.d (.lit (.bool false))))], [], 0, []⟩ | .inr (_) => o = Out.exit 0 ∧ Sub s ⟨[(3, .c (.d (.lit (.int .i64 link_3)))), (4, .c (.op 0 0)), (9, .c (.d (slD 1 cI_i64 r16)))], [(0, some (.box [.d (.lit (.int .i64 t_0.Switches)), .d (slD 6 c_api_Link t_0.Links), .d (slD 2 c_api_Host t_0.Hosts)]))], 1, []⟩)) ?_ h36 ?_)
          · intro o s hs52
            rcases x35 with (_ | _)
            · obtain ⟨rfl, hs52⟩ := hs52
              refine out_r ?_
              refine after_r ?_
              obtain rfl := Option.some.inj hp
              refine wk.sub hs52 ?_
              exact leave_at rfl rfl (pr_c p_d pr_nil) pc_nil rfl rfl
            · obtain ⟨rfl, hs52⟩ := hs52
              refine out_e ?_
              refine after_n ?_
              refine W.sub hs52 ?_
              refine w_seq ?_
              refine w_seq ?_
              refine w_join (J := fun s => Sub s ⟨[(3, .c (.d (.lit (.int .i64 link_3)))), (4, .c (.op 0 0)), (9, .c (.d (slD 1 cI_i64 r16))), (152, .c (.d (.lit (.bool ((decide (link_3 < 0)) || (decide (link_3 ≥ (t_0.Links.l.length : Int))))))))], [(0, some (.box [.d (.lit (.int .i64 t_0.Switches)), .d (slD 6 c_api_Link t_0.Links), .d (slD 2 c_api_Host t_0.Hosts)]))], 1, []⟩) ?_ ?_
              · refine w_region ?_
                refine o1 rfl ?_
                refine o1 (v := .c (.d (.lit (.bool (decide (link_3 < 0)))))) rfl ?_
                refine o1 rfl ?_
                cases hb54 : (decide (link_3 < 0) : Bool)
                · refine og rfl (by first | rfl | exact hb54) rfl ?_
                  refine og rfl (by first | rfl | exact hb54) rfl ?_
                  refine og rfl (by first | rfl | exact hb54) rfl ?_
                  refine og (v := .c (.d (.lit (.int .i64 (t_0.Links.l.length : Int))))) rfl (by first | rfl | exact hb54) len_sd ?_
                  refine og (v := .c (.d (.lit (.bool (decide (link_3 ≥ (t_0.Links.l.length : Int))))))) rfl (by first | rfl | exact hb54) rfl ?_
                  refine o1 (pk_f (by first | rfl | exact hb54)) ?_
                  exact o_join (sub_ren [0] [3, 4, 9, 152] (by decide) rfl (.cons .nil) (Nat.le_of_ble_eq_true rfl))
                · refine onot rfl (by first | rfl | exact hb54) ?_
                  refine onot rfl (by first | rfl | exact hb54) ?_
                  refine onot rfl (by first | rfl | exact hb54) ?_
                  refine onot rfl (by first | rfl | exact hb54) ?_
                  refine onot rfl (by first | rfl | exact hb54) ?_
                  refine o1 (pk_t (by first | rfl | exact hb54)) ?_
                  exact o_join (sub_ren [0] [3, 4, 9, 152] (by decide) rfl (.cons .nil) (Nat.le_of_ble_eq_true rfl))
              · intro s hs55
                refine after_n ?_
                refine W.sub hs55 ?_
                refine w_cond (t := ((decide (link_3 < 0)) || (decide (link_3 ≥ (t_0.Links.l.length : Int))))) rfl (fun hb56 => ?_) (fun hb56 => ?_)
                · have hp := cnd_t hb56 hp
                  refine w_seq ?_
                  obtain ⟨r57, h58, hp⟩ := bnd hp
                  refine w_region ?_
                  refine oc (rs := [.c (.d (.lit (.bool r57)))]) (outs := []) rfl (law17_awake_ok h58) rfl ?_
                  refine o1 rfl ?_
                  refine o_end (e' := [(8, .c (.d (.lit (.bool r57))))]) rfl rfl ?_
                  refine after_n ?_
                  refine w_ret ?_
                  refine after_r ?_
                  obtain rfl := Option.some.inj hp
                  exact leave_at rfl rfl (pr_c p_d pr_nil) pc_nil rfl rfl
                · have hp := cnd_f hb56 hp
                  refine w_skip ?_
                  refine after_n ?_
                  refine w_seq ?_
                  obtain ⟨n59, h60, hp⟩ := bnd hp
                  obtain ⟨n61, h62, hp⟩ := bnd hp
                  obtain ⟨n63, h64, hp⟩ := bnd hp
                  refine w_drawn ?_
                  iterate 4 refine d1 rfl ?_
                  refine d1 (ix_sd h60) ?_
                  iterate 2 refine d1 rfl ?_
                  refine d1 (ix_sd h62) ?_
                  iterate 5 refine d1 rfl ?_
                  refine d1 (ix_sd h60) ?_
                  iterate 2 refine d1 rfl ?_
                  refine d1 (ix_sd h64) ?_
                  iterate 3 refine d1 rfl ?_
                  refine d_fin (e' := [(12, .c (.d (.lit (.int .i64 (gt r16.l n61))))), (13, .c (.d (.lit (.int .i64 (gt r16.l n63)))))]) (n' := 1281) rfl rfl rfl rfl ?_
                  refine after_n ?_
                  refine w_seq ?_
                  obtain ⟨b67, h68, hp⟩ := bnd hp
                  refine w_join (J := fun s => Sub s ⟨[(8, .c (.d (.lit (.bool b67))))], [], 0, []⟩) ?_ ?_
                  · refine w_region ?_
                    iterate 2 refine o1 rfl ?_
                    refine o1 (v := .c (.d (.lit (.int .i64 (wr .i64 ((gt r16.l n61) - (gt r16.l n63))))))) rfl ?_
                    refine o1 (v := .c (.d (.lit (.bool (decide ((wr .i64 ((gt r16.l n61) - (gt r16.l n63))) ≤ 1)))))) rfl ?_
                    refine o1 rfl ?_
                    cases hb69 : (decide ((wr .i64 ((gt r16.l n61) - (gt r16.l n63))) ≤ 1) : Bool)
                    · have h68 := cnd_f hb69 h68
                      refine onot rfl (by first | rfl | exact hb69) ?_
                      refine onot rfl (by first | rfl | exact hb69) ?_
                      refine onot rfl (by first | rfl | exact hb69) ?_
                      refine onot rfl (by first | rfl | exact hb69) ?_
                      refine o1 (pk_f (by first | rfl | exact hb69)) ?_
                      refine o1 rfl ?_
                      iterate 5 refine onot rfl rfl ?_
                      iterate 2 refine o1 rfl ?_
                      refine onot rfl rfl ?_
                      iterate 2 refine o1 rfl ?_
                      cases h68
                      exact o_join (sub_ren [] [8] (by decide) rfl .nil (Nat.le_of_ble_eq_true rfl))
                    · have h68 := cnd_t hb69 h68
                      refine og rfl (by first | rfl | exact hb69) rfl ?_
                      refine og rfl (by first | rfl | exact hb69) rfl ?_
                      refine og (v := .c (.d (.lit (.int .i64 (wr .i64 ((gt r16.l n63) - (gt r16.l n61))))))) rfl (by first | rfl | exact hb69) rfl ?_
                      refine og (v := .c (.d (.lit (.bool (decide ((wr .i64 ((gt r16.l n63) - (gt r16.l n61))) ≤ 1)))))) rfl (by first | rfl | exact hb69) rfl ?_
                      refine o1 (pk_t (by first | rfl | exact hb69)) ?_
                      refine o1 rfl ?_
                      cases hb70 : (decide ((wr .i64 ((gt r16.l n63) - (gt r16.l n61))) ≤ 1) : Bool)
                      · have h68 := cnd_f hb70 h68
                        refine onot rfl (by first | rfl | exact hb70) ?_
                        refine onot rfl (by first | rfl | exact hb70) ?_
                        refine onot rfl (by first | rfl | exact hb70) ?_
                        refine onot rfl (by first | rfl | exact hb70) ?_
                        refine onot rfl (by first | rfl | exact hb70) ?_
                        refine o1 (pk_f (by first | rfl | exact hb70)) ?_
                        refine o1 rfl ?_
                        refine onot rfl rfl ?_
                        iterate 2 refine o1 rfl ?_
                        cases h68
                        exact o_join (sub_ren [] [8] (by decide) rfl .nil (Nat.le_of_ble_eq_true rfl))
                      · have h68 := cnd_t hb70 h68
                        refine og rfl (by first | rfl | exact hb70) rfl ?_
                        refine og (v := .c (.d (.lit (.bool (decide ((gt r16.l n61) < 0)))))) rfl (by first | rfl | exact hb70) rfl ?_
                        refine og rfl (by first | rfl | exact hb70) rfl ?_
                        refine og (v := .c (.d (.lit (.bool (decide ((gt r16.l n63) < 0)))))) rfl (by first | rfl | exact hb70) rfl ?_
                        refine og (v := .c (.d (.lit (.bool ((decide ((gt r16.l n61) < 0)) == (decide ((gt r16.l n63) < 0))))))) rfl (by first | rfl | exact hb70) rfl ?_
                        refine o1 (pk_t (by first | rfl | exact hb70)) ?_
                        refine o1 rfl ?_
                        cases hb71 : (((decide ((gt r16.l n61) < 0)) == (decide ((gt r16.l n63) < 0))) : Bool)
                        · have h68 := cnd_f hb71 h68
                          refine onot rfl (by first | rfl | exact hb71) ?_
                          refine o1 (pk_f (by first | rfl | exact hb71)) ?_
                          refine o1 rfl ?_
                          cases h68
                          exact o_join (sub_ren [] [8] (by decide) rfl .nil (Nat.le_of_ble_eq_true rfl))
                        · have h68 := cnd_t hb71 h68
                          obtain ⟨r65, h66, h68⟩ := bnd h68
                          refine ocg (rs := [.c (.d (.lit (.bool r65)))]) (outs := []) rfl (by first | rfl | exact hb71) rfl (law17_awake_ok h66) rfl ?_
                          refine o1 (pk_t (by first | rfl | exact hb71)) ?_
                          refine o1 rfl ?_
                          cases h68
                          exact o_join (sub_ren [] [8] (by decide) rfl .nil (Nat.le_of_ble_eq_true rfl))
                  · intro s hs72
                    refine after_n ?_
                    refine W.sub hs72 ?_
                    refine w_ret ?_
                    obtain rfl := Option.some.inj hp
                    exact leave_at rfl rfl (pr_c p_d pr_nil) pc_nil rfl rfl
          · exact (sub_ren [0] [1, 2, 3, 4, 9, 10, 11] (by decide) rfl (.cons .nil) (Nat.le_of_ble_eq_true rfl))
          · rintro i33 r hr
            unfold law17_TopoHops_L1 at hr
            refine w_seq ?_
            refine w_seq ?_
            refine w_region ?_
            iterate 2 refine o1 rfl ?_
            refine o1 (v := .c (.d (.lit (.int .i64 (r16.l.length : Int))))) len_sd ?_
            refine o1 (v := .c (.d (.lit (.bool (decide (i33 < (r16.l.length : Int))))))) rfl ?_
            refine o_end (e' := [(1, .c (.d (.lit (.int .i64 sw_1)))), (2, .c (.d (.lit (.int .i64 other_2)))), (3, .c (.d (.lit (.int .i64 link_3)))), (4, .c (.op 0 0)), (9, .c (.d (slD 1 cI_i64 r16))), (10, .c (.d (slD 1 cI_i64 r18))), (11, .c (.d (.lit (.int .i64 i33)))), (82, .c (.d (.lit (.bool (decide (i33 < (r16.l.length : Int)))))))]) rfl rfl ?_
            refine after_n ?_
            refine w_cond (t := decide (i33 < (r16.l.length : Int))) rfl (fun hb37 => ?_) (fun hb37 => ?_)
            · have hr := cnd_t hb37 hr
              refine w_skip ?_
              refine after_n ?_
              refine w_seq ?_
              refine w_block ?_
              refine w_seq ?_
              obtain ⟨n38, h39, hr⟩ := bnd hr
              obtain ⟨b44, h45, hr⟩ := bnd hr
              refine w_join (J := fun s => Sub s ⟨[(1, .c (.d (.lit (.int .i64 sw_1)))), (2, .c (.d (.lit (.int .i64 other_2)))), (3, .c (.d (.lit (.int .i64 link_3)))), (4, .c (.op 0 0)), (9, .c (.d (slD 1 cI_i64 r16))), (10, .c (.d (slD 1 cI_i64 r18))), (11, .c (.d (.lit (.int .i64 i33)))), (143, .c (.d (.lit (.bool b44))))], [(0, some (.box [.d (.lit (.int .i64 t_0.Switches)), .d (slD 6 c_api_Link t_0.Links), .d (slD 2 c_api_Host t_0.Hosts)]))], 1, []⟩) ?_ ?_
              · refine w_drawn ?_
                iterate 2 refine d1 rfl ?_
                refine d1 (ix_sd h39) ?_
                refine d1 rfl ?_
                refine d1 (v := .c (.d (.lit (.bool ((gt r16.l n38) == 0))))) rfl ?_
                iterate 2 refine d1 rfl ?_
                refine d1 (v := .c (.d (.lit (.bool (i33 == sw_1))))) rfl ?_
                refine d1 (v := .c (.d (.lit (.bool (!(((gt r16.l n38) == 0) == (i33 == sw_1))))))) rfl ?_
                refine d1 rfl ?_
                cases hb46 : ((!(((gt r16.l n38) == 0) == (i33 == sw_1))) : Bool)
                · have h45 := cnd_f hb46 h45
                  refine dg rfl (by first | rfl | exact hb46) rfl ?_
                  refine dg rfl (by first | rfl | exact hb46) rfl ?_
                  refine dg rfl (by first | rfl | exact hb46) (ix_sd h39) ?_
                  refine dg rfl (by first | rfl | exact hb46) rfl ?_
                  refine dg (v := .c (.d (.lit (.bool (decide ((gt r16.l n38) < (-1))))))) rfl (by first | rfl | exact hb46) rfl ?_
                  refine d1 (pk_f (by first | rfl | exact hb46)) ?_
                  refine d1 rfl ?_
                  cases hb47 : (decide ((gt r16.l n38) < (-1)) : Bool)
                  · have h45 := cnd_f hb47 h45
                    obtain ⟨n40, h41, h45⟩ := bnd h45
                    refine dg rfl (by first | rfl | exact hb47) rfl ?_
                    refine dg rfl (by first | rfl | exact hb47) rfl ?_
                    refine dg rfl (by first | rfl | exact hb47) (ix_sd h41) ?_
                    refine dg rfl (by first | rfl | exact hb47) rfl ?_
                    refine dg (v := .c (.d (.lit (.bool (decide ((gt r16.l n40) ≥ 0)))))) rfl (by first | rfl | exact hb47) rfl ?_
                    refine dg rfl (by first | rfl | exact hb47) rfl ?_
                    cases hb48 : (decide ((gt r16.l n40) ≥ 0) : Bool)
                    · have h45 := cnd_f hb48 h45
                      refine dnot rfl (by first | rfl | exact hb48) ?_
                      refine dnot rfl (by first | rfl | exact hb48) ?_
                      refine dnot rfl (by first | rfl | exact hb48) ?_
                      refine dnot rfl (by first | rfl | exact hb48) ?_
                      refine dnot rfl (by first | rfl | exact hb48) ?_
                      refine dnot rfl (by first | rfl | exact hb48) ?_
                      refine dnot rfl (by first | rfl | exact hb48) ?_
                      refine dnot rfl (by first | rfl | exact hb48) ?_
                      refine dnot rfl (by first | rfl | exact hb48) ?_
                      refine dnot rfl (by first | rfl | exact hb48) ?_
                      refine dnot rfl (by first | rfl | exact hb48) ?_
                      refine dg rfl (by first | rfl | exact hb47) (pk_f (by first | rfl | exact hb48)) ?_
                      refine d1 (pk_f (by first | rfl | exact hb47)) ?_
                      refine d1 rfl ?_
                      iterate 2 refine dg rfl rfl rfl ?_
                      refine dg rfl rfl (ix_sd h41) ?_
                      refine dg rfl rfl rfl ?_
                      refine dg (v := .c (.d (.lit (.bool (decide ((gt r16.l n40) ≥ 0)))))) rfl rfl rfl ?_
                      refine dg rfl rfl rfl ?_
                      refine dnot rfl (by first | rfl | exact hb48) ?_
                      refine dnot rfl (by first | rfl | exact hb48) ?_
                      refine dnot rfl (by first | rfl | exact hb48) ?_
                      refine dnot rfl (by first | rfl | exact hb48) ?_
                      refine dnot rfl (by first | rfl | exact hb48) ?_
                      refine dnot rfl (by first | rfl | exact hb48) ?_
                      refine dnot rfl (by first | rfl | exact hb48) ?_
                      refine dnot rfl (by first | rfl | exact hb48) ?_
                      refine dnot rfl (by first | rfl | exact hb48) ?_
                      refine dnot rfl (by first | rfl | exact hb48) ?_
                      refine dnot rfl (by first | rfl | exact hb48) ?_
                      refine dnot rfl (by first | rfl | exact hb48) ?_
                      refine dnot rfl (by first | rfl | exact hb48) ?_
                      refine dnot rfl (by first | rfl | exact hb48) ?_
                      refine dg rfl rfl (pk_f (by first | rfl | exact hb48)) ?_
                      refine d1 rfl ?_
                      cases h45
                      exact d_join rfl (sub_ren [0] [1, 2, 3, 4, 9, 10, 11, 143] (by decide) rfl (.cons .nil) (Nat.le_of_ble_eq_true rfl))
                    · have h45 := cnd_t hb48 h45
                      obtain ⟨n42, h43, h45⟩ := bnd h45
                      refine dg rfl (by first | rfl | exact hb48) rfl ?_
                      refine dg rfl (by first | rfl | exact hb48) rfl ?_
                      refine dg rfl (by first | rfl | exact hb48) (ix_sd h39) ?_
                      refine dg rfl (by first | rfl | exact hb48) rfl ?_
                      refine dg (v := .c (.d (.lit (.bool (decide ((gt r16.l n38) < 0)))))) rfl (by first | rfl | exact hb48) rfl ?_
                      refine dg rfl (by first | rfl | exact hb48) rfl ?_
                      refine dg rfl (by first | rfl | exact hb48) rfl ?_
                      refine dg rfl (by first | rfl | exact hb48) (ix_sd h43) ?_
                      refine dg rfl (by first | rfl | exact hb48) rfl ?_
                      refine dg (v := .c (.d (.lit (.bool (decide ((gt r18.l n42) < 0)))))) rfl (by first | rfl | exact hb48) rfl ?_
                      refine dg (v := .c (.d (.lit (.bool (!((decide ((gt r16.l n38) < 0)) == (decide ((gt r18.l n42) < 0)))))))) rfl (by first | rfl | exact hb48) rfl ?_
                      refine dg rfl (by first | rfl | exact hb47) (pk_t (by first | rfl | exact hb48)) ?_
                      refine d1 (pk_f (by first | rfl | exact hb47)) ?_
                      refine d1 rfl ?_
                      cases hb49 : ((!((decide ((gt r16.l n38) < 0)) == (decide ((gt r18.l n42) < 0)))) : Bool)
                      · have h45 := cnd_f hb49 h45
                        refine dg rfl (by first | rfl | exact hb49) rfl ?_
                        refine dg rfl (by first | rfl | exact hb49) rfl ?_
                        refine dg rfl (by first | rfl | exact hb49) (ix_sd h41) ?_
                        refine dg rfl (by first | rfl | exact hb49) rfl ?_
                        refine dg (v := .c (.d (.lit (.bool (decide ((gt r16.l n40) ≥ 0)))))) rfl (by first | rfl | exact hb49) rfl ?_
                        refine dg rfl (by first | rfl | exact hb49) rfl ?_
                        refine dg rfl (by first | rfl | exact hb48) rfl ?_
                        refine dg rfl (by first | rfl | exact hb48) rfl ?_
                        refine dg rfl (by first | rfl | exact hb48) (ix_sd h39) ?_
                        refine dg rfl (by first | rfl | exact hb48) rfl ?_
                        refine dg rfl (by first | rfl | exact hb48) rfl ?_
                        refine dg rfl (by first | rfl | exact hb48) rfl ?_
                        refine dg rfl (by first | rfl | exact hb48) (ix_sd h41) ?_
                        refine dg rfl (by first | rfl | exact hb48) rfl ?_
                        refine dg rfl (by first | rfl | exact hb48) rfl ?_
                        refine dg rfl (by first | rfl | exact hb48) rfl ?_
                        refine dg rfl (by first | rfl | exact hb48) (ix_sd h43) ?_
                        refine dg rfl (by first | rfl | exact hb48) rfl ?_
                        refine dg (v := .c (.d (.lit (.int .i64 (wr .i64 ((gt r16.l n40) + (gt r18.l n42))))))) rfl (by first | rfl | exact hb48) rfl ?_
                        refine dg (v := .c (.d (.lit (.bool (decide ((gt r16.l n38) > (wr .i64 ((gt r16.l n40) + (gt r18.l n42))))))))) rfl (by first | rfl | exact hb48) rfl ?_
                        refine dg rfl (by first | rfl | exact hb49) (pk_t (by first | rfl | exact hb48)) ?_
                        refine d1 (pk_f (by first | rfl | exact hb49)) ?_
                        cases h45
                        exact d_join rfl (sub_ren [0] [1, 2, 3, 4, 9, 10, 11, 143] (by decide) rfl (.cons .nil) (Nat.le_of_ble_eq_true rfl))
                      · have h45 := cnd_t hb49 h45
                        refine dnot rfl (by first | rfl | exact hb49) ?_
                        refine dnot rfl (by first | rfl | exact hb49) ?_
                        refine dnot rfl (by first | rfl | exact hb49) ?_
                        refine dnot rfl (by first | rfl | exact hb49) ?_
                        refine dnot rfl (by first | rfl | exact hb49) ?_
                        refine dnot rfl (by first | rfl | exact hb49) ?_
                        iterate 14 refine dnil rfl ?_
                        refine dnot rfl (by first | rfl | exact hb49) ?_
                        refine d1 (pk_t (by first | rfl | exact hb49)) ?_
                        cases h45
                        exact d_join rfl (sub_ren [0] [1, 2, 3, 4, 9, 10, 11, 143] (by decide) rfl (.cons .nil) (Nat.le_of_ble_eq_true rfl))
                  · have h45 := cnd_t hb47 h45
                    refine dnot rfl (by first | rfl | exact hb47) ?_
                    refine dnot rfl (by first | rfl | exact hb47) ?_
                    refine dnot rfl (by first | rfl | exact hb47) ?_
                    refine dnot rfl (by first | rfl | exact hb47) ?_
                    refine dnot rfl (by first | rfl | exact hb47) ?_
                    refine dnot rfl (by first | rfl | exact hb47) ?_
                    iterate 11 refine dnil rfl ?_
                    refine dnot rfl (by first | rfl | exact hb47) ?_
                    refine d1 (pk_t (by first | rfl | exact hb47)) ?_
                    refine d1 rfl ?_
                    iterate 6 refine dnot rfl rfl ?_
                    iterate 14 refine dnil rfl ?_
                    refine dnot rfl rfl ?_
                    refine d1 rfl ?_
                    cases h45
                    exact d_join rfl (sub_ren [0] [1, 2, 3, 4, 9, 10, 11, 143] (by decide) rfl (.cons .nil) (Nat.le_of_ble_eq_true rfl))
                · have h45 := cnd_t hb46 h45
                  refine dnot rfl (by first | rfl | exact hb46) ?_
                  refine dnot rfl (by first | rfl | exact hb46) ?_
                  refine dnot rfl (by first | rfl | exact hb46) ?_
                  refine dnot rfl (by first | rfl | exact hb46) ?_
                  refine dnot rfl (by first | rfl | exact hb46) ?_
                  refine d1 (pk_t (by first | rfl | exact hb46)) ?_
                  refine d1 rfl ?_
                  iterate 6 refine dnot rfl rfl ?_
                  iterate 11 refine dnil rfl ?_
                  refine dnot rfl rfl ?_
                  iterate 2 refine d1 rfl ?_
                  iterate 6 refine dnot rfl rfl ?_
                  iterate 14 refine dnil rfl ?_
                  refine dnot rfl rfl ?_
                  refine d1 rfl ?_
                  cases h45
                  exact d_join rfl (sub_ren [0] [1, 2, 3, 4, 9, 10, 11, 143] (by decide) rfl (.cons .nil) (Nat.le_of_ble_eq_true rfl))
              · intro s hs50
                refine after_n ?_
                refine W.sub hs50 ?_
                refine w_cond (t := b44) rfl (fun hb51 => ?_) (fun hb51 => ?_)
                · have hr := cnd_t hb51 hr
                  refine w_seq ?_
                  refine w_region ?_
                  refine o1 rfl ?_
                  refine o_end (e' := [(8, .c (.d (.lit (.bool false))))]) rfl rfl ?_
                  refine after_n ?_
                  refine w_ret ?_
                  refine out_r ?_
                  refine after_r ?_
                  obtain rfl := Option.some.inj hr
                  exact And.intro nofun (And.intro rfl (sub_ren [] [8] (by decide) rfl .nil (Nat.le_of_ble_eq_true rfl)))
                · have hr := cnd_f hb51 hr
                  refine w_skip ?_
                  refine out_n ?_
                  refine after_n ?_
                  refine w_region ?_
                  refine o1 rfl ?_
                  refine o1 (v := .c (.d (.lit (.int .i64 (wr .i64 (i33 + 1)))))) rfl ?_
                  refine o1 rfl ?_
                  refine o_end (e' := [(1, .c (.d (.lit (.int .i64 sw_1)))), (2, .c (.d (.lit (.int .i64 other_2)))), (3, .c (.d (.lit (.int .i64 link_3)))), (4, .c (.op 0 0)), (9, .c (.d (slD 1 cI_i64 r16))), (10, .c (.d (slD 1 cI_i64 r18))), (11, .c (.d (.lit (.int .i64 (wr .i64 (i33 + 1))))))]) rfl rfl ?_
                  obtain rfl := Option.some.inj hr
                  exact And.intro rfl (sub_ren [0] [1, 2, 3, 4, 9, 10, 11] (by decide) rfl (.cons .nil) (Nat.le_of_ble_eq_true rfl))
            · have hr := cnd_f hb37 hr
              refine w_exit ?_
              refine after_e ?_
              obtain rfl := Option.some.inj hr
              exact And.intro nofun (And.intro rfl (sub_ren [0] [3, 4, 9] (by decide) rfl (.cons .nil) (Nat.le_of_ble_eq_true rfl)))

/- turnout/turnoutref17.Peer -/
def k41 : CC :=
  (.seq
  (.region [
    ⟨some 3, .box, [(.tmp 0)], none⟩,
    ⟨some 6, .mv, [(.const (.int .i64 0))], none⟩,
    ⟨some 7, .mv, [(.const (.int .i64 0))], none⟩,
    ⟨some 8, .mv, [(.const (.int .i64 0))], none⟩,
    ⟨some 9, .mv, [(.const (.bool false))], none⟩] [1, 2, 3])
  (.seq
  (.seq
  (.region [
    ⟨some 10, .mv, [(.const (.int .i64 0))], none⟩] [1, 2, 3, 10])
  (.block 0
    (.loop [1, 2, 3, 10]
      (.seq
      (.seq
      (.region [
        ⟨some 12, .mv, [(.tmp 10)], none⟩,
        ⟨some 13, (.fieldAddr 1), [(.tmp 3)], none⟩,
        ⟨some 14, (.load false 1), [(.tmp 13)], none⟩,
        ⟨some 15, (.len false), [(.tmp 14)], none⟩,
        ⟨some 16, (.bin .lss), [(.tmp 12), (.tmp 15)], none⟩] [1, 2, 3, 10, 16])
      (.cond (.tmp 16)
        .skip
        (.exit 0)))
      (.seq
      (.block 1
        (.seq
        (.region [
          ⟨some 19, (.fieldAddr 1), [(.tmp 3)], none⟩,
          ⟨some 20, (.load false 1), [(.tmp 19)], none⟩,
          ⟨some 21, .mv, [(.tmp 10)], none⟩,
          ⟨some 22, (.indexAddr none 6), [(.tmp 20), (.tmp 21)], none⟩,
          ⟨some 23, (.load true 6), [(.tmp 22)], none⟩,
          ⟨some 11, (.alloc [(.int .i64 0), (.int .i64 0), (.int .i64 0), (.int .i64 0), (.int .i64 0), (.int .i64 0)]), [], none⟩,
          ⟨none, (.store 6), [(.tmp 11), (.tmp 23)], none⟩] [1, 2, 3, 10, 11])
        (.seq
        (.seq
        (.region [
          ⟨some 24, (.fieldAddr 0), [(.tmp 11)], none⟩,
          ⟨some 25, (.load false 1), [(.tmp 24)], none⟩,
          ⟨some 26, .mv, [(.tmp 1)], none⟩,
          ⟨some 27, (.bin .eql), [(.tmp 25), (.tmp 26)], none⟩,
          ⟨some 28, .mv, [(.tmp 27)], none⟩,
          ⟨some 29, (.fieldAddr 1), [(.tmp 11)], (some (28, true))⟩,
          ⟨some 30, (.load false 1), [(.tmp 29)], (some (28, true))⟩,
          ⟨some 31, .mv, [(.tmp 2)], (some (28, true))⟩,
          ⟨some 32, (.bin .eql), [(.tmp 30), (.tmp 31)], (some (28, true))⟩,
          ⟨some 33, .pick, [(.tmp 28), (.tmp 32), (.const (.bool false))], none⟩] [1, 2, 3, 10, 11, 33])
        (.cond (.tmp 33)
          (.seq
          (.drawn [
            ⟨some 34, (.fieldAddr 2), [(.tmp 11)], none⟩,
            ⟨some 35, (.load false 1), [(.tmp 34)], none⟩,
            ⟨some 36, (.fieldAddr 3), [(.tmp 11)], none⟩,
            ⟨some 37, (.load false 1), [(.tmp 36)], none⟩,
            ⟨some 38, .mv, [(.tmp 10)], none⟩,
            ⟨some 6, .mv, [(.tmp 35)], none⟩,
            ⟨some 7, .mv, [(.tmp 37)], none⟩,
            ⟨some 8, .mv, [(.tmp 38)], none⟩,
            ⟨some 9, .mv, [(.const (.bool true))], none⟩] [] [6, 7, 8, 9])
          .ret)
          .skip))
        (.seq
        (.region [
          ⟨some 39, (.fieldAddr 2), [(.tmp 11)], none⟩,
          ⟨some 40, (.load false 1), [(.tmp 39)], none⟩,
          ⟨some 41, .mv, [(.tmp 1)], none⟩,
          ⟨some 42, (.bin .eql), [(.tmp 40), (.tmp 41)], none⟩,
          ⟨some 43, .mv, [(.tmp 42)], none⟩,
          ⟨some 44, (.fieldAddr 3), [(.tmp 11)], (some (43, true))⟩,
          ⟨some 45, (.load false 1), [(.tmp 44)], (some (43, true))⟩,
          ⟨some 46, .mv, [(.tmp 2)], (some (43, true))⟩,
          ⟨some 47, (.bin .eql), [(.tmp 45), (.tmp 46)], (some (43, true))⟩,
          ⟨some 48, .pick, [(.tmp 43), (.tmp 47), (.const (.bool false))], none⟩] [1, 2, 3, 10, 11, 48])
        (.cond (.tmp 48)
          (.seq
          (.drawn [
            ⟨some 49, (.fieldAddr 0), [(.tmp 11)], none⟩,
            ⟨some 50, (.load false 1), [(.tmp 49)], none⟩,
            ⟨some 51, (.fieldAddr 1), [(.tmp 11)], none⟩,
            ⟨some 52, (.load false 1), [(.tmp 51)], none⟩,
            ⟨some 53, .mv, [(.tmp 10)], none⟩,
            ⟨some 6, .mv, [(.tmp 50)], none⟩,
            ⟨some 7, .mv, [(.tmp 52)], none⟩,
            ⟨some 8, .mv, [(.tmp 53)], none⟩,
            ⟨some 9, .mv, [(.const (.bool true))], none⟩] [] [6, 7, 8, 9])
          .ret)
          .skip)))))
      (.region [
        ⟨some 17, .mv, [(.tmp 10)], none⟩,
        ⟨some 18, (.bin .add), [(.tmp 17), (.const (.int .i64 1))], none⟩,
        ⟨some 10, .mv, [(.tmp 18)], none⟩] [1, 2, 3, 10]))))))
  (.seq
  (.region [
    ⟨some 6, .mv, [(.const (.int .i64 0))], none⟩,
    ⟨some 7, .mv, [(.const (.int .i64 0))], none⟩,
    ⟨some 8, .mv, [(.const (.int .i64 0))], none⟩,
    ⟨some 9, .mv, [(.const (.bool false))], none⟩] [6, 7, 8, 9])
  .ret)))
def f41 : Ev.Fn := ⟨3, 54, [.tmp 6, .tmp 7, .tmp 8, .tmp 9], k41⟩
set_option maxRecDepth 100000 in
theorem e41 : compFn prog sig 41 3 [[1, 2, 3], [1, 2, 3, 10], [1, 2, 3, 10], [1, 2, 3, 10, 16], [1, 2, 3, 10, 11], [1, 2, 3, 10, 11, 33], [6, 7, 8, 9], [1, 2, 3, 10, 11, 48], [6, 7, 8, 9], [1, 2, 3, 10], [6, 7, 8, 9]] = some f41 := by kernel_rfl
noncomputable def ref17_Peer_L1 (t_0 : api_Topo) (sw_1 : Int) (p_2 : Int) : Int → Option (Sum (Int) (Sum ((Int × Int × Int)) (Unit))) := fun i1 =>
  bif decide (i1 < (t_0.Links.l.length : Int)) then ((ixI i1 t_0.Links.l.length).bind fun n9 =>
  bif ((((gt t_0.Links.l n9).A) == sw_1) && (((gt t_0.Links.l n9).PortA) == p_2)) then (some (.inr (.inl ((gt t_0.Links.l n9).B, (gt t_0.Links.l n9).PortB, i1)))) else
  (bif ((((gt t_0.Links.l n9).B) == sw_1) && (((gt t_0.Links.l n9).PortB) == p_2)) then (some (.inr (.inl ((gt t_0.Links.l n9).A, (gt t_0.Links.l n9).PortA, i1)))) else
  (some (.inl (wr .i64 (i1 + 1)))))) else
  (some (.inr (.inr ())))

noncomputable def ref17_Peer (t_0 : api_Topo) (sw_1 : Int) (p_2 : Int) : Option ((Int × Int × Int × Bool)) :=
  (loopO (ref17_Peer_L1 t_0 sw_1 p_2) 0).bind fun
  | .inl (i3, i4, i5) => (some (i3, i4, i5, true))
  | .inr (_) => (some (0, 0, 0, false))
theorem ref17_Peer_ok {t_0 : api_Topo} {sw_1 : Int} {p_2 : Int} {z : (Int × Int × Int × Bool)} (hp : ref17_Peer t_0 sw_1 p_2 = some z) : Good prog 41 [.agg (c_api_Topo t_0), .d (.lit (.int .i64 sw_1)), .d (.lit (.int .i64 p_2))] [.c (.d (.lit (.int .i64 z.1))), .c (.d (.lit (.int .i64 z.2.1))), .c (.d (.lit (.int .i64 z.2.2.1))), .c (.d (.lit (.bool z.2.2.2)))] [] := by
  unfold ref17_Peer at hp
  refine fn_good mixed e41 (fnS (m := [false, false, false, false]) (s := ⟨[(0, .agg [.d (.lit (.int .i64 t_0.Switches)), .d (slD 6 c_api_Link t_0.Links), .d (slD 2 c_api_Host t_0.Hosts)]), (1, .c (.d (.lit (.int .i64 sw_1)))), (2, .c (.d (.lit (.int .i64 p_2))))], [], 0, []⟩) (len := 0) (c := k41) rfl (Sub.of_eq rfl) rfl rfl ?_)
  refine w_seq ?_
  refine w_region ?_
  refine o2 rfl ?_
  iterate 4 refine o1 rfl ?_
  refine o_end (e' := [(1, .c (.d (.lit (.int .i64 sw_1)))), (2, .c (.d (.lit (.int .i64 p_2)))), (3, .c (.op 0 0))]) rfl rfl ?_
  refine after_n ?_
  refine w_seq ?_
  refine w_seq ?_
  refine w_region ?_
  refine o1 rfl ?_
  refine o_end (e' := [(1, .c (.d (.lit (.int .i64 sw_1)))), (2, .c (.d (.lit (.int .i64 p_2)))), (3, .c (.op 0 0)), (10, .c (.d (.lit (.int .i64 0))))]) rfl rfl ?_
  refine after_n ?_
  refine w_block ?_
  obtain ⟨x6, h7, hp⟩ := bnd hp
  refine W.mono ?_ (w_loopS (st := fun (v : Int) => match v with | i1 => ⟨[(1, .c (.d (.lit (.int .i64 sw_1)))), (2, .c (.d (.lit (.int .i64 p_2)))), (3, .c (.op 0 0)), (10, .c (.d (.lit (.int .i64 i1))))], [(0, some (.box [.d (.lit (.int .i64 t_0.Switches)), .d (slD 6 c_api_Link t_0.Links), .d (slD 2 c_api_Host t_0.Hosts)]))], 1, []⟩) (a := 0) (Q := Jn (fun (x : Sum ((Int × Int × Int)) (Unit)) o s => match x with | .inl (i3, i4, i5) => o = Out.ret ∧ Sub s ⟨[(6, .c (.d (.lit (.int .i64 i3)))), (7, .c (.d (.lit (.int .i64 i4)))), (8, .c (.d (.lit (.int .i64 i5)))), (9, .c (.d (.lit (.bool true))))], [], 0, []⟩ | .inr (_) => o = Out.exit 0 ∧ Sub s ⟨[], [], 0, []⟩)) ?_ h7 ?_)
  · intro o s hs19
    rcases x6 with (⟨i3, i4, i5⟩ | _)
    · obtain ⟨rfl, hs19⟩ := hs19
      refine out_r ?_
      refine after_r ?_
      obtain rfl := Option.some.inj hp
      refine wk.sub hs19 ?_
      exact leave_at rfl rfl (pr_c p_d (pr_c p_d (pr_c p_d (pr_c p_d pr_nil)))) pc_nil rfl rfl
    · obtain ⟨rfl, hs19⟩ := hs19
      refine out_e ?_
      refine after_n ?_
      refine W.sub hs19 ?_
      refine w_seq ?_
      refine w_region ?_
      iterate 4 refine o1 rfl ?_
      refine o_end (e' := [(6, .c (.d (.lit (.int .i64 0)))), (7, .c (.d (.lit (.int .i64 0)))), (8, .c (.d (.lit (.int .i64 0)))), (9, .c (.d (.lit (.bool false))))]) rfl rfl ?_
      refine after_n ?_
      refine w_ret ?_
      obtain rfl := Option.some.inj hp
      exact leave_at rfl rfl (pr_c p_d (pr_c p_d (pr_c p_d (pr_c p_d pr_nil)))) pc_nil rfl rfl
  · exact (sub_ren [0] [1, 2, 3, 10] (by decide) rfl (.cons .nil) (Nat.le_of_ble_eq_true rfl))
  · rintro i1 r hr
    unfold ref17_Peer_L1 at hr
    refine w_seq ?_
    refine w_seq ?_
    refine w_region ?_
    iterate 3 refine o1 rfl ?_
    refine o1 (v := .c (.d (.lit (.int .i64 (t_0.Links.l.length : Int))))) len_sd ?_
    refine o1 (v := .c (.d (.lit (.bool (decide (i1 < (t_0.Links.l.length : Int))))))) rfl ?_
    refine o_end (e' := [(1, .c (.d (.lit (.int .i64 sw_1)))), (2, .c (.d (.lit (.int .i64 p_2)))), (3, .c (.op 0 0)), (10, .c (.d (.lit (.int .i64 i1)))), (16, .c (.d (.lit (.bool (decide (i1 < (t_0.Links.l.length : Int)))))))]) rfl rfl ?_
    refine after_n ?_
    refine w_cond (t := decide (i1 < (t_0.Links.l.length : Int))) rfl (fun hb8 => ?_) (fun hb8 => ?_)
    · have hr := cnd_t hb8 hr
      refine w_skip ?_
      refine after_n ?_
      refine w_seq ?_
      refine w_block ?_
      refine w_seq ?_
      obtain ⟨n9, h10, hr⟩ := bnd hr
      refine w_region ?_
      iterate 3 refine o1 rfl ?_
      refine o1 (ix_sd h10) ?_
      refine o1 rfl ?_
      refine o2 rfl ?_
      refine o0 rfl ?_
      refine o_end (e' := [(1, .c (.d (.lit (.int .i64 sw_1)))), (2, .c (.d (.lit (.int .i64 p_2)))), (3, .c (.op 0 0)), (10, .c (.d (.lit (.int .i64 i1)))), (11, .c (.op 1 0))]) rfl rfl ?_
      refine after_n ?_
      refine w_seq ?_
      refine w_seq ?_
      refine w_join (J := fun s => Sub s ⟨[(1, .c (.d (.lit (.int .i64 sw_1)))), (2, .c (.d (.lit (.int .i64 p_2)))), (3, .c (.op 0 0)), (10, .c (.d (.lit (.int .i64 i1)))), (11, .c (.op 1 0)), (33, .c (.d (.lit (.bool ((((gt t_0.Links.l n9).A) == sw_1) && (((gt t_0.Links.l n9).PortA) == p_2))))))], [(0, some (.box [.d (.lit (.int .i64 t_0.Switches)), .d (slD 6 c_api_Link t_0.Links), .d (slD 2 c_api_Host t_0.Hosts)])), (1, some (.box [.d (.lit (.int .i64 ((gt t_0.Links.l n9).A))), .d (.lit (.int .i64 ((gt t_0.Links.l n9).PortA))), .d (.lit (.int .i64 ((gt t_0.Links.l n9).B))), .d (.lit (.int .i64 ((gt t_0.Links.l n9).PortB))), .d (.lit (.int .i64 ((gt t_0.Links.l n9).Least))), .d (.lit (.int .i64 ((gt t_0.Links.l n9).Most)))]))], 2, []⟩) ?_ ?_
      · refine w_region ?_
        iterate 3 refine o1 rfl ?_
        refine o1 (v := .c (.d (.lit (.bool (((gt t_0.Links.l n9).A) == sw_1))))) rfl ?_
        refine o1 rfl ?_
        cases hb12 : ((((gt t_0.Links.l n9).A) == sw_1) : Bool)
        · refine onot rfl (by first | rfl | exact hb12) ?_
          refine onot rfl (by first | rfl | exact hb12) ?_
          refine onot rfl (by first | rfl | exact hb12) ?_
          refine onot rfl (by first | rfl | exact hb12) ?_
          refine o1 (pk_f (by first | rfl | exact hb12)) ?_
          exact o_join (sub_ren [0, 1] [1, 2, 3, 10, 11, 33] (by decide) rfl (.cons (.cons .nil)) (Nat.le_of_ble_eq_true rfl))
        · refine og rfl (by first | rfl | exact hb12) rfl ?_
          refine og rfl (by first | rfl | exact hb12) rfl ?_
          refine og rfl (by first | rfl | exact hb12) rfl ?_
          refine og (v := .c (.d (.lit (.bool (((gt t_0.Links.l n9).PortA) == p_2))))) rfl (by first | rfl | exact hb12) rfl ?_
          refine o1 (pk_t (by first | rfl | exact hb12)) ?_
          exact o_join (sub_ren [0, 1] [1, 2, 3, 10, 11, 33] (by decide) rfl (.cons (.cons .nil)) (Nat.le_of_ble_eq_true rfl))
      · intro s hs13
        refine after_n ?_
        refine W.sub hs13 ?_
        refine w_cond (t := ((((gt t_0.Links.l n9).A) == sw_1) && (((gt t_0.Links.l n9).PortA) == p_2))) rfl (fun hb14 => ?_) (fun hb14 => ?_)
        · have hr := cnd_t hb14 hr
          refine w_seq ?_
          refine w_drawn ?_
          iterate 9 refine d1 rfl ?_
          refine d_fin (e' := [(6, .c (.d (.lit (.int .i64 ((gt t_0.Links.l n9).B))))), (7, .c (.d (.lit (.int .i64 ((gt t_0.Links.l n9).PortB))))), (8, .c (.d (.lit (.int .i64 i1)))), (9, .c (.d (.lit (.bool true))))]) (n' := 578) rfl rfl rfl rfl ?_
          refine after_n ?_
          refine w_ret ?_
          refine after_r ?_
          refine out_r ?_
          refine after_r ?_
          obtain rfl := Option.some.inj hr
          exact And.intro nofun (And.intro rfl (sub_ren [] [6, 7, 8, 9] (by decide) rfl .nil (Nat.le_of_ble_eq_true rfl)))
        · have hr := cnd_f hb14 hr
          refine w_skip ?_
          refine after_n ?_
          refine w_seq ?_
          refine w_join (J := fun s => Sub s ⟨[(1, .c (.d (.lit (.int .i64 sw_1)))), (2, .c (.d (.lit (.int .i64 p_2)))), (3, .c (.op 0 0)), (10, .c (.d (.lit (.int .i64 i1)))), (11, .c (.op 1 0)), (48, .c (.d (.lit (.bool ((((gt t_0.Links.l n9).B) == sw_1) && (((gt t_0.Links.l n9).PortB) == p_2))))))], [(0, some (.box [.d (.lit (.int .i64 t_0.Switches)), .d (slD 6 c_api_Link t_0.Links), .d (slD 2 c_api_Host t_0.Hosts)])), (1, some (.box [.d (.lit (.int .i64 ((gt t_0.Links.l n9).A))), .d (.lit (.int .i64 ((gt t_0.Links.l n9).PortA))), .d (.lit (.int .i64 ((gt t_0.Links.l n9).B))), .d (.lit (.int .i64 ((gt t_0.Links.l n9).PortB))), .d (.lit (.int .i64 ((gt t_0.Links.l n9).Least))), .d (.lit (.int .i64 ((gt t_0.Links.l n9).Most)))]))], 2, []⟩) ?_ ?_
          · refine w_region ?_
            iterate 3 refine o1 rfl ?_
            refine o1 (v := .c (.d (.lit (.bool (((gt t_0.Links.l n9).B) == sw_1))))) rfl ?_
            refine o1 rfl ?_
            cases hb16 : ((((gt t_0.Links.l n9).B) == sw_1) : Bool)
            · refine onot rfl (by first | rfl | exact hb16) ?_
              refine onot rfl (by first | rfl | exact hb16) ?_
              refine onot rfl (by first | rfl | exact hb16) ?_
              refine onot rfl (by first | rfl | exact hb16) ?_
              refine o1 (pk_f (by first | rfl | exact hb16)) ?_
              exact o_join (sub_ren [0, 1] [1, 2, 3, 10, 11, 48] (by decide) rfl (.cons (.cons .nil)) (Nat.le_of_ble_eq_true rfl))
            · refine og rfl (by first | rfl | exact hb16) rfl ?_
              refine og rfl (by first | rfl | exact hb16) rfl ?_
              refine og rfl (by first | rfl | exact hb16) rfl ?_
              refine og (v := .c (.d (.lit (.bool (((gt t_0.Links.l n9).PortB) == p_2))))) rfl (by first | rfl | exact hb16) rfl ?_
              refine o1 (pk_t (by first | rfl | exact hb16)) ?_
              exact o_join (sub_ren [0, 1] [1, 2, 3, 10, 11, 48] (by decide) rfl (.cons (.cons .nil)) (Nat.le_of_ble_eq_true rfl))
          · intro s hs17
            refine after_n ?_
            refine W.sub hs17 ?_
            refine w_cond (t := ((((gt t_0.Links.l n9).B) == sw_1) && (((gt t_0.Links.l n9).PortB) == p_2))) rfl (fun hb18 => ?_) (fun hb18 => ?_)
            · have hr := cnd_t hb18 hr
              refine w_seq ?_
              refine w_drawn ?_
              iterate 9 refine d1 rfl ?_
              refine d_fin (e' := [(6, .c (.d (.lit (.int .i64 ((gt t_0.Links.l n9).A))))), (7, .c (.d (.lit (.int .i64 ((gt t_0.Links.l n9).PortA))))), (8, .c (.d (.lit (.int .i64 i1)))), (9, .c (.d (.lit (.bool true))))]) (n' := 578) rfl rfl rfl rfl ?_
              refine after_n ?_
              refine w_ret ?_
              refine out_r ?_
              refine after_r ?_
              obtain rfl := Option.some.inj hr
              exact And.intro nofun (And.intro rfl (sub_ren [] [6, 7, 8, 9] (by decide) rfl .nil (Nat.le_of_ble_eq_true rfl)))
            · have hr := cnd_f hb18 hr
              refine w_skip ?_
              refine out_n ?_
              refine after_n ?_
              refine w_region ?_
              refine o1 rfl ?_
              refine o1 (v := .c (.d (.lit (.int .i64 (wr .i64 (i1 + 1)))))) rfl ?_
              refine o1 rfl ?_
              refine o_end (e' := [(1, .c (.d (.lit (.int .i64 sw_1)))), (2, .c (.d (.lit (.int .i64 p_2)))), (3, .c (.op 0 0)), (10, .c (.d (.lit (.int .i64 (wr .i64 (i1 + 1))))))]) rfl rfl ?_
              obtain rfl := Option.some.inj hr
              exact And.intro rfl (sub_ren [0] [1, 2, 3, 10] (by decide) rfl (.cons .nil) (Nat.le_of_ble_eq_true rfl))
    · have hr := cnd_f hb8 hr
      refine w_exit ?_
      refine after_e ?_
      obtain rfl := Option.some.inj hr
      exact And.intro nofun (And.intro rfl (sub_ren [] [] (by decide) rfl .nil (Nat.le_of_ble_eq_true rfl)))

/- turnout/turnoutref17.HostAt -/
def k42 : CC :=
  (.seq
  (.region [
    ⟨some 3, .box, [(.tmp 0)], none⟩,
    ⟨some 6, .mv, [(.const (.int .i64 0))], none⟩] [1, 2, 3])
  (.seq
  (.seq
  (.region [
    ⟨some 7, .mv, [(.const (.int .i64 0))], none⟩] [1, 2, 3, 7])
  (.block 0
    (.loop [1, 2, 3, 7]
      (.seq
      (.seq
      (.region [
        ⟨some 8, .mv, [(.tmp 7)], none⟩,
        ⟨some 9, (.fieldAddr 2), [(.tmp 3)], none⟩,
        ⟨some 10, (.load false 1), [(.tmp 9)], none⟩,
        ⟨some 11, (.len false), [(.tmp 10)], none⟩,
        ⟨some 12, (.bin .lss), [(.tmp 8), (.tmp 11)], none⟩] [1, 2, 3, 7, 12])
      (.cond (.tmp 12)
        .skip
        (.exit 0)))
      (.seq
      (.block 1
        (.seq
        (.region [
          ⟨some 15, (.fieldAddr 2), [(.tmp 3)], none⟩,
          ⟨some 16, (.load false 1), [(.tmp 15)], none⟩,
          ⟨some 17, .mv, [(.tmp 7)], none⟩,
          ⟨some 18, (.indexAddr none 2), [(.tmp 16), (.tmp 17)], none⟩,
          ⟨some 19, (.fieldAddr 0), [(.tmp 18)], none⟩,
          ⟨some 20, (.load false 1), [(.tmp 19)], none⟩,
          ⟨some 21, .mv, [(.tmp 1)], none⟩,
          ⟨some 22, (.bin .eql), [(.tmp 20), (.tmp 21)], none⟩,
          ⟨some 23, .mv, [(.tmp 22)], none⟩,
          ⟨some 24, (.fieldAddr 2), [(.tmp 3)], (some (23, true))⟩,
          ⟨some 25, (.load false 1), [(.tmp 24)], (some (23, true))⟩,
          ⟨some 26, .mv, [(.tmp 7)], (some (23, true))⟩,
          ⟨some 27, (.indexAddr none 2), [(.tmp 25), (.tmp 26)], (some (23, true))⟩,
          ⟨some 28, (.fieldAddr 1), [(.tmp 27)], (some (23, true))⟩,
          ⟨some 29, (.load false 1), [(.tmp 28)], (some (23, true))⟩,
          ⟨some 30, .mv, [(.tmp 2)], (some (23, true))⟩,
          ⟨some 31, (.bin .eql), [(.tmp 29), (.tmp 30)], (some (23, true))⟩,
          ⟨some 32, .pick, [(.tmp 23), (.tmp 31), (.const (.bool false))], none⟩] [1, 2, 3, 7, 32])
        (.cond (.tmp 32)
          (.seq
          (.region [
            ⟨some 33, .mv, [(.tmp 7)], none⟩,
            ⟨some 6, .mv, [(.tmp 33)], none⟩] [6])
          .ret)
          .skip)))
      (.region [
        ⟨some 13, .mv, [(.tmp 7)], none⟩,
        ⟨some 14, (.bin .add), [(.tmp 13), (.const (.int .i64 1))], none⟩,
        ⟨some 7, .mv, [(.tmp 14)], none⟩] [1, 2, 3, 7]))))))
  (.seq
  (.region [
    ⟨some 6, .mv, [(.const (.int .i64 (-1)))], none⟩] [6])
  .ret)))
def f42 : Ev.Fn := ⟨3, 34, [.tmp 6], k42⟩
set_option maxRecDepth 100000 in
theorem e42 : compFn prog sig 42 3 [[1, 2, 3], [1, 2, 3, 7], [1, 2, 3, 7], [1, 2, 3, 7, 12], [1, 2, 3, 7, 32], [6], [1, 2, 3, 7], [6]] = some f42 := by kernel_rfl
noncomputable def ref17_HostAt_L1 (t_0 : api_Topo) (sw_1 : Int) (p_2 : Int) : Int → Option (Sum (Int) (Sum (Int) (Unit))) := fun i1 =>
  bif decide (i1 < (t_0.Hosts.l.length : Int)) then ((ixI i1 t_0.Hosts.l.length).bind fun n7 =>
  bif ((((gt t_0.Hosts.l n7).At) == sw_1) && (((gt t_0.Hosts.l n7).Port) == p_2)) then (some (.inr (.inl i1))) else
  (some (.inl (wr .i64 (i1 + 1))))) else
  (some (.inr (.inr ())))

noncomputable def ref17_HostAt (t_0 : api_Topo) (sw_1 : Int) (p_2 : Int) : Option (Int) :=
  (loopO (ref17_HostAt_L1 t_0 sw_1 p_2) 0).bind fun
  | .inl i3 => (some i3)
  | .inr (_) => (some (-1))
theorem ref17_HostAt_ok {t_0 : api_Topo} {sw_1 : Int} {p_2 : Int} {z : Int} (hp : ref17_HostAt t_0 sw_1 p_2 = some z) : Good prog 42 [.agg (c_api_Topo t_0), .d (.lit (.int .i64 sw_1)), .d (.lit (.int .i64 p_2))] [.c (.d (.lit (.int .i64 z)))] [] := by
  unfold ref17_HostAt at hp
  refine fn_good mixed e42 (fnS (m := [false]) (s := ⟨[(0, .agg [.d (.lit (.int .i64 t_0.Switches)), .d (slD 6 c_api_Link t_0.Links), .d (slD 2 c_api_Host t_0.Hosts)]), (1, .c (.d (.lit (.int .i64 sw_1)))), (2, .c (.d (.lit (.int .i64 p_2))))], [], 0, []⟩) (len := 0) (c := k42) rfl (Sub.of_eq rfl) rfl rfl ?_)
  refine w_seq ?_
  refine w_region ?_
  refine o2 rfl ?_
  refine o1 rfl ?_
  refine o_end (e' := [(1, .c (.d (.lit (.int .i64 sw_1)))), (2, .c (.d (.lit (.int .i64 p_2)))), (3, .c (.op 0 0))]) rfl rfl ?_
  refine after_n ?_
  refine w_seq ?_
  refine w_seq ?_
  refine w_region ?_
  refine o1 rfl ?_
  refine o_end (e' := [(1, .c (.d (.lit (.int .i64 sw_1)))), (2, .c (.d (.lit (.int .i64 p_2)))), (3, .c (.op 0 0)), (7, .c (.d (.lit (.int .i64 0))))]) rfl rfl ?_
  refine after_n ?_
  refine w_block ?_
  obtain ⟨x4, h5, hp⟩ := bnd hp
  refine W.mono ?_ (w_loopS (st := fun (v : Int) => match v with | i1 => ⟨[(1, .c (.d (.lit (.int .i64 sw_1)))), (2, .c (.d (.lit (.int .i64 p_2)))), (3, .c (.op 0 0)), (7, .c (.d (.lit (.int .i64 i1))))], [(0, some (.box [.d (.lit (.int .i64 t_0.Switches)), .d (slD 6 c_api_Link t_0.Links), .d (slD 2 c_api_Host t_0.Hosts)]))], 1, []⟩) (a := 0) (Q := Jn (fun (x : Sum (Int) (Unit)) o s => match x with | .inl i3 => o = Out.ret ∧ Sub s ⟨[(6, .c (.d (.lit (.int .i64 i3))))], [], 0, []⟩ | .inr (_) => o = Out.exit 0 ∧ Sub s ⟨[], [], 0, []⟩)) ?_ h5 ?_)
  · intro o s hs13
    rcases x4 with (i3 | _)
    · obtain ⟨rfl, hs13⟩ := hs13
      refine out_r ?_
      refine after_r ?_
      obtain rfl := Option.some.inj hp
      refine wk.sub hs13 ?_
      exact leave_at rfl rfl (pr_c p_d pr_nil) pc_nil rfl rfl
    · obtain ⟨rfl, hs13⟩ := hs13
      refine out_e ?_
      refine after_n ?_
      refine W.sub hs13 ?_
      refine w_seq ?_
      refine w_region ?_
      refine o1 rfl ?_
      refine o_end (e' := [(6, .c (.d (.lit (.int .i64 (-1)))))]) rfl rfl ?_
      refine after_n ?_
      refine w_ret ?_
      obtain rfl := Option.some.inj hp
      exact leave_at rfl rfl (pr_c p_d pr_nil) pc_nil rfl rfl
  · exact (sub_ren [0] [1, 2, 3, 7] (by decide) rfl (.cons .nil) (Nat.le_of_ble_eq_true rfl))
  · rintro i1 r hr
    unfold ref17_HostAt_L1 at hr
    refine w_seq ?_
    refine w_seq ?_
    refine w_region ?_
    iterate 3 refine o1 rfl ?_
    refine o1 (v := .c (.d (.lit (.int .i64 (t_0.Hosts.l.length : Int))))) len_sd ?_
    refine o1 (v := .c (.d (.lit (.bool (decide (i1 < (t_0.Hosts.l.length : Int))))))) rfl ?_
    refine o_end (e' := [(1, .c (.d (.lit (.int .i64 sw_1)))), (2, .c (.d (.lit (.int .i64 p_2)))), (3, .c (.op 0 0)), (7, .c (.d (.lit (.int .i64 i1)))), (12, .c (.d (.lit (.bool (decide (i1 < (t_0.Hosts.l.length : Int)))))))]) rfl rfl ?_
    refine after_n ?_
    refine w_cond (t := decide (i1 < (t_0.Hosts.l.length : Int))) rfl (fun hb6 => ?_) (fun hb6 => ?_)
    · have hr := cnd_t hb6 hr
      refine w_skip ?_
      refine after_n ?_
      refine w_seq ?_
      refine w_block ?_
      refine w_seq ?_
      obtain ⟨n7, h8, hr⟩ := bnd hr
      refine w_join (J := fun s => Sub s ⟨[(1, .c (.d (.lit (.int .i64 sw_1)))), (2, .c (.d (.lit (.int .i64 p_2)))), (3, .c (.op 0 0)), (7, .c (.d (.lit (.int .i64 i1)))), (32, .c (.d (.lit (.bool ((((gt t_0.Hosts.l n7).At) == sw_1) && (((gt t_0.Hosts.l n7).Port) == p_2))))))], [(0, some (.box [.d (.lit (.int .i64 t_0.Switches)), .d (slD 6 c_api_Link t_0.Links), .d (slD 2 c_api_Host t_0.Hosts)]))], 1, []⟩) ?_ ?_
      · refine w_region ?_
        iterate 3 refine o1 rfl ?_
        refine o1 (ix_sd h8) ?_
        iterate 3 refine o1 rfl ?_
        refine o1 (v := .c (.d (.lit (.bool (((gt t_0.Hosts.l n7).At) == sw_1))))) rfl ?_
        refine o1 rfl ?_
        cases hb10 : ((((gt t_0.Hosts.l n7).At) == sw_1) : Bool)
        · refine onot rfl (by first | rfl | exact hb10) ?_
          refine onot rfl (by first | rfl | exact hb10) ?_
          refine onot rfl (by first | rfl | exact hb10) ?_
          refine onot rfl (by first | rfl | exact hb10) ?_
          refine onot rfl (by first | rfl | exact hb10) ?_
          refine onot rfl (by first | rfl | exact hb10) ?_
          refine onot rfl (by first | rfl | exact hb10) ?_
          refine onot rfl (by first | rfl | exact hb10) ?_
          refine o1 (pk_f (by first | rfl | exact hb10)) ?_
          exact o_join (sub_ren [0] [1, 2, 3, 7, 32] (by decide) rfl (.cons .nil) (Nat.le_of_ble_eq_true rfl))
        · refine og rfl (by first | rfl | exact hb10) rfl ?_
          refine og rfl (by first | rfl | exact hb10) rfl ?_
          refine og rfl (by first | rfl | exact hb10) rfl ?_
          refine og rfl (by first | rfl | exact hb10) (ix_sd h8) ?_
          refine og rfl (by first | rfl | exact hb10) rfl ?_
          refine og rfl (by first | rfl | exact hb10) rfl ?_
          refine og rfl (by first | rfl | exact hb10) rfl ?_
          refine og (v := .c (.d (.lit (.bool (((gt t_0.Hosts.l n7).Port) == p_2))))) rfl (by first | rfl | exact hb10) rfl ?_
          refine o1 (pk_t (by first | rfl | exact hb10)) ?_
          exact o_join (sub_ren [0] [1, 2, 3, 7, 32] (by decide) rfl (.cons .nil) (Nat.le_of_ble_eq_true rfl))
      · intro s hs11
        refine after_n ?_
        refine W.sub hs11 ?_
        refine w_cond (t := ((((gt t_0.Hosts.l n7).At) == sw_1) && (((gt t_0.Hosts.l n7).Port) == p_2))) rfl (fun hb12 => ?_) (fun hb12 => ?_)
        · have hr := cnd_t hb12 hr
          refine w_seq ?_
          refine w_region ?_
          iterate 2 refine o1 rfl ?_
          refine o_end (e' := [(6, .c (.d (.lit (.int .i64 i1))))]) rfl rfl ?_
          refine after_n ?_
          refine w_ret ?_
          refine out_r ?_
          refine after_r ?_
          obtain rfl := Option.some.inj hr
          exact And.intro nofun (And.intro rfl (sub_ren [] [6] (by decide) rfl .nil (Nat.le_of_ble_eq_true rfl)))
        · have hr := cnd_f hb12 hr
          refine w_skip ?_
          refine out_n ?_
          refine after_n ?_
          refine w_region ?_
          refine o1 rfl ?_
          refine o1 (v := .c (.d (.lit (.int .i64 (wr .i64 (i1 + 1)))))) rfl ?_
          refine o1 rfl ?_
          refine o_end (e' := [(1, .c (.d (.lit (.int .i64 sw_1)))), (2, .c (.d (.lit (.int .i64 p_2)))), (3, .c (.op 0 0)), (7, .c (.d (.lit (.int .i64 (wr .i64 (i1 + 1))))))]) rfl rfl ?_
          obtain rfl := Option.some.inj hr
          exact And.intro rfl (sub_ren [0] [1, 2, 3, 7] (by decide) rfl (.cons .nil) (Nat.le_of_ble_eq_true rfl))
    · have hr := cnd_f hb6 hr
      refine w_exit ?_
      refine after_e ?_
      obtain rfl := Option.some.inj hr
      exact And.intro nofun (And.intro rfl (sub_ren [] [] (by decide) rfl .nil (Nat.le_of_ble_eq_true rfl)))

/- turnout/topo.Slowest -/
def k43 : CC :=
  (.seq
  (.region [
    ⟨some 1, .box, [(.tmp 0)], none⟩,
    ⟨some 2, .mv, [(.const (.int .i64 0))], none⟩] [1])
  (.seq
  (.region [
    ⟨some 3, .mv, [(.const (.int .i64 0))], none⟩] [1, 3])
  (.seq
  (.seq
  (.region [
    ⟨some 6, (.fieldAddr 1), [(.tmp 1)], none⟩,
    ⟨some 7, (.load false 1), [(.tmp 6)], none⟩,
    ⟨some 8, (.len false), [(.tmp 7)], none⟩,
    ⟨some 9, .mv, [(.const (.int .i64 0))], none⟩] [3, 7, 8, 9])
  (.block 0
    (.loop [3, 7, 8, 9]
      (.seq
      (.region [
        ⟨some 10, (.bin .lss), [(.tmp 9), (.tmp 8)], none⟩] [3, 7, 8, 9, 10])
      (.seq
      (.cond (.tmp 10)
        .skip
        (.exit 0))
      (.seq
      (.block 1
        (.seq
        (.region [
          ⟨some 11, (.indexAddr none 6), [(.tmp 7), (.tmp 9)], none⟩,
          ⟨some 12, (.load true 6), [(.tmp 11)], none⟩,
          ⟨some 5, (.alloc [(.int .i64 0), (.int .i64 0), (.int .i64 0), (.int .i64 0), (.int .i64 0), (.int .i64 0)]), [], none⟩,
          ⟨none, (.store 6), [(.tmp 5), (.tmp 12)], none⟩] [3, 5, 7, 8, 9])
        (.region [
          ⟨some 13, .mv, [(.tmp 3)], none⟩,
          ⟨some 14, (.fieldAddr 5), [(.tmp 5)], none⟩,
          ⟨some 15, (.load false 1), [(.tmp 14)], none⟩,
          ⟨some 16, (.minmax true), [(.tmp 13), (.tmp 15)], none⟩,
          ⟨some 3, .mv, [(.tmp 16)], none⟩] [3, 7, 8, 9])))
      (.region [
        ⟨some 17, (.bin .add), [(.tmp 9), (.const (.int .i64 1))], none⟩,
        ⟨some 9, .mv, [(.tmp 17)], none⟩] [3, 7, 8, 9])))))))
  (.seq
  (.region [
    ⟨some 18, .mv, [(.tmp 3)], none⟩,
    ⟨some 2, .mv, [(.tmp 18)], none⟩] [2])
  .ret))))
def f43 : Ev.Fn := ⟨1, 19, [.tmp 2], k43⟩
set_option maxRecDepth 100000 in
theorem e43 : compFn prog sig 43 1 [[1], [1, 3], [3, 7, 8, 9], [3, 7, 8, 9], [3, 7, 8, 9, 10], [3, 5, 7, 8, 9], [3, 7, 8, 9], [3, 7, 8, 9], [2]] = some f43 := by kernel_rfl
noncomputable def topo_Slowest_L1 (t_0 : api_Topo) : (Int × Int) → Option (Sum ((Int × Int)) (Int)) := fun (i1, i2) =>
  bif decide (i2 < (t_0.Links.l.length : Int)) then ((ixI i2 t_0.Links.l.length).bind fun n9 =>
  some (.inl ((if ((gt t_0.Links.l n9).Most) > i1 then ((gt t_0.Links.l n9).Most) else i1), wr .i64 (i2 + 1)))) else
  (some (.inr i1))

noncomputable def topo_Slowest (t_0 : api_Topo) : Option (Int) :=
  (loopO (topo_Slowest_L1 t_0) (0, 0)).bind fun i5 =>
  some i5
theorem topo_Slowest_ok {t_0 : api_Topo} {z : Int} (hp : topo_Slowest t_0 = some z) : Good prog 43 [.agg (c_api_Topo t_0)] [.c (.d (.lit (.int .i64 z)))] [] := by
  unfold topo_Slowest at hp
  refine fn_good mixed e43 (fnS (m := [false]) (s := ⟨[(0, .agg [.d (.lit (.int .i64 t_0.Switches)), .d (slD 6 c_api_Link t_0.Links), .d (slD 2 c_api_Host t_0.Hosts)])], [], 0, []⟩) (len := 0) (c := k43) rfl (Sub.of_eq rfl) rfl rfl ?_)
  refine w_seq ?_
  refine w_region ?_
  refine o2 rfl ?_
  refine o1 rfl ?_
  refine o_end (e' := [(1, .c (.op 0 0))]) rfl rfl ?_
  refine after_n ?_
  refine w_seq ?_
  refine w_region ?_
  refine o1 rfl ?_
  refine o_end (e' := [(1, .c (.op 0 0)), (3, .c (.d (.lit (.int .i64 0))))]) rfl rfl ?_
  refine after_n ?_
  refine w_seq ?_
  refine w_seq ?_
  refine w_region ?_
  iterate 2 refine o1 rfl ?_
  refine o1 (v := .c (.d (.lit (.int .i64 (t_0.Links.l.length : Int))))) len_sd ?_
  refine o1 rfl ?_
  refine o_end (e' := [(3, .c (.d (.lit (.int .i64 0)))), (7, .c (.d (slD 6 c_api_Link t_0.Links))), (8, .c (.d (.lit (.int .i64 (t_0.Links.l.length : Int))))), (9, .c (.d (.lit (.int .i64 0))))]) rfl rfl ?_
  refine after_n ?_
  refine w_block ?_
  obtain ⟨i5, h7, hp⟩ := bnd hp
  refine W.mono ?_ (w_loopS (st := fun (v : (Int × Int)) => match v with | (i1, i2) => ⟨[(3, .c (.d (.lit (.int .i64 i1)))), (7, .c (.d (slD 6 c_api_Link t_0.Links))), (8, .c (.d (.lit (.int .i64 (t_0.Links.l.length : Int))))), (9, .c (.d (.lit (.int .i64 i2))))], [], 0, []⟩) (a := (0, 0)) (Q := Jn (fun (x : Int) o s => match x with | i5 => o = Out.exit 0 ∧ Sub s ⟨[(3, .c (.d (.lit (.int .i64 i5))))], [], 0, []⟩)) ?_ h7 ?_)
  · intro o s hs11
    obtain ⟨rfl, hs11⟩ := hs11
    refine out_e ?_
    refine after_n ?_
    refine W.sub hs11 ?_
    refine w_seq ?_
    refine w_region ?_
    iterate 2 refine o1 rfl ?_
    refine o_end (e' := [(2, .c (.d (.lit (.int .i64 i5))))]) rfl rfl ?_
    refine after_n ?_
    refine w_ret ?_
    obtain rfl := Option.some.inj hp
    exact leave_at rfl rfl (pr_c p_d pr_nil) pc_nil rfl rfl
  · exact (sub_ren [] [3, 7, 8, 9] (by decide) rfl .nil (Nat.le_of_ble_eq_true rfl))
  · rintro ⟨i1, i2⟩ r hr
    unfold topo_Slowest_L1 at hr
    refine w_seq ?_
    refine w_region ?_
    refine o1 (v := .c (.d (.lit (.bool (decide (i2 < (t_0.Links.l.length : Int))))))) rfl ?_
    refine o_end (e' := [(3, .c (.d (.lit (.int .i64 i1)))), (7, .c (.d (slD 6 c_api_Link t_0.Links))), (8, .c (.d (.lit (.int .i64 (t_0.Links.l.length : Int))))), (9, .c (.d (.lit (.int .i64 i2)))), (10, .c (.d (.lit (.bool (decide (i2 < (t_0.Links.l.length : Int)))))))]) rfl rfl ?_
    refine after_n ?_
    refine w_seq ?_
    refine w_cond (t := decide (i2 < (t_0.Links.l.length : Int))) rfl (fun hb8 => ?_) (fun hb8 => ?_)
    · have hr := cnd_t hb8 hr
      refine w_skip ?_
      refine after_n ?_
      refine w_seq ?_
      refine w_block ?_
      refine w_seq ?_
      obtain ⟨n9, h10, hr⟩ := bnd hr
      refine w_region ?_
      refine o1 (ix_sd h10) ?_
      refine o1 rfl ?_
      refine o2 rfl ?_
      refine o0 rfl ?_
      refine o_end (e' := [(3, .c (.d (.lit (.int .i64 i1)))), (5, .c (.op 0 0)), (7, .c (.d (slD 6 c_api_Link t_0.Links))), (8, .c (.d (.lit (.int .i64 (t_0.Links.l.length : Int))))), (9, .c (.d (.lit (.int .i64 i2))))]) rfl rfl ?_
      refine after_n ?_
      refine w_region ?_
      iterate 3 refine o1 rfl ?_
      refine o1 (v := .c (.d (.lit (.int .i64 (if ((gt t_0.Links.l n9).Most) > i1 then ((gt t_0.Links.l n9).Most) else i1))))) rfl ?_
      refine o1 rfl ?_
      refine o_end (e' := [(3, .c (.d (.lit (.int .i64 (if ((gt t_0.Links.l n9).Most) > i1 then ((gt t_0.Links.l n9).Most) else i1))))), (7, .c (.d (slD 6 c_api_Link t_0.Links))), (8, .c (.d (.lit (.int .i64 (t_0.Links.l.length : Int))))), (9, .c (.d (.lit (.int .i64 i2))))]) rfl rfl ?_
      refine out_n ?_
      refine after_n ?_
      refine w_region ?_
      refine o1 (v := .c (.d (.lit (.int .i64 (wr .i64 (i2 + 1)))))) rfl ?_
      refine o1 rfl ?_
      refine o_end (e' := [(3, .c (.d (.lit (.int .i64 (if ((gt t_0.Links.l n9).Most) > i1 then ((gt t_0.Links.l n9).Most) else i1))))), (7, .c (.d (slD 6 c_api_Link t_0.Links))), (8, .c (.d (.lit (.int .i64 (t_0.Links.l.length : Int))))), (9, .c (.d (.lit (.int .i64 (wr .i64 (i2 + 1))))))]) rfl rfl ?_
      obtain rfl := Option.some.inj hr
      exact And.intro rfl (sub_ren [] [3, 7, 8, 9] (by decide) rfl .nil (Nat.le_of_ble_eq_true rfl))
    · have hr := cnd_f hb8 hr
      refine w_exit ?_
      refine after_e ?_
      obtain rfl := Option.some.inj hr
      exact And.intro nofun (And.intro rfl (sub_ren [] [3] (by decide) rfl .nil (Nat.le_of_ble_eq_true rfl)))

/- turnout/turnoutref17.Slowest -/
def k44 : CC :=
  (.seq
  (.region [
    ⟨some 1, .box, [(.tmp 0)], none⟩,
    ⟨some 2, .mv, [(.const (.int .i64 0))], none⟩] [1])
  (.seq
  (.region [
    ⟨some 3, .mv, [(.const (.int .i64 0))], none⟩] [1, 3])
  (.seq
  (.seq
  (.region [
    ⟨some 4, .mv, [(.const (.int .i64 0))], none⟩] [1, 3, 4])
  (.block 0
    (.loop [1, 3, 4]
      (.seq
      (.seq
      (.region [
        ⟨some 5, .mv, [(.tmp 4)], none⟩,
        ⟨some 6, (.fieldAddr 1), [(.tmp 1)], none⟩,
        ⟨some 7, (.load false 1), [(.tmp 6)], none⟩,
        ⟨some 8, (.len false), [(.tmp 7)], none⟩,
        ⟨some 9, (.bin .lss), [(.tmp 5), (.tmp 8)], none⟩] [1, 3, 4, 9])
      (.cond (.tmp 9)
        .skip
        (.exit 0)))
      (.seq
      (.block 1
        (.seq
        (.region [
          ⟨some 12, (.fieldAddr 1), [(.tmp 1)], none⟩,
          ⟨some 13, (.load false 1), [(.tmp 12)], none⟩,
          ⟨some 14, .mv, [(.tmp 4)], none⟩,
          ⟨some 15, (.indexAddr none 6), [(.tmp 13), (.tmp 14)], none⟩,
          ⟨some 16, (.fieldAddr 5), [(.tmp 15)], none⟩,
          ⟨some 17, (.load false 1), [(.tmp 16)], none⟩,
          ⟨some 18, .mv, [(.tmp 3)], none⟩,
          ⟨some 19, (.bin .gtr), [(.tmp 17), (.tmp 18)], none⟩] [1, 3, 4, 19])
        (.cond (.tmp 19)
          (.region [
            ⟨some 20, (.fieldAddr 1), [(.tmp 1)], none⟩,
            ⟨some 21, (.load false 1), [(.tmp 20)], none⟩,
            ⟨some 22, .mv, [(.tmp 4)], none⟩,
            ⟨some 23, (.indexAddr none 6), [(.tmp 21), (.tmp 22)], none⟩,
            ⟨some 24, (.fieldAddr 5), [(.tmp 23)], none⟩,
            ⟨some 25, (.load false 1), [(.tmp 24)], none⟩,
            ⟨some 3, .mv, [(.tmp 25)], none⟩] [1, 3, 4])
          .skip)))
      (.region [
        ⟨some 10, .mv, [(.tmp 4)], none⟩,
        ⟨some 11, (.bin .add), [(.tmp 10), (.const (.int .i64 1))], none⟩,
        ⟨some 4, .mv, [(.tmp 11)], none⟩] [1, 3, 4]))))))
  (.seq
  (.region [
    ⟨some 26, .mv, [(.tmp 3)], none⟩,
    ⟨some 2, .mv, [(.tmp 26)], none⟩] [2])
  .ret))))
def f44 : Ev.Fn := ⟨1, 27, [.tmp 2], k44⟩
set_option maxRecDepth 100000 in
theorem e44 : compFn prog sig 44 1 [[1], [1, 3], [1, 3, 4], [1, 3, 4], [1, 3, 4, 9], [1, 3, 4, 19], [1, 3, 4], [1, 3, 4], [2]] = some f44 := by kernel_rfl
noncomputable def ref17_Slowest_L1 (t_0 : api_Topo) : (Int × Int) → Option (Sum ((Int × Int)) (Int)) := fun (i1, i2) =>
  bif decide (i2 < (t_0.Links.l.length : Int)) then (((ixI i2 t_0.Links.l.length).bind fun n12 =>
  bif decide (((gt t_0.Links.l n12).Most) > i1) then (some ((gt t_0.Links.l n12).Most)) else
  (some i1) : Option (Int)).bind fun i9 =>
  some (.inl (i9, wr .i64 (i2 + 1)))) else
  (some (.inr i1))

noncomputable def ref17_Slowest (t_0 : api_Topo) : Option (Int) :=
  (loopO (ref17_Slowest_L1 t_0) (0, 0)).bind fun i5 =>
  some i5
theorem ref17_Slowest_ok {t_0 : api_Topo} {z : Int} (hp : ref17_Slowest t_0 = some z) : Good prog 44 [.agg (c_api_Topo t_0)] [.c (.d (.lit (.int .i64 z)))] [] := by
  unfold ref17_Slowest at hp
  refine fn_good mixed e44 (fnS (m := [false]) (s := ⟨[(0, .agg [.d (.lit (.int .i64 t_0.Switches)), .d (slD 6 c_api_Link t_0.Links), .d (slD 2 c_api_Host t_0.Hosts)])], [], 0, []⟩) (len := 0) (c := k44) rfl (Sub.of_eq rfl) rfl rfl ?_)
  refine w_seq ?_
  refine w_region ?_
  refine o2 rfl ?_
  refine o1 rfl ?_
  refine o_end (e' := [(1, .c (.op 0 0))]) rfl rfl ?_
  refine after_n ?_
  refine w_seq ?_
  refine w_region ?_
  refine o1 rfl ?_
  refine o_end (e' := [(1, .c (.op 0 0)), (3, .c (.d (.lit (.int .i64 0))))]) rfl rfl ?_
  refine after_n ?_
  refine w_seq ?_
  refine w_seq ?_
  refine w_region ?_
  refine o1 rfl ?_
  refine o_end (e' := [(1, .c (.op 0 0)), (3, .c (.d (.lit (.int .i64 0)))), (4, .c (.d (.lit (.int .i64 0))))]) rfl rfl ?_
  refine after_n ?_
  refine w_block ?_
  obtain ⟨i5, h7, hp⟩ := bnd hp
  refine W.mono ?_ (w_loopS (st := fun (v : (Int × Int)) => match v with | (i1, i2) => ⟨[(1, .c (.op 0 0)), (3, .c (.d (.lit (.int .i64 i1)))), (4, .c (.d (.lit (.int .i64 i2))))], [(0, some (.box [.d (.lit (.int .i64 t_0.Switches)), .d (slD 6 c_api_Link t_0.Links), .d (slD 2 c_api_Host t_0.Hosts)]))], 1, []⟩) (a := (0, 0)) (Q := Jn (fun (x : Int) o s => match x with | i5 => o = Out.exit 0 ∧ Sub s ⟨[(3, .c (.d (.lit (.int .i64 i5))))], [], 0, []⟩)) ?_ h7 ?_)
  · intro o s hs16
    obtain ⟨rfl, hs16⟩ := hs16
    refine out_e ?_
    refine after_n ?_
    refine W.sub hs16 ?_
    refine w_seq ?_
    refine w_region ?_
    iterate 2 refine o1 rfl ?_
    refine o_end (e' := [(2, .c (.d (.lit (.int .i64 i5))))]) rfl rfl ?_
    refine after_n ?_
    refine w_ret ?_
    obtain rfl := Option.some.inj hp
    exact leave_at rfl rfl (pr_c p_d pr_nil) pc_nil rfl rfl
  · exact (sub_ren [0] [1, 3, 4] (by decide) rfl (.cons .nil) (Nat.le_of_ble_eq_true rfl))
  · rintro ⟨i1, i2⟩ r hr
    unfold ref17_Slowest_L1 at hr
    refine w_seq ?_
    refine w_seq ?_
    refine w_region ?_
    iterate 3 refine o1 rfl ?_
    refine o1 (v := .c (.d (.lit (.int .i64 (t_0.Links.l.length : Int))))) len_sd ?_
    refine o1 (v := .c (.d (.lit (.bool (decide (i2 < (t_0.Links.l.length : Int))))))) rfl ?_
    refine o_end (e' := [(1, .c (.op 0 0)), (3, .c (.d (.lit (.int .i64 i1)))), (4, .c (.d (.lit (.int .i64 i2)))), (9, .c (.d (.lit (.bool (decide (i2 < (t_0.Links.l.length : Int)))))))]) rfl rfl ?_
    refine after_n ?_
    refine w_cond (t := decide (i2 < (t_0.Links.l.length : Int))) rfl (fun hb8 => ?_) (fun hb8 => ?_)
    · have hr := cnd_t hb8 hr
      refine w_skip ?_
      refine after_n ?_
      refine w_seq ?_
      obtain ⟨i9, h10, hr⟩ := bnd hr
      refine W.mono (Q := Jn (fun (x : Int) o s => match x with | i9 => o = Out.normal ∧ Sub s ⟨[(1, .c (.op 0 0)), (3, .c (.d (.lit (.int .i64 i9)))), (4, .c (.d (.lit (.int .i64 i2))))], [(0, some (.box [.d (.lit (.int .i64 t_0.Switches)), .d (slD 6 c_api_Link t_0.Links), .d (slD 2 c_api_Host t_0.Hosts)]))], 1, []⟩) i9) ?_ ?_
      · intro o s hs15
        obtain ⟨rfl, hs15⟩ := hs15
        refine after_n ?_
        refine W.sub hs15 ?_
        refine w_region ?_
        refine o1 rfl ?_
        refine o1 (v := .c (.d (.lit (.int .i64 (wr .i64 (i2 + 1)))))) rfl ?_
        refine o1 rfl ?_
        refine o_end (e' := [(1, .c (.op 0 0)), (3, .c (.d (.lit (.int .i64 i9)))), (4, .c (.d (.lit (.int .i64 (wr .i64 (i2 + 1))))))]) rfl rfl ?_
        obtain rfl := Option.some.inj hr
        exact And.intro rfl (sub_ren [0] [1, 3, 4] (by decide) rfl (.cons .nil) (Nat.le_of_ble_eq_true rfl))
      · refine w_block ?_
        refine w_seq ?_
        obtain ⟨n12, h13, h10⟩ := bnd h10
        refine w_region ?_
        iterate 3 refine o1 rfl ?_
        refine o1 (ix_sd h13) ?_
        iterate 3 refine o1 rfl ?_
        refine o1 (v := .c (.d (.lit (.bool (decide (((gt t_0.Links.l n12).Most) > i1)))))) rfl ?_
        refine o_end (e' := [(1, .c (.op 0 0)), (3, .c (.d (.lit (.int .i64 i1)))), (4, .c (.d (.lit (.int .i64 i2)))), (19, .c (.d (.lit (.bool (decide (((gt t_0.Links.l n12).Most) > i1))))))]) rfl rfl ?_
        refine after_n ?_
        refine w_cond (t := decide (((gt t_0.Links.l n12).Most) > i1)) rfl (fun hb14 => ?_) (fun hb14 => ?_)
        · have h10 := cnd_t hb14 h10
          refine w_region ?_
          iterate 3 refine o1 rfl ?_
          refine o1 (ix_sd h13) ?_
          iterate 3 refine o1 rfl ?_
          refine o_end (e' := [(1, .c (.op 0 0)), (3, .c (.d (.lit (.int .i64 ((gt t_0.Links.l n12).Most))))), (4, .c (.d (.lit (.int .i64 i2))))]) rfl rfl ?_
          refine out_n ?_
          obtain rfl := Option.some.inj h10
          exact And.intro rfl (sub_ren [0] [1, 3, 4] (by decide) rfl (.cons .nil) (Nat.le_of_ble_eq_true rfl))
        · have h10 := cnd_f hb14 h10
          refine w_skip ?_
          refine out_n ?_
          obtain rfl := Option.some.inj h10
          exact And.intro rfl (sub_ren [0] [1, 3, 4] (by decide) rfl (.cons .nil) (Nat.le_of_ble_eq_true rfl))
    · have hr := cnd_f hb8 hr
      refine w_exit ?_
      refine after_e ?_
      obtain rfl := Option.some.inj hr
      exact And.intro nofun (And.intro rfl (sub_ren [] [3] (by decide) rfl .nil (Nat.le_of_ble_eq_true rfl)))

/- turnout/turnoutref17.Near -/
def k46 : CC :=
  (.seq
  (.region [
    ⟨some 2, .box, [(.tmp 0)], none⟩,
    ⟨some 4, .mv, [(.const (.slice none 0 0))], none⟩] [1, 2])
  (.seq
  (.region [
    ⟨some 5, .mv, [(.const (.slice none 0 0))], none⟩] [1, 2, 5])
  (.seq
  (.seq
  (.region [
    ⟨some 6, .mv, [(.const (.int .i64 0))], none⟩] [1, 2, 5, 6])
  (.block 0
    (.loop [1, 2, 5, 6]
      (.seq
      (.seq
      (.region [
        ⟨some 11, .mv, [(.tmp 6)], none⟩,
        ⟨some 12, (.bin .lss), [(.tmp 11), (.const (.int .i64 8))], none⟩] [1, 2, 5, 6, 12])
      (.cond (.tmp 12)
        .skip
        (.exit 0)))
      (.seq
      (.block 1
        (.seq
        (.region [
          ⟨some 16, (.load true 3), [(.tmp 2)], none⟩,
          ⟨some 17, .mv, [(.tmp 1)], none⟩,
          ⟨some 18, .mv, [(.tmp 6)], none⟩,
          ⟨some 19, (.call true []), [(.func 41), (.tmp 16), (.tmp 17), (.tmp 18)], none⟩,
          ⟨some 15, .mv, [(.tmp 19)], none⟩,
          ⟨some 20, (.extract 0), [(.tmp 15)], none⟩,
          ⟨some 21, (.extract 1), [(.tmp 15)], none⟩,
          ⟨some 22, (.extract 2), [(.tmp 15)], none⟩,
          ⟨some 23, (.extract 3), [(.tmp 15)], none⟩,
          ⟨some 7, .mv, [(.tmp 20)], none⟩,
          ⟨some 8, .mv, [(.tmp 21)], none⟩,
          ⟨some 9, .mv, [(.tmp 22)], none⟩,
          ⟨some 10, .mv, [(.tmp 23)], none⟩] [1, 2, 5, 6, 7, 9, 10])
        (.seq
        (.region [
          ⟨some 24, .mv, [(.tmp 10)], none⟩] [1, 2, 5, 6, 7, 9, 24])
        (.cond (.tmp 24)
          (.region [
            ⟨some 25, .mv, [(.tmp 5)], none⟩,
            ⟨some 26, .mv, [(.tmp 6)], none⟩,
            ⟨some 27, .mv, [(.tmp 7)], none⟩,
            ⟨some 28, .mv, [(.tmp 9)], none⟩,
            ⟨some 29, (.build [(.int .i64 0), (.int .i64 0), (.int .i64 0)] [(0, 1), (1, 1), (2, 1)]), [(.tmp 26), (.tmp 27), (.tmp 28)], none⟩,
            ⟨some 30, (.buildSlice 3 1 [(.int .i64 0), (.int .i64 0), (.int .i64 0)] [0]), [(.tmp 29)], none⟩,
            ⟨some 31, (.append 3), [(.tmp 25), (.tmp 30)], none⟩,
            ⟨some 5, .mv, [(.tmp 31)], none⟩] [1, 2, 5, 6])
          .skip))))
      (.region [
        ⟨some 13, .mv, [(.tmp 6)], none⟩,
        ⟨some 14, (.bin .add), [(.tmp 13), (.const (.int .i64 1))], none⟩,
        ⟨some 6, .mv, [(.tmp 14)], none⟩] [1, 2, 5, 6]))))))
  (.seq
  (.region [
    ⟨some 32, .mv, [(.tmp 5)], none⟩,
    ⟨some 4, .mv, [(.tmp 32)], none⟩] [4])
  .ret))))
def f46 : Ev.Fn := ⟨2, 33, [.tmp 4], k46⟩
set_option maxRecDepth 100000 in
theorem e46 : compFn prog sig 46 2 [[1, 2], [1, 2, 5], [1, 2, 5, 6], [1, 2, 5, 6], [1, 2, 5, 6, 12], [1, 2, 5, 6, 7, 9, 10], [1, 2, 5, 6, 7, 9, 24], [1, 2, 5, 6], [1, 2, 5, 6], [4]] = some f46 := by kernel_rfl
noncomputable def ref17_Near_L1 (t_0 : api_Topo) (sw_1 : Int) : (Sl ref17_Side × Int) → Option (Sum ((Sl ref17_Side × Int)) (Sl ref17_Side)) := fun (s1, i2) =>
  bif decide (i2 < 8) then (((ref17_Peer t_0 sw_1 i2).bind fun (r12, r13, r14, r15) =>
  bif r15 then ((capI (s1.l ++ [(⟨i2, r12, r14⟩ : ref17_Side)])).bind fun l18 =>
  some (Sl.mk l18)) else
  (some s1) : Option (Sl ref17_Side)).bind fun s9 =>
  some (.inl (s9, wr .i64 (i2 + 1)))) else
  (some (.inr s1))

noncomputable def ref17_Near (t_0 : api_Topo) (sw_1 : Int) : Option (Sl ref17_Side) :=
  (loopO (ref17_Near_L1 t_0 sw_1) (Sl.nil, 0)).bind fun s5 =>
  some s5
theorem ref17_Near_ok {t_0 : api_Topo} {sw_1 : Int} {z : Sl ref17_Side} (hp : ref17_Near t_0 sw_1 = some z) : Good prog 46 [.agg (c_api_Topo t_0), .d (.lit (.int .i64 sw_1))] [.c (.d (slD 3 c_ref17_Side z))] [] := by
  unfold ref17_Near at hp
  refine fn_good mixed e46 (fnS (m := [true]) (s := ⟨[(0, .agg [.d (.lit (.int .i64 t_0.Switches)), .d (slD 6 c_api_Link t_0.Links), .d (slD 2 c_api_Host t_0.Hosts)]), (1, .c (.d (.lit (.int .i64 sw_1))))], [], 0, []⟩) (len := 0) (c := k46) rfl (Sub.of_eq rfl) rfl rfl ?_)
  refine w_seq ?_
  refine w_region ?_
  refine o2 rfl ?_
  refine o1 rfl ?_
  refine o_end (e' := [(1, .c (.d (.lit (.int .i64 sw_1)))), (2, .c (.op 0 0))]) rfl rfl ?_
  refine after_n ?_
  refine w_seq ?_
  refine w_region ?_
  refine o1 rfl ?_
  refine o_end (e' := [(1, .c (.d (.lit (.int .i64 sw_1)))), (2, .c (.op 0 0)), (5, .c (.d (.lit (.slice none 0 0))))]) rfl rfl ?_
  refine after_n ?_
  refine w_seq ?_
  refine w_seq ?_
  refine w_region ?_
  refine o1 rfl ?_
  refine o_end (e' := [(1, .c (.d (.lit (.int .i64 sw_1)))), (2, .c (.op 0 0)), (5, .c (.d (.lit (.slice none 0 0)))), (6, .c (.d (.lit (.int .i64 0))))]) rfl rfl ?_
  refine after_n ?_
  refine w_block ?_
  obtain ⟨s5, h7, hp⟩ := bnd hp
  refine W.mono ?_ (w_loopS (st := fun (v : (Sl ref17_Side × Int)) => match v with | (s1, i2) => ⟨[(1, .c (.d (.lit (.int .i64 sw_1)))), (2, .c (.op 0 0)), (5, .c (slC 3 c_ref17_Side 1 s1)), (6, .c (.d (.lit (.int .i64 i2))))], [(0, some (.box [.d (.lit (.int .i64 t_0.Switches)), .d (slD 6 c_api_Link t_0.Links), .d (slD 2 c_api_Host t_0.Hosts)])), (1, slO 3 c_ref17_Side s1)], 2, []⟩) (a := (Sl.nil, 0)) (Q := Jn (fun (x : Sl ref17_Side) o s => match x with | s5 => o = Out.exit 0 ∧ Sub s ⟨[(5, .c (slC 3 c_ref17_Side 0 s5))], [(0, slO 3 c_ref17_Side s5)], 1, []⟩)) ?_ h7 ?_)
  · intro o s hs22
    obtain ⟨rfl, hs22⟩ := hs22
    refine out_e ?_
    refine after_n ?_
    refine W.sub hs22 ?_
    refine w_seq ?_
    refine w_region ?_
    iterate 2 refine o1 rfl ?_
    refine o_end (e' := [(4, .c (slC 3 c_ref17_Side 0 s5))]) rfl rfl ?_
    refine after_n ?_
    refine w_ret ?_
    obtain rfl := Option.some.inj hp
    rcases s5 with _ | s5'
    · exact leave_at rfl rfl (pr_c p_d pr_nil) pc_nil rfl rfl
    · exact leave_at rfl rfl (pr_c (p_o rfl) pr_nil) pc_nil rfl rfl
  · exact (sub_ren [0, 9001] [1, 2, 5, 6] (by decide) rfl (.cons (.skip .nil)) (Nat.le_of_ble_eq_true rfl))
  · rintro ⟨s1, i2⟩ r hr
    unfold ref17_Near_L1 at hr
    refine w_seq ?_
    refine w_seq ?_
    refine w_region ?_
    refine o1 rfl ?_
    refine o1 (v := .c (.d (.lit (.bool (decide (i2 < 8)))))) rfl ?_
    refine o_end (e' := [(1, .c (.d (.lit (.int .i64 sw_1)))), (2, .c (.op 0 0)), (5, .c (slC 3 c_ref17_Side 1 s1)), (6, .c (.d (.lit (.int .i64 i2)))), (12, .c (.d (.lit (.bool (decide (i2 < 8))))))]) rfl rfl ?_
    refine after_n ?_
    refine w_cond (t := decide (i2 < 8)) rfl (fun hb8 => ?_) (fun hb8 => ?_)
    · have hr := cnd_t hb8 hr
      refine w_skip ?_
      refine after_n ?_
      refine w_seq ?_
      obtain ⟨s9, h10, hr⟩ := bnd hr
      refine W.mono (Q := Jn (fun (x : Sl ref17_Side) o s => match x with | s9 => o = Out.normal ∧ Sub s ⟨[(1, .c (.d (.lit (.int .i64 sw_1)))), (2, .c (.op 0 0)), (5, .c (slC 3 c_ref17_Side 1 s9)), (6, .c (.d (.lit (.int .i64 i2))))], [(0, some (.box [.d (.lit (.int .i64 t_0.Switches)), .d (slD 6 c_api_Link t_0.Links), .d (slD 2 c_api_Host t_0.Hosts)])), (1, slO 3 c_ref17_Side s9)], 2, []⟩) s9) ?_ ?_
      · intro o s hs21
        obtain ⟨rfl, hs21⟩ := hs21
        refine after_n ?_
        refine W.sub hs21 ?_
        refine w_region ?_
        refine o1 rfl ?_
        refine o1 (v := .c (.d (.lit (.int .i64 (wr .i64 (i2 + 1)))))) rfl ?_
        refine o1 rfl ?_
        refine o_end (e' := [(1, .c (.d (.lit (.int .i64 sw_1)))), (2, .c (.op 0 0)), (5, .c (slC 3 c_ref17_Side 1 s9)), (6, .c (.d (.lit (.int .i64 (wr .i64 (i2 + 1))))))]) rfl rfl ?_
        obtain rfl := Option.some.inj hr
        exact And.intro rfl (by rcases s9 with _ | _ <;> first | (exact sub_ren [0, 9001] [1, 2, 5, 6] (by decide) rfl (.cons (.skip .nil)) (Nat.le_of_ble_eq_true rfl)) | (exact sub_ren [0, 1] [1, 2, 5, 6] (by decide) rfl (.cons (.cons .nil)) (Nat.le_of_ble_eq_true rfl)))
      · refine w_block ?_
        refine w_seq ?_
        obtain ⟨⟨r12, r13, r14, r15⟩, h16, h10⟩ := bnd h10
        refine w_region ?_
        iterate 3 refine o1 rfl ?_
        refine oc (rs := [.c (.d (.lit (.int .i64 r12))), .c (.d (.lit (.int .i64 r13))), .c (.d (.lit (.int .i64 r14))), .c (.d (.lit (.bool r15)))]) (outs := []) rfl (ref17_Peer_ok h16) rfl ?_
        iterate 9 refine o1 rfl ?_
        refine o_end (e' := [(1, .c (.d (.lit (.int .i64 sw_1)))), (2, .c (.op 0 0)), (5, .c (slC 3 c_ref17_Side 1 s1)), (6, .c (.d (.lit (.int .i64 i2)))), (7, .c (.d (.lit (.int .i64 r12)))), (9, .c (.d (.lit (.int .i64 r14)))), (10, .c (.d (.lit (.bool r15))))]) rfl rfl ?_
        refine after_n ?_
        refine w_seq ?_
        refine w_region ?_
        refine o1 rfl ?_
        refine o_end (e' := [(1, .c (.d (.lit (.int .i64 sw_1)))), (2, .c (.op 0 0)), (5, .c (slC 3 c_ref17_Side 1 s1)), (6, .c (.d (.lit (.int .i64 i2)))), (7, .c (.d (.lit (.int .i64 r12)))), (9, .c (.d (.lit (.int .i64 r14)))), (24, .c (.d (.lit (.bool r15))))]) rfl rfl ?_
        refine after_n ?_
        refine w_cond (t := r15) rfl (fun hb17 => ?_) (fun hb17 => ?_)
        · have h10 := cnd_t hb17 h10
          obtain ⟨l18, h19, h10⟩ := bnd h10
          refine w_join (J := fun s => Sub s ⟨[(1, .c (.d (.lit (.int .i64 sw_1)))), (2, .c (.op 0 0)), (5, .c (slC 3 c_ref17_Side 1 (Sl.mk l18))), (6, .c (.d (.lit (.int .i64 i2))))], [(0, some (.box [.d (.lit (.int .i64 t_0.Switches)), .d (slD 6 c_api_Link t_0.Links), .d (slD 2 c_api_Host t_0.Hosts)])), (1, slO 3 c_ref17_Side (Sl.mk l18))], 2, []⟩) ?_ ?_
          · rcases s1 with _ | s1'
            · try dsimp only [slC, slO]
              refine w_region ?_
              iterate 5 refine o1 rfl ?_
              refine o2 rfl ?_
              refine o2 (app_nil (enc := c_ref17_Side) rfl h19) ?_
              refine o1 rfl ?_
              exact o_join (sub_ren [0, 3] [1, 2, 5, 6] (by decide) rfl (.cons (.cons .nil)) (Nat.le_of_ble_eq_true rfl))
            · try dsimp only [slC, slO]
              refine w_region ?_
              iterate 5 refine o1 rfl ?_
              refine o2 rfl ?_
              refine o2 (app_o rfl rfl h19) ?_
              refine o1 rfl ?_
              exact o_join (sub_ren [0, 3] [1, 2, 5, 6] (by decide) rfl (.cons (.cons .nil)) (Nat.le_of_ble_eq_true rfl))
          · intro s hs20
            refine out_n ?_
            obtain rfl := Option.some.inj h10
            exact And.intro rfl (Sub.trans hs20 (sub_ren [0, 1] [1, 2, 5, 6] (by decide) rfl (.cons (.cons .nil)) (Nat.le_of_ble_eq_true rfl)))
        · have h10 := cnd_f hb17 h10
          refine w_skip ?_
          refine out_n ?_
          obtain rfl := Option.some.inj h10
          exact And.intro rfl (by rcases s1 with _ | _ <;> first | (exact sub_ren [0, 9001] [1, 2, 5, 6] (by decide) rfl (.cons (.skip .nil)) (Nat.le_of_ble_eq_true rfl)) | (exact sub_ren [0, 1] [1, 2, 5, 6] (by decide) rfl (.cons (.cons .nil)) (Nat.le_of_ble_eq_true rfl)))
    · have hr := cnd_f hb8 hr
      refine w_exit ?_
      refine after_e ?_
      obtain rfl := Option.some.inj hr
      exact And.intro nofun (And.intro rfl (by rcases s1 with _ | _ <;> first | (exact sub_ren [9000] [5] (by decide) rfl (.skip .nil) (Nat.le_of_ble_eq_true rfl)) | (exact sub_ren [1] [5] (by decide) rfl (.cons .nil) (Nat.le_of_ble_eq_true rfl))))

/- turnout/turnoutref17.Hops -/
def k47 : CC :=
  (.seq
  (.region [
    ⟨some 2, .box, [(.tmp 0)], none⟩,
    ⟨some 4, .mv, [(.const (.slice none 0 0))], none⟩] [1, 2])
  (.seq
  (.region [
    ⟨some 5, .mv, [(.const (.slice none 0 0))], none⟩] [1, 2, 5])
  (.seq
  (.seq
  (.region [
    ⟨some 6, .mv, [(.const (.int .i64 0))], none⟩] [1, 2, 5, 6])
  (.block 0
    (.loop [1, 2, 5, 6]
      (.seq
      (.seq
      (.region [
        ⟨some 11, .mv, [(.tmp 6)], none⟩,
        ⟨some 12, (.fieldAddr 0), [(.tmp 2)], none⟩,
        ⟨some 13, (.load false 1), [(.tmp 12)], none⟩,
        ⟨some 14, (.bin .lss), [(.tmp 11), (.tmp 13)], none⟩] [1, 2, 5, 6, 14])
      (.cond (.tmp 14)
        .skip
        (.exit 0)))
      (.seq
      (.block 1
        (.seq
        (.region [
          ⟨some 17, .mv, [(.tmp 6)], none⟩,
          ⟨some 18, .mv, [(.tmp 1)], none⟩,
          ⟨some 19, (.bin .eql), [(.tmp 17), (.tmp 18)], none⟩] [1, 2, 5, 6, 19])
        (.cond (.tmp 19)
          (.region [
            ⟨some 20, .mv, [(.tmp 5)], none⟩,
            ⟨some 21, (.buildSlice 1 1 [(.int .i64 0)] [0]), [(.const (.int .i64 0))], none⟩,
            ⟨some 22, (.append 1), [(.tmp 20), (.tmp 21)], none⟩,
            ⟨some 5, .mv, [(.tmp 22)], none⟩] [1, 2, 5, 6])
          (.region [
            ⟨some 23, .mv, [(.tmp 5)], none⟩,
            ⟨some 24, (.buildSlice 1 1 [(.int .i64 0)] [0]), [(.const (.int .i64 (-1)))], none⟩,
            ⟨some 25, (.append 1), [(.tmp 23), (.tmp 24)], none⟩,
            ⟨some 5, .mv, [(.tmp 25)], none⟩] [1, 2, 5, 6]))))
      (.region [
        ⟨some 15, .mv, [(.tmp 6)], none⟩,
        ⟨some 16, (.bin .add), [(.tmp 15), (.const (.int .i64 1))], none⟩,
        ⟨some 6, .mv, [(.tmp 16)], none⟩] [1, 2, 5, 6]))))))
  (.seq
  (.seq
  (.region [
    ⟨some 7, .mv, [(.const (.int .i64 0))], none⟩] [2, 5, 7])
  (.block 2
    (.loop [2, 5, 7]
      (.seq
      (.seq
      (.region [
        ⟨some 26, .mv, [(.tmp 7)], none⟩,
        ⟨some 27, (.fieldAddr 0), [(.tmp 2)], none⟩,
        ⟨some 28, (.load false 1), [(.tmp 27)], none⟩,
        ⟨some 29, (.bin .lss), [(.tmp 26), (.tmp 28)], none⟩] [2, 5, 7, 29])
      (.cond (.tmp 29)
        .skip
        (.exit 2)))
      (.seq
      (.block 3
        (.seq
        (.region [
          ⟨some 8, .mv, [(.const (.int .i64 0))], none⟩] [2, 5, 7, 8])
        (.block 4
          (.loop [2, 5, 7, 8]
            (.seq
            (.seq
            (.region [
              ⟨some 32, .mv, [(.tmp 8)], none⟩,
              ⟨some 33, (.fieldAddr 1), [(.tmp 2)], none⟩,
              ⟨some 34, (.load false 1), [(.tmp 33)], none⟩,
              ⟨some 35, (.len false), [(.tmp 34)], none⟩,
              ⟨some 36, (.bin .lss), [(.tmp 32), (.tmp 35)], none⟩] [2, 5, 7, 8, 36])
            (.cond (.tmp 36)
              .skip
              (.exit 4)))
            (.seq
            (.block 5
              (.seq
              (.drawn [
                ⟨some 39, (.fieldAddr 1), [(.tmp 2)], none⟩,
                ⟨some 40, (.load false 1), [(.tmp 39)], none⟩,
                ⟨some 41, .mv, [(.tmp 8)], none⟩,
                ⟨some 42, (.indexAddr none 6), [(.tmp 40), (.tmp 41)], none⟩,
                ⟨some 43, (.fieldAddr 0), [(.tmp 42)], none⟩,
                ⟨some 44, (.load false 1), [(.tmp 43)], none⟩,
                ⟨some 45, (.fieldAddr 1), [(.tmp 2)], none⟩,
                ⟨some 46, (.load false 1), [(.tmp 45)], none⟩,
                ⟨some 47, .mv, [(.tmp 8)], none⟩,
                ⟨some 48, (.indexAddr none 6), [(.tmp 46), (.tmp 47)], none⟩,
                ⟨some 49, (.fieldAddr 2), [(.tmp 48)], none⟩,
                ⟨some 50, (.load false 1), [(.tmp 49)], none⟩,
                ⟨some 9, .mv, [(.tmp 44)], none⟩,
                ⟨some 10, .mv, [(.tmp 50)], none⟩] [] [2, 5, 7, 8, 9, 10])
              (.seq
              (.seq
              (.region [
                ⟨some 51, .mv, [(.tmp 5)], none⟩,
                ⟨some 52, .mv, [(.tmp 9)], none⟩,
                ⟨some 53, (.indexAddr none 1), [(.tmp 51), (.tmp 52)], none⟩,
                ⟨some 54, (.load false 1), [(.tmp 53)], none⟩,
                ⟨some 55, .mv, [(.tmp 7)], none⟩,
                ⟨some 56, (.bin .eql), [(.tmp 54), (.tmp 55)], none⟩,
                ⟨some 57, .mv, [(.tmp 56)], none⟩,
                ⟨some 58, .mv, [(.tmp 5)], (some (57, true))⟩,
                ⟨some 59, .mv, [(.tmp 10)], (some (57, true))⟩,
                ⟨some 60, (.indexAddr none 1), [(.tmp 58), (.tmp 59)], (some (57, true))⟩,
                ⟨some 61, (.load false 1), [(.tmp 60)], (some (57, true))⟩,
                ⟨some 62, (.bin .eql), [(.tmp 61), (.const (.int .i64 (-1)))], (some (57, true))⟩,
                ⟨some 63, .pick, [(.tmp 57), (.tmp 62), (.const (.bool false))], none⟩] [2, 5, 7, 8, 9, 10, 63])
              (.cond (.tmp 63)
                (.region [
                  ⟨some 64, .mv, [(.tmp 5)], none⟩,
                  ⟨some 65, .mv, [(.tmp 10)], none⟩,
                  ⟨some 66, .mv, [(.tmp 7)], none⟩,
                  ⟨some 67, (.bin .add), [(.tmp 66), (.const (.int .i64 1))], none⟩,
                  ⟨some 68, (.indexAddr none 1), [(.tmp 64), (.tmp 65)], none⟩,
                  ⟨none, (.store 1), [(.tmp 68), (.tmp 67)], none⟩] [2, 5, 7, 8, 9, 10])
                .skip))
              (.seq
              (.region [
                ⟨some 69, .mv, [(.tmp 5)], none⟩,
                ⟨some 70, .mv, [(.tmp 10)], none⟩,
                ⟨some 71, (.indexAddr none 1), [(.tmp 69), (.tmp 70)], none⟩,
                ⟨some 72, (.load false 1), [(.tmp 71)], none⟩,
                ⟨some 73, .mv, [(.tmp 7)], none⟩,
                ⟨some 74, (.bin .eql), [(.tmp 72), (.tmp 73)], none⟩,
                ⟨some 75, .mv, [(.tmp 74)], none⟩,
                ⟨some 76, .mv, [(.tmp 5)], (some (75, true))⟩,
                ⟨some 77, .mv, [(.tmp 9)], (some (75, true))⟩,
                ⟨some 78, (.indexAddr none 1), [(.tmp 76), (.tmp 77)], (some (75, true))⟩,
                ⟨some 79, (.load false 1), [(.tmp 78)], (some (75, true))⟩,
                ⟨some 80, (.bin .eql), [(.tmp 79), (.const (.int .i64 (-1)))], (some (75, true))⟩,
                ⟨some 81, .pick, [(.tmp 75), (.tmp 80), (.const (.bool false))], none⟩] [2, 5, 7, 8, 9, 81])
              (.cond (.tmp 81)
                (.region [
                  ⟨some 82, .mv, [(.tmp 5)], none⟩,
                  ⟨some 83, .mv, [(.tmp 9)], none⟩,
                  ⟨some 84, .mv, [(.tmp 7)], none⟩,
                  ⟨some 85, (.bin .add), [(.tmp 84), (.const (.int .i64 1))], none⟩,
                  ⟨some 86, (.indexAddr none 1), [(.tmp 82), (.tmp 83)], none⟩,
                  ⟨none, (.store 1), [(.tmp 86), (.tmp 85)], none⟩] [2, 5, 7, 8])
                .skip)))))
            (.region [
              ⟨some 37, .mv, [(.tmp 8)], none⟩,
              ⟨some 38, (.bin .add), [(.tmp 37), (.const (.int .i64 1))], none⟩,
              ⟨some 8, .mv, [(.tmp 38)], none⟩] [2, 5, 7, 8])))))))
      (.region [
        ⟨some 30, .mv, [(.tmp 7)], none⟩,
        ⟨some 31, (.bin .add), [(.tmp 30), (.const (.int .i64 1))], none⟩,
        ⟨some 7, .mv, [(.tmp 31)], none⟩] [2, 5, 7]))))))
  (.seq
  (.region [
    ⟨some 87, .mv, [(.tmp 5)], none⟩,
    ⟨some 4, .mv, [(.tmp 87)], none⟩] [4])
  .ret)))))
def f47 : Ev.Fn := ⟨2, 88, [.tmp 4], k47⟩
set_option maxRecDepth 100000 in
theorem e47 : compFn prog sig 47 2 [[1, 2], [1, 2, 5], [1, 2, 5, 6], [1, 2, 5, 6], [1, 2, 5, 6, 14], [1, 2, 5, 6, 19], [1, 2, 5, 6], [1, 2, 5, 6], [1, 2, 5, 6], [2, 5, 7], [2, 5, 7], [2, 5, 7, 29], [2, 5, 7, 8], [2, 5, 7, 8], [2, 5, 7, 8, 36], [2, 5, 7, 8, 9, 10], [2, 5, 7, 8, 9, 10, 63], [2, 5, 7, 8, 9, 10], [2, 5, 7, 8, 9, 81], [2, 5, 7, 8], [2, 5, 7, 8], [2, 5, 7], [4]] = some f47 := by kernel_rfl
noncomputable def ref17_Hops_L1 (t_0 : api_Topo) (sw_1 : Int) : (Sl Int × Int) → Option (Sum ((Sl Int × Int)) (Sl Int)) := fun (s1, i2) =>
  bif decide (i2 < t_0.Switches) then ((bif (i2 == sw_1) then ((capI (s1.l ++ [0])).bind fun l13 =>
  some l13) else
  ((capI (s1.l ++ [(-1)])).bind fun l16 =>
  some l16) : Option (List Int)).bind fun l9 =>
  some (.inl ((Sl.mk l9), wr .i64 (i2 + 1)))) else
  (some (.inr s1))

noncomputable def ref17_Hops_L3 (t_0 : api_Topo) (i22 : Int) : (Sl Int × Int) → Option (Sum ((Sl Int × Int)) (Sl Int)) := fun (s29, i30) =>
  bif decide (i30 < (t_0.Links.l.length : Int)) then (((ixI i30 t_0.Links.l.length).bind fun n40 =>
  ((ixI ((gt t_0.Links.l n40).A) s29.l.length).bind fun n45 =>
  (bif ((gt s29.l n45) == i22) then ((ixI ((gt t_0.Links.l n40).B) s29.l.length).bind fun n47 =>
  some ((gt s29.l n47) == (-1))) else (some false)).bind fun b49 =>
  bif b49 then ((ixI ((gt t_0.Links.l n40).B) s29.l.length).bind fun n54 =>
  some (Sl.mk (s29.l.set n54 (wr .i64 (i22 + 1))))) else
  (some s29) : Option (Sl Int)).bind fun s42 =>
  (ixI ((gt t_0.Links.l n40).B) s42.l.length).bind fun n58 =>
  (bif ((gt s42.l n58) == i22) then ((ixI ((gt t_0.Links.l n40).A) s42.l.length).bind fun n60 =>
  some ((gt s42.l n60) == (-1))) else (some false)).bind fun b62 =>
  bif b62 then ((ixI ((gt t_0.Links.l n40).A) s42.l.length).bind fun n67 =>
  some (Sl.mk (s42.l.set n67 (wr .i64 (i22 + 1))))) else
  (some s42) : Option (Sl Int)).bind fun s37 =>
  some (.inl (s37, wr .i64 (i30 + 1)))) else
  (some (.inr s29))

noncomputable def ref17_Hops_L2 (t_0 : api_Topo) : (Sl Int × Int) → Option (Sum ((Sl Int × Int)) (Sl Int)) := fun (s21, i22) =>
  bif decide (i22 < t_0.Switches) then ((loopO (ref17_Hops_L3 t_0 i22) (s21, 0)).bind fun s33 =>
  some (.inl (s33, wr .i64 (i22 + 1)))) else
  (some (.inr s21))

noncomputable def ref17_Hops (t_0 : api_Topo) (sw_1 : Int) : Option (Sl Int) :=
  (loopO (ref17_Hops_L1 t_0 sw_1) (Sl.nil, 0)).bind fun s5 =>
  (loopO (ref17_Hops_L2 t_0) (s5, 0)).bind fun s25 =>
  some s25
theorem ref17_Hops_ok {t_0 : api_Topo} {sw_1 : Int} {z : Sl Int} (hp : ref17_Hops t_0 sw_1 = some z) : Good prog 47 [.agg (c_api_Topo t_0), .d (.lit (.int .i64 sw_1))] [.c (.d (slD 1 cI_i64 z))] [] := by
  unfold ref17_Hops at hp
  refine fn_good mixed e47 (fnS (m := [true]) (s := ⟨[(0, .agg [.d (.lit (.int .i64 t_0.Switches)), .d (slD 6 c_api_Link t_0.Links), .d (slD 2 c_api_Host t_0.Hosts)]), (1, .c (.d (.lit (.int .i64 sw_1))))], [], 0, []⟩) (len := 0) (c := k47) rfl (Sub.of_eq rfl) rfl rfl ?_)
  refine w_seq ?_
  refine w_region ?_
  refine o2 rfl ?_
  refine o1 rfl ?_
  refine o_end (e' := [(1, .c (.d (.lit (.int .i64 sw_1)))), (2, .c (.op 0 0))]) rfl rfl ?_
  refine after_n ?_
  refine w_seq ?_
  refine w_region ?_
  refine o1 rfl ?_
  refine o_end (e' := [(1, .c (.d (.lit (.int .i64 sw_1)))), (2, .c (.op 0 0)), (5, .c (.d (.lit (.slice none 0 0))))]) rfl rfl ?_
  refine after_n ?_
  refine w_seq ?_
  refine w_seq ?_
  refine w_region ?_
  refine o1 rfl ?_
  refine o_end (e' := [(1, .c (.d (.lit (.int .i64 sw_1)))), (2, .c (.op 0 0)), (5, .c (.d (.lit (.slice none 0 0)))), (6, .c (.d (.lit (.int .i64 0))))]) rfl rfl ?_
  refine after_n ?_
  refine w_block ?_
  obtain ⟨s5, h7, hp⟩ := bnd hp
  refine W.mono ?_ (w_loopS (st := fun (v : (Sl Int × Int)) => match v with | (s1, i2) => ⟨[(1, .c (.d (.lit (.int .i64 sw_1)))), (2, .c (.op 0 0)), (5, .c (slC 1 cI_i64 1 s1)), (6, .c (.d (.lit (.int .i64 i2))))], [(0, some (.box [.d (.lit (.int .i64 t_0.Switches)), .d (slD 6 c_api_Link t_0.Links), .d (slD 2 c_api_Host t_0.Hosts)])), (1, slO 1 cI_i64 s1)], 2, []⟩) (a := (Sl.nil, 0)) (Q := Jn (fun (x : Sl Int) o s => match x with | s5 => o = Out.exit 0 ∧ Sub s ⟨[(2, .c (.op 0 0)), (5, .c (slC 1 cI_i64 1 s5))], [(0, some (.box [.d (.lit (.int .i64 t_0.Switches)), .d (slD 6 c_api_Link t_0.Links), .d (slD 2 c_api_Host t_0.Hosts)])), (1, slO 1 cI_i64 s5)], 2, []⟩)) ?_ h7 ?_)
  · intro o s hs20
    obtain ⟨rfl, hs20⟩ := hs20
    refine out_e ?_
    refine after_n ?_
    refine W.sub hs20 ?_
    refine w_seq ?_
    refine w_seq ?_
    refine w_region ?_
    refine o1 rfl ?_
    refine o_end (e' := [(2, .c (.op 0 0)), (5, .c (slC 1 cI_i64 1 s5)), (7, .c (.d (.lit (.int .i64 0))))]) rfl rfl ?_
    refine after_n ?_
    refine w_block ?_
    obtain ⟨s25, h27, hp⟩ := bnd hp
    refine W.mono ?_ (w_loopS (st := fun (v : (Sl Int × Int)) => match v with | (s21, i22) => ⟨[(2, .c (.op 0 0)), (5, .c (slC 1 cI_i64 1 s21)), (7, .c (.d (.lit (.int .i64 i22))))], [(0, some (.box [.d (.lit (.int .i64 t_0.Switches)), .d (slD 6 c_api_Link t_0.Links), .d (slD 2 c_api_Host t_0.Hosts)])), (1, slO 1 cI_i64 s21)], 2, []⟩) (a := (s5, 0)) (Q := Jn (fun (x : Sl Int) o s => match x with | s25 => o = Out.exit 2 ∧ Sub s ⟨[(5, .c (slC 1 cI_i64 0 s25))], [(0, slO 1 cI_i64 s25)], 1, []⟩)) ?_ h27 ?_)
    · intro o s hs72
      obtain ⟨rfl, hs72⟩ := hs72
      refine out_e ?_
      refine after_n ?_
      refine W.sub hs72 ?_
      refine w_seq ?_
      refine w_region ?_
      iterate 2 refine o1 rfl ?_
      refine o_end (e' := [(4, .c (slC 1 cI_i64 0 s25))]) rfl rfl ?_
      refine after_n ?_
      refine w_ret ?_
      obtain rfl := Option.some.inj hp
      rcases s25 with _ | s25'
      · exact leave_at rfl rfl (pr_c p_d pr_nil) pc_nil rfl rfl
      · exact leave_at rfl rfl (pr_c (p_o rfl) pr_nil) pc_nil rfl rfl
    · exact (by rcases s5 with _ | _ <;> first | (exact sub_ren [0, 9001] [2, 5, 7] (by decide) rfl (.cons (.skip .nil)) (Nat.le_of_ble_eq_true rfl)) | (exact sub_ren [0, 1] [2, 5, 7] (by decide) rfl (.cons (.cons .nil)) (Nat.le_of_ble_eq_true rfl)))
    · rintro ⟨s21, i22⟩ r hr
      unfold ref17_Hops_L2 at hr
      refine w_seq ?_
      refine w_seq ?_
      refine w_region ?_
      iterate 3 refine o1 rfl ?_
      refine o1 (v := .c (.d (.lit (.bool (decide (i22 < t_0.Switches)))))) rfl ?_
      refine o_end (e' := [(2, .c (.op 0 0)), (5, .c (slC 1 cI_i64 1 s21)), (7, .c (.d (.lit (.int .i64 i22)))), (29, .c (.d (.lit (.bool (decide (i22 < t_0.Switches))))))]) rfl rfl ?_
      refine after_n ?_
      refine w_cond (t := decide (i22 < t_0.Switches)) rfl (fun hb28 => ?_) (fun hb28 => ?_)
      · have hr := cnd_t hb28 hr
        refine w_skip ?_
        refine after_n ?_
        refine w_seq ?_
        refine w_block ?_
        refine w_seq ?_
        refine w_region ?_
        refine o1 rfl ?_
        refine o_end (e' := [(2, .c (.op 0 0)), (5, .c (slC 1 cI_i64 1 s21)), (7, .c (.d (.lit (.int .i64 i22)))), (8, .c (.d (.lit (.int .i64 0))))]) rfl rfl ?_
        refine after_n ?_
        refine w_block ?_
        obtain ⟨s33, h35, hr⟩ := bnd hr
        refine W.mono ?_ (w_loopS (st := fun (v : (Sl Int × Int)) => match v with | (s29, i30) => ⟨[(2, .c (.op 0 0)), (5, .c (slC 1 cI_i64 1 s29)), (7, .c (.d (.lit (.int .i64 i22)))), (8, .c (.d (.lit (.int .i64 i30))))], [(0, some (.box [.d (.lit (.int .i64 t_0.Switches)), .d (slD 6 c_api_Link t_0.Links), .d (slD 2 c_api_Host t_0.Hosts)])), (1, slO 1 cI_i64 s29)], 2, []⟩) (a := (s21, 0)) (Q := Jn (fun (x : Sl Int) o s => match x with | s33 => o = Out.exit 4 ∧ Sub s ⟨[(2, .c (.op 0 0)), (5, .c (slC 1 cI_i64 1 s33)), (7, .c (.d (.lit (.int .i64 i22))))], [(0, some (.box [.d (.lit (.int .i64 t_0.Switches)), .d (slD 6 c_api_Link t_0.Links), .d (slD 2 c_api_Host t_0.Hosts)])), (1, slO 1 cI_i64 s33)], 2, []⟩)) ?_ h35 ?_)
        · intro o s hs71
          obtain ⟨rfl, hs71⟩ := hs71
          refine out_e ?_
          refine out_n ?_
          refine after_n ?_
          refine W.sub hs71 ?_
          refine w_region ?_
          refine o1 rfl ?_
          refine o1 (v := .c (.d (.lit (.int .i64 (wr .i64 (i22 + 1)))))) rfl ?_
          refine o1 rfl ?_
          refine o_end (e' := [(2, .c (.op 0 0)), (5, .c (slC 1 cI_i64 1 s33)), (7, .c (.d (.lit (.int .i64 (wr .i64 (i22 + 1))))))]) rfl rfl ?_
          obtain rfl := Option.some.inj hr
          exact And.intro rfl (by rcases s33 with _ | _ <;> first | (exact sub_ren [0, 9001] [2, 5, 7] (by decide) rfl (.cons (.skip .nil)) (Nat.le_of_ble_eq_true rfl)) | (exact sub_ren [0, 1] [2, 5, 7] (by decide) rfl (.cons (.cons .nil)) (Nat.le_of_ble_eq_true rfl)))
        · exact (by rcases s21 with _ | _ <;> first | (exact sub_ren [0, 9001] [2, 5, 7, 8] (by decide) rfl (.cons (.skip .nil)) (Nat.le_of_ble_eq_true rfl)) | (exact sub_ren [0, 1] [2, 5, 7, 8] (by decide) rfl (.cons (.cons .nil)) (Nat.le_of_ble_eq_true rfl)))
        · rintro ⟨s29, i30⟩ r hr
          unfold ref17_Hops_L3 at hr
          refine w_seq ?_
          refine w_seq ?_
          refine w_region ?_
          iterate 3 refine o1 rfl ?_
          refine o1 (v := .c (.d (.lit (.int .i64 (t_0.Links.l.length : Int))))) len_sd ?_
          refine o1 (v := .c (.d (.lit (.bool (decide (i30 < (t_0.Links.l.length : Int))))))) rfl ?_
          refine o_end (e' := [(2, .c (.op 0 0)), (5, .c (slC 1 cI_i64 1 s29)), (7, .c (.d (.lit (.int .i64 i22)))), (8, .c (.d (.lit (.int .i64 i30)))), (36, .c (.d (.lit (.bool (decide (i30 < (t_0.Links.l.length : Int)))))))]) rfl rfl ?_
          refine after_n ?_
          refine w_cond (t := decide (i30 < (t_0.Links.l.length : Int))) rfl (fun hb36 => ?_) (fun hb36 => ?_)
          · have hr := cnd_t hb36 hr
            refine w_skip ?_
            refine after_n ?_
            refine w_seq ?_
            obtain ⟨s37, h38, hr⟩ := bnd hr
            refine W.mono (Q := Jn (fun (x : Sl Int) o s => match x with | s37 => o = Out.normal ∧ Sub s ⟨[(2, .c (.op 0 0)), (5, .c (slC 1 cI_i64 1 s37)), (7, .c (.d (.lit (.int .i64 i22)))), (8, .c (.d (.lit (.int .i64 i30))))], [(0, some (.box [.d (.lit (.int .i64 t_0.Switches)), .d (slD 6 c_api_Link t_0.Links), .d (slD 2 c_api_Host t_0.Hosts)])), (1, slO 1 cI_i64 s37)], 2, []⟩) s37) ?_ ?_
            · intro o s hs70
              obtain ⟨rfl, hs70⟩ := hs70
              refine after_n ?_
              refine W.sub hs70 ?_
              refine w_region ?_
              refine o1 rfl ?_
              refine o1 (v := .c (.d (.lit (.int .i64 (wr .i64 (i30 + 1)))))) rfl ?_
              refine o1 rfl ?_
              refine o_end (e' := [(2, .c (.op 0 0)), (5, .c (slC 1 cI_i64 1 s37)), (7, .c (.d (.lit (.int .i64 i22)))), (8, .c (.d (.lit (.int .i64 (wr .i64 (i30 + 1))))))]) rfl rfl ?_
              obtain rfl := Option.some.inj hr
              exact And.intro rfl (by rcases s37 with _ | _ <;> first | (exact sub_ren [0, 9001] [2, 5, 7, 8] (by decide) rfl (.cons (.skip .nil)) (Nat.le_of_ble_eq_true rfl)) | (exact sub_ren [0, 1] [2, 5, 7, 8] (by decide) rfl (.cons (.cons .nil)) (Nat.le_of_ble_eq_true rfl)))
            · refine w_block ?_
              refine w_seq ?_
              obtain ⟨n40, h41, h38⟩ := bnd h38
              refine w_drawn ?_
              iterate 3 refine d1 rfl ?_
              refine d1 (ix_sd h41) ?_
              iterate 5 refine d1 rfl ?_
              refine d1 (ix_sd h41) ?_
              iterate 4 refine d1 rfl ?_
              refine d_fin (e' := [(2, .c (.op 0 0)), (5, .c (slC 1 cI_i64 1 s29)), (7, .c (.d (.lit (.int .i64 i22)))), (8, .c (.d (.lit (.int .i64 i30)))), (9, .c (.d (.lit (.int .i64 ((gt t_0.Links.l n40).A))))), (10, .c (.d (.lit (.int .i64 ((gt t_0.Links.l n40).B)))))]) (n' := 898) rfl rfl rfl rfl ?_
              refine after_n ?_
              refine w_seq ?_
              obtain ⟨s42, h43, h38⟩ := bnd h38
              refine W.mono (Q := Jn (fun (x : Sl Int) o s => match x with | s42 => o = Out.normal ∧ Sub s ⟨[(2, .c (.op 0 0)), (5, .c (slC 1 cI_i64 1 s42)), (7, .c (.d (.lit (.int .i64 i22)))), (8, .c (.d (.lit (.int .i64 i30)))), (9, .c (.d (.lit (.int .i64 ((gt t_0.Links.l n40).A))))), (10, .c (.d (.lit (.int .i64 ((gt t_0.Links.l n40).B)))))], [(0, some (.box [.d (.lit (.int .i64 t_0.Switches)), .d (slD 6 c_api_Link t_0.Links), .d (slD 2 c_api_Host t_0.Hosts)])), (1, slO 1 cI_i64 s42)], 2, []⟩) s42) ?_ ?_
              · intro o s hs57
                obtain ⟨rfl, hs57⟩ := hs57
                refine after_n ?_
                refine W.sub hs57 ?_
                refine w_seq ?_
                obtain ⟨n58, h59, h38⟩ := bnd h38
                obtain ⟨b62, h63, h38⟩ := bnd h38
                refine w_join (J := fun s => Sub s ⟨[(2, .c (.op 0 0)), (5, .c (slC 1 cI_i64 1 s42)), (7, .c (.d (.lit (.int .i64 i22)))), (8, .c (.d (.lit (.int .i64 i30)))), (9, .c (.d (.lit (.int .i64 ((gt t_0.Links.l n40).A))))), (81, .c (.d (.lit (.bool b62))))], [(0, some (.box [.d (.lit (.int .i64 t_0.Switches)), .d (slD 6 c_api_Link t_0.Links), .d (slD 2 c_api_Host t_0.Hosts)])), (1, slO 1 cI_i64 s42)], 2, []⟩) ?_ ?_
                · rcases s42 with _ | s42'
                  · try dsimp only [slC, slO]
                    refine w_region ?_
                    iterate 2 refine o1 rfl ?_
                    exact ix_nil h59
                  · try dsimp only [slC, slO]
                    refine w_region ?_
                    iterate 2 refine o1 rfl ?_
                    refine o1 (ix_o h59) ?_
                    refine o1 (ld_row rfl (ixI_some.1 h59).2 rfl) ?_
                    refine o1 rfl ?_
                    refine o1 (v := .c (.d (.lit (.bool ((gt s42' n58) == i22))))) rfl ?_
                    refine o1 rfl ?_
                    cases hb64 : (((gt s42' n58) == i22) : Bool)
                    · have h63 := cnd_f hb64 h63
                      refine onot rfl (by first | rfl | exact hb64) ?_
                      refine onot rfl (by first | rfl | exact hb64) ?_
                      refine onot rfl (by first | rfl | exact hb64) ?_
                      refine onot rfl (by first | rfl | exact hb64) ?_
                      refine onot rfl (by first | rfl | exact hb64) ?_
                      refine o1 (pk_f (by first | rfl | exact hb64)) ?_
                      cases h63
                      exact o_join (sub_ren [0, 1] [2, 5, 7, 8, 9, 81] (by decide) rfl (.cons (.cons .nil)) (Nat.le_of_ble_eq_true rfl))
                    · have h63 := cnd_t hb64 h63
                      obtain ⟨n60, h61, h63⟩ := bnd h63
                      refine og rfl (by first | rfl | exact hb64) rfl ?_
                      refine og rfl (by first | rfl | exact hb64) rfl ?_
                      refine og rfl (by first | rfl | exact hb64) (ix_o h61) ?_
                      refine og rfl (by first | rfl | exact hb64) (ld_row rfl (ixI_some.1 h61).2 rfl) ?_
                      refine og (v := .c (.d (.lit (.bool ((gt s42' n60) == (-1)))))) rfl (by first | rfl | exact hb64) rfl ?_
                      refine o1 (pk_t (by first | rfl | exact hb64)) ?_
                      cases h63
                      exact o_join (sub_ren [0, 1] [2, 5, 7, 8, 9, 81] (by decide) rfl (.cons (.cons .nil)) (Nat.le_of_ble_eq_true rfl))
                · intro s hs65
                  refine after_n ?_
                  refine W.sub hs65 ?_
                  refine w_cond (t := b62) rfl (fun hb66 => ?_) (fun hb66 => ?_)
                  · have h38 := cnd_t hb66 h38
                    obtain ⟨n67, h68, h38⟩ := bnd h38
                    refine w_join (J := fun s => Sub s ⟨[(2, .c (.op 0 0)), (5, .c (slC 1 cI_i64 1 (Sl.mk (s42.l.set n67 (wr .i64 (i22 + 1)))))), (7, .c (.d (.lit (.int .i64 i22)))), (8, .c (.d (.lit (.int .i64 i30))))], [(0, some (.box [.d (.lit (.int .i64 t_0.Switches)), .d (slD 6 c_api_Link t_0.Links), .d (slD 2 c_api_Host t_0.Hosts)])), (1, slO 1 cI_i64 (Sl.mk (s42.l.set n67 (wr .i64 (i22 + 1)))))], 2, []⟩) ?_ ?_
                    · rcases s42 with _ | s42'
                      · try dsimp only [slC, slO]
                        refine w_region ?_
                        iterate 3 refine o1 rfl ?_
                        refine o1 (v := .c (.d (.lit (.int .i64 (wr .i64 (i22 + 1)))))) rfl ?_
                        exact ix_nil h68
                      · try dsimp only [slC, slO]
                        refine w_region ?_
                        iterate 3 refine o1 rfl ?_
                        refine o1 (v := .c (.d (.lit (.int .i64 (wr .i64 (i22 + 1)))))) rfl ?_
                        refine o1 (ix_o h68) ?_
                        refine o0 (st_row (y := wr .i64 (i22 + 1)) rfl (ixI_some.1 h68).2 rfl rfl rfl (Nat.le_of_ble_eq_true rfl) rfl) ?_
                        rw [len_set s42' cI_i64 n67 (wr .i64 (i22 + 1))]
                        exact o_join (sub_ren [0, 1] [2, 5, 7, 8] (by decide) rfl (.cons (.cons .nil)) (Nat.le_of_ble_eq_true rfl))
                    · intro s hs69
                      refine out_n ?_
                      obtain rfl := Option.some.inj h38
                      exact And.intro rfl (Sub.trans hs69 (sub_ren [0, 1] [2, 5, 7, 8] (by decide) rfl (.cons (.cons .nil)) (Nat.le_of_ble_eq_true rfl)))
                  · have h38 := cnd_f hb66 h38
                    refine w_skip ?_
                    refine out_n ?_
                    obtain rfl := Option.some.inj h38
                    exact And.intro rfl (by rcases s42 with _ | _ <;> first | (exact sub_ren [0, 9001] [2, 5, 7, 8] (by decide) rfl (.cons (.skip .nil)) (Nat.le_of_ble_eq_true rfl)) | (exact sub_ren [0, 1] [2, 5, 7, 8] (by decide) rfl (.cons (.cons .nil)) (Nat.le_of_ble_eq_true rfl)))
              · refine w_seq ?_
                obtain ⟨n45, h46, h43⟩ := bnd h43
                obtain ⟨b49, h50, h43⟩ := bnd h43
                refine w_join (J := fun s => Sub s ⟨[(2, .c (.op 0 0)), (5, .c (slC 1 cI_i64 1 s29)), (7, .c (.d (.lit (.int .i64 i22)))), (8, .c (.d (.lit (.int .i64 i30)))), (9, .c (.d (.lit (.int .i64 ((gt t_0.Links.l n40).A))))), (10, .c (.d (.lit (.int .i64 ((gt t_0.Links.l n40).B))))), (63, .c (.d (.lit (.bool b49))))], [(0, some (.box [.d (.lit (.int .i64 t_0.Switches)), .d (slD 6 c_api_Link t_0.Links), .d (slD 2 c_api_Host t_0.Hosts)])), (1, slO 1 cI_i64 s29)], 2, []⟩) ?_ ?_
                · rcases s29 with _ | s29'
                  · try dsimp only [slC, slO]
                    refine w_region ?_
                    iterate 2 refine o1 rfl ?_
                    exact ix_nil h46
                  · try dsimp only [slC, slO]
                    refine w_region ?_
                    iterate 2 refine o1 rfl ?_
                    refine o1 (ix_o h46) ?_
                    refine o1 (ld_row rfl (ixI_some.1 h46).2 rfl) ?_
                    refine o1 rfl ?_
                    refine o1 (v := .c (.d (.lit (.bool ((gt s29' n45) == i22))))) rfl ?_
                    refine o1 rfl ?_
                    cases hb51 : (((gt s29' n45) == i22) : Bool)
                    · have h50 := cnd_f hb51 h50
                      refine onot rfl (by first | rfl | exact hb51) ?_
                      refine onot rfl (by first | rfl | exact hb51) ?_
                      refine onot rfl (by first | rfl | exact hb51) ?_
                      refine onot rfl (by first | rfl | exact hb51) ?_
                      refine onot rfl (by first | rfl | exact hb51) ?_
                      refine o1 (pk_f (by first | rfl | exact hb51)) ?_
                      cases h50
                      exact o_join (sub_ren [0, 1] [2, 5, 7, 8, 9, 10, 63] (by decide) rfl (.cons (.cons .nil)) (Nat.le_of_ble_eq_true rfl))
                    · have h50 := cnd_t hb51 h50
                      obtain ⟨n47, h48, h50⟩ := bnd h50
                      refine og rfl (by first | rfl | exact hb51) rfl ?_
                      refine og rfl (by first | rfl | exact hb51) rfl ?_
                      refine og rfl (by first | rfl | exact hb51) (ix_o h48) ?_
                      refine og rfl (by first | rfl | exact hb51) (ld_row rfl (ixI_some.1 h48).2 rfl) ?_
                      refine og (v := .c (.d (.lit (.bool ((gt s29' n47) == (-1)))))) rfl (by first | rfl | exact hb51) rfl ?_
                      refine o1 (pk_t (by first | rfl | exact hb51)) ?_
                      cases h50
                      exact o_join (sub_ren [0, 1] [2, 5, 7, 8, 9, 10, 63] (by decide) rfl (.cons (.cons .nil)) (Nat.le_of_ble_eq_true rfl))
                · intro s hs52
                  refine after_n ?_
                  refine W.sub hs52 ?_
                  refine w_cond (t := b49) rfl (fun hb53 => ?_) (fun hb53 => ?_)
                  · have h43 := cnd_t hb53 h43
                    obtain ⟨n54, h55, h43⟩ := bnd h43
                    refine w_join (J := fun s => Sub s ⟨[(2, .c (.op 0 0)), (5, .c (slC 1 cI_i64 1 (Sl.mk (s29.l.set n54 (wr .i64 (i22 + 1)))))), (7, .c (.d (.lit (.int .i64 i22)))), (8, .c (.d (.lit (.int .i64 i30)))), (9, .c (.d (.lit (.int .i64 ((gt t_0.Links.l n40).A))))), (10, .c (.d (.lit (.int .i64 ((gt t_0.Links.l n40).B)))))], [(0, some (.box [.d (.lit (.int .i64 t_0.Switches)), .d (slD 6 c_api_Link t_0.Links), .d (slD 2 c_api_Host t_0.Hosts)])), (1, slO 1 cI_i64 (Sl.mk (s29.l.set n54 (wr .i64 (i22 + 1)))))], 2, []⟩) ?_ ?_
                    · rcases s29 with _ | s29'
                      · try dsimp only [slC, slO]
                        refine w_region ?_
                        iterate 3 refine o1 rfl ?_
                        refine o1 (v := .c (.d (.lit (.int .i64 (wr .i64 (i22 + 1)))))) rfl ?_
                        exact ix_nil h55
                      · try dsimp only [slC, slO]
                        refine w_region ?_
                        iterate 3 refine o1 rfl ?_
                        refine o1 (v := .c (.d (.lit (.int .i64 (wr .i64 (i22 + 1)))))) rfl ?_
                        refine o1 (ix_o h55) ?_
                        refine o0 (st_row (y := wr .i64 (i22 + 1)) rfl (ixI_some.1 h55).2 rfl rfl rfl (Nat.le_of_ble_eq_true rfl) rfl) ?_
                        rw [len_set s29' cI_i64 n54 (wr .i64 (i22 + 1))]
                        exact o_join (sub_ren [0, 1] [2, 5, 7, 8, 9, 10] (by decide) rfl (.cons (.cons .nil)) (Nat.le_of_ble_eq_true rfl))
                    · intro s hs56
                      obtain rfl := Option.some.inj h43
                      exact And.intro rfl (Sub.trans hs56 (sub_ren [0, 1] [2, 5, 7, 8, 9, 10] (by decide) rfl (.cons (.cons .nil)) (Nat.le_of_ble_eq_true rfl)))
                  · have h43 := cnd_f hb53 h43
                    refine w_skip ?_
                    obtain rfl := Option.some.inj h43
                    exact And.intro rfl (by rcases s29 with _ | _ <;> first | (exact sub_ren [0, 9001] [2, 5, 7, 8, 9, 10] (by decide) rfl (.cons (.skip .nil)) (Nat.le_of_ble_eq_true rfl)) | (exact sub_ren [0, 1] [2, 5, 7, 8, 9, 10] (by decide) rfl (.cons (.cons .nil)) (Nat.le_of_ble_eq_true rfl)))
          · have hr := cnd_f hb36 hr
            refine w_exit ?_
            refine after_e ?_
            obtain rfl := Option.some.inj hr
            exact And.intro nofun (And.intro rfl (by rcases s29 with _ | _ <;> first | (exact sub_ren [0, 9001] [2, 5, 7] (by decide) rfl (.cons (.skip .nil)) (Nat.le_of_ble_eq_true rfl)) | (exact sub_ren [0, 1] [2, 5, 7] (by decide) rfl (.cons (.cons .nil)) (Nat.le_of_ble_eq_true rfl))))
      · have hr := cnd_f hb28 hr
        refine w_exit ?_
        refine after_e ?_
        obtain rfl := Option.some.inj hr
        exact And.intro nofun (And.intro rfl (by rcases s21 with _ | _ <;> first | (exact sub_ren [9000] [5] (by decide) rfl (.skip .nil) (Nat.le_of_ble_eq_true rfl)) | (exact sub_ren [1] [5] (by decide) rfl (.cons .nil) (Nat.le_of_ble_eq_true rfl))))
  · exact (sub_ren [0, 9001] [1, 2, 5, 6] (by decide) rfl (.cons (.skip .nil)) (Nat.le_of_ble_eq_true rfl))
  · rintro ⟨s1, i2⟩ r hr
    unfold ref17_Hops_L1 at hr
    refine w_seq ?_
    refine w_seq ?_
    refine w_region ?_
    iterate 3 refine o1 rfl ?_
    refine o1 (v := .c (.d (.lit (.bool (decide (i2 < t_0.Switches)))))) rfl ?_
    refine o_end (e' := [(1, .c (.d (.lit (.int .i64 sw_1)))), (2, .c (.op 0 0)), (5, .c (slC 1 cI_i64 1 s1)), (6, .c (.d (.lit (.int .i64 i2)))), (14, .c (.d (.lit (.bool (decide (i2 < t_0.Switches))))))]) rfl rfl ?_
    refine after_n ?_
    refine w_cond (t := decide (i2 < t_0.Switches)) rfl (fun hb8 => ?_) (fun hb8 => ?_)
    · have hr := cnd_t hb8 hr
      refine w_skip ?_
      refine after_n ?_
      refine w_seq ?_
      obtain ⟨l9, h10, hr⟩ := bnd hr
      refine W.mono (Q := Jn (fun (x : List Int) o s => match x with | l9 => o = Out.normal ∧ Sub s ⟨[(1, .c (.d (.lit (.int .i64 sw_1)))), (2, .c (.op 0 0)), (5, .c (slC 1 cI_i64 1 (Sl.mk l9))), (6, .c (.d (.lit (.int .i64 i2))))], [(0, some (.box [.d (.lit (.int .i64 t_0.Switches)), .d (slD 6 c_api_Link t_0.Links), .d (slD 2 c_api_Host t_0.Hosts)])), (1, slO 1 cI_i64 (Sl.mk l9))], 2, []⟩) l9) ?_ ?_
      · intro o s hs19
        obtain ⟨rfl, hs19⟩ := hs19
        refine after_n ?_
        refine W.sub hs19 ?_
        refine w_region ?_
        refine o1 rfl ?_
        refine o1 (v := .c (.d (.lit (.int .i64 (wr .i64 (i2 + 1)))))) rfl ?_
        refine o1 rfl ?_
        refine o_end (e' := [(1, .c (.d (.lit (.int .i64 sw_1)))), (2, .c (.op 0 0)), (5, .c (slC 1 cI_i64 1 (Sl.mk l9))), (6, .c (.d (.lit (.int .i64 (wr .i64 (i2 + 1))))))]) rfl rfl ?_
        obtain rfl := Option.some.inj hr
        exact And.intro rfl (sub_ren [0, 1] [1, 2, 5, 6] (by decide) rfl (.cons (.cons .nil)) (Nat.le_of_ble_eq_true rfl))
      · refine w_block ?_
        refine w_seq ?_
        refine w_region ?_
        iterate 2 refine o1 rfl ?_
        refine o1 (v := .c (.d (.lit (.bool (i2 == sw_1))))) rfl ?_
        refine o_end (e' := [(1, .c (.d (.lit (.int .i64 sw_1)))), (2, .c (.op 0 0)), (5, .c (slC 1 cI_i64 1 s1)), (6, .c (.d (.lit (.int .i64 i2)))), (19, .c (.d (.lit (.bool (i2 == sw_1)))))]) rfl rfl ?_
        refine after_n ?_
        refine w_cond (t := (i2 == sw_1)) rfl (fun hb12 => ?_) (fun hb12 => ?_)
        · have h10 := cnd_t hb12 h10
          obtain ⟨l13, h14, h10⟩ := bnd h10
          refine w_join (J := fun s => Sub s ⟨[(1, .c (.d (.lit (.int .i64 sw_1)))), (2, .c (.op 0 0)), (5, .c (slC 1 cI_i64 1 (Sl.mk l13))), (6, .c (.d (.lit (.int .i64 i2))))], [(0, some (.box [.d (.lit (.int .i64 t_0.Switches)), .d (slD 6 c_api_Link t_0.Links), .d (slD 2 c_api_Host t_0.Hosts)])), (1, slO 1 cI_i64 (Sl.mk l13))], 2, []⟩) ?_ ?_
          · rcases s1 with _ | s1'
            · try dsimp only [slC, slO]
              refine w_region ?_
              refine o1 rfl ?_
              refine o2 rfl ?_
              refine o2 (app_nil (enc := cI_i64) rfl h14) ?_
              refine o1 rfl ?_
              exact o_join (sub_ren [0, 3] [1, 2, 5, 6] (by decide) rfl (.cons (.cons .nil)) (Nat.le_of_ble_eq_true rfl))
            · try dsimp only [slC, slO]
              refine w_region ?_
              refine o1 rfl ?_
              refine o2 rfl ?_
              refine o2 (app_o rfl rfl h14) ?_
              refine o1 rfl ?_
              exact o_join (sub_ren [0, 3] [1, 2, 5, 6] (by decide) rfl (.cons (.cons .nil)) (Nat.le_of_ble_eq_true rfl))
          · intro s hs15
            refine out_n ?_
            obtain rfl := Option.some.inj h10
            exact And.intro rfl (Sub.trans hs15 (sub_ren [0, 1] [1, 2, 5, 6] (by decide) rfl (.cons (.cons .nil)) (Nat.le_of_ble_eq_true rfl)))
        · have h10 := cnd_f hb12 h10
          obtain ⟨l16, h17, h10⟩ := bnd h10
          refine w_join (J := fun s => Sub s ⟨[(1, .c (.d (.lit (.int .i64 sw_1)))), (2, .c (.op 0 0)), (5, .c (slC 1 cI_i64 1 (Sl.mk l16))), (6, .c (.d (.lit (.int .i64 i2))))], [(0, some (.box [.d (.lit (.int .i64 t_0.Switches)), .d (slD 6 c_api_Link t_0.Links), .d (slD 2 c_api_Host t_0.Hosts)])), (1, slO 1 cI_i64 (Sl.mk l16))], 2, []⟩) ?_ ?_
          · rcases s1 with _ | s1'
            · try dsimp only [slC, slO]
              refine w_region ?_
              refine o1 rfl ?_
              refine o2 rfl ?_
              refine o2 (app_nil (enc := cI_i64) rfl h17) ?_
              refine o1 rfl ?_
              exact o_join (sub_ren [0, 3] [1, 2, 5, 6] (by decide) rfl (.cons (.cons .nil)) (Nat.le_of_ble_eq_true rfl))
            · try dsimp only [slC, slO]
              refine w_region ?_
              refine o1 rfl ?_
              refine o2 rfl ?_
              refine o2 (app_o rfl rfl h17) ?_
              refine o1 rfl ?_
              exact o_join (sub_ren [0, 3] [1, 2, 5, 6] (by decide) rfl (.cons (.cons .nil)) (Nat.le_of_ble_eq_true rfl))
          · intro s hs18
            refine out_n ?_
            obtain rfl := Option.some.inj h10
            exact And.intro rfl (Sub.trans hs18 (sub_ren [0, 1] [1, 2, 5, 6] (by decide) rfl (.cons (.cons .nil)) (Nat.le_of_ble_eq_true rfl)))
    · have hr := cnd_f hb8 hr
      refine w_exit ?_
      refine after_e ?_
      obtain rfl := Option.some.inj hr
      exact And.intro nofun (And.intro rfl (by rcases s1 with _ | _ <;> first | (exact sub_ren [0, 9001] [2, 5] (by decide) rfl (.cons (.skip .nil)) (Nat.le_of_ble_eq_true rfl)) | (exact sub_ren [0, 1] [2, 5] (by decide) rfl (.cons (.cons .nil)) (Nat.le_of_ble_eq_true rfl))))

/- turnout/turnoutref13.Same -/
def k15 : CC :=
  (.seq
  (.region [
    ⟨some 4, .mv, [(.const (.bool false))], none⟩] [0, 1])
  (.seq
  (.seq
  (.region [
    ⟨some 6, .mv, [(.tmp 0)], none⟩,
    ⟨some 7, (.len false), [(.tmp 6)], none⟩,
    ⟨some 8, .mv, [(.tmp 1)], none⟩,
    ⟨some 9, (.len false), [(.tmp 8)], none⟩,
    ⟨some 10, (.bin .neq), [(.tmp 7), (.tmp 9)], none⟩] [0, 1, 10])
  (.cond (.tmp 10)
    (.seq
    (.region [
      ⟨some 4, .mv, [(.const (.bool false))], none⟩] [4])
    .ret)
    .skip))
  (.seq
  (.seq
  (.region [
    ⟨some 5, .mv, [(.const (.int .i64 0))], none⟩] [0, 1, 5])
  (.block 0
    (.loop [0, 1, 5]
      (.seq
      (.seq
      (.region [
        ⟨some 11, .mv, [(.tmp 5)], none⟩,
        ⟨some 12, .mv, [(.tmp 0)], none⟩,
        ⟨some 13, (.len false), [(.tmp 12)], none⟩,
        ⟨some 14, (.bin .lss), [(.tmp 11), (.tmp 13)], none⟩] [0, 1, 5, 14])
      (.cond (.tmp 14)
        .skip
        (.exit 0)))
      (.seq
      (.block 1
        (.seq
        (.drawn [
          ⟨some 17, .mv, [(.tmp 0)], none⟩,
          ⟨some 18, .mv, [(.tmp 5)], none⟩,
          ⟨some 19, (.indexAddr none 1), [(.tmp 17), (.tmp 18)], none⟩,
          ⟨some 20, (.load false 1), [(.tmp 19)], none⟩,
          ⟨some 21, .mv, [(.tmp 1)], none⟩,
          ⟨some 22, .mv, [(.tmp 5)], none⟩,
          ⟨some 23, (.indexAddr none 1), [(.tmp 21), (.tmp 22)], none⟩,
          ⟨some 24, (.load false 1), [(.tmp 23)], none⟩,
          ⟨some 25, (.bin .neq), [(.tmp 20), (.tmp 24)], none⟩] [] [0, 1, 5, 25])
        (.cond (.tmp 25)
          (.seq
          (.region [
            ⟨some 4, .mv, [(.const (.bool false))], none⟩] [4])
          .ret)
          .skip)))
      (.region [
        ⟨some 15, .mv, [(.tmp 5)], none⟩,
        ⟨some 16, (.bin .add), [(.tmp 15), (.const (.int .i64 1))], none⟩,
        ⟨some 5, .mv, [(.tmp 16)], none⟩] [0, 1, 5]))))))
  (.seq
  (.region [
    ⟨some 4, .mv, [(.const (.bool true))], none⟩] [4])
  .ret))))
def f15 : Ev.Fn := ⟨2, 26, [.tmp 4], k15⟩
set_option maxRecDepth 100000 in
theorem e15 : compFn prog sig 15 2 [[0, 1], [0, 1, 10], [4], [0, 1, 5], [0, 1, 5], [0, 1, 5, 14], [0, 1, 5, 25], [4], [0, 1, 5], [4]] = some f15 := by kernel_rfl
noncomputable def ref13_Same_L1 (a_0 : Sl Int) (b_1 : Sl Int) : Int → Option (Sum (Int) (Sum (Unit) (Unit))) := fun i2 =>
  bif decide (i2 < (a_0.l.length : Int)) then ((ixI i2 a_0.l.length).bind fun n7 =>
  (ixI i2 b_1.l.length).bind fun n9 =>
  bif ((gt a_0.l n7) != (gt b_1.l n9)) then (some (.inr (.inl ()))) else
  (some (.inl (wr .i64 (i2 + 1))))) else
  (some (.inr (.inr ())))

noncomputable def ref13_Same (a_0 : Sl Int) (b_1 : Sl Int) : Option (Bool) :=
  bif ((a_0.l.length : Int) != (b_1.l.length : Int)) then (some false) else
  ((loopO (ref13_Same_L1 a_0 b_1) 0).bind fun
  | .inl _ => (some false)
  | .inr (_) => (some true))
theorem ref13_Same_ok {a_0 : Sl Int} {b_1 : Sl Int} {z : Bool} (hp : ref13_Same a_0 b_1 = some z) : Good prog 15 [.d (slD 1 cI_i64 a_0), .d (slD 1 cI_i64 b_1)] [.c (.d (.lit (.bool z)))] [] := by
  unfold ref13_Same at hp
  refine fn_good mixed e15 (fnS (m := [false]) (s := ⟨[(0, .c (.d (slD 1 cI_i64 a_0))), (1, .c (.d (slD 1 cI_i64 b_1)))], [], 0, []⟩) (len := 0) (c := k15) rfl (Sub.of_eq rfl) rfl rfl ?_)
  refine w_seq ?_
  refine w_region ?_
  refine o1 rfl ?_
  refine o_end (e' := [(0, .c (.d (slD 1 cI_i64 a_0))), (1, .c (.d (slD 1 cI_i64 b_1)))]) rfl rfl ?_
  refine after_n ?_
  refine w_seq ?_
  refine w_seq ?_
  refine w_region ?_
  refine o1 rfl ?_
  refine o1 (v := .c (.d (.lit (.int .i64 (a_0.l.length : Int))))) len_sd ?_
  refine o1 rfl ?_
  refine o1 (v := .c (.d (.lit (.int .i64 (b_1.l.length : Int))))) len_sd ?_
  refine o1 (v := .c (.d (.lit (.bool ((a_0.l.length : Int) != (b_1.l.length : Int)))))) rfl ?_
  refine o_end (e' := [(0, .c (.d (slD 1 cI_i64 a_0))), (1, .c (.d (slD 1 cI_i64 b_1))), (10, .c (.d (.lit (.bool ((a_0.l.length : Int) != (b_1.l.length : Int))))))]) rfl rfl ?_
  refine after_n ?_
  refine w_cond (t := ((a_0.l.length : Int) != (b_1.l.length : Int))) rfl (fun hb1 => ?_) (fun hb1 => ?_)
  · have hp := cnd_t hb1 hp
    refine w_seq ?_
    refine w_region ?_
    refine o1 rfl ?_
    refine o_end (e' := [(4, .c (.d (.lit (.bool false))))]) rfl rfl ?_
    refine after_n ?_
    refine w_ret ?_
    refine after_r ?_
    obtain rfl := Option.some.inj hp
    exact leave_at rfl rfl (pr_c p_d pr_nil) pc_nil rfl rfl
  · have hp := cnd_f hb1 hp
    refine w_skip ?_
    refine after_n ?_
    refine w_seq ?_
    refine w_seq ?_
    refine w_region ?_
    refine o1 rfl ?_
    refine o_end (e' := [(0, .c (.d (slD 1 cI_i64 a_0))), (1, .c (.d (slD 1 cI_i64 b_1))), (5, .c (.d (.lit (.int .i64 0))))]) rfl rfl ?_
    refine after_n ?_
    refine w_block ?_
    obtain ⟨x4, h5, hp⟩ := bnd hp
    refine W.mono ?_ (w_loopS (st := fun (v : Int) => match v with | i2 => ⟨[(0, .c (.d (slD 1 cI_i64 a_0))), (1, .c (.d (slD 1 cI_i64 b_1))), (5, .c (.d (.lit (.int .i64 i2))))], [], 0, []⟩) (a := 0) (Q := Jn (fun (x : Sum (Unit) (Unit)) o s => match x with | .inl _ => o = Out.ret ∧ Sub s ⟨[(4, .c (.d (.lit (.bool false))))], [], 0, []⟩ | .inr (_) => o = Out.exit 0 ∧ Sub s ⟨[], [], 0, []⟩)) ?_ h5 ?_)
    · intro o s hs12
      rcases x4 with (_ | _)
      · obtain ⟨rfl, hs12⟩ := hs12
        refine out_r ?_
        refine after_r ?_
        obtain rfl := Option.some.inj hp
        refine wk.sub hs12 ?_
        exact leave_at rfl rfl (pr_c p_d pr_nil) pc_nil rfl rfl
      · obtain ⟨rfl, hs12⟩ := hs12
        refine out_e ?_
        refine after_n ?_
        refine W.sub hs12 ?_
        refine w_seq ?_
        refine w_region ?_
        refine o1 rfl ?_
        refine o_end (e' := [(4, .c (.d (.lit (.bool true))))]) rfl rfl ?_
        refine after_n ?_
        refine w_ret ?_
        obtain rfl := Option.some.inj hp
        exact leave_at rfl rfl (pr_c p_d pr_nil) pc_nil rfl rfl
    · exact (sub_ren [] [0, 1, 5] (by decide) rfl .nil (Nat.le_of_ble_eq_true rfl))
    · rintro i2 r hr
      unfold ref13_Same_L1 at hr
      refine w_seq ?_
      refine w_seq ?_
      refine w_region ?_
      iterate 2 refine o1 rfl ?_
      refine o1 (v := .c (.d (.lit (.int .i64 (a_0.l.length : Int))))) len_sd ?_
      refine o1 (v := .c (.d (.lit (.bool (decide (i2 < (a_0.l.length : Int))))))) rfl ?_
      refine o_end (e' := [(0, .c (.d (slD 1 cI_i64 a_0))), (1, .c (.d (slD 1 cI_i64 b_1))), (5, .c (.d (.lit (.int .i64 i2)))), (14, .c (.d (.lit (.bool (decide (i2 < (a_0.l.length : Int)))))))]) rfl rfl ?_
      refine after_n ?_
      refine w_cond (t := decide (i2 < (a_0.l.length : Int))) rfl (fun hb6 => ?_) (fun hb6 => ?_)
      · have hr := cnd_t hb6 hr
        refine w_skip ?_
        refine after_n ?_
        refine w_seq ?_
        refine w_block ?_
        refine w_seq ?_
        obtain ⟨n7, h8, hr⟩ := bnd hr
        obtain ⟨n9, h10, hr⟩ := bnd hr
        refine w_drawn ?_
        iterate 2 refine d1 rfl ?_
        refine d1 (ix_sd h8) ?_
        iterate 3 refine d1 rfl ?_
        refine d1 (ix_sd h10) ?_
        refine d1 rfl ?_
        refine d1 (v := .c (.d (.lit (.bool ((gt a_0.l n7) != (gt b_1.l n9)))))) rfl ?_
        refine d_fin (e' := [(0, .c (.d (slD 1 cI_i64 a_0))), (1, .c (.d (slD 1 cI_i64 b_1))), (5, .c (.d (.lit (.int .i64 i2)))), (25, .c (.d (.lit (.bool ((gt a_0.l n7) != (gt b_1.l n9))))))]) (n' := 576) rfl rfl rfl rfl ?_
        refine after_n ?_
        refine w_cond (t := ((gt a_0.l n7) != (gt b_1.l n9))) rfl (fun hb11 => ?_) (fun hb11 => ?_)
        · have hr := cnd_t hb11 hr
          refine w_seq ?_
          refine w_region ?_
          refine o1 rfl ?_
          refine o_end (e' := [(4, .c (.d (.lit (.bool false))))]) rfl rfl ?_
          refine after_n ?_
          refine w_ret ?_
          refine out_r ?_
          refine after_r ?_
          obtain rfl := Option.some.inj hr
          exact And.intro nofun (And.intro rfl (sub_ren [] [4] (by decide) rfl .nil (Nat.le_of_ble_eq_true rfl)))
        · have hr := cnd_f hb11 hr
          refine w_skip ?_
          refine out_n ?_
          refine after_n ?_
          refine w_region ?_
          refine o1 rfl ?_
          refine o1 (v := .c (.d (.lit (.int .i64 (wr .i64 (i2 + 1)))))) rfl ?_
          refine o1 rfl ?_
          refine o_end (e' := [(0, .c (.d (slD 1 cI_i64 a_0))), (1, .c (.d (slD 1 cI_i64 b_1))), (5, .c (.d (.lit (.int .i64 (wr .i64 (i2 + 1))))))]) rfl rfl ?_
          obtain rfl := Option.some.inj hr
          exact And.intro rfl (sub_ren [] [0, 1, 5] (by decide) rfl .nil (Nat.le_of_ble_eq_true rfl))
      · have hr := cnd_f hb6 hr
        refine w_exit ?_
        refine after_e ?_
        obtain rfl := Option.some.inj hr
        exact And.intro nofun (And.intro rfl (sub_ren [] [] (by decide) rfl .nil (Nat.le_of_ble_eq_true rfl)))

end Go.Proofs.Ytjfhiochcdjkhaa.T
