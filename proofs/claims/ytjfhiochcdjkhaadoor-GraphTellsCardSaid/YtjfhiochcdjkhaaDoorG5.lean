/- What functions of the program compute, and that the model's run computes it. Conditions: as stated. -/
import Derived.Test.YtjfhiochcdjkhaaDoorG5a
open Go.Ev Go
namespace Go.Proofs.YtjfhiochcdjkhaaDoor.G

/- turnout/turnoutref20.Far -/
def k14 : CC :=
  (.seq
  (.region [
    ⟨some 4, .mv, [(.const (.slice none 0 0))], none⟩,
    ⟨some 5, .mv, [(.const (.bool false))], none⟩] [0, 1])
  (.seq
  (.region [
    ⟨some 13, .mv, [(.tmp 0)], none⟩,
    ⟨some 14, .mv, [(.tmp 1)], none⟩,
    ⟨some 15, (.call false []), [(.func 7), (.tmp 13), (.tmp 14)], none⟩,
    ⟨some 12, .mv, [(.tmp 15)], none⟩,
    ⟨some 16, (.extract 0), [(.tmp 12)], none⟩,
    ⟨some 17, (.extract 1), [(.tmp 12)], none⟩,
    ⟨some 6, .mv, [(.tmp 16)], none⟩,
    ⟨some 7, .mv, [(.tmp 17)], none⟩] [0, 1, 7])
  (.seq
  (.seq
  (.region [
    ⟨some 18, .mv, [(.tmp 7)], none⟩,
    ⟨some 19, (.un .not), [(.tmp 18)], none⟩] [0, 1, 19])
  (.cond (.tmp 19)
    (.seq
    (.region [
      ⟨some 4, .mv, [(.const (.slice none 0 0))], none⟩,
      ⟨some 5, .mv, [(.const (.bool false))], none⟩] [4, 5])
    .ret)
    .skip))
  (.seq
  (.region [
    ⟨some 8, .mv, [(.const (.slice none 0 0))], none⟩] [0, 1, 8])
  (.seq
  (.seq
  (.region [
    ⟨some 9, .mv, [(.const (.int .i64 0))], none⟩] [0, 1, 8, 9])
  (.block 0
    (.loop [0, 1, 8, 9]
      (.seq
      (.seq
      (.region [
        ⟨some 20, .mv, [(.tmp 9)], none⟩,
        ⟨some 21, .mv, [(.tmp 0)], none⟩,
        ⟨some 22, (.bin .lss), [(.tmp 20), (.tmp 21)], none⟩] [0, 1, 8, 9, 22])
      (.cond (.tmp 22)
        .skip
        (.exit 0)))
      (.seq
      (.block 1
        (.region [
          ⟨some 25, .mv, [(.tmp 8)], none⟩,
          ⟨some 26, (.buildSlice 1 1 [(.int .i64 0)] [0]), [(.const (.int .i64 0))], none⟩,
          ⟨some 27, (.append 1), [(.tmp 25), (.tmp 26)], none⟩,
          ⟨some 8, .mv, [(.tmp 27)], none⟩] [0, 1, 8, 9]))
      (.region [
        ⟨some 23, .mv, [(.tmp 9)], none⟩,
        ⟨some 24, (.bin .add), [(.tmp 23), (.const (.int .i64 1))], none⟩,
        ⟨some 9, .mv, [(.tmp 24)], none⟩] [0, 1, 8, 9]))))))
  (.seq
  (.seq
  (.region [
    ⟨some 10, .mv, [(.const (.int .i64 0))], none⟩] [0, 1, 8, 10])
  (.block 2
    (.loop [0, 1, 8, 10]
      (.seq
      (.seq
      (.region [
        ⟨some 28, .mv, [(.tmp 10)], none⟩,
        ⟨some 29, .mv, [(.tmp 0)], none⟩,
        ⟨some 30, (.bin .lss), [(.tmp 28), (.tmp 29)], none⟩] [0, 1, 8, 10, 30])
      (.cond (.tmp 30)
        .skip
        (.exit 2)))
      (.seq
      (.block 3
        (.seq
        (.region [
          ⟨some 11, .mv, [(.const (.int .i64 0))], none⟩] [0, 1, 8, 10, 11])
        (.block 4
          (.loop [0, 1, 8, 10, 11]
            (.seq
            (.seq
            (.region [
              ⟨some 33, .mv, [(.tmp 11)], none⟩,
              ⟨some 34, .mv, [(.tmp 1)], none⟩,
              ⟨some 35, (.len false), [(.tmp 34)], none⟩,
              ⟨some 36, (.bin .lss), [(.tmp 33), (.tmp 35)], none⟩] [0, 1, 8, 10, 11, 36])
            (.cond (.tmp 36)
              .skip
              (.exit 4)))
            (.seq
            (.block 5
              (.seq
              (.drawn [
                ⟨some 39, .mv, [(.tmp 8)], none⟩,
                ⟨some 40, .mv, [(.tmp 1)], none⟩,
                ⟨some 41, .mv, [(.tmp 11)], none⟩,
                ⟨some 42, (.indexAddr none 2), [(.tmp 40), (.tmp 41)], none⟩,
                ⟨some 43, (.fieldAddr 1), [(.tmp 42)], none⟩,
                ⟨some 44, (.load false 1), [(.tmp 43)], none⟩,
                ⟨some 45, (.indexAddr none 1), [(.tmp 39), (.tmp 44)], none⟩,
                ⟨some 46, (.load false 1), [(.tmp 45)], none⟩,
                ⟨some 47, .mv, [(.tmp 8)], none⟩,
                ⟨some 48, .mv, [(.tmp 1)], none⟩,
                ⟨some 49, .mv, [(.tmp 11)], none⟩,
                ⟨some 50, (.indexAddr none 2), [(.tmp 48), (.tmp 49)], none⟩,
                ⟨some 51, (.fieldAddr 0), [(.tmp 50)], none⟩,
                ⟨some 52, (.load false 1), [(.tmp 51)], none⟩,
                ⟨some 53, (.indexAddr none 1), [(.tmp 47), (.tmp 52)], none⟩,
                ⟨some 54, (.load false 1), [(.tmp 53)], none⟩,
                ⟨some 55, (.bin .add), [(.tmp 54), (.const (.int .i64 1))], none⟩,
                ⟨some 56, (.bin .lss), [(.tmp 46), (.tmp 55)], none⟩] [] [0, 1, 8, 10, 11, 56])
              (.cond (.tmp 56)
                (.drawn [
                  ⟨some 57, .mv, [(.tmp 8)], none⟩,
                  ⟨some 58, .mv, [(.tmp 1)], none⟩,
                  ⟨some 59, .mv, [(.tmp 11)], none⟩,
                  ⟨some 60, (.indexAddr none 2), [(.tmp 58), (.tmp 59)], none⟩,
                  ⟨some 61, (.fieldAddr 1), [(.tmp 60)], none⟩,
                  ⟨some 62, (.load false 1), [(.tmp 61)], none⟩,
                  ⟨some 63, .mv, [(.tmp 8)], none⟩,
                  ⟨some 64, .mv, [(.tmp 1)], none⟩,
                  ⟨some 65, .mv, [(.tmp 11)], none⟩,
                  ⟨some 66, (.indexAddr none 2), [(.tmp 64), (.tmp 65)], none⟩,
                  ⟨some 67, (.fieldAddr 0), [(.tmp 66)], none⟩,
                  ⟨some 68, (.load false 1), [(.tmp 67)], none⟩,
                  ⟨some 69, (.indexAddr none 1), [(.tmp 63), (.tmp 68)], none⟩,
                  ⟨some 70, (.load false 1), [(.tmp 69)], none⟩,
                  ⟨some 71, (.bin .add), [(.tmp 70), (.const (.int .i64 1))], none⟩,
                  ⟨some 72, (.indexAddr none 1), [(.tmp 57), (.tmp 62)], none⟩,
                  ⟨none, (.store 1), [(.tmp 72), (.tmp 71)], none⟩] [] [0, 1, 8, 10, 11])
                .skip)))
            (.region [
              ⟨some 37, .mv, [(.tmp 11)], none⟩,
              ⟨some 38, (.bin .add), [(.tmp 37), (.const (.int .i64 1))], none⟩,
              ⟨some 11, .mv, [(.tmp 38)], none⟩] [0, 1, 8, 10, 11])))))))
      (.region [
        ⟨some 31, .mv, [(.tmp 10)], none⟩,
        ⟨some 32, (.bin .add), [(.tmp 31), (.const (.int .i64 1))], none⟩,
        ⟨some 10, .mv, [(.tmp 32)], none⟩] [0, 1, 8, 10]))))))
  (.seq
  (.region [
    ⟨some 73, .mv, [(.tmp 8)], none⟩,
    ⟨some 4, .mv, [(.tmp 73)], none⟩,
    ⟨some 5, .mv, [(.const (.bool true))], none⟩] [4, 5])
  .ret)))))))
def f14 : Ev.Fn := ⟨2, 74, [.tmp 4, .tmp 5], k14⟩
set_option maxRecDepth 100000 in
theorem e14 : compFn prog sig 14 2 [[0, 1], [0, 1, 7], [0, 1, 19], [4, 5], [0, 1, 8], [0, 1, 8, 9], [0, 1, 8, 9], [0, 1, 8, 9, 22], [0, 1, 8, 9], [0, 1, 8, 9], [0, 1, 8, 10], [0, 1, 8, 10], [0, 1, 8, 10, 30], [0, 1, 8, 10, 11], [0, 1, 8, 10, 11], [0, 1, 8, 10, 11, 36], [0, 1, 8, 10, 11, 56], [0, 1, 8, 10, 11], [0, 1, 8, 10, 11], [0, 1, 8, 10], [4, 5]] = some f14 := by kernel_rfl
noncomputable def ref20_Far_L1 (n_0 : Int) : (Sl Int × Int) → Option (Sum ((Sl Int × Int)) (Sl Int)) := fun (s5, i6) =>
  bif decide (i6 < n_0) then ((capI (s5.l ++ [0])).bind fun l13 =>
  some (.inl ((Sl.mk l13), wr .i64 (i6 + 1)))) else
  (some (.inr s5))

noncomputable def ref20_Far_L3 (l_1 : Sl ref20_Edge) : (Sl Int × Int) → Option (Sum ((Sl Int × Int)) (Sl Int)) := fun (s25, i26) =>
  bif decide (i26 < (l_1.l.length : Int)) then (((ixI i26 l_1.l.length).bind fun n36 =>
  (ixI ((gt l_1.l n36).To) s25.l.length).bind fun n38 =>
  (ixI ((gt l_1.l n36).From) s25.l.length).bind fun n40 =>
  bif decide ((gt s25.l n38) < (wr .i64 ((gt s25.l n40) + 1))) then (some (Sl.mk (s25.l.set n38 (wr .i64 ((gt s25.l n40) + 1))))) else
  (some s25) : Option (Sl Int)).bind fun s33 =>
  some (.inl (s33, wr .i64 (i26 + 1)))) else
  (some (.inr s25))

noncomputable def ref20_Far_L2 (n_0 : Int) (l_1 : Sl ref20_Edge) : (Sl Int × Int) → Option (Sum ((Sl Int × Int)) (Sl Int)) := fun (s17, i18) =>
  bif decide (i18 < n_0) then ((loopO (ref20_Far_L3 l_1) (s17, 0)).bind fun s29 =>
  some (.inl (s29, wr .i64 (i18 + 1)))) else
  (some (.inr s17))

noncomputable def ref20_Far (n_0 : Int) (l_1 : Sl ref20_Edge) : Option ((Sl Int × Bool)) :=
  (ref20_Order n_0 l_1).bind fun (r1, r2) =>
  bif (!r2) then (some (Sl.nil, false)) else
  ((loopO (ref20_Far_L1 n_0) (Sl.nil, 0)).bind fun s9 =>
  (loopO (ref20_Far_L2 n_0 l_1) (s9, 0)).bind fun s21 =>
  some (s21, true))
theorem ref20_Far_ok {n_0 : Int} {l_1 : Sl ref20_Edge} {z : (Sl Int × Bool)} (hp : ref20_Far n_0 l_1 = some z) : Good prog 14 [.d (.lit (.int .i64 n_0)), .d (slD 2 c_ref20_Edge l_1)] [.c (.d (slD 1 cI_i64 z.1)), .c (.d (.lit (.bool z.2)))] [] := by
  unfold ref20_Far at hp
  refine fn_good mixed e14 (fnS (m := [true, false]) (s := ⟨[(0, .c (.d (.lit (.int .i64 n_0)))), (1, .c (.d (slD 2 c_ref20_Edge l_1)))], [], 0, []⟩) (len := 0) (c := k14) rfl (Sub.of_eq rfl) rfl rfl ?_)
  refine w_seq ?_
  refine w_region ?_
  iterate 2 refine o1 rfl ?_
  refine o_end (e' := [(0, .c (.d (.lit (.int .i64 n_0)))), (1, .c (.d (slD 2 c_ref20_Edge l_1)))]) rfl rfl ?_
  refine after_n ?_
  refine w_seq ?_
  obtain ⟨⟨r1, r2⟩, h3, hp⟩ := bnd hp
  refine w_region ?_
  iterate 2 refine o1 rfl ?_
  refine oc (rs := [.c (.d (slD 1 cI_i64 r1)), .c (.d (.lit (.bool r2)))]) (outs := []) rfl (ref20_Order_ok h3) rfl ?_
  iterate 5 refine o1 rfl ?_
  refine o_end (e' := [(0, .c (.d (.lit (.int .i64 n_0)))), (1, .c (.d (slD 2 c_ref20_Edge l_1))), (7, .c (.d (.lit (.bool r2))))]) rfl rfl ?_
  refine after_n ?_
  refine w_seq ?_
  refine w_seq ?_
  refine w_region ?_
  refine o1 rfl ?_
  refine o1 (v := .c (.d (.lit (.bool (!r2))))) rfl ?_
  refine o_end (e' := [(0, .c (.d (.lit (.int .i64 n_0)))), (1, .c (.d (slD 2 c_ref20_Edge l_1))), (19, .c (.d (.lit (.bool (!r2)))))]) rfl rfl ?_
  refine after_n ?_
  refine w_cond (t := (!r2)) rfl (fun hb4 => ?_) (fun hb4 => ?_)
  · have hp := cnd_t hb4 hp
    refine w_seq ?_
    refine w_region ?_
    iterate 2 refine o1 rfl ?_
    refine o_end (e' := [(4, .c (.d (.lit (.slice none 0 0)))), (5, .c (.d (.lit (.bool false))))]) rfl rfl ?_
    refine after_n ?_
    refine w_ret ?_
    refine after_r ?_
    obtain rfl := Option.some.inj hp
    exact leave_at rfl rfl (pr_c p_d (pr_c p_d pr_nil)) pc_nil rfl rfl
  · have hp := cnd_f hb4 hp
    refine w_skip ?_
    refine after_n ?_
    refine w_seq ?_
    refine w_region ?_
    refine o1 rfl ?_
    refine o_end (e' := [(0, .c (.d (.lit (.int .i64 n_0)))), (1, .c (.d (slD 2 c_ref20_Edge l_1))), (8, .c (.d (.lit (.slice none 0 0))))]) rfl rfl ?_
    refine after_n ?_
    refine w_seq ?_
    refine w_seq ?_
    refine w_region ?_
    refine o1 rfl ?_
    refine o_end (e' := [(0, .c (.d (.lit (.int .i64 n_0)))), (1, .c (.d (slD 2 c_ref20_Edge l_1))), (8, .c (.d (.lit (.slice none 0 0)))), (9, .c (.d (.lit (.int .i64 0))))]) rfl rfl ?_
    refine after_n ?_
    refine w_block ?_
    obtain ⟨s9, h11, hp⟩ := bnd hp
    refine W.mono ?_ (w_loopS (st := fun (v : (Sl Int × Int)) => match v with | (s5, i6) => ⟨[(0, .c (.d (.lit (.int .i64 n_0)))), (1, .c (.d (slD 2 c_ref20_Edge l_1))), (8, .c (slC 1 cI_i64 0 s5)), (9, .c (.d (.lit (.int .i64 i6))))], [(0, slO 1 cI_i64 s5)], 1, []⟩) (a := (Sl.nil, 0)) (Q := Jn (fun (x : Sl Int) o s => match x with | s9 => o = Out.exit 0 ∧ Sub s ⟨[(0, .c (.d (.lit (.int .i64 n_0)))), (1, .c (.d (slD 2 c_ref20_Edge l_1))), (8, .c (slC 1 cI_i64 0 s9))], [(0, slO 1 cI_i64 s9)], 1, []⟩)) ?_ h11 ?_)
    · intro o s hs16
      obtain ⟨rfl, hs16⟩ := hs16
      refine out_e ?_
      refine after_n ?_
      refine W.sub hs16 ?_
      refine w_seq ?_
      refine w_seq ?_
      refine w_region ?_
      refine o1 rfl ?_
      refine o_end (e' := [(0, .c (.d (.lit (.int .i64 n_0)))), (1, .c (.d (slD 2 c_ref20_Edge l_1))), (8, .c (slC 1 cI_i64 0 s9)), (10, .c (.d (.lit (.int .i64 0))))]) rfl rfl ?_
      refine after_n ?_
      refine w_block ?_
      obtain ⟨s21, h23, hp⟩ := bnd hp
      refine W.mono ?_ (w_loopS (st := fun (v : (Sl Int × Int)) => match v with | (s17, i18) => ⟨[(0, .c (.d (.lit (.int .i64 n_0)))), (1, .c (.d (slD 2 c_ref20_Edge l_1))), (8, .c (slC 1 cI_i64 0 s17)), (10, .c (.d (.lit (.int .i64 i18))))], [(0, slO 1 cI_i64 s17)], 1, []⟩) (a := (s9, 0)) (Q := Jn (fun (x : Sl Int) o s => match x with | s21 => o = Out.exit 2 ∧ Sub s ⟨[(8, .c (slC 1 cI_i64 0 s21))], [(0, slO 1 cI_i64 s21)], 1, []⟩)) ?_ h23 ?_)
      · intro o s hs47
        obtain ⟨rfl, hs47⟩ := hs47
        refine out_e ?_
        refine after_n ?_
        refine W.sub hs47 ?_
        refine w_seq ?_
        refine w_region ?_
        iterate 3 refine o1 rfl ?_
        refine o_end (e' := [(4, .c (slC 1 cI_i64 0 s21)), (5, .c (.d (.lit (.bool true))))]) rfl rfl ?_
        refine after_n ?_
        refine w_ret ?_
        obtain rfl := Option.some.inj hp
        rcases s21 with _ | s21'
        · exact leave_at rfl rfl (pr_c p_d (pr_c p_d pr_nil)) pc_nil rfl rfl
        · exact leave_at rfl rfl (pr_c (p_o rfl) (pr_c p_d pr_nil)) pc_nil rfl rfl
      · exact (by rcases s9 with _ | _ <;> first | (exact sub_ren [9000] [0, 1, 8, 10] (by decide) rfl (.skip .nil) (Nat.le_of_ble_eq_true rfl)) | (exact sub_ren [0] [0, 1, 8, 10] (by decide) rfl (.cons .nil) (Nat.le_of_ble_eq_true rfl)))
      · rintro ⟨s17, i18⟩ r hr
        unfold ref20_Far_L2 at hr
        refine w_seq ?_
        refine w_seq ?_
        refine w_region ?_
        iterate 2 refine o1 rfl ?_
        refine o1 (v := .c (.d (.lit (.bool (decide (i18 < n_0)))))) rfl ?_
        refine o_end (e' := [(0, .c (.d (.lit (.int .i64 n_0)))), (1, .c (.d (slD 2 c_ref20_Edge l_1))), (8, .c (slC 1 cI_i64 0 s17)), (10, .c (.d (.lit (.int .i64 i18)))), (30, .c (.d (.lit (.bool (decide (i18 < n_0))))))]) rfl rfl ?_
        refine after_n ?_
        refine w_cond (t := decide (i18 < n_0)) rfl (fun hb24 => ?_) (fun hb24 => ?_)
        · have hr := cnd_t hb24 hr
          refine w_skip ?_
          refine after_n ?_
          refine w_seq ?_
          refine w_block ?_
          refine w_seq ?_
          refine w_region ?_
          refine o1 rfl ?_
          refine o_end (e' := [(0, .c (.d (.lit (.int .i64 n_0)))), (1, .c (.d (slD 2 c_ref20_Edge l_1))), (8, .c (slC 1 cI_i64 0 s17)), (10, .c (.d (.lit (.int .i64 i18)))), (11, .c (.d (.lit (.int .i64 0))))]) rfl rfl ?_
          refine after_n ?_
          refine w_block ?_
          obtain ⟨s29, h31, hr⟩ := bnd hr
          refine W.mono ?_ (w_loopS (st := fun (v : (Sl Int × Int)) => match v with | (s25, i26) => ⟨[(0, .c (.d (.lit (.int .i64 n_0)))), (1, .c (.d (slD 2 c_ref20_Edge l_1))), (8, .c (slC 1 cI_i64 0 s25)), (10, .c (.d (.lit (.int .i64 i18)))), (11, .c (.d (.lit (.int .i64 i26))))], [(0, slO 1 cI_i64 s25)], 1, []⟩) (a := (s17, 0)) (Q := Jn (fun (x : Sl Int) o s => match x with | s29 => o = Out.exit 4 ∧ Sub s ⟨[(0, .c (.d (.lit (.int .i64 n_0)))), (1, .c (.d (slD 2 c_ref20_Edge l_1))), (8, .c (slC 1 cI_i64 0 s29)), (10, .c (.d (.lit (.int .i64 i18))))], [(0, slO 1 cI_i64 s29)], 1, []⟩)) ?_ h31 ?_)
          · intro o s hs46
            obtain ⟨rfl, hs46⟩ := hs46
            refine out_e ?_
            refine out_n ?_
            refine after_n ?_
            refine W.sub hs46 ?_
            refine w_region ?_
            refine o1 rfl ?_
            refine o1 (v := .c (.d (.lit (.int .i64 (wr .i64 (i18 + 1)))))) rfl ?_
            refine o1 rfl ?_
            refine o_end (e' := [(0, .c (.d (.lit (.int .i64 n_0)))), (1, .c (.d (slD 2 c_ref20_Edge l_1))), (8, .c (slC 1 cI_i64 0 s29)), (10, .c (.d (.lit (.int .i64 (wr .i64 (i18 + 1))))))]) rfl rfl ?_
            obtain rfl := Option.some.inj hr
            exact And.intro rfl (by rcases s29 with _ | _ <;> first | (exact sub_ren [9000] [0, 1, 8, 10] (by decide) rfl (.skip .nil) (Nat.le_of_ble_eq_true rfl)) | (exact sub_ren [0] [0, 1, 8, 10] (by decide) rfl (.cons .nil) (Nat.le_of_ble_eq_true rfl)))
          · exact (by rcases s17 with _ | _ <;> first | (exact sub_ren [9000] [0, 1, 8, 10, 11] (by decide) rfl (.skip .nil) (Nat.le_of_ble_eq_true rfl)) | (exact sub_ren [0] [0, 1, 8, 10, 11] (by decide) rfl (.cons .nil) (Nat.le_of_ble_eq_true rfl)))
          · rintro ⟨s25, i26⟩ r hr
            unfold ref20_Far_L3 at hr
            refine w_seq ?_
            refine w_seq ?_
            refine w_region ?_
            iterate 2 refine o1 rfl ?_
            refine o1 (v := .c (.d (.lit (.int .i64 (l_1.l.length : Int))))) len_sd ?_
            refine o1 (v := .c (.d (.lit (.bool (decide (i26 < (l_1.l.length : Int))))))) rfl ?_
            refine o_end (e' := [(0, .c (.d (.lit (.int .i64 n_0)))), (1, .c (.d (slD 2 c_ref20_Edge l_1))), (8, .c (slC 1 cI_i64 0 s25)), (10, .c (.d (.lit (.int .i64 i18)))), (11, .c (.d (.lit (.int .i64 i26)))), (36, .c (.d (.lit (.bool (decide (i26 < (l_1.l.length : Int)))))))]) rfl rfl ?_
            refine after_n ?_
            refine w_cond (t := decide (i26 < (l_1.l.length : Int))) rfl (fun hb32 => ?_) (fun hb32 => ?_)
            · have hr := cnd_t hb32 hr
              refine w_skip ?_
              refine after_n ?_
              refine w_seq ?_
              obtain ⟨s33, h34, hr⟩ := bnd hr
              refine W.mono (Q := Jn (fun (x : Sl Int) o s => match x with | s33 => o = Out.normal ∧ Sub s ⟨[(0, .c (.d (.lit (.int .i64 n_0)))), (1, .c (.d (slD 2 c_ref20_Edge l_1))), (8, .c (slC 1 cI_i64 0 s33)), (10, .c (.d (.lit (.int .i64 i18)))), (11, .c (.d (.lit (.int .i64 i26))))], [(0, slO 1 cI_i64 s33)], 1, []⟩) s33) ?_ ?_
              · intro o s hs45
                obtain ⟨rfl, hs45⟩ := hs45
                refine after_n ?_
                refine W.sub hs45 ?_
                refine w_region ?_
                refine o1 rfl ?_
                refine o1 (v := .c (.d (.lit (.int .i64 (wr .i64 (i26 + 1)))))) rfl ?_
                refine o1 rfl ?_
                refine o_end (e' := [(0, .c (.d (.lit (.int .i64 n_0)))), (1, .c (.d (slD 2 c_ref20_Edge l_1))), (8, .c (slC 1 cI_i64 0 s33)), (10, .c (.d (.lit (.int .i64 i18)))), (11, .c (.d (.lit (.int .i64 (wr .i64 (i26 + 1))))))]) rfl rfl ?_
                obtain rfl := Option.some.inj hr
                exact And.intro rfl (by rcases s33 with _ | _ <;> first | (exact sub_ren [9000] [0, 1, 8, 10, 11] (by decide) rfl (.skip .nil) (Nat.le_of_ble_eq_true rfl)) | (exact sub_ren [0] [0, 1, 8, 10, 11] (by decide) rfl (.cons .nil) (Nat.le_of_ble_eq_true rfl)))
              · refine w_block ?_
                refine w_seq ?_
                obtain ⟨n36, h37, h34⟩ := bnd h34
                obtain ⟨n38, h39, h34⟩ := bnd h34
                obtain ⟨n40, h41, h34⟩ := bnd h34
                refine w_join (J := fun s => Sub s ⟨[(0, .c (.d (.lit (.int .i64 n_0)))), (1, .c (.d (slD 2 c_ref20_Edge l_1))), (8, .c (slC 1 cI_i64 0 s25)), (10, .c (.d (.lit (.int .i64 i18)))), (11, .c (.d (.lit (.int .i64 i26)))), (56, .c (.d (.lit (.bool (decide ((gt s25.l n38) < (wr .i64 ((gt s25.l n40) + 1))))))))], [(0, slO 1 cI_i64 s25)], 1, []⟩) ?_ ?_
                · rcases s25 with _ | s25'
                  · try dsimp only [slC, slO]
                    refine w_drawn ?_
                    iterate 3 refine d1 rfl ?_
                    refine d1 (ix_sd h37) ?_
                    iterate 2 refine d1 rfl ?_
                    exact ix_nil h39
                  · try dsimp only [slC, slO]
                    refine w_drawn ?_
                    iterate 3 refine d1 rfl ?_
                    refine d1 (ix_sd h37) ?_
                    iterate 2 refine d1 rfl ?_
                    refine d1 (ix_o h39) ?_
                    refine d1 (ld_row rfl (ixI_some.1 h39).2 rfl) ?_
                    iterate 3 refine d1 rfl ?_
                    refine d1 (ix_sd h37) ?_
                    iterate 2 refine d1 rfl ?_
                    refine d1 (ix_o h41) ?_
                    refine d1 (ld_row rfl (ixI_some.1 h41).2 rfl) ?_
                    refine d1 (v := .c (.d (.lit (.int .i64 (wr .i64 ((gt s25' n40) + 1)))))) rfl ?_
                    refine d1 (v := .c (.d (.lit (.bool (decide ((gt s25' n38) < (wr .i64 ((gt s25' n40) + 1)))))))) rfl ?_
                    exact d_join rfl (sub_ren [0] [0, 1, 8, 10, 11, 56] (by decide) rfl (.cons .nil) (Nat.le_of_ble_eq_true rfl))
                · intro s hs42
                  refine after_n ?_
                  refine W.sub hs42 ?_
                  refine w_cond (t := decide ((gt s25.l n38) < (wr .i64 ((gt s25.l n40) + 1)))) rfl (fun hb43 => ?_) (fun hb43 => ?_)
                  · have h34 := cnd_t hb43 h34
                    refine w_join (J := fun s => Sub s ⟨[(0, .c (.d (.lit (.int .i64 n_0)))), (1, .c (.d (slD 2 c_ref20_Edge l_1))), (8, .c (slC 1 cI_i64 0 (Sl.mk (s25.l.set n38 (wr .i64 ((gt s25.l n40) + 1)))))), (10, .c (.d (.lit (.int .i64 i18)))), (11, .c (.d (.lit (.int .i64 i26))))], [(0, slO 1 cI_i64 (Sl.mk (s25.l.set n38 (wr .i64 ((gt s25.l n40) + 1)))))], 1, []⟩) ?_ ?_
                    · rcases s25 with _ | s25'
                      · try dsimp only [slC, slO]
                        refine w_drawn ?_
                        iterate 3 refine d1 rfl ?_
                        refine d1 (ix_sd h37) ?_
                        iterate 5 refine d1 rfl ?_
                        refine d1 (ix_sd h37) ?_
                        iterate 2 refine d1 rfl ?_
                        exact ix_nil h41
                      · try dsimp only [slC, slO]
                        refine w_drawn ?_
                        iterate 3 refine d1 rfl ?_
                        refine d1 (ix_sd h37) ?_
                        iterate 5 refine d1 rfl ?_
                        refine d1 (ix_sd h37) ?_
                        iterate 2 refine d1 rfl ?_
                        refine d1 (ix_o h41) ?_
                        refine d1 (ld_row rfl (ixI_some.1 h41).2 rfl) ?_
                        refine d1 (v := .c (.d (.lit (.int .i64 (wr .i64 ((gt s25' n40) + 1)))))) rfl ?_
                        refine d1 (ix_o h39) ?_
                        refine d0 (st_row (y := wr .i64 ((gt s25' n40) + 1)) rfl (ixI_some.1 h39).2 rfl rfl rfl (Nat.le_of_ble_eq_true rfl) rfl) (Nat.le_of_ble_eq_true rfl) ?_
                        rw [len_set s25' cI_i64 n38 (wr .i64 ((gt s25' n40) + 1))]
                        exact d_join rfl (sub_ren [0] [0, 1, 8, 10, 11] (by decide) rfl (.cons .nil) (Nat.le_of_ble_eq_true rfl))
                    · intro s hs44
                      refine out_n ?_
                      obtain rfl := Option.some.inj h34
                      exact And.intro rfl (Sub.trans hs44 (sub_ren [0] [0, 1, 8, 10, 11] (by decide) rfl (.cons .nil) (Nat.le_of_ble_eq_true rfl)))
                  · have h34 := cnd_f hb43 h34
                    refine w_skip ?_
                    refine out_n ?_
                    obtain rfl := Option.some.inj h34
                    exact And.intro rfl (by rcases s25 with _ | _ <;> first | (exact sub_ren [9000] [0, 1, 8, 10, 11] (by decide) rfl (.skip .nil) (Nat.le_of_ble_eq_true rfl)) | (exact sub_ren [0] [0, 1, 8, 10, 11] (by decide) rfl (.cons .nil) (Nat.le_of_ble_eq_true rfl)))
            · have hr := cnd_f hb32 hr
              refine w_exit ?_
              refine after_e ?_
              obtain rfl := Option.some.inj hr
              exact And.intro nofun (And.intro rfl (by rcases s25 with _ | _ <;> first | (exact sub_ren [9000] [0, 1, 8, 10] (by decide) rfl (.skip .nil) (Nat.le_of_ble_eq_true rfl)) | (exact sub_ren [0] [0, 1, 8, 10] (by decide) rfl (.cons .nil) (Nat.le_of_ble_eq_true rfl))))
        · have hr := cnd_f hb24 hr
          refine w_exit ?_
          refine after_e ?_
          obtain rfl := Option.some.inj hr
          exact And.intro nofun (And.intro rfl (by rcases s17 with _ | _ <;> first | (exact sub_ren [9000] [8] (by decide) rfl (.skip .nil) (Nat.le_of_ble_eq_true rfl)) | (exact sub_ren [0] [8] (by decide) rfl (.cons .nil) (Nat.le_of_ble_eq_true rfl))))
    · exact (sub_ren [9000] [0, 1, 8, 9] (by decide) rfl (.skip .nil) (Nat.le_of_ble_eq_true rfl))
    · rintro ⟨s5, i6⟩ r hr
      unfold ref20_Far_L1 at hr
      refine w_seq ?_
      refine w_seq ?_
      refine w_region ?_
      iterate 2 refine o1 rfl ?_
      refine o1 (v := .c (.d (.lit (.bool (decide (i6 < n_0)))))) rfl ?_
      refine o_end (e' := [(0, .c (.d (.lit (.int .i64 n_0)))), (1, .c (.d (slD 2 c_ref20_Edge l_1))), (8, .c (slC 1 cI_i64 0 s5)), (9, .c (.d (.lit (.int .i64 i6)))), (22, .c (.d (.lit (.bool (decide (i6 < n_0))))))]) rfl rfl ?_
      refine after_n ?_
      refine w_cond (t := decide (i6 < n_0)) rfl (fun hb12 => ?_) (fun hb12 => ?_)
      · have hr := cnd_t hb12 hr
        refine w_skip ?_
        refine after_n ?_
        refine w_seq ?_
        refine w_block ?_
        obtain ⟨l13, h14, hr⟩ := bnd hr
        refine w_join (J := fun s => Sub s ⟨[(0, .c (.d (.lit (.int .i64 n_0)))), (1, .c (.d (slD 2 c_ref20_Edge l_1))), (8, .c (slC 1 cI_i64 0 (Sl.mk l13))), (9, .c (.d (.lit (.int .i64 i6))))], [(0, slO 1 cI_i64 (Sl.mk l13))], 1, []⟩) ?_ ?_
        · rcases s5 with _ | s5'
          · try dsimp only [slC, slO]
            refine w_region ?_
            refine o1 rfl ?_
            refine o2 rfl ?_
            refine o2 (app_nil (enc := cI_i64) rfl h14) ?_
            refine o1 rfl ?_
            exact o_join (sub_ren [2] [0, 1, 8, 9] (by decide) rfl (.cons .nil) (Nat.le_of_ble_eq_true rfl))
          · try dsimp only [slC, slO]
            refine w_region ?_
            refine o1 rfl ?_
            refine o2 rfl ?_
            refine o2 (app_o rfl rfl h14) ?_
            refine o1 rfl ?_
            exact o_join (sub_ren [2] [0, 1, 8, 9] (by decide) rfl (.cons .nil) (Nat.le_of_ble_eq_true rfl))
        · intro s hs15
          refine out_n ?_
          refine after_n ?_
          refine W.sub hs15 ?_
          refine w_region ?_
          refine o1 rfl ?_
          refine o1 (v := .c (.d (.lit (.int .i64 (wr .i64 (i6 + 1)))))) rfl ?_
          refine o1 rfl ?_
          refine o_end (e' := [(0, .c (.d (.lit (.int .i64 n_0)))), (1, .c (.d (slD 2 c_ref20_Edge l_1))), (8, .c (slC 1 cI_i64 0 (Sl.mk l13))), (9, .c (.d (.lit (.int .i64 (wr .i64 (i6 + 1))))))]) rfl rfl ?_
          obtain rfl := Option.some.inj hr
          exact And.intro rfl (sub_ren [0] [0, 1, 8, 9] (by decide) rfl (.cons .nil) (Nat.le_of_ble_eq_true rfl))
      · have hr := cnd_f hb12 hr
        refine w_exit ?_
        refine after_e ?_
        obtain rfl := Option.some.inj hr
        exact And.intro nofun (And.intro rfl (by rcases s5 with _ | _ <;> first | (exact sub_ren [9000] [0, 1, 8] (by decide) rfl (.skip .nil) (Nat.le_of_ble_eq_true rfl)) | (exact sub_ren [0] [0, 1, 8] (by decide) rfl (.cons .nil) (Nat.le_of_ble_eq_true rfl))))

/- turnout/turnoutref20.ways -/
def k25 : CC :=
  (.seq
  (.region [
    ⟨some 8, .mv, [(.const (.int .i64 0))], none⟩] [0, 1, 2, 3])
  (.seq
  (.region [
    ⟨some 14, .mv, [(.tmp 2)], none⟩,
    ⟨some 15, (.buildSlice 1 1 [(.int .i64 0)] [0]), [(.tmp 14)], none⟩,
    ⟨some 9, .mv, [(.tmp 15)], none⟩] [0, 1, 3, 9])
  (.seq
  (.seq
  (.region [
    ⟨some 10, .mv, [(.const (.int .i64 1))], none⟩] [0, 1, 3, 9, 10])
  (.block 0
    (.loop [0, 1, 3, 9, 10]
      (.seq
      (.seq
      (.region [
        ⟨some 16, .mv, [(.tmp 10)], none⟩,
        ⟨some 17, .mv, [(.tmp 0)], none⟩,
        ⟨some 18, (.bin .leq), [(.tmp 16), (.tmp 17)], none⟩] [0, 1, 3, 9, 10, 18])
      (.cond (.tmp 18)
        .skip
        (.exit 0)))
      (.seq
      (.block 1
        (.seq
        (.region [
          ⟨some 11, .mv, [(.const (.slice none 0 0))], none⟩] [0, 1, 3, 9, 10, 11])
        (.seq
        (.seq
        (.region [
          ⟨some 12, .mv, [(.const (.int .i64 0))], none⟩] [0, 1, 3, 9, 10, 11, 12])
        (.block 2
          (.loop [0, 1, 3, 9, 10, 11, 12]
            (.seq
            (.seq
            (.region [
              ⟨some 21, .mv, [(.tmp 12)], none⟩,
              ⟨some 22, .mv, [(.tmp 0)], none⟩,
              ⟨some 23, (.bin .lss), [(.tmp 21), (.tmp 22)], none⟩] [0, 1, 3, 9, 10, 11, 12, 23])
            (.cond (.tmp 23)
              .skip
              (.exit 2)))
            (.seq
            (.block 3
              (.seq
              (.region [
                ⟨some 13, .mv, [(.const (.int .i64 0))], none⟩] [0, 1, 3, 9, 10, 11, 12, 13])
              (.block 4
                (.loop [0, 1, 3, 9, 10, 11, 12, 13]
                  (.seq
                  (.seq
                  (.region [
                    ⟨some 26, .mv, [(.tmp 13)], none⟩,
                    ⟨some 27, .mv, [(.tmp 9)], none⟩,
                    ⟨some 28, (.len false), [(.tmp 27)], none⟩,
                    ⟨some 29, (.bin .lss), [(.tmp 26), (.tmp 28)], none⟩] [0, 1, 3, 9, 10, 11, 12, 13, 29])
                  (.cond (.tmp 29)
                    .skip
                    (.exit 4)))
                  (.seq
                  (.block 5
                    (.seq
                    (.region [
                      ⟨some 32, .mv, [(.tmp 1)], none⟩,
                      ⟨some 33, .mv, [(.tmp 9)], none⟩,
                      ⟨some 34, .mv, [(.tmp 13)], none⟩,
                      ⟨some 35, (.indexAddr none 1), [(.tmp 33), (.tmp 34)], none⟩,
                      ⟨some 36, (.load false 1), [(.tmp 35)], none⟩,
                      ⟨some 37, .mv, [(.tmp 12)], none⟩,
                      ⟨some 38, (.call true []), [(.func 22), (.tmp 32), (.tmp 36), (.tmp 37)], none⟩,
                      ⟨some 39, .mv, [(.tmp 38)], none⟩,
                      ⟨some 40, .mv, [(.tmp 11)], (some (39, true))⟩,
                      ⟨some 41, .mv, [(.tmp 12)], (some (39, true))⟩,
                      ⟨some 42, (.call true []), [(.func 23), (.tmp 40), (.tmp 41)], (some (39, true))⟩,
                      ⟨some 43, (.un .not), [(.tmp 42)], (some (39, true))⟩,
                      ⟨some 44, .pick, [(.tmp 39), (.tmp 43), (.const (.bool false))], none⟩] [0, 1, 3, 9, 10, 11, 12, 13, 44])
                    (.cond (.tmp 44)
                      (.region [
                        ⟨some 45, .mv, [(.tmp 11)], none⟩,
                        ⟨some 46, .mv, [(.tmp 12)], none⟩,
                        ⟨some 47, (.buildSlice 1 1 [(.int .i64 0)] [0]), [(.tmp 46)], none⟩,
                        ⟨some 48, (.append 1), [(.tmp 45), (.tmp 47)], none⟩,
                        ⟨some 11, .mv, [(.tmp 48)], none⟩] [0, 1, 3, 9, 10, 11, 12, 13])
                      .skip)))
                  (.region [
                    ⟨some 30, .mv, [(.tmp 13)], none⟩,
                    ⟨some 31, (.bin .add), [(.tmp 30), (.const (.int .i64 1))], none⟩,
                    ⟨some 13, .mv, [(.tmp 31)], none⟩] [0, 1, 3, 9, 10, 11, 12, 13])))))))
            (.region [
              ⟨some 24, .mv, [(.tmp 12)], none⟩,
              ⟨some 25, (.bin .add), [(.tmp 24), (.const (.int .i64 1))], none⟩,
              ⟨some 12, .mv, [(.tmp 25)], none⟩] [0, 1, 3, 9, 10, 11, 12]))))))
        (.seq
        (.seq
        (.region [
          ⟨some 49, .mv, [(.tmp 11)], none⟩,
          ⟨some 50, .mv, [(.tmp 3)], none⟩,
          ⟨some 51, (.call true []), [(.func 23), (.tmp 49), (.tmp 50)], none⟩] [0, 1, 3, 10, 11, 51])
        (.cond (.tmp 51)
          (.seq
          (.region [
            ⟨some 52, .mv, [(.tmp 10)], none⟩,
            ⟨some 8, .mv, [(.tmp 52)], none⟩] [8])
          .ret)
          .skip))
        (.region [
          ⟨some 53, .mv, [(.tmp 11)], none⟩,
          ⟨some 9, .mv, [(.tmp 53)], none⟩] [0, 1, 3, 9, 10])))))
      (.region [
        ⟨some 19, .mv, [(.tmp 10)], none⟩,
        ⟨some 20, (.bin .add), [(.tmp 19), (.const (.int .i64 1))], none⟩,
        ⟨some 10, .mv, [(.tmp 20)], none⟩] [0, 1, 3, 9, 10]))))))
  (.seq
  (.region [
    ⟨some 8, .mv, [(.const (.int .i64 0))], none⟩] [8])
  .ret))))
def f25 : Ev.Fn := ⟨4, 54, [.tmp 8], k25⟩
set_option maxRecDepth 100000 in
theorem e25 : compFn prog sig 25 4 [[0, 1, 2, 3], [0, 1, 3, 9], [0, 1, 3, 9, 10], [0, 1, 3, 9, 10], [0, 1, 3, 9, 10, 18], [0, 1, 3, 9, 10, 11], [0, 1, 3, 9, 10, 11, 12], [0, 1, 3, 9, 10, 11, 12], [0, 1, 3, 9, 10, 11, 12, 23], [0, 1, 3, 9, 10, 11, 12, 13], [0, 1, 3, 9, 10, 11, 12, 13], [0, 1, 3, 9, 10, 11, 12, 13, 29], [0, 1, 3, 9, 10, 11, 12, 13, 44], [0, 1, 3, 9, 10, 11, 12, 13], [0, 1, 3, 9, 10, 11, 12, 13], [0, 1, 3, 9, 10, 11, 12], [0, 1, 3, 10, 11, 51], [8], [0, 1, 3, 9, 10], [0, 1, 3, 9, 10], [8]] = some f25 := by kernel_rfl
noncomputable def ref20_ways_L3 (l_1 : Sl ref20_Edge) (s1 : Sl Int) (i10 : Int) : (Sl Int × Int) → Option (Sum ((Sl Int × Int)) (Sl Int)) := fun (s17, i18) =>
  bif decide (i18 < (s1.l.length : Int)) then (((ixI i18 s1.l.length).bind fun n28 =>
  (ref20_edge l_1 (gt s1.l n28) i10).bind fun r30 =>
  (bif r30 then ((ref20_has s17 i10).bind fun r32 =>
  some (!r32)) else (some false)).bind fun b34 =>
  bif b34 then ((capI (s17.l ++ [i10])).bind fun l40 =>
  some (Sl.mk l40)) else
  (some s17) : Option (Sl Int)).bind fun s25 =>
  some (.inl (s25, wr .i64 (i18 + 1)))) else
  (some (.inr s17))

noncomputable def ref20_ways_L2 (n_0 : Int) (l_1 : Sl ref20_Edge) (s1 : Sl Int) : (Sl Int × Int) → Option (Sum ((Sl Int × Int)) (Sl Int)) := fun (s9, i10) =>
  bif decide (i10 < n_0) then ((loopO (ref20_ways_L3 l_1 s1 i10) (s9, 0)).bind fun s21 =>
  some (.inl (s21, wr .i64 (i10 + 1)))) else
  (some (.inr s9))

noncomputable def ref20_ways_L1 (n_0 : Int) (l_1 : Sl ref20_Edge) (to_3 : Int) : (Sl Int × Int) → Option (Sum ((Sl Int × Int)) (Sum (Int) (Unit))) := fun (s1, i2) =>
  bif decide (i2 ≤ n_0) then ((loopO (ref20_ways_L2 n_0 l_1 s1) (Sl.nil, 0)).bind fun s13 =>
  (ref20_has s13 to_3).bind fun r46 =>
  bif r46 then (some (.inr (.inl i2))) else
  (some (.inl (s13, wr .i64 (i2 + 1))))) else
  (some (.inr (.inr ())))

noncomputable def ref20_ways (n_0 : Int) (l_1 : Sl ref20_Edge) (from_2 : Int) (to_3 : Int) : Option (Int) :=
  (loopO (ref20_ways_L1 n_0 l_1 to_3) ((Sl.mk [from_2]), 1)).bind fun
  | .inl i5 => (some i5)
  | .inr (_) => (some 0)
theorem ref20_ways_ok {n_0 : Int} {l_1 : Sl ref20_Edge} {from_2 : Int} {to_3 : Int} {z : Int} (hp : ref20_ways n_0 l_1 from_2 to_3 = some z) : Good prog 25 [.d (.lit (.int .i64 n_0)), .d (slD 2 c_ref20_Edge l_1), .d (.lit (.int .i64 from_2)), .d (.lit (.int .i64 to_3))] [.c (.d (.lit (.int .i64 z)))] [] := by
  unfold ref20_ways at hp
  refine fn_good mixed e25 (fnS (m := [false]) (s := ⟨[(0, .c (.d (.lit (.int .i64 n_0)))), (1, .c (.d (slD 2 c_ref20_Edge l_1))), (2, .c (.d (.lit (.int .i64 from_2)))), (3, .c (.d (.lit (.int .i64 to_3))))], [], 0, []⟩) (len := 0) (c := k25) rfl (Sub.of_eq rfl) rfl rfl ?_)
  refine w_seq ?_
  refine w_region ?_
  refine o1 rfl ?_
  refine o_end (e' := [(0, .c (.d (.lit (.int .i64 n_0)))), (1, .c (.d (slD 2 c_ref20_Edge l_1))), (2, .c (.d (.lit (.int .i64 from_2)))), (3, .c (.d (.lit (.int .i64 to_3))))]) rfl rfl ?_
  refine after_n ?_
  refine w_seq ?_
  refine w_region ?_
  refine o1 rfl ?_
  refine o2 rfl ?_
  refine o1 rfl ?_
  refine o_end (e' := [(0, .c (.d (.lit (.int .i64 n_0)))), (1, .c (.d (slD 2 c_ref20_Edge l_1))), (3, .c (.d (.lit (.int .i64 to_3)))), (9, .c (slC 1 cI_i64 0 (Sl.mk [from_2])))]) rfl rfl ?_
  refine after_n ?_
  refine w_seq ?_
  refine w_seq ?_
  refine w_region ?_
  refine o1 rfl ?_
  refine o_end (e' := [(0, .c (.d (.lit (.int .i64 n_0)))), (1, .c (.d (slD 2 c_ref20_Edge l_1))), (3, .c (.d (.lit (.int .i64 to_3)))), (9, .c (slC 1 cI_i64 0 (Sl.mk [from_2]))), (10, .c (.d (.lit (.int .i64 1))))]) rfl rfl ?_
  refine after_n ?_
  refine w_block ?_
  obtain ⟨x6, h7, hp⟩ := bnd hp
  refine W.mono ?_ (w_loopS (st := fun (v : (Sl Int × Int)) => match v with | (s1, i2) => ⟨[(0, .c (.d (.lit (.int .i64 n_0)))), (1, .c (.d (slD 2 c_ref20_Edge l_1))), (3, .c (.d (.lit (.int .i64 to_3)))), (9, .c (slC 1 cI_i64 0 s1)), (10, .c (.d (.lit (.int .i64 i2))))], [(0, slO 1 cI_i64 s1)], 1, []⟩) (a := ((Sl.mk [from_2]), 1)) (Q := Jn (fun (x : Sum (Int) (Unit)) o s => match x with | .inl i5 => o = Out.ret ∧ Sub s ⟨[(8, .c (.d (.lit (.int .i64 i5))))], [], 0, []⟩ | .inr (_) => o = Out.exit 0 ∧ Sub s ⟨[], [], 0, []⟩)) ?_ h7 ?_)
  · intro o s hs50
    rcases x6 with (i5 | _)
    · obtain ⟨rfl, hs50⟩ := hs50
      refine out_r ?_
      refine after_r ?_
      obtain rfl := Option.some.inj hp
      refine wk.sub hs50 ?_
      exact leave_at rfl rfl (pr_c p_d pr_nil) pc_nil rfl rfl
    · obtain ⟨rfl, hs50⟩ := hs50
      refine out_e ?_
      refine after_n ?_
      refine W.sub hs50 ?_
      refine w_seq ?_
      refine w_region ?_
      refine o1 rfl ?_
      refine o_end (e' := [(8, .c (.d (.lit (.int .i64 0))))]) rfl rfl ?_
      refine after_n ?_
      refine w_ret ?_
      obtain rfl := Option.some.inj hp
      exact leave_at rfl rfl (pr_c p_d pr_nil) pc_nil rfl rfl
  · exact (sub_ren [0] [0, 1, 3, 9, 10] (by decide) rfl (.cons .nil) (Nat.le_of_ble_eq_true rfl))
  · rintro ⟨s1, i2⟩ r hr
    unfold ref20_ways_L1 at hr
    refine w_seq ?_
    refine w_seq ?_
    refine w_region ?_
    iterate 2 refine o1 rfl ?_
    refine o1 (v := .c (.d (.lit (.bool (decide (i2 ≤ n_0)))))) rfl ?_
    refine o_end (e' := [(0, .c (.d (.lit (.int .i64 n_0)))), (1, .c (.d (slD 2 c_ref20_Edge l_1))), (3, .c (.d (.lit (.int .i64 to_3)))), (9, .c (slC 1 cI_i64 0 s1)), (10, .c (.d (.lit (.int .i64 i2)))), (18, .c (.d (.lit (.bool (decide (i2 ≤ n_0))))))]) rfl rfl ?_
    refine after_n ?_
    refine w_cond (t := decide (i2 ≤ n_0)) rfl (fun hb8 => ?_) (fun hb8 => ?_)
    · have hr := cnd_t hb8 hr
      refine w_skip ?_
      refine after_n ?_
      refine w_seq ?_
      refine w_block ?_
      refine w_seq ?_
      refine w_region ?_
      refine o1 rfl ?_
      refine o_end (e' := [(0, .c (.d (.lit (.int .i64 n_0)))), (1, .c (.d (slD 2 c_ref20_Edge l_1))), (3, .c (.d (.lit (.int .i64 to_3)))), (9, .c (slC 1 cI_i64 0 s1)), (10, .c (.d (.lit (.int .i64 i2)))), (11, .c (.d (.lit (.slice none 0 0))))]) rfl rfl ?_
      refine after_n ?_
      refine w_seq ?_
      refine w_seq ?_
      refine w_region ?_
      refine o1 rfl ?_
      refine o_end (e' := [(0, .c (.d (.lit (.int .i64 n_0)))), (1, .c (.d (slD 2 c_ref20_Edge l_1))), (3, .c (.d (.lit (.int .i64 to_3)))), (9, .c (slC 1 cI_i64 0 s1)), (10, .c (.d (.lit (.int .i64 i2)))), (11, .c (.d (.lit (.slice none 0 0)))), (12, .c (.d (.lit (.int .i64 0))))]) rfl rfl ?_
      refine after_n ?_
      refine w_block ?_
      obtain ⟨s13, h15, hr⟩ := bnd hr
      refine W.mono ?_ (w_loopS (st := fun (v : (Sl Int × Int)) => match v with | (s9, i10) => ⟨[(0, .c (.d (.lit (.int .i64 n_0)))), (1, .c (.d (slD 2 c_ref20_Edge l_1))), (3, .c (.d (.lit (.int .i64 to_3)))), (9, .c (slC 1 cI_i64 0 s1)), (10, .c (.d (.lit (.int .i64 i2)))), (11, .c (slC 1 cI_i64 1 s9)), (12, .c (.d (.lit (.int .i64 i10))))], [(0, slO 1 cI_i64 s1), (1, slO 1 cI_i64 s9)], 2, []⟩) (a := (Sl.nil, 0)) (Q := Jn (fun (x : Sl Int) o s => match x with | s13 => o = Out.exit 2 ∧ Sub s ⟨[(0, .c (.d (.lit (.int .i64 n_0)))), (1, .c (.d (slD 2 c_ref20_Edge l_1))), (3, .c (.d (.lit (.int .i64 to_3)))), (10, .c (.d (.lit (.int .i64 i2)))), (11, .c (slC 1 cI_i64 0 s13))], [(0, slO 1 cI_i64 s13)], 1, []⟩)) ?_ h15 ?_)
      · intro o s hs45
        obtain ⟨rfl, hs45⟩ := hs45
        refine out_e ?_
        refine after_n ?_
        refine W.sub hs45 ?_
        refine w_seq ?_
        refine w_seq ?_
        obtain ⟨r46, h47, hr⟩ := bnd hr
        refine w_join (J := fun s => Sub s ⟨[(0, .c (.d (.lit (.int .i64 n_0)))), (1, .c (.d (slD 2 c_ref20_Edge l_1))), (3, .c (.d (.lit (.int .i64 to_3)))), (10, .c (.d (.lit (.int .i64 i2)))), (11, .c (slC 1 cI_i64 0 s13)), (51, .c (.d (.lit (.bool r46))))], [(0, slO 1 cI_i64 s13)], 1, []⟩) ?_ ?_
        · rcases s13 with _ | s13'
          · try dsimp only [slC, slO]
            refine w_region ?_
            iterate 2 refine o1 rfl ?_
            refine oc (rs := [.c (.d (.lit (.bool r46)))]) (outs := []) rfl (ref20_has_ok h47) rfl ?_
            exact o_join (sub_ren [9000] [0, 1, 3, 10, 11, 51] (by decide) rfl (.skip .nil) (Nat.le_of_ble_eq_true rfl))
          · try dsimp only [slC, slO]
            refine w_region ?_
            iterate 2 refine o1 rfl ?_
            refine oc' (rs := [.c (.d (.lit (.bool r46)))]) (outs := []) (call_at rfl rfl (ea_c (v_o rfl) rfl (ea_c rfl rfl ea_nil)) wh_nil rfl rfl) (ref20_has_ok h47) ?_
            exact o_join (sub_ren [0] [0, 1, 3, 10, 11, 51] (by decide) rfl (.cons .nil) (Nat.le_of_ble_eq_true rfl))
        · intro s hs48
          refine after_n ?_
          refine W.sub hs48 ?_
          refine w_cond (t := r46) rfl (fun hb49 => ?_) (fun hb49 => ?_)
          · have hr := cnd_t hb49 hr
            refine w_seq ?_
            refine w_region ?_
            iterate 2 refine o1 rfl ?_
            refine o_end (e' := [(8, .c (.d (.lit (.int .i64 i2))))]) rfl rfl ?_
            refine after_n ?_
            refine w_ret ?_
            refine after_r ?_
            refine out_r ?_
            refine after_r ?_
            obtain rfl := Option.some.inj hr
            exact And.intro nofun (And.intro rfl (sub_ren [] [8] (by decide) rfl .nil (Nat.le_of_ble_eq_true rfl)))
          · have hr := cnd_f hb49 hr
            refine w_skip ?_
            refine after_n ?_
            refine w_region ?_
            iterate 2 refine o1 rfl ?_
            refine o_end (e' := [(0, .c (.d (.lit (.int .i64 n_0)))), (1, .c (.d (slD 2 c_ref20_Edge l_1))), (3, .c (.d (.lit (.int .i64 to_3)))), (9, .c (slC 1 cI_i64 0 s13)), (10, .c (.d (.lit (.int .i64 i2))))]) rfl rfl ?_
            refine out_n ?_
            refine after_n ?_
            refine w_region ?_
            refine o1 rfl ?_
            refine o1 (v := .c (.d (.lit (.int .i64 (wr .i64 (i2 + 1)))))) rfl ?_
            refine o1 rfl ?_
            refine o_end (e' := [(0, .c (.d (.lit (.int .i64 n_0)))), (1, .c (.d (slD 2 c_ref20_Edge l_1))), (3, .c (.d (.lit (.int .i64 to_3)))), (9, .c (slC 1 cI_i64 0 s13)), (10, .c (.d (.lit (.int .i64 (wr .i64 (i2 + 1))))))]) rfl rfl ?_
            obtain rfl := Option.some.inj hr
            exact And.intro rfl (by rcases s13 with _ | _ <;> first | (exact sub_ren [9000] [0, 1, 3, 9, 10] (by decide) rfl (.skip .nil) (Nat.le_of_ble_eq_true rfl)) | (exact sub_ren [0] [0, 1, 3, 9, 10] (by decide) rfl (.cons .nil) (Nat.le_of_ble_eq_true rfl)))
      · exact (by rcases s1 with _ | _ <;> first | (exact sub_ren [9000, 9001] [0, 1, 3, 9, 10, 11, 12] (by decide) rfl (.skip (.skip .nil)) (Nat.le_of_ble_eq_true rfl)) | (exact sub_ren [0, 9001] [0, 1, 3, 9, 10, 11, 12] (by decide) rfl (.cons (.skip .nil)) (Nat.le_of_ble_eq_true rfl)))
      · rintro ⟨s9, i10⟩ r hr
        unfold ref20_ways_L2 at hr
        refine w_seq ?_
        refine w_seq ?_
        refine w_region ?_
        iterate 2 refine o1 rfl ?_
        refine o1 (v := .c (.d (.lit (.bool (decide (i10 < n_0)))))) rfl ?_
        refine o_end (e' := [(0, .c (.d (.lit (.int .i64 n_0)))), (1, .c (.d (slD 2 c_ref20_Edge l_1))), (3, .c (.d (.lit (.int .i64 to_3)))), (9, .c (slC 1 cI_i64 0 s1)), (10, .c (.d (.lit (.int .i64 i2)))), (11, .c (slC 1 cI_i64 1 s9)), (12, .c (.d (.lit (.int .i64 i10)))), (23, .c (.d (.lit (.bool (decide (i10 < n_0))))))]) rfl rfl ?_
        refine after_n ?_
        refine w_cond (t := decide (i10 < n_0)) rfl (fun hb16 => ?_) (fun hb16 => ?_)
        · have hr := cnd_t hb16 hr
          refine w_skip ?_
          refine after_n ?_
          refine w_seq ?_
          refine w_block ?_
          refine w_seq ?_
          refine w_region ?_
          refine o1 rfl ?_
          refine o_end (e' := [(0, .c (.d (.lit (.int .i64 n_0)))), (1, .c (.d (slD 2 c_ref20_Edge l_1))), (3, .c (.d (.lit (.int .i64 to_3)))), (9, .c (slC 1 cI_i64 0 s1)), (10, .c (.d (.lit (.int .i64 i2)))), (11, .c (slC 1 cI_i64 1 s9)), (12, .c (.d (.lit (.int .i64 i10)))), (13, .c (.d (.lit (.int .i64 0))))]) rfl rfl ?_
          refine after_n ?_
          refine w_block ?_
          obtain ⟨s21, h23, hr⟩ := bnd hr
          refine W.mono ?_ (w_loopS (st := fun (v : (Sl Int × Int)) => match v with | (s17, i18) => ⟨[(0, .c (.d (.lit (.int .i64 n_0)))), (1, .c (.d (slD 2 c_ref20_Edge l_1))), (3, .c (.d (.lit (.int .i64 to_3)))), (9, .c (slC 1 cI_i64 0 s1)), (10, .c (.d (.lit (.int .i64 i2)))), (11, .c (slC 1 cI_i64 1 s17)), (12, .c (.d (.lit (.int .i64 i10)))), (13, .c (.d (.lit (.int .i64 i18))))], [(0, slO 1 cI_i64 s1), (1, slO 1 cI_i64 s17)], 2, []⟩) (a := (s9, 0)) (Q := Jn (fun (x : Sl Int) o s => match x with | s21 => o = Out.exit 4 ∧ Sub s ⟨[(0, .c (.d (.lit (.int .i64 n_0)))), (1, .c (.d (slD 2 c_ref20_Edge l_1))), (3, .c (.d (.lit (.int .i64 to_3)))), (9, .c (slC 1 cI_i64 0 s1)), (10, .c (.d (.lit (.int .i64 i2)))), (11, .c (slC 1 cI_i64 1 s21)), (12, .c (.d (.lit (.int .i64 i10))))], [(0, slO 1 cI_i64 s1), (1, slO 1 cI_i64 s21)], 2, []⟩)) ?_ h23 ?_)
          · intro o s hs44
            obtain ⟨rfl, hs44⟩ := hs44
            refine out_e ?_
            refine out_n ?_
            refine after_n ?_
            refine W.sub hs44 ?_
            refine w_region ?_
            refine o1 rfl ?_
            refine o1 (v := .c (.d (.lit (.int .i64 (wr .i64 (i10 + 1)))))) rfl ?_
            refine o1 rfl ?_
            refine o_end (e' := [(0, .c (.d (.lit (.int .i64 n_0)))), (1, .c (.d (slD 2 c_ref20_Edge l_1))), (3, .c (.d (.lit (.int .i64 to_3)))), (9, .c (slC 1 cI_i64 0 s1)), (10, .c (.d (.lit (.int .i64 i2)))), (11, .c (slC 1 cI_i64 1 s21)), (12, .c (.d (.lit (.int .i64 (wr .i64 (i10 + 1))))))]) rfl rfl ?_
            obtain rfl := Option.some.inj hr
            exact And.intro rfl (by rcases s1 with _ | _ <;> rcases s21 with _ | _ <;> first | (exact sub_ren [9000, 9001] [0, 1, 3, 9, 10, 11, 12] (by decide) rfl (.skip (.skip .nil)) (Nat.le_of_ble_eq_true rfl)) | (exact sub_ren [9000, 1] [0, 1, 3, 9, 10, 11, 12] (by decide) rfl (.skip (.cons .nil)) (Nat.le_of_ble_eq_true rfl)) | (exact sub_ren [0, 9001] [0, 1, 3, 9, 10, 11, 12] (by decide) rfl (.cons (.skip .nil)) (Nat.le_of_ble_eq_true rfl)) | (exact sub_ren [0, 1] [0, 1, 3, 9, 10, 11, 12] (by decide) rfl (.cons (.cons .nil)) (Nat.le_of_ble_eq_true rfl)))
          · exact (by rcases s1 with _ | _ <;> rcases s9 with _ | _ <;> first | (exact sub_ren [9000, 9001] [0, 1, 3, 9, 10, 11, 12, 13] (by decide) rfl (.skip (.skip .nil)) (Nat.le_of_ble_eq_true rfl)) | (exact sub_ren [9000, 1] [0, 1, 3, 9, 10, 11, 12, 13] (by decide) rfl (.skip (.cons .nil)) (Nat.le_of_ble_eq_true rfl)) | (exact sub_ren [0, 9001] [0, 1, 3, 9, 10, 11, 12, 13] (by decide) rfl (.cons (.skip .nil)) (Nat.le_of_ble_eq_true rfl)) | (exact sub_ren [0, 1] [0, 1, 3, 9, 10, 11, 12, 13] (by decide) rfl (.cons (.cons .nil)) (Nat.le_of_ble_eq_true rfl)))
          · rintro ⟨s17, i18⟩ r hr
            unfold ref20_ways_L3 at hr
            refine w_seq ?_
            refine w_seq ?_
            refine w_region ?_
            iterate 2 refine o1 rfl ?_
            refine o1 (v := .c (.d (.lit (.int .i64 (s1.l.length : Int))))) len_c ?_
            refine o1 (v := .c (.d (.lit (.bool (decide (i18 < (s1.l.length : Int))))))) rfl ?_
            refine o_end (e' := [(0, .c (.d (.lit (.int .i64 n_0)))), (1, .c (.d (slD 2 c_ref20_Edge l_1))), (3, .c (.d (.lit (.int .i64 to_3)))), (9, .c (slC 1 cI_i64 0 s1)), (10, .c (.d (.lit (.int .i64 i2)))), (11, .c (slC 1 cI_i64 1 s17)), (12, .c (.d (.lit (.int .i64 i10)))), (13, .c (.d (.lit (.int .i64 i18)))), (29, .c (.d (.lit (.bool (decide (i18 < (s1.l.length : Int)))))))]) rfl rfl ?_
            refine after_n ?_
            refine w_cond (t := decide (i18 < (s1.l.length : Int))) rfl (fun hb24 => ?_) (fun hb24 => ?_)
            · have hr := cnd_t hb24 hr
              refine w_skip ?_
              refine after_n ?_
              refine w_seq ?_
              obtain ⟨s25, h26, hr⟩ := bnd hr
              refine W.mono (Q := Jn (fun (x : Sl Int) o s => match x with | s25 => o = Out.normal ∧ Sub s ⟨[(0, .c (.d (.lit (.int .i64 n_0)))), (1, .c (.d (slD 2 c_ref20_Edge l_1))), (3, .c (.d (.lit (.int .i64 to_3)))), (9, .c (slC 1 cI_i64 0 s1)), (10, .c (.d (.lit (.int .i64 i2)))), (11, .c (slC 1 cI_i64 1 s25)), (12, .c (.d (.lit (.int .i64 i10)))), (13, .c (.d (.lit (.int .i64 i18))))], [(0, slO 1 cI_i64 s1), (1, slO 1 cI_i64 s25)], 2, []⟩) s25) ?_ ?_
              · intro o s hs43
                obtain ⟨rfl, hs43⟩ := hs43
                refine after_n ?_
                refine W.sub hs43 ?_
                refine w_region ?_
                refine o1 rfl ?_
                refine o1 (v := .c (.d (.lit (.int .i64 (wr .i64 (i18 + 1)))))) rfl ?_
                refine o1 rfl ?_
                refine o_end (e' := [(0, .c (.d (.lit (.int .i64 n_0)))), (1, .c (.d (slD 2 c_ref20_Edge l_1))), (3, .c (.d (.lit (.int .i64 to_3)))), (9, .c (slC 1 cI_i64 0 s1)), (10, .c (.d (.lit (.int .i64 i2)))), (11, .c (slC 1 cI_i64 1 s25)), (12, .c (.d (.lit (.int .i64 i10)))), (13, .c (.d (.lit (.int .i64 (wr .i64 (i18 + 1))))))]) rfl rfl ?_
                obtain rfl := Option.some.inj hr
                exact And.intro rfl (by rcases s1 with _ | _ <;> rcases s25 with _ | _ <;> first | (exact sub_ren [9000, 9001] [0, 1, 3, 9, 10, 11, 12, 13] (by decide) rfl (.skip (.skip .nil)) (Nat.le_of_ble_eq_true rfl)) | (exact sub_ren [9000, 1] [0, 1, 3, 9, 10, 11, 12, 13] (by decide) rfl (.skip (.cons .nil)) (Nat.le_of_ble_eq_true rfl)) | (exact sub_ren [0, 9001] [0, 1, 3, 9, 10, 11, 12, 13] (by decide) rfl (.cons (.skip .nil)) (Nat.le_of_ble_eq_true rfl)) | (exact sub_ren [0, 1] [0, 1, 3, 9, 10, 11, 12, 13] (by decide) rfl (.cons (.cons .nil)) (Nat.le_of_ble_eq_true rfl)))
              · refine w_block ?_
                refine w_seq ?_
                obtain ⟨n28, h29, h26⟩ := bnd h26
                obtain ⟨r30, h31, h26⟩ := bnd h26
                obtain ⟨b34, h35, h26⟩ := bnd h26
                refine w_join (J := fun s => Sub s ⟨[(0, .c (.d (.lit (.int .i64 n_0)))), (1, .c (.d (slD 2 c_ref20_Edge l_1))), (3, .c (.d (.lit (.int .i64 to_3)))), (9, .c (slC 1 cI_i64 0 s1)), (10, .c (.d (.lit (.int .i64 i2)))), (11, .c (slC 1 cI_i64 1 s17)), (12, .c (.d (.lit (.int .i64 i10)))), (13, .c (.d (.lit (.int .i64 i18)))), (44, .c (.d (.lit (.bool b34))))], [(0, slO 1 cI_i64 s1), (1, slO 1 cI_i64 s17)], 2, []⟩) ?_ ?_
                · rcases s1 with _ | s1' <;> rcases s17 with _ | s17'
                  · try dsimp only [slC, slO]
                    refine w_region ?_
                    iterate 3 refine o1 rfl ?_
                    exact ix_nil h29
                  · try dsimp only [slC, slO]
                    refine w_region ?_
                    iterate 3 refine o1 rfl ?_
                    exact ix_nil h29
                  · try dsimp only [slC, slO]
                    refine w_region ?_
                    iterate 3 refine o1 rfl ?_
                    refine o1 (ix_o h29) ?_
                    refine o1 (ld_row rfl (ixI_some.1 h29).2 rfl) ?_
                    refine o1 rfl ?_
                    refine oc (rs := [.c (.d (.lit (.bool r30)))]) (outs := []) rfl (ref20_edge_ok h31) rfl ?_
                    refine o1 rfl ?_
                    cases hb36 : (r30 : Bool)
                    · have h35 := cnd_f hb36 h35
                      iterate 4 refine onot rfl rfl ?_
                      refine o1 rfl ?_
                      cases h35
                      exact o_join (sub_ren [0, 9001] [0, 1, 3, 9, 10, 11, 12, 13, 44] (by decide) rfl (.cons (.skip .nil)) (Nat.le_of_ble_eq_true rfl))
                    · have h35 := cnd_t hb36 h35
                      obtain ⟨r32, h33, h35⟩ := bnd h35
                      iterate 2 refine og rfl rfl rfl ?_
                      refine ocg (rs := [.c (.d (.lit (.bool r32)))]) (outs := []) rfl rfl rfl (ref20_has_ok h33) rfl ?_
                      refine og (v := .c (.d (.lit (.bool (!r32))))) rfl rfl rfl ?_
                      refine o1 rfl ?_
                      cases h35
                      exact o_join (sub_ren [0, 9001] [0, 1, 3, 9, 10, 11, 12, 13, 44] (by decide) rfl (.cons (.skip .nil)) (Nat.le_of_ble_eq_true rfl))
                  · try dsimp only [slC, slO]
                    refine w_region ?_
                    iterate 3 refine o1 rfl ?_
                    refine o1 (ix_o h29) ?_
                    refine o1 (ld_row rfl (ixI_some.1 h29).2 rfl) ?_
                    refine o1 rfl ?_
                    refine oc (rs := [.c (.d (.lit (.bool r30)))]) (outs := []) rfl (ref20_edge_ok h31) rfl ?_
                    refine o1 rfl ?_
                    cases hb37 : (r30 : Bool)
                    · have h35 := cnd_f hb37 h35
                      iterate 4 refine onot rfl rfl ?_
                      refine o1 rfl ?_
                      cases h35
                      exact o_join (sub_ren [0, 1] [0, 1, 3, 9, 10, 11, 12, 13, 44] (by decide) rfl (.cons (.cons .nil)) (Nat.le_of_ble_eq_true rfl))
                    · have h35 := cnd_t hb37 h35
                      obtain ⟨r32, h33, h35⟩ := bnd h35
                      iterate 2 refine og rfl rfl rfl ?_
                      refine ocg' (rs := [.c (.d (.lit (.bool r32)))]) (outs := []) rfl rfl (call_at rfl rfl (ea_c (v_o rfl) rfl (ea_c rfl rfl ea_nil)) wh_nil rfl rfl) (ref20_has_ok h33) ?_
                      refine og (v := .c (.d (.lit (.bool (!r32))))) rfl rfl rfl ?_
                      refine o1 rfl ?_
                      cases h35
                      exact o_join (sub_ren [0, 1] [0, 1, 3, 9, 10, 11, 12, 13, 44] (by decide) rfl (.cons (.cons .nil)) (Nat.le_of_ble_eq_true rfl))
                · intro s hs38
                  refine after_n ?_
                  refine W.sub hs38 ?_
                  refine w_cond (t := b34) rfl (fun hb39 => ?_) (fun hb39 => ?_)
                  · have h26 := cnd_t hb39 h26
                    obtain ⟨l40, h41, h26⟩ := bnd h26
                    refine w_join (J := fun s => Sub s ⟨[(0, .c (.d (.lit (.int .i64 n_0)))), (1, .c (.d (slD 2 c_ref20_Edge l_1))), (3, .c (.d (.lit (.int .i64 to_3)))), (9, .c (slC 1 cI_i64 0 s1)), (10, .c (.d (.lit (.int .i64 i2)))), (11, .c (slC 1 cI_i64 1 (Sl.mk l40))), (12, .c (.d (.lit (.int .i64 i10)))), (13, .c (.d (.lit (.int .i64 i18))))], [(0, slO 1 cI_i64 s1), (1, slO 1 cI_i64 (Sl.mk l40))], 2, []⟩) ?_ ?_
                    · rcases s17 with _ | s17'
                      · try dsimp only [slC, slO]
                        refine w_region ?_
                        iterate 2 refine o1 rfl ?_
                        refine o2 rfl ?_
                        refine o2 (app_nil (enc := cI_i64) rfl h41) ?_
                        refine o1 rfl ?_
                        exact o_join (by rcases s1 with _ | _ <;> first | (exact sub_ren [9000, 3] [0, 1, 3, 9, 10, 11, 12, 13] (by decide) rfl (.skip (.cons .nil)) (Nat.le_of_ble_eq_true rfl)) | (exact sub_ren [0, 3] [0, 1, 3, 9, 10, 11, 12, 13] (by decide) rfl (.cons (.cons .nil)) (Nat.le_of_ble_eq_true rfl)))
                      · try dsimp only [slC, slO]
                        refine w_region ?_
                        iterate 2 refine o1 rfl ?_
                        refine o2 rfl ?_
                        refine o2 (app_o rfl rfl h41) ?_
                        refine o1 rfl ?_
                        exact o_join (by rcases s1 with _ | _ <;> first | (exact sub_ren [9000, 3] [0, 1, 3, 9, 10, 11, 12, 13] (by decide) rfl (.skip (.cons .nil)) (Nat.le_of_ble_eq_true rfl)) | (exact sub_ren [0, 3] [0, 1, 3, 9, 10, 11, 12, 13] (by decide) rfl (.cons (.cons .nil)) (Nat.le_of_ble_eq_true rfl)))
                    · intro s hs42
                      refine out_n ?_
                      obtain rfl := Option.some.inj h26
                      exact And.intro rfl (Sub.trans hs42 (by rcases s1 with _ | _ <;> first | (exact sub_ren [9000, 1] [0, 1, 3, 9, 10, 11, 12, 13] (by decide) rfl (.skip (.cons .nil)) (Nat.le_of_ble_eq_true rfl)) | (exact sub_ren [0, 1] [0, 1, 3, 9, 10, 11, 12, 13] (by decide) rfl (.cons (.cons .nil)) (Nat.le_of_ble_eq_true rfl))))
                  · have h26 := cnd_f hb39 h26
                    refine w_skip ?_
                    refine out_n ?_
                    obtain rfl := Option.some.inj h26
                    exact And.intro rfl (by rcases s1 with _ | _ <;> rcases s17 with _ | _ <;> first | (exact sub_ren [9000, 9001] [0, 1, 3, 9, 10, 11, 12, 13] (by decide) rfl (.skip (.skip .nil)) (Nat.le_of_ble_eq_true rfl)) | (exact sub_ren [9000, 1] [0, 1, 3, 9, 10, 11, 12, 13] (by decide) rfl (.skip (.cons .nil)) (Nat.le_of_ble_eq_true rfl)) | (exact sub_ren [0, 9001] [0, 1, 3, 9, 10, 11, 12, 13] (by decide) rfl (.cons (.skip .nil)) (Nat.le_of_ble_eq_true rfl)) | (exact sub_ren [0, 1] [0, 1, 3, 9, 10, 11, 12, 13] (by decide) rfl (.cons (.cons .nil)) (Nat.le_of_ble_eq_true rfl)))
            · have hr := cnd_f hb24 hr
              refine w_exit ?_
              refine after_e ?_
              obtain rfl := Option.some.inj hr
              exact And.intro nofun (And.intro rfl (by rcases s1 with _ | _ <;> rcases s17 with _ | _ <;> first | (exact sub_ren [9000, 9001] [0, 1, 3, 9, 10, 11, 12] (by decide) rfl (.skip (.skip .nil)) (Nat.le_of_ble_eq_true rfl)) | (exact sub_ren [9000, 1] [0, 1, 3, 9, 10, 11, 12] (by decide) rfl (.skip (.cons .nil)) (Nat.le_of_ble_eq_true rfl)) | (exact sub_ren [0, 9001] [0, 1, 3, 9, 10, 11, 12] (by decide) rfl (.cons (.skip .nil)) (Nat.le_of_ble_eq_true rfl)) | (exact sub_ren [0, 1] [0, 1, 3, 9, 10, 11, 12] (by decide) rfl (.cons (.cons .nil)) (Nat.le_of_ble_eq_true rfl))))
        · have hr := cnd_f hb16 hr
          refine w_exit ?_
          refine after_e ?_
          obtain rfl := Option.some.inj hr
          exact And.intro nofun (And.intro rfl (by rcases s9 with _ | _ <;> first | (exact sub_ren [9000] [0, 1, 3, 10, 11] (by decide) rfl (.skip .nil) (Nat.le_of_ble_eq_true rfl)) | (exact sub_ren [1] [0, 1, 3, 10, 11] (by decide) rfl (.cons .nil) (Nat.le_of_ble_eq_true rfl))))
    · have hr := cnd_f hb8 hr
      refine w_exit ?_
      refine after_e ?_
      obtain rfl := Option.some.inj hr
      exact And.intro nofun (And.intro rfl (sub_ren [] [] (by decide) rfl .nil (Nat.le_of_ble_eq_true rfl)))

/- turnout/turnoutref20.Loop -/
def k16 : CC :=
  (.seq
  (.region [
    ⟨some 4, .mv, [(.const (.slice none 0 0))], none⟩] [0, 1])
  (.seq
  (.seq
  (.region [
    ⟨some 10, .mv, [(.tmp 0)], none⟩,
    ⟨some 11, .mv, [(.tmp 1)], none⟩,
    ⟨some 12, (.call true []), [(.func 9), (.tmp 10), (.tmp 11)], none⟩,
    ⟨some 13, (.un .not), [(.tmp 12)], none⟩] [0, 1, 13])
  (.cond (.tmp 13)
    (.seq
    (.region [
      ⟨some 4, .mv, [(.const (.slice none 0 0))], none⟩] [4])
    .ret)
    .skip))
  (.seq
  (.seq
  (.region [
    ⟨some 5, .mv, [(.const (.int .i64 0))], none⟩] [0, 1, 5])
  (.block 0
    (.loop [0, 1, 5]
      (.seq
      (.seq
      (.region [
        ⟨some 14, .mv, [(.tmp 5)], none⟩,
        ⟨some 15, .mv, [(.tmp 0)], none⟩,
        ⟨some 16, (.bin .lss), [(.tmp 14), (.tmp 15)], none⟩] [0, 1, 5, 16])
      (.cond (.tmp 16)
        .skip
        (.exit 0)))
      (.seq
      (.block 1
        (.seq
        (.region [
          ⟨some 19, .mv, [(.tmp 0)], none⟩,
          ⟨some 20, .mv, [(.tmp 1)], none⟩,
          ⟨some 21, .mv, [(.tmp 5)], none⟩,
          ⟨some 22, .mv, [(.tmp 5)], none⟩,
          ⟨some 23, (.call true []), [(.func 25), (.tmp 19), (.tmp 20), (.tmp 21), (.tmp 22)], none⟩,
          ⟨some 6, .mv, [(.tmp 23)], none⟩] [0, 1, 5, 6])
        (.seq
        (.seq
        (.region [
          ⟨some 24, .mv, [(.tmp 6)], none⟩,
          ⟨some 25, (.bin .eql), [(.tmp 24), (.const (.int .i64 0))], none⟩] [0, 1, 5, 6, 25])
        (.cond (.tmp 25)
          (.exit 1)
          .skip))
        (.seq
        (.region [
          ⟨some 26, .mv, [(.tmp 5)], none⟩,
          ⟨some 27, (.buildSlice 1 1 [(.int .i64 0)] [0]), [(.tmp 26)], none⟩,
          ⟨some 7, .mv, [(.tmp 27)], none⟩] [0, 1, 5, 6, 7])
        (.seq
        (.block 2
          (.loop [0, 1, 5, 6, 7]
            (.seq
            (.seq
            (.region [
              ⟨some 28, .mv, [(.tmp 6)], none⟩,
              ⟨some 29, (.bin .gtr), [(.tmp 28), (.const (.int .i64 1))], none⟩] [0, 1, 5, 6, 7, 29])
            (.cond (.tmp 29)
              .skip
              (.exit 2)))
            (.block 3
              (.seq
              (.region [
                ⟨some 30, .mv, [(.tmp 6)], none⟩,
                ⟨some 31, (.bin .sub), [(.tmp 30), (.const (.int .i64 1))], none⟩,
                ⟨some 6, .mv, [(.tmp 31)], none⟩] [0, 1, 5, 6, 7])
              (.seq
              (.region [
                ⟨some 8, .mv, [(.const (.int .i64 (-1)))], none⟩] [0, 1, 5, 6, 7, 8])
              (.seq
              (.seq
              (.region [
                ⟨some 32, .mv, [(.tmp 0)], none⟩,
                ⟨some 33, (.bin .sub), [(.tmp 32), (.const (.int .i64 1))], none⟩,
                ⟨some 9, .mv, [(.tmp 33)], none⟩] [0, 1, 5, 6, 7, 8, 9])
              (.block 4
                (.loop [0, 1, 5, 6, 7, 8, 9]
                  (.seq
                  (.seq
                  (.region [
                    ⟨some 34, .mv, [(.tmp 9)], none⟩,
                    ⟨some 35, (.bin .geq), [(.tmp 34), (.const (.int .i64 0))], none⟩] [0, 1, 5, 6, 7, 8, 9, 35])
                  (.cond (.tmp 35)
                    .skip
                    (.exit 4)))
                  (.seq
                  (.block 5
                    (.seq
                    (.region [
                      ⟨some 38, .mv, [(.tmp 1)], none⟩,
                      ⟨some 39, .mv, [(.tmp 7)], none⟩,
                      ⟨some 40, .mv, [(.tmp 7)], none⟩,
                      ⟨some 41, (.len false), [(.tmp 40)], none⟩,
                      ⟨some 42, (.bin .sub), [(.tmp 41), (.const (.int .i64 1))], none⟩,
                      ⟨some 43, (.indexAddr none 1), [(.tmp 39), (.tmp 42)], none⟩,
                      ⟨some 44, (.load false 1), [(.tmp 43)], none⟩,
                      ⟨some 45, .mv, [(.tmp 9)], none⟩,
                      ⟨some 46, (.call true []), [(.func 22), (.tmp 38), (.tmp 44), (.tmp 45)], none⟩,
                      ⟨some 47, .mv, [(.tmp 46)], none⟩,
                      ⟨some 48, .mv, [(.tmp 0)], (some (47, true))⟩,
                      ⟨some 49, .mv, [(.tmp 1)], (some (47, true))⟩,
                      ⟨some 50, .mv, [(.tmp 9)], (some (47, true))⟩,
                      ⟨some 51, .mv, [(.tmp 5)], (some (47, true))⟩,
                      ⟨some 52, (.call true []), [(.func 25), (.tmp 48), (.tmp 49), (.tmp 50), (.tmp 51)], (some (47, true))⟩,
                      ⟨some 53, .mv, [(.tmp 6)], (some (47, true))⟩,
                      ⟨some 54, (.bin .eql), [(.tmp 52), (.tmp 53)], (some (47, true))⟩,
                      ⟨some 55, .pick, [(.tmp 47), (.tmp 54), (.const (.bool false))], none⟩] [0, 1, 5, 6, 7, 8, 9, 55])
                    (.cond (.tmp 55)
                      (.region [
                        ⟨some 56, .mv, [(.tmp 9)], none⟩,
                        ⟨some 8, .mv, [(.tmp 56)], none⟩] [0, 1, 5, 6, 7, 8, 9])
                      .skip)))
                  (.region [
                    ⟨some 36, .mv, [(.tmp 9)], none⟩,
                    ⟨some 37, (.bin .sub), [(.tmp 36), (.const (.int .i64 1))], none⟩,
                    ⟨some 9, .mv, [(.tmp 37)], none⟩] [0, 1, 5, 6, 7, 8, 9]))))))
              (.region [
                ⟨some 57, .mv, [(.tmp 7)], none⟩,
                ⟨some 58, .mv, [(.tmp 8)], none⟩,
                ⟨some 59, (.buildSlice 1 1 [(.int .i64 0)] [0]), [(.tmp 58)], none⟩,
                ⟨some 60, (.append 1), [(.tmp 57), (.tmp 59)], none⟩,
                ⟨some 7, .mv, [(.tmp 60)], none⟩] [0, 1, 5, 6, 7]))))))))
        (.seq
        (.region [
          ⟨some 61, .mv, [(.tmp 7)], none⟩,
          ⟨some 4, .mv, [(.tmp 61)], none⟩] [4])
        .ret))))))
      (.region [
        ⟨some 17, .mv, [(.tmp 5)], none⟩,
        ⟨some 18, (.bin .add), [(.tmp 17), (.const (.int .i64 1))], none⟩,
        ⟨some 5, .mv, [(.tmp 18)], none⟩] [0, 1, 5]))))))
  (.seq
  (.region [
    ⟨some 4, .mv, [(.const (.slice none 0 0))], none⟩] [4])
  .ret))))
def f16 : Ev.Fn := ⟨2, 62, [.tmp 4], k16⟩
set_option maxRecDepth 100000 in
theorem e16 : compFn prog sig 16 2 [[0, 1], [0, 1, 13], [4], [0, 1, 5], [0, 1, 5], [0, 1, 5, 16], [0, 1, 5, 6], [0, 1, 5, 6, 25], [0, 1, 5, 6, 7], [0, 1, 5, 6, 7], [0, 1, 5, 6, 7, 29], [0, 1, 5, 6, 7], [0, 1, 5, 6, 7, 8], [0, 1, 5, 6, 7, 8, 9], [0, 1, 5, 6, 7, 8, 9], [0, 1, 5, 6, 7, 8, 9, 35], [0, 1, 5, 6, 7, 8, 9, 55], [0, 1, 5, 6, 7, 8, 9], [0, 1, 5, 6, 7, 8, 9], [0, 1, 5, 6, 7], [4], [0, 1, 5], [4]] = some f16 := by kernel_rfl
noncomputable def ref20_Loop_L3 (n_0 : Int) (l_1 : Sl ref20_Edge) (i4 : Int) (i13 : Int) (l14 : List Int) : (Int × Int) → Option (Sum ((Int × Int)) (Int)) := fun (i21, i22) =>
  bif decide (i22 ≥ 0) then (((ixI (wr .i64 ((l14.length : Int) - 1)) l14.length).bind fun n32 =>
  (ref20_edge l_1 (gt l14 n32) i22).bind fun r34 =>
  (bif r34 then ((ref20_ways n_0 l_1 i22 i4).bind fun r36 =>
  some (r36 == (wr .i64 (i13 - 1)))) else (some false)).bind fun b38 =>
  bif b38 then (some i22) else
  (some i21) : Option (Int)).bind fun i29 =>
  some (.inl (i29, wr .i64 (i22 - 1)))) else
  (some (.inr i21))

noncomputable def ref20_Loop_L2 (n_0 : Int) (l_1 : Sl ref20_Edge) (i4 : Int) : (Int × List Int) → Option (Sum ((Int × List Int)) (List Int)) := fun (i13, l14) =>
  bif decide (i13 > 1) then ((loopO (ref20_Loop_L3 n_0 l_1 i4 i13 l14) ((-1), wr .i64 (n_0 - 1))).bind fun i25 =>
  (capI (l14 ++ [i25])).bind fun l45 =>
  some (.inl (wr .i64 (i13 - 1), l45))) else
  (some (.inr l14))

noncomputable def ref20_Loop_L1 (n_0 : Int) (l_1 : Sl ref20_Edge) : Int → Option (Sum (Int) (Sum (List Int) (Unit))) := fun i4 =>
  bif decide (i4 < n_0) then ((ref20_ways n_0 l_1 i4 i4).bind fun r10 =>
  bif (r10 == 0) then (some (.inl (wr .i64 (i4 + 1)))) else
  ((loopO (ref20_Loop_L2 n_0 l_1 i4) (r10, [i4])).bind fun l17 =>
  some (.inr (.inl l17)))) else
  (some (.inr (.inr ())))

noncomputable def ref20_Loop (n_0 : Int) (l_1 : Sl ref20_Edge) : Option (Sl Int) :=
  (ref20_Right n_0 l_1).bind fun r1 =>
  bif (!r1) then (some Sl.nil) else
  ((loopO (ref20_Loop_L1 n_0 l_1) 0).bind fun
  | .inl l6 => (some (Sl.mk l6))
  | .inr (_) => (some Sl.nil))
theorem ref20_Loop_ok {n_0 : Int} {l_1 : Sl ref20_Edge} {z : Sl Int} (hp : ref20_Loop n_0 l_1 = some z) : Good prog 16 [.d (.lit (.int .i64 n_0)), .d (slD 2 c_ref20_Edge l_1)] [.c (.d (slD 1 cI_i64 z))] [] := by
  unfold ref20_Loop at hp
  refine fn_good mixed e16 (fnS (m := [true]) (s := ⟨[(0, .c (.d (.lit (.int .i64 n_0)))), (1, .c (.d (slD 2 c_ref20_Edge l_1)))], [], 0, []⟩) (len := 0) (c := k16) rfl (Sub.of_eq rfl) rfl rfl ?_)
  refine w_seq ?_
  refine w_region ?_
  refine o1 rfl ?_
  refine o_end (e' := [(0, .c (.d (.lit (.int .i64 n_0)))), (1, .c (.d (slD 2 c_ref20_Edge l_1)))]) rfl rfl ?_
  refine after_n ?_
  refine w_seq ?_
  refine w_seq ?_
  obtain ⟨r1, h2, hp⟩ := bnd hp
  refine w_region ?_
  iterate 2 refine o1 rfl ?_
  refine oc (rs := [.c (.d (.lit (.bool r1)))]) (outs := []) rfl (ref20_Right_ok h2) rfl ?_
  refine o1 (v := .c (.d (.lit (.bool (!r1))))) rfl ?_
  refine o_end (e' := [(0, .c (.d (.lit (.int .i64 n_0)))), (1, .c (.d (slD 2 c_ref20_Edge l_1))), (13, .c (.d (.lit (.bool (!r1)))))]) rfl rfl ?_
  refine after_n ?_
  refine w_cond (t := (!r1)) rfl (fun hb3 => ?_) (fun hb3 => ?_)
  · have hp := cnd_t hb3 hp
    refine w_seq ?_
    refine w_region ?_
    refine o1 rfl ?_
    refine o_end (e' := [(4, .c (.d (.lit (.slice none 0 0))))]) rfl rfl ?_
    refine after_n ?_
    refine w_ret ?_
    refine after_r ?_
    obtain rfl := Option.some.inj hp
    exact leave_at rfl rfl (pr_c p_d pr_nil) pc_nil rfl rfl
  · have hp := cnd_f hb3 hp
    refine w_skip ?_
    refine after_n ?_
    refine w_seq ?_
    refine w_seq ?_
    refine w_region ?_
    refine o1 rfl ?_
    refine o_end (e' := [(0, .c (.d (.lit (.int .i64 n_0)))), (1, .c (.d (slD 2 c_ref20_Edge l_1))), (5, .c (.d (.lit (.int .i64 0))))]) rfl rfl ?_
    refine after_n ?_
    refine w_block ?_
    obtain ⟨x7, h8, hp⟩ := bnd hp
    refine W.mono ?_ (w_loopS (st := fun (v : Int) => match v with | i4 => ⟨[(0, .c (.d (.lit (.int .i64 n_0)))), (1, .c (.d (slD 2 c_ref20_Edge l_1))), (5, .c (.d (.lit (.int .i64 i4))))], [], 0, []⟩) (a := 0) (Q := Jn (fun (x : Sum (List Int) (Unit)) o s => match x with | .inl l6 => o = Out.ret ∧ Sub s ⟨[(4, .c (slC 1 cI_i64 0 (Sl.mk l6)))], [(0, slO 1 cI_i64 (Sl.mk l6))], 1, []⟩ | .inr (_) => o = Out.exit 0 ∧ Sub s ⟨[], [], 0, []⟩)) ?_ h8 ?_)
    · intro o s hs48
      rcases x7 with (l6 | _)
      · obtain ⟨rfl, hs48⟩ := hs48
        refine out_r ?_
        refine after_r ?_
        obtain rfl := Option.some.inj hp
        refine wk.sub hs48 ?_
        exact leave_at rfl rfl (pr_c (p_o rfl) pr_nil) pc_nil rfl rfl
      · obtain ⟨rfl, hs48⟩ := hs48
        refine out_e ?_
        refine after_n ?_
        refine W.sub hs48 ?_
        refine w_seq ?_
        refine w_region ?_
        refine o1 rfl ?_
        refine o_end (e' := [(4, .c (.d (.lit (.slice none 0 0))))]) rfl rfl ?_
        refine after_n ?_
        refine w_ret ?_
        obtain rfl := Option.some.inj hp
        exact leave_at rfl rfl (pr_c p_d pr_nil) pc_nil rfl rfl
    · exact (sub_ren [] [0, 1, 5] (by decide) rfl .nil (Nat.le_of_ble_eq_true rfl))
    · rintro i4 r hr
      unfold ref20_Loop_L1 at hr
      refine w_seq ?_
      refine w_seq ?_
      refine w_region ?_
      iterate 2 refine o1 rfl ?_
      refine o1 (v := .c (.d (.lit (.bool (decide (i4 < n_0)))))) rfl ?_
      refine o_end (e' := [(0, .c (.d (.lit (.int .i64 n_0)))), (1, .c (.d (slD 2 c_ref20_Edge l_1))), (5, .c (.d (.lit (.int .i64 i4)))), (16, .c (.d (.lit (.bool (decide (i4 < n_0))))))]) rfl rfl ?_
      refine after_n ?_
      refine w_cond (t := decide (i4 < n_0)) rfl (fun hb9 => ?_) (fun hb9 => ?_)
      · have hr := cnd_t hb9 hr
        refine w_skip ?_
        refine after_n ?_
        refine w_seq ?_
        refine w_block ?_
        refine w_seq ?_
        obtain ⟨r10, h11, hr⟩ := bnd hr
        refine w_region ?_
        iterate 4 refine o1 rfl ?_
        refine oc (rs := [.c (.d (.lit (.int .i64 r10)))]) (outs := []) rfl (ref20_ways_ok h11) rfl ?_
        refine o1 rfl ?_
        refine o_end (e' := [(0, .c (.d (.lit (.int .i64 n_0)))), (1, .c (.d (slD 2 c_ref20_Edge l_1))), (5, .c (.d (.lit (.int .i64 i4)))), (6, .c (.d (.lit (.int .i64 r10))))]) rfl rfl ?_
        refine after_n ?_
        refine w_seq ?_
        refine w_seq ?_
        refine w_region ?_
        refine o1 rfl ?_
        refine o1 (v := .c (.d (.lit (.bool (r10 == 0))))) rfl ?_
        refine o_end (e' := [(0, .c (.d (.lit (.int .i64 n_0)))), (1, .c (.d (slD 2 c_ref20_Edge l_1))), (5, .c (.d (.lit (.int .i64 i4)))), (6, .c (.d (.lit (.int .i64 r10)))), (25, .c (.d (.lit (.bool (r10 == 0)))))]) rfl rfl ?_
        refine after_n ?_
        refine w_cond (t := (r10 == 0)) rfl (fun hb12 => ?_) (fun hb12 => ?_)
        · have hr := cnd_t hb12 hr
          refine w_exit ?_
          refine after_e ?_
          refine out_e ?_
          refine after_n ?_
          refine w_region ?_
          refine o1 rfl ?_
          refine o1 (v := .c (.d (.lit (.int .i64 (wr .i64 (i4 + 1)))))) rfl ?_
          refine o1 rfl ?_
          refine o_end (e' := [(0, .c (.d (.lit (.int .i64 n_0)))), (1, .c (.d (slD 2 c_ref20_Edge l_1))), (5, .c (.d (.lit (.int .i64 (wr .i64 (i4 + 1))))))]) rfl rfl ?_
          obtain rfl := Option.some.inj hr
          exact And.intro rfl (sub_ren [] [0, 1, 5] (by decide) rfl .nil (Nat.le_of_ble_eq_true rfl))
        · have hr := cnd_f hb12 hr
          refine w_skip ?_
          refine after_n ?_
          refine w_seq ?_
          refine w_region ?_
          refine o1 rfl ?_
          refine o2 rfl ?_
          refine o1 rfl ?_
          refine o_end (e' := [(0, .c (.d (.lit (.int .i64 n_0)))), (1, .c (.d (slD 2 c_ref20_Edge l_1))), (5, .c (.d (.lit (.int .i64 i4)))), (6, .c (.d (.lit (.int .i64 r10)))), (7, .c (slC 1 cI_i64 0 (Sl.mk [i4])))]) rfl rfl ?_
          refine after_n ?_
          refine w_seq ?_
          refine w_block ?_
          obtain ⟨l17, h19, hr⟩ := bnd hr
          refine W.mono ?_ (w_loopS (st := fun (v : (Int × List Int)) => match v with | (i13, l14) => ⟨[(0, .c (.d (.lit (.int .i64 n_0)))), (1, .c (.d (slD 2 c_ref20_Edge l_1))), (5, .c (.d (.lit (.int .i64 i4)))), (6, .c (.d (.lit (.int .i64 i13)))), (7, .c (slC 1 cI_i64 0 (Sl.mk l14)))], [(0, slO 1 cI_i64 (Sl.mk l14))], 1, []⟩) (a := (r10, [i4])) (Q := Jn (fun (x : List Int) o s => match x with | l17 => o = Out.exit 2 ∧ Sub s ⟨[(7, .c (slC 1 cI_i64 0 (Sl.mk l17)))], [(0, slO 1 cI_i64 (Sl.mk l17))], 1, []⟩)) ?_ h19 ?_)
          · intro o s hs47
            obtain ⟨rfl, hs47⟩ := hs47
            refine out_e ?_
            refine after_n ?_
            refine W.sub hs47 ?_
            refine w_seq ?_
            refine w_region ?_
            iterate 2 refine o1 rfl ?_
            refine o_end (e' := [(4, .c (slC 1 cI_i64 0 (Sl.mk l17)))]) rfl rfl ?_
            refine after_n ?_
            refine w_ret ?_
            refine out_r ?_
            refine after_r ?_
            obtain rfl := Option.some.inj hr
            exact And.intro nofun (And.intro rfl (sub_ren [0] [4] (by decide) rfl (.cons .nil) (Nat.le_of_ble_eq_true rfl)))
          · exact (sub_ren [0] [0, 1, 5, 6, 7] (by decide) rfl (.cons .nil) (Nat.le_of_ble_eq_true rfl))
          · rintro ⟨i13, l14⟩ r hr
            unfold ref20_Loop_L2 at hr
            refine w_seq ?_
            refine w_seq ?_
            refine w_region ?_
            refine o1 rfl ?_
            refine o1 (v := .c (.d (.lit (.bool (decide (i13 > 1)))))) rfl ?_
            refine o_end (e' := [(0, .c (.d (.lit (.int .i64 n_0)))), (1, .c (.d (slD 2 c_ref20_Edge l_1))), (5, .c (.d (.lit (.int .i64 i4)))), (6, .c (.d (.lit (.int .i64 i13)))), (7, .c (slC 1 cI_i64 0 (Sl.mk l14))), (29, .c (.d (.lit (.bool (decide (i13 > 1))))))]) rfl rfl ?_
            refine after_n ?_
            refine w_cond (t := decide (i13 > 1)) rfl (fun hb20 => ?_) (fun hb20 => ?_)
            · have hr := cnd_t hb20 hr
              refine w_skip ?_
              refine after_n ?_
              refine w_block ?_
              refine w_seq ?_
              refine w_region ?_
              refine o1 rfl ?_
              refine o1 (v := .c (.d (.lit (.int .i64 (wr .i64 (i13 - 1)))))) rfl ?_
              refine o1 rfl ?_
              refine o_end (e' := [(0, .c (.d (.lit (.int .i64 n_0)))), (1, .c (.d (slD 2 c_ref20_Edge l_1))), (5, .c (.d (.lit (.int .i64 i4)))), (6, .c (.d (.lit (.int .i64 (wr .i64 (i13 - 1)))))), (7, .c (slC 1 cI_i64 0 (Sl.mk l14)))]) rfl rfl ?_
              refine after_n ?_
              refine w_seq ?_
              refine w_region ?_
              refine o1 rfl ?_
              refine o_end (e' := [(0, .c (.d (.lit (.int .i64 n_0)))), (1, .c (.d (slD 2 c_ref20_Edge l_1))), (5, .c (.d (.lit (.int .i64 i4)))), (6, .c (.d (.lit (.int .i64 (wr .i64 (i13 - 1)))))), (7, .c (slC 1 cI_i64 0 (Sl.mk l14))), (8, .c (.d (.lit (.int .i64 (-1)))))]) rfl rfl ?_
              refine after_n ?_
              refine w_seq ?_
              refine w_seq ?_
              refine w_region ?_
              refine o1 rfl ?_
              refine o1 (v := .c (.d (.lit (.int .i64 (wr .i64 (n_0 - 1)))))) rfl ?_
              refine o1 rfl ?_
              refine o_end (e' := [(0, .c (.d (.lit (.int .i64 n_0)))), (1, .c (.d (slD 2 c_ref20_Edge l_1))), (5, .c (.d (.lit (.int .i64 i4)))), (6, .c (.d (.lit (.int .i64 (wr .i64 (i13 - 1)))))), (7, .c (slC 1 cI_i64 0 (Sl.mk l14))), (8, .c (.d (.lit (.int .i64 (-1))))), (9, .c (.d (.lit (.int .i64 (wr .i64 (n_0 - 1))))))]) rfl rfl ?_
              refine after_n ?_
              refine w_block ?_
              obtain ⟨i25, h27, hr⟩ := bnd hr
              refine W.mono ?_ (w_loopS (st := fun (v : (Int × Int)) => match v with | (i21, i22) => ⟨[(0, .c (.d (.lit (.int .i64 n_0)))), (1, .c (.d (slD 2 c_ref20_Edge l_1))), (5, .c (.d (.lit (.int .i64 i4)))), (6, .c (.d (.lit (.int .i64 (wr .i64 (i13 - 1)))))), (7, .c (slC 1 cI_i64 0 (Sl.mk l14))), (8, .c (.d (.lit (.int .i64 i21)))), (9, .c (.d (.lit (.int .i64 i22))))], [(0, slO 1 cI_i64 (Sl.mk l14))], 1, []⟩) (a := ((-1), wr .i64 (n_0 - 1))) (Q := Jn (fun (x : Int) o s => match x with | i25 => o = Out.exit 4 ∧ Sub s ⟨[(0, .c (.d (.lit (.int .i64 n_0)))), (1, .c (.d (slD 2 c_ref20_Edge l_1))), (5, .c (.d (.lit (.int .i64 i4)))), (6, .c (.d (.lit (.int .i64 (wr .i64 (i13 - 1)))))), (7, .c (slC 1 cI_i64 0 (Sl.mk l14))), (8, .c (.d (.lit (.int .i64 i25))))], [(0, slO 1 cI_i64 (Sl.mk l14))], 1, []⟩)) ?_ h27 ?_)
              · intro o s hs44
                obtain ⟨rfl, hs44⟩ := hs44
                refine out_e ?_
                refine after_n ?_
                refine W.sub hs44 ?_
                obtain ⟨l45, h46, hr⟩ := bnd hr
                refine w_region ?_
                iterate 2 refine o1 rfl ?_
                refine o2 rfl ?_
                refine o2 (app_o rfl rfl h46) ?_
                refine o1 rfl ?_
                refine o_end (e' := [(0, .c (.d (.lit (.int .i64 n_0)))), (1, .c (.d (slD 2 c_ref20_Edge l_1))), (5, .c (.d (.lit (.int .i64 i4)))), (6, .c (.d (.lit (.int .i64 (wr .i64 (i13 - 1)))))), (7, .c (slC 1 cI_i64 2 (Sl.mk l45)))]) rfl rfl ?_
                refine out_n ?_
                obtain rfl := Option.some.inj hr
                exact And.intro rfl (sub_ren [2] [0, 1, 5, 6, 7] (by decide) rfl (.cons .nil) (Nat.le_of_ble_eq_true rfl))
              · exact (sub_ren [0] [0, 1, 5, 6, 7, 8, 9] (by decide) rfl (.cons .nil) (Nat.le_of_ble_eq_true rfl))
              · rintro ⟨i21, i22⟩ r hr
                unfold ref20_Loop_L3 at hr
                refine w_seq ?_
                refine w_seq ?_
                refine w_region ?_
                refine o1 rfl ?_
                refine o1 (v := .c (.d (.lit (.bool (decide (i22 ≥ 0)))))) rfl ?_
                refine o_end (e' := [(0, .c (.d (.lit (.int .i64 n_0)))), (1, .c (.d (slD 2 c_ref20_Edge l_1))), (5, .c (.d (.lit (.int .i64 i4)))), (6, .c (.d (.lit (.int .i64 (wr .i64 (i13 - 1)))))), (7, .c (slC 1 cI_i64 0 (Sl.mk l14))), (8, .c (.d (.lit (.int .i64 i21)))), (9, .c (.d (.lit (.int .i64 i22)))), (35, .c (.d (.lit (.bool (decide (i22 ≥ 0))))))]) rfl rfl ?_
                refine after_n ?_
                refine w_cond (t := decide (i22 ≥ 0)) rfl (fun hb28 => ?_) (fun hb28 => ?_)
                · have hr := cnd_t hb28 hr
                  refine w_skip ?_
                  refine after_n ?_
                  refine w_seq ?_
                  obtain ⟨i29, h30, hr⟩ := bnd hr
                  refine W.mono (Q := Jn (fun (x : Int) o s => match x with | i29 => o = Out.normal ∧ Sub s ⟨[(0, .c (.d (.lit (.int .i64 n_0)))), (1, .c (.d (slD 2 c_ref20_Edge l_1))), (5, .c (.d (.lit (.int .i64 i4)))), (6, .c (.d (.lit (.int .i64 (wr .i64 (i13 - 1)))))), (7, .c (slC 1 cI_i64 0 (Sl.mk l14))), (8, .c (.d (.lit (.int .i64 i29)))), (9, .c (.d (.lit (.int .i64 i22))))], [(0, slO 1 cI_i64 (Sl.mk l14))], 1, []⟩) i29) ?_ ?_
                  · intro o s hs43
                    obtain ⟨rfl, hs43⟩ := hs43
                    refine after_n ?_
                    refine W.sub hs43 ?_
                    refine w_region ?_
                    refine o1 rfl ?_
                    refine o1 (v := .c (.d (.lit (.int .i64 (wr .i64 (i22 - 1)))))) rfl ?_
                    refine o1 rfl ?_
                    refine o_end (e' := [(0, .c (.d (.lit (.int .i64 n_0)))), (1, .c (.d (slD 2 c_ref20_Edge l_1))), (5, .c (.d (.lit (.int .i64 i4)))), (6, .c (.d (.lit (.int .i64 (wr .i64 (i13 - 1)))))), (7, .c (slC 1 cI_i64 0 (Sl.mk l14))), (8, .c (.d (.lit (.int .i64 i29)))), (9, .c (.d (.lit (.int .i64 (wr .i64 (i22 - 1))))))]) rfl rfl ?_
                    obtain rfl := Option.some.inj hr
                    exact And.intro rfl (sub_ren [0] [0, 1, 5, 6, 7, 8, 9] (by decide) rfl (.cons .nil) (Nat.le_of_ble_eq_true rfl))
                  · refine w_block ?_
                    refine w_seq ?_
                    obtain ⟨n32, h33, h30⟩ := bnd h30
                    obtain ⟨r34, h35, h30⟩ := bnd h30
                    obtain ⟨b38, h39, h30⟩ := bnd h30
                    refine w_join (J := fun s => Sub s ⟨[(0, .c (.d (.lit (.int .i64 n_0)))), (1, .c (.d (slD 2 c_ref20_Edge l_1))), (5, .c (.d (.lit (.int .i64 i4)))), (6, .c (.d (.lit (.int .i64 (wr .i64 (i13 - 1)))))), (7, .c (slC 1 cI_i64 0 (Sl.mk l14))), (8, .c (.d (.lit (.int .i64 i21)))), (9, .c (.d (.lit (.int .i64 i22)))), (55, .c (.d (.lit (.bool b38))))], [(0, slO 1 cI_i64 (Sl.mk l14))], 1, []⟩) ?_ ?_
                    · refine w_region ?_
                      iterate 3 refine o1 rfl ?_
                      refine o1 (v := .c (.d (.lit (.int .i64 (l14.length : Int))))) len_o ?_
                      refine o1 (v := .c (.d (.lit (.int .i64 (wr .i64 ((l14.length : Int) - 1)))))) rfl ?_
                      refine o1 (ix_o h33) ?_
                      refine o1 (ld_row rfl (ixI_some.1 h33).2 rfl) ?_
                      refine o1 rfl ?_
                      refine oc (rs := [.c (.d (.lit (.bool r34)))]) (outs := []) rfl (ref20_edge_ok h35) rfl ?_
                      refine o1 rfl ?_
                      cases hb40 : (r34 : Bool)
                      · have h39 := cnd_f hb40 h39
                        iterate 7 refine onot rfl rfl ?_
                        refine o1 rfl ?_
                        cases h39
                        exact o_join (sub_ren [0] [0, 1, 5, 6, 7, 8, 9, 55] (by decide) rfl (.cons .nil) (Nat.le_of_ble_eq_true rfl))
                      · have h39 := cnd_t hb40 h39
                        obtain ⟨r36, h37, h39⟩ := bnd h39
                        iterate 4 refine og rfl rfl rfl ?_
                        refine ocg (rs := [.c (.d (.lit (.int .i64 r36)))]) (outs := []) rfl rfl rfl (ref20_ways_ok h37) rfl ?_
                        refine og rfl rfl rfl ?_
                        refine og (v := .c (.d (.lit (.bool (r36 == (wr .i64 (i13 - 1))))))) rfl rfl rfl ?_
                        refine o1 rfl ?_
                        cases h39
                        exact o_join (sub_ren [0] [0, 1, 5, 6, 7, 8, 9, 55] (by decide) rfl (.cons .nil) (Nat.le_of_ble_eq_true rfl))
                    · intro s hs41
                      refine after_n ?_
                      refine W.sub hs41 ?_
                      refine w_cond (t := b38) rfl (fun hb42 => ?_) (fun hb42 => ?_)
                      · have h30 := cnd_t hb42 h30
                        refine w_region ?_
                        iterate 2 refine o1 rfl ?_
                        refine o_end (e' := [(0, .c (.d (.lit (.int .i64 n_0)))), (1, .c (.d (slD 2 c_ref20_Edge l_1))), (5, .c (.d (.lit (.int .i64 i4)))), (6, .c (.d (.lit (.int .i64 (wr .i64 (i13 - 1)))))), (7, .c (slC 1 cI_i64 0 (Sl.mk l14))), (8, .c (.d (.lit (.int .i64 i22)))), (9, .c (.d (.lit (.int .i64 i22))))]) rfl rfl ?_
                        refine out_n ?_
                        obtain rfl := Option.some.inj h30
                        exact And.intro rfl (sub_ren [0] [0, 1, 5, 6, 7, 8, 9] (by decide) rfl (.cons .nil) (Nat.le_of_ble_eq_true rfl))
                      · have h30 := cnd_f hb42 h30
                        refine w_skip ?_
                        refine out_n ?_
                        obtain rfl := Option.some.inj h30
                        exact And.intro rfl (sub_ren [0] [0, 1, 5, 6, 7, 8, 9] (by decide) rfl (.cons .nil) (Nat.le_of_ble_eq_true rfl))
                · have hr := cnd_f hb28 hr
                  refine w_exit ?_
                  refine after_e ?_
                  obtain rfl := Option.some.inj hr
                  exact And.intro nofun (And.intro rfl (sub_ren [0] [0, 1, 5, 6, 7, 8] (by decide) rfl (.cons .nil) (Nat.le_of_ble_eq_true rfl)))
            · have hr := cnd_f hb20 hr
              refine w_exit ?_
              refine after_e ?_
              obtain rfl := Option.some.inj hr
              exact And.intro nofun (And.intro rfl (sub_ren [0] [7] (by decide) rfl (.cons .nil) (Nat.le_of_ble_eq_true rfl)))
      · have hr := cnd_f hb9 hr
        refine w_exit ?_
        refine after_e ?_
        obtain rfl := Option.some.inj hr
        exact And.intro nofun (And.intro rfl (sub_ren [] [] (by decide) rfl .nil (Nat.le_of_ble_eq_true rfl)))

/- turnout/turnoutlaw20.GraphTells -/
def k3 : CC :=
  (.seq
  (.region [
    ⟨some 6, .mv, [(.const (.bool false))], none⟩] [0, 1, 2])
  (.seq
  (.seq
  (.region [
    ⟨some 12, .mv, [(.tmp 1)], none⟩,
    ⟨some 13, (.len false), [(.tmp 12)], none⟩,
    ⟨some 14, (.bin .gtr), [(.tmp 13), (.const (.int .i64 60))], none⟩] [0, 1, 2, 14])
  (.cond (.tmp 14)
    (.seq
    (.region [
      ⟨some 15, (.call true []), [(.func 4)], none⟩,
      ⟨some 6, .mv, [(.tmp 15)], none⟩] [6])
    .ret)
    .skip))
  (.seq
  (.region [
    ⟨some 16, .mv, [(.tmp 1)], none⟩,
    ⟨some 17, (.call false []), [(.func 5), (.tmp 16)], none⟩,
    ⟨some 7, .mv, [(.tmp 17)], none⟩] [0, 1, 2, 7])
  (.seq
  (.region [
    ⟨some 19, .mv, [(.tmp 0)], none⟩,
    ⟨some 20, .mv, [(.tmp 7)], none⟩,
    ⟨some 21, (.call false []), [(.func 6), (.tmp 19), (.tmp 20)], none⟩,
    ⟨some 18, .mv, [(.tmp 21)], none⟩,
    ⟨some 22, (.extract 0), [(.tmp 18)], none⟩,
    ⟨some 23, (.extract 1), [(.tmp 18)], none⟩,
    ⟨some 8, .mv, [(.tmp 22)], none⟩,
    ⟨some 9, .mv, [(.tmp 23)], none⟩] [0, 1, 2, 7, 8, 9])
  (.seq
  (.region [
    ⟨some 25, .mv, [(.tmp 0)], none⟩,
    ⟨some 26, .mv, [(.tmp 1)], none⟩,
    ⟨some 27, (.call false []), [(.func 7), (.tmp 25), (.tmp 26)], none⟩,
    ⟨some 24, .mv, [(.tmp 27)], none⟩,
    ⟨some 28, (.extract 0), [(.tmp 24)], none⟩,
    ⟨some 29, (.extract 1), [(.tmp 24)], none⟩,
    ⟨some 10, .mv, [(.tmp 28)], none⟩,
    ⟨some 11, .mv, [(.tmp 29)], none⟩] [0, 1, 2, 7, 8, 9, 10, 11])
  (.seq
  (.seq
  (.region [
    ⟨some 30, .mv, [(.tmp 0)], none⟩,
    ⟨some 31, .mv, [(.tmp 7)], none⟩,
    ⟨some 32, (.call true []), [(.func 8), (.tmp 30), (.tmp 31)], none⟩,
    ⟨some 33, .mv, [(.tmp 0)], none⟩,
    ⟨some 34, .mv, [(.tmp 1)], none⟩,
    ⟨some 35, (.call true []), [(.func 9), (.tmp 33), (.tmp 34)], none⟩,
    ⟨some 36, (.eqBool true), [(.tmp 32), (.tmp 35)], none⟩,
    ⟨some 37, .mv, [(.tmp 36)], none⟩,
    ⟨some 38, .mv, [(.tmp 0)], (some (37, false))⟩,
    ⟨some 39, .mv, [(.tmp 7)], (some (37, false))⟩,
    ⟨some 40, .mv, [(.tmp 2)], (some (37, false))⟩,
    ⟨some 41, (.call false []), [(.func 11), (.tmp 38), (.tmp 39), (.tmp 40)], (some (37, false))⟩,
    ⟨some 42, .mv, [(.tmp 0)], (some (37, false))⟩,
    ⟨some 43, .mv, [(.tmp 1)], (some (37, false))⟩,
    ⟨some 44, .mv, [(.tmp 2)], (some (37, false))⟩,
    ⟨some 45, (.call false []), [(.func 12), (.tmp 42), (.tmp 43), (.tmp 44)], (some (37, false))⟩,
    ⟨some 46, (.call true []), [(.func 10), (.tmp 41), (.tmp 45)], (some (37, false))⟩,
    ⟨some 47, (.un .not), [(.tmp 46)], (some (37, false))⟩,
    ⟨some 48, .pick, [(.tmp 37), (.const (.bool true)), (.tmp 47)], none⟩,
    ⟨some 49, .mv, [(.tmp 48)], none⟩,
    ⟨some 50, .mv, [(.tmp 8)], (some (49, false))⟩,
    ⟨some 51, .mv, [(.tmp 10)], (some (49, false))⟩,
    ⟨some 52, (.call true []), [(.func 10), (.tmp 50), (.tmp 51)], (some (49, false))⟩,
    ⟨some 53, (.un .not), [(.tmp 52)], (some (49, false))⟩,
    ⟨some 54, .pick, [(.tmp 49), (.const (.bool true)), (.tmp 53)], none⟩,
    ⟨some 55, .mv, [(.tmp 54)], none⟩,
    ⟨some 56, .mv, [(.tmp 9)], (some (55, false))⟩,
    ⟨some 57, .mv, [(.tmp 11)], (some (55, false))⟩,
    ⟨some 58, (.eqBool true), [(.tmp 56), (.tmp 57)], (some (55, false))⟩,
    ⟨some 59, .pick, [(.tmp 55), (.const (.bool true)), (.tmp 58)], none⟩] [0, 1, 7, 59])
  (.cond (.tmp 59)
    (.seq
    (.region [
      ⟨some 6, .mv, [(.const (.bool false))], none⟩] [6])
    .ret)
    .skip))
  (.seq
  (.region [
    ⟨some 61, .mv, [(.tmp 0)], none⟩,
    ⟨some 62, .mv, [(.tmp 7)], none⟩,
    ⟨some 63, (.call false []), [(.func 13), (.tmp 61), (.tmp 62)], none⟩,
    ⟨some 60, .mv, [(.tmp 63)], none⟩,
    ⟨some 64, (.extract 0), [(.tmp 60)], none⟩,
    ⟨some 65, (.extract 1), [(.tmp 60)], none⟩,
    ⟨some 8, .mv, [(.tmp 64)], none⟩,
    ⟨some 9, .mv, [(.tmp 65)], none⟩] [0, 1, 7, 8, 9])
  (.seq
  (.region [
    ⟨some 67, .mv, [(.tmp 0)], none⟩,
    ⟨some 68, .mv, [(.tmp 1)], none⟩,
    ⟨some 69, (.call false []), [(.func 14), (.tmp 67), (.tmp 68)], none⟩,
    ⟨some 66, .mv, [(.tmp 69)], none⟩,
    ⟨some 70, (.extract 0), [(.tmp 66)], none⟩,
    ⟨some 71, (.extract 1), [(.tmp 66)], none⟩,
    ⟨some 10, .mv, [(.tmp 70)], none⟩,
    ⟨some 11, .mv, [(.tmp 71)], none⟩] [0, 1, 7, 8, 9, 10, 11])
  (.seq
  (.region [
    ⟨some 72, .mv, [(.tmp 8)], none⟩,
    ⟨some 73, .mv, [(.tmp 10)], none⟩,
    ⟨some 74, (.call true []), [(.func 10), (.tmp 72), (.tmp 73)], none⟩,
    ⟨some 75, .mv, [(.tmp 74)], none⟩,
    ⟨some 76, .mv, [(.tmp 9)], (some (75, true))⟩,
    ⟨some 77, .mv, [(.tmp 11)], (some (75, true))⟩,
    ⟨some 78, (.eqBool false), [(.tmp 76), (.tmp 77)], (some (75, true))⟩,
    ⟨some 79, .pick, [(.tmp 75), (.tmp 78), (.const (.bool false))], none⟩,
    ⟨some 80, .mv, [(.tmp 79)], none⟩,
    ⟨some 81, .mv, [(.tmp 0)], (some (80, true))⟩,
    ⟨some 82, .mv, [(.tmp 7)], (some (80, true))⟩,
    ⟨some 83, (.call false []), [(.func 15), (.tmp 81), (.tmp 82)], (some (80, true))⟩,
    ⟨some 84, .mv, [(.tmp 0)], (some (80, true))⟩,
    ⟨some 85, .mv, [(.tmp 1)], (some (80, true))⟩,
    ⟨some 86, (.call false []), [(.func 16), (.tmp 84), (.tmp 85)], (some (80, true))⟩,
    ⟨some 87, (.call true []), [(.func 10), (.tmp 83), (.tmp 86)], (some (80, true))⟩,
    ⟨some 88, .pick, [(.tmp 80), (.tmp 87), (.const (.bool false))], none⟩,
    ⟨some 89, .mv, [(.tmp 88)], none⟩,
    ⟨some 90, (.call true []), [(.func 4)], (some (89, true))⟩,
    ⟨some 91, .pick, [(.tmp 89), (.tmp 90), (.const (.bool false))], none⟩,
    ⟨some 6, .mv, [(.tmp 91)], none⟩] [6])
  .ret)))))))))
def f3 : Ev.Fn := ⟨3, 92, [.tmp 6], k3⟩
set_option maxRecDepth 100000 in
theorem e3 : compFn prog sig 3 3 [[0, 1, 2], [0, 1, 2, 14], [6], [0, 1, 2, 7], [0, 1, 2, 7, 8, 9], [0, 1, 2, 7, 8, 9, 10, 11], [0, 1, 7, 59], [6], [0, 1, 7, 8, 9], [0, 1, 7, 8, 9, 10, 11], [6]] = some f3 := by kernel_rfl
noncomputable def law20_GraphTells (n_0 : Int) (l_1 : Sl ref20_Edge) (from_2 : Int) : Option (Bool) :=
  bif decide ((l_1.l.length : Int) > 60) then ((law20_awake).bind fun r2 =>
  some r2) else
  ((law20_mine l_1).bind fun r4 =>
  (graph_Order n_0 r4).bind fun (r6, r7) =>
  (ref20_Order n_0 l_1).bind fun (r9, r10) =>
  (graph_Right n_0 r4).bind fun r12 =>
  (ref20_Right n_0 l_1).bind fun r14 =>
  (bif (!(r12 == r14)) then (some true) else ((graph_Reach n_0 r4 from_2).bind fun r16 =>
  (ref20_Reach n_0 l_1 from_2).bind fun r18 =>
  (ref13_Same r16 r18).bind fun r20 =>
  bif (!r20) then (some true) else ((ref13_Same r6 r9).bind fun r22 =>
  bif (!r22) then (some true) else (some (!(r7 == r10)))))).bind fun b24 =>
  bif b24 then (some false) else
  ((graph_Far n_0 r4).bind fun (r31, r32) =>
  (ref20_Far n_0 l_1).bind fun (r34, r35) =>
  (ref13_Same r31 r34).bind fun r37 =>
  (bif r37 then (bif (r32 == r35) then ((graph_Loop n_0 r4).bind fun r39 =>
  (ref20_Loop n_0 l_1).bind fun r41 =>
  (ref13_Same r39 r41).bind fun r43 =>
  bif r43 then ((law20_awake).bind fun r45 =>
  some r45) else (some false)) else (some false)) else (some false)).bind fun b47 =>
  some b47))
theorem law20_GraphTells_ok {n_0 : Int} {l_1 : Sl ref20_Edge} {from_2 : Int} {z : Bool} (hp : law20_GraphTells n_0 l_1 from_2 = some z) : Good prog 3 [.d (.lit (.int .i64 n_0)), .d (slD 2 c_ref20_Edge l_1), .d (.lit (.int .i64 from_2))] [.c (.d (.lit (.bool z)))] [] := by
  unfold law20_GraphTells at hp
  refine fn_good mixed e3 (fnS (m := [false]) (s := ⟨[(0, .c (.d (.lit (.int .i64 n_0)))), (1, .c (.d (slD 2 c_ref20_Edge l_1))), (2, .c (.d (.lit (.int .i64 from_2))))], [], 0, []⟩) (len := 0) (c := k3) rfl (Sub.of_eq rfl) rfl rfl ?_)
  refine w_seq ?_
  refine w_region ?_
  refine o1 rfl ?_
  refine o_end (e' := [(0, .c (.d (.lit (.int .i64 n_0)))), (1, .c (.d (slD 2 c_ref20_Edge l_1))), (2, .c (.d (.lit (.int .i64 from_2))))]) rfl rfl ?_
  refine after_n ?_
  refine w_seq ?_
  refine w_seq ?_
  refine w_region ?_
  refine o1 rfl ?_
  refine o1 (v := .c (.d (.lit (.int .i64 (l_1.l.length : Int))))) len_sd ?_
  refine o1 (v := .c (.d (.lit (.bool (decide ((l_1.l.length : Int) > 60)))))) rfl ?_
  refine o_end (e' := [(0, .c (.d (.lit (.int .i64 n_0)))), (1, .c (.d (slD 2 c_ref20_Edge l_1))), (2, .c (.d (.lit (.int .i64 from_2)))), (14, .c (.d (.lit (.bool (decide ((l_1.l.length : Int) > 60))))))]) rfl rfl ?_
  refine after_n ?_
  refine w_cond (t := decide ((l_1.l.length : Int) > 60)) rfl (fun hb1 => ?_) (fun hb1 => ?_)
  · have hp := cnd_t hb1 hp
    refine w_seq ?_
    obtain ⟨r2, h3, hp⟩ := bnd hp
    refine w_region ?_
    refine oc (rs := [.c (.d (.lit (.bool r2)))]) (outs := []) rfl (law20_awake_ok h3) rfl ?_
    refine o1 rfl ?_
    refine o_end (e' := [(6, .c (.d (.lit (.bool r2))))]) rfl rfl ?_
    refine after_n ?_
    refine w_ret ?_
    refine after_r ?_
    obtain rfl := Option.some.inj hp
    exact leave_at rfl rfl (pr_c p_d pr_nil) pc_nil rfl rfl
  · have hp := cnd_f hb1 hp
    refine w_skip ?_
    refine after_n ?_
    refine w_seq ?_
    obtain ⟨r4, h5, hp⟩ := bnd hp
    refine w_region ?_
    refine o1 rfl ?_
    refine oc (rs := [.c (.d (slD 2 c_graph_Edge r4))]) (outs := []) rfl (law20_mine_ok h5) rfl ?_
    refine o1 rfl ?_
    refine o_end (e' := [(0, .c (.d (.lit (.int .i64 n_0)))), (1, .c (.d (slD 2 c_ref20_Edge l_1))), (2, .c (.d (.lit (.int .i64 from_2)))), (7, .c (.d (slD 2 c_graph_Edge r4)))]) rfl rfl ?_
    refine after_n ?_
    refine w_seq ?_
    obtain ⟨⟨r6, r7⟩, h8, hp⟩ := bnd hp
    refine w_region ?_
    iterate 2 refine o1 rfl ?_
    refine oc (rs := [.c (.d (slD 1 cI_i64 r6)), .c (.d (.lit (.bool r7)))]) (outs := []) rfl (graph_Order_ok h8) rfl ?_
    iterate 5 refine o1 rfl ?_
    refine o_end (e' := [(0, .c (.d (.lit (.int .i64 n_0)))), (1, .c (.d (slD 2 c_ref20_Edge l_1))), (2, .c (.d (.lit (.int .i64 from_2)))), (7, .c (.d (slD 2 c_graph_Edge r4))), (8, .c (.d (slD 1 cI_i64 r6))), (9, .c (.d (.lit (.bool r7))))]) rfl rfl ?_
    refine after_n ?_
    refine w_seq ?_
    obtain ⟨⟨r9, r10⟩, h11, hp⟩ := bnd hp
    refine w_region ?_
    iterate 2 refine o1 rfl ?_
    refine oc (rs := [.c (.d (slD 1 cI_i64 r9)), .c (.d (.lit (.bool r10)))]) (outs := []) rfl (ref20_Order_ok h11) rfl ?_
    iterate 5 refine o1 rfl ?_
    refine o_end (e' := [(0, .c (.d (.lit (.int .i64 n_0)))), (1, .c (.d (slD 2 c_ref20_Edge l_1))), (2, .c (.d (.lit (.int .i64 from_2)))), (7, .c (.d (slD 2 c_graph_Edge r4))), (8, .c (.d (slD 1 cI_i64 r6))), (9, .c (.d (.lit (.bool r7)))), (10, .c (.d (slD 1 cI_i64 r9))), (11, .c (.d (.lit (.bool r10))))]) rfl rfl ?_
    refine after_n ?_
    refine w_seq ?_
    refine w_seq ?_
    obtain ⟨r12, h13, hp⟩ := bnd hp
    obtain ⟨r14, h15, hp⟩ := bnd hp
    obtain ⟨b24, h25, hp⟩ := bnd hp
    refine w_join (J := fun s => Sub s ⟨[(0, .c (.d (.lit (.int .i64 n_0)))), (1, .c (.d (slD 2 c_ref20_Edge l_1))), (7, .c (.d (slD 2 c_graph_Edge r4))), (59, .c (.d (.lit (.bool b24))))], [], 0, []⟩) ?_ ?_
    · refine w_region ?_
      iterate 2 refine o1 rfl ?_
      refine oc (rs := [.c (.d (.lit (.bool r12)))]) (outs := []) rfl (graph_Right_ok h13) rfl ?_
      iterate 2 refine o1 rfl ?_
      refine oc (rs := [.c (.d (.lit (.bool r14)))]) (outs := []) rfl (ref20_Right_ok h15) rfl ?_
      refine o1 (v := .c (.d (.lit (.bool (!(r12 == r14)))))) rfl ?_
      refine o1 rfl ?_
      cases hb26 : ((!(r12 == r14)) : Bool)
      · have h25 := cnd_f hb26 h25
        obtain ⟨r16, h17, h25⟩ := bnd h25
        obtain ⟨r18, h19, h25⟩ := bnd h25
        obtain ⟨r20, h21, h25⟩ := bnd h25
        iterate 3 refine og rfl rfl rfl ?_
        refine ocg (rs := [.c (.d (slD 1 cI_i64 r16))]) (outs := []) rfl rfl rfl (graph_Reach_ok h17) rfl ?_
        iterate 3 refine og rfl rfl rfl ?_
        refine ocg (rs := [.c (.d (slD 1 cI_i64 r18))]) (outs := []) rfl rfl rfl (ref20_Reach_ok h19) rfl ?_
        refine ocg (rs := [.c (.d (.lit (.bool r20)))]) (outs := []) rfl rfl rfl (ref13_Same_ok h21) rfl ?_
        refine og (v := .c (.d (.lit (.bool (!r20))))) rfl rfl rfl ?_
        iterate 2 refine o1 rfl ?_
        cases hb27 : ((!r20) : Bool)
        · have h25 := cnd_f hb27 h25
          obtain ⟨r22, h23, h25⟩ := bnd h25
          iterate 2 refine og rfl rfl rfl ?_
          refine ocg (rs := [.c (.d (.lit (.bool r22)))]) (outs := []) rfl rfl rfl (ref13_Same_ok h23) rfl ?_
          refine og (v := .c (.d (.lit (.bool (!r22))))) rfl rfl rfl ?_
          iterate 2 refine o1 rfl ?_
          cases hb28 : ((!r22) : Bool)
          · have h25 := cnd_f hb28 h25
            iterate 2 refine og rfl rfl rfl ?_
            refine og (v := .c (.d (.lit (.bool (!(r7 == r10)))))) rfl rfl rfl ?_
            refine o1 rfl ?_
            cases h25
            exact o_join (sub_ren [] [0, 1, 7, 59] (by decide) rfl .nil (Nat.le_of_ble_eq_true rfl))
          · have h25 := cnd_t hb28 h25
            iterate 3 refine onot rfl rfl ?_
            refine o1 rfl ?_
            cases h25
            exact o_join (sub_ren [] [0, 1, 7, 59] (by decide) rfl .nil (Nat.le_of_ble_eq_true rfl))
        · have h25 := cnd_t hb27 h25
          iterate 4 refine onot rfl rfl ?_
          iterate 2 refine o1 rfl ?_
          iterate 3 refine onot rfl rfl ?_
          refine o1 rfl ?_
          cases h25
          exact o_join (sub_ren [] [0, 1, 7, 59] (by decide) rfl .nil (Nat.le_of_ble_eq_true rfl))
      · have h25 := cnd_t hb26 h25
        iterate 10 refine onot rfl rfl ?_
        iterate 2 refine o1 rfl ?_
        iterate 4 refine onot rfl rfl ?_
        iterate 2 refine o1 rfl ?_
        iterate 3 refine onot rfl rfl ?_
        refine o1 rfl ?_
        cases h25
        exact o_join (sub_ren [] [0, 1, 7, 59] (by decide) rfl .nil (Nat.le_of_ble_eq_true rfl))
    · intro s hs29
      refine after_n ?_
      refine W.sub hs29 ?_
      refine w_cond (t := b24) rfl (fun hb30 => ?_) (fun hb30 => ?_)
      · have hp := cnd_t hb30 hp
        refine w_seq ?_
        refine w_region ?_
        refine o1 rfl ?_
        refine o_end (e' := [(6, .c (.d (.lit (.bool false))))]) rfl rfl ?_
        refine after_n ?_
        refine w_ret ?_
        refine after_r ?_
        obtain rfl := Option.some.inj hp
        exact leave_at rfl rfl (pr_c p_d pr_nil) pc_nil rfl rfl
      · have hp := cnd_f hb30 hp
        refine w_skip ?_
        refine after_n ?_
        refine w_seq ?_
        obtain ⟨⟨r31, r32⟩, h33, hp⟩ := bnd hp
        refine w_region ?_
        iterate 2 refine o1 rfl ?_
        refine oc (rs := [.c (.d (slD 1 cI_i64 r31)), .c (.d (.lit (.bool r32)))]) (outs := []) rfl (graph_Far_ok h33) rfl ?_
        iterate 5 refine o1 rfl ?_
        refine o_end (e' := [(0, .c (.d (.lit (.int .i64 n_0)))), (1, .c (.d (slD 2 c_ref20_Edge l_1))), (7, .c (.d (slD 2 c_graph_Edge r4))), (8, .c (.d (slD 1 cI_i64 r31))), (9, .c (.d (.lit (.bool r32))))]) rfl rfl ?_
        refine after_n ?_
        refine w_seq ?_
        obtain ⟨⟨r34, r35⟩, h36, hp⟩ := bnd hp
        refine w_region ?_
        iterate 2 refine o1 rfl ?_
        refine oc (rs := [.c (.d (slD 1 cI_i64 r34)), .c (.d (.lit (.bool r35)))]) (outs := []) rfl (ref20_Far_ok h36) rfl ?_
        iterate 5 refine o1 rfl ?_
        refine o_end (e' := [(0, .c (.d (.lit (.int .i64 n_0)))), (1, .c (.d (slD 2 c_ref20_Edge l_1))), (7, .c (.d (slD 2 c_graph_Edge r4))), (8, .c (.d (slD 1 cI_i64 r31))), (9, .c (.d (.lit (.bool r32)))), (10, .c (.d (slD 1 cI_i64 r34))), (11, .c (.d (.lit (.bool r35))))]) rfl rfl ?_
        refine after_n ?_
        refine w_seq ?_
        obtain ⟨r37, h38, hp⟩ := bnd hp
        obtain ⟨b47, h48, hp⟩ := bnd hp
        refine w_join (J := fun s => Sub s ⟨[(6, .c (.d (.lit (.bool b47))))], [], 0, []⟩) ?_ ?_
        · refine w_region ?_
          iterate 2 refine o1 rfl ?_
          refine oc (rs := [.c (.d (.lit (.bool r37)))]) (outs := []) rfl (ref13_Same_ok h38) rfl ?_
          refine o1 rfl ?_
          cases hb49 : (r37 : Bool)
          · have h48 := cnd_f hb49 h48
            iterate 3 refine onot rfl rfl ?_
            iterate 2 refine o1 rfl ?_
            iterate 7 refine onot rfl rfl ?_
            iterate 2 refine o1 rfl ?_
            refine onot rfl rfl ?_
            iterate 2 refine o1 rfl ?_
            cases h48
            exact o_join (sub_ren [] [6] (by decide) rfl .nil (Nat.le_of_ble_eq_true rfl))
          · have h48 := cnd_t hb49 h48
            iterate 2 refine og rfl rfl rfl ?_
            refine og (v := .c (.d (.lit (.bool (r32 == r35))))) rfl rfl rfl ?_
            iterate 2 refine o1 rfl ?_
            cases hb50 : ((r32 == r35) : Bool)
            · have h48 := cnd_f hb50 h48
              iterate 7 refine onot rfl rfl ?_
              iterate 2 refine o1 rfl ?_
              refine onot rfl rfl ?_
              iterate 2 refine o1 rfl ?_
              cases h48
              exact o_join (sub_ren [] [6] (by decide) rfl .nil (Nat.le_of_ble_eq_true rfl))
            · have h48 := cnd_t hb50 h48
              obtain ⟨r39, h40, h48⟩ := bnd h48
              obtain ⟨r41, h42, h48⟩ := bnd h48
              obtain ⟨r43, h44, h48⟩ := bnd h48
              iterate 2 refine og rfl rfl rfl ?_
              refine ocg (rs := [.c (.d (slD 1 cI_i64 r39))]) (outs := []) rfl rfl rfl (graph_Loop_ok h40) rfl ?_
              iterate 2 refine og rfl rfl rfl ?_
              refine ocg (rs := [.c (.d (slD 1 cI_i64 r41))]) (outs := []) rfl rfl rfl (ref20_Loop_ok h42) rfl ?_
              refine ocg (rs := [.c (.d (.lit (.bool r43)))]) (outs := []) rfl rfl rfl (ref13_Same_ok h44) rfl ?_
              iterate 2 refine o1 rfl ?_
              cases hb51 : (r43 : Bool)
              · have h48 := cnd_f hb51 h48
                refine onot rfl rfl ?_
                iterate 2 refine o1 rfl ?_
                cases h48
                exact o_join (sub_ren [] [6] (by decide) rfl .nil (Nat.le_of_ble_eq_true rfl))
              · have h48 := cnd_t hb51 h48
                obtain ⟨r45, h46, h48⟩ := bnd h48
                refine ocg (rs := [.c (.d (.lit (.bool r45)))]) (outs := []) rfl rfl rfl (law20_awake_ok h46) rfl ?_
                iterate 2 refine o1 rfl ?_
                cases h48
                exact o_join (sub_ren [] [6] (by decide) rfl .nil (Nat.le_of_ble_eq_true rfl))
        · intro s hs52
          refine after_n ?_
          refine W.sub hs52 ?_
          refine w_ret ?_
          obtain rfl := Option.some.inj hp
          exact leave_at rfl rfl (pr_c p_d pr_nil) pc_nil rfl rfl

end Go.Proofs.YtjfhiochcdjkhaaDoor.G
