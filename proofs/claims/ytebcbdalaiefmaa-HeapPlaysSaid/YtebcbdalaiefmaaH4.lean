/- What functions of the program compute, and that the model's run computes it. Conditions: as stated. -/
import Derived.Test.YtebcbdalaiefmaaEvX
import Derived.Test.YtebcbdalaiefmaaChecked
import Derived.KernelRfl
open Go.Ev Go
namespace Go.Proofs.Ytebcbdalaiefmaa.H

noncomputable abbrev prog : Program := Try.prog
theorem mixed : prog.follows .mixedOrders = true := by kernel_rfl
def sig : Sig := fun f =>
  if f = 2 then (true, []) else if f = 3 then (true, []) else if f = 4 then (true, []) else if f = 5 then (true, []) else if f = 6 then (true, []) else if f = 8 then (false, [true, false]) else if f = 9 then (false, [true]) else if f = 13 then (true, []) else if f = 14 then (false, [true, false]) else if f = 16 then (false, [true, false]) else if f = 17 then (true, []) else if f = 18 then (true, []) else if f = 20 then (false, [true, false]) else if f = 21 then (false, [true, false]) else if f = 22 then (false, [true]) else if f = 23 then (true, []) else if f = 24 then (false, [true, false]) else if f = 25 then (false, [true, false]) else if f = 26 then (false, [true, false]) else if f = 27 then (true, []) else if f = 28 then (true, []) else if f = 29 then (false, [true, false]) else if f = 30 then (true, []) else if f = 31 then (true, []) else if f = 32 then (false, [true, false]) else if f = 33 then (true, []) else if f = 34 then (false, [true, false]) else if f = 35 then (true, []) else if f = 36 then (true, []) else if f = 37 then (false, [true, false]) else (false, [])

structure law13_Deed where
  Kind : Int
  N : Int
  deriving Inhabited, DecidableEq

def c_law13_Deed (x : law13_Deed) : List D := [.lit (.int .i64 x.Kind), .lit (.int .i64 x.N)]

structure heap_Queue_int where
  l : Sl Int
  deriving Inhabited, DecidableEq

def cI_i64 (x : Int) : List D := [.lit (.int .i64 x)]

def c_heap_Queue_int (x : heap_Queue_int) : List D := [slD 1 cI_i64 x.l]

/- turnout/heap.New[int] -/
def k7 : CC :=
  (.seq
  (.region [
    ⟨some 0, .mv, [(.const (.pointer none))], none⟩] [])
  (.seq
  (.region [
    ⟨some 1, (.build [(.slice none 0 0)] []), [], none⟩,
    ⟨some 2, .box, [(.tmp 1)], none⟩,
    ⟨some 0, .mv, [(.tmp 2)], none⟩] [0])
  .ret))
def f7 : Ev.Fn := ⟨0, 3, [.tmp 0], k7⟩
set_option maxRecDepth 100000 in
theorem e7 : compFn prog sig 7 0 [[], [0]] = some f7 := by kernel_rfl
noncomputable def heap_New_int : Option (heap_Queue_int) :=
  some (⟨Sl.nil⟩ : heap_Queue_int)
theorem heap_New_int_ok {z : heap_Queue_int} (hp : heap_New_int = some z) : Good prog 7 [] [.c (.pt [slT 1 cI_i64 z.l])] [] := by
  unfold heap_New_int at hp
  refine fn_good mixed e7 (fnS (m := [false]) (s := ⟨[], [], 0, []⟩) (len := 0) (c := k7) rfl (Sub.of_eq rfl) rfl rfl ?_)
  refine w_seq ?_
  refine w_region ?_
  refine o1 rfl ?_
  refine o_end (e' := []) rfl rfl ?_
  refine after_n ?_
  refine w_seq ?_
  refine w_region ?_
  refine o1 rfl ?_
  refine o2 rfl ?_
  refine o1 rfl ?_
  refine o_end (e' := [(0, .c (.op 0 0))]) rfl rfl ?_
  refine after_n ?_
  refine w_ret ?_
  obtain rfl := Option.some.inj hp
  exact leave_at rfl rfl (pr_c (p_op rfl (pl_cons p_d pl_nil)) pr_nil) pc_nil rfl rfl

/- cmp.isNaN[int] -/
def k35 : CC :=
  (.seq
  (.region [
    ⟨some 2, .mv, [(.const (.bool false))], none⟩] [0])
  (.seq
  (.region [
    ⟨some 3, .mv, [(.tmp 0)], none⟩,
    ⟨some 4, .mv, [(.tmp 0)], none⟩,
    ⟨some 5, (.bin .neq), [(.tmp 3), (.tmp 4)], none⟩,
    ⟨some 2, .mv, [(.tmp 5)], none⟩] [2])
  .ret))
def f35 : Ev.Fn := ⟨1, 6, [.tmp 2], k35⟩
set_option maxRecDepth 100000 in
theorem e35 : compFn prog sig 35 1 [[0], [2]] = some f35 := by kernel_rfl
noncomputable def cmp_isNaN_int (x0 : Int) : Option (Bool) :=
  some (x0 != x0)
theorem cmp_isNaN_int_ok {x0 : Int} {z : Bool} (hp : cmp_isNaN_int x0 = some z) : Good prog 35 [.d (.lit (.int .i64 x0))] [.c (.d (.lit (.bool z)))] [] := by
  unfold cmp_isNaN_int at hp
  refine fn_good mixed e35 (fnS (m := [false]) (s := ⟨[(0, .c (.d (.lit (.int .i64 x0))))], [], 0, []⟩) (len := 0) (c := k35) rfl (Sub.of_eq rfl) rfl rfl ?_)
  refine w_seq ?_
  refine w_region ?_
  refine o1 rfl ?_
  refine o_end (e' := [(0, .c (.d (.lit (.int .i64 x0))))]) rfl rfl ?_
  refine after_n ?_
  refine w_seq ?_
  refine w_region ?_
  iterate 2 refine o1 rfl ?_
  refine o1 (v := .c (.d (.lit (.bool (x0 != x0))))) rfl ?_
  refine o1 rfl ?_
  refine o_end (e' := [(2, .c (.d (.lit (.bool (x0 != x0)))))]) rfl rfl ?_
  refine after_n ?_
  refine w_ret ?_
  obtain rfl := Option.some.inj hp
  exact leave_at rfl rfl (pr_c p_d pr_nil) pc_nil rfl rfl

/- cmp.Less[int] -/
def k27 : CC :=
  (.seq
  (.region [
    ⟨some 4, .mv, [(.const (.bool false))], none⟩] [0, 1])
  (.seq
  (.region [
    ⟨some 5, .mv, [(.tmp 0)], none⟩,
    ⟨some 6, (.call true []), [(.func 35), (.tmp 5)], none⟩,
    ⟨some 7, .mv, [(.tmp 6)], none⟩,
    ⟨some 8, .mv, [(.tmp 1)], (some (7, true))⟩,
    ⟨some 9, (.call true []), [(.func 35), (.tmp 8)], (some (7, true))⟩,
    ⟨some 10, (.un .not), [(.tmp 9)], (some (7, true))⟩,
    ⟨some 11, .pick, [(.tmp 7), (.tmp 10), (.const (.bool false))], none⟩,
    ⟨some 12, .mv, [(.tmp 11)], none⟩,
    ⟨some 13, .mv, [(.tmp 0)], (some (12, false))⟩,
    ⟨some 14, .mv, [(.tmp 1)], (some (12, false))⟩,
    ⟨some 15, (.bin .lss), [(.tmp 13), (.tmp 14)], (some (12, false))⟩,
    ⟨some 16, .pick, [(.tmp 12), (.const (.bool true)), (.tmp 15)], none⟩,
    ⟨some 4, .mv, [(.tmp 16)], none⟩] [4])
  .ret))
def f27 : Ev.Fn := ⟨2, 17, [.tmp 4], k27⟩
set_option maxRecDepth 100000 in
theorem e27 : compFn prog sig 27 2 [[0, 1], [4]] = some f27 := by kernel_rfl
noncomputable def cmp_Less_int (x0 : Int) (y1 : Int) : Option (Bool) :=
  (cmp_isNaN_int x0).bind fun r1 =>
  (bif r1 then ((cmp_isNaN_int y1).bind fun r3 =>
  bif (!r3) then (some true) else (some (decide (x0 < y1)))) else (some (decide (x0 < y1)))).bind fun b5 =>
  some b5
theorem cmp_Less_int_ok {x0 : Int} {y1 : Int} {z : Bool} (hp : cmp_Less_int x0 y1 = some z) : Good prog 27 [.d (.lit (.int .i64 x0)), .d (.lit (.int .i64 y1))] [.c (.d (.lit (.bool z)))] [] := by
  unfold cmp_Less_int at hp
  refine fn_good mixed e27 (fnS (m := [false]) (s := ⟨[(0, .c (.d (.lit (.int .i64 x0)))), (1, .c (.d (.lit (.int .i64 y1))))], [], 0, []⟩) (len := 0) (c := k27) rfl (Sub.of_eq rfl) rfl rfl ?_)
  refine w_seq ?_
  refine w_region ?_
  refine o1 rfl ?_
  refine o_end (e' := [(0, .c (.d (.lit (.int .i64 x0)))), (1, .c (.d (.lit (.int .i64 y1))))]) rfl rfl ?_
  refine after_n ?_
  refine w_seq ?_
  obtain ⟨r1, h2, hp⟩ := bnd hp
  obtain ⟨b5, h6, hp⟩ := bnd hp
  refine w_join (J := fun s => Sub s ⟨[(4, .c (.d (.lit (.bool b5))))], [], 0, []⟩) ?_ ?_
  · refine w_region ?_
    refine o1 rfl ?_
    refine oc (rs := [.c (.d (.lit (.bool r1)))]) (outs := []) rfl (cmp_isNaN_int_ok h2) rfl ?_
    refine o1 rfl ?_
    cases hb7 : (r1 : Bool)
    · have h6 := cnd_f hb7 h6
      iterate 3 refine onot rfl rfl ?_
      iterate 2 refine o1 rfl ?_
      iterate 2 refine og rfl rfl rfl ?_
      refine og (v := .c (.d (.lit (.bool (decide (x0 < y1)))))) rfl rfl rfl ?_
      iterate 2 refine o1 rfl ?_
      cases h6
      exact o_join (sub_ren [] [4] (by decide) rfl .nil (Nat.le_of_ble_eq_true rfl))
    · have h6 := cnd_t hb7 h6
      obtain ⟨r3, h4, h6⟩ := bnd h6
      refine og rfl rfl rfl ?_
      refine ocg (rs := [.c (.d (.lit (.bool r3)))]) (outs := []) rfl rfl rfl (cmp_isNaN_int_ok h4) rfl ?_
      refine og (v := .c (.d (.lit (.bool (!r3))))) rfl rfl rfl ?_
      iterate 2 refine o1 rfl ?_
      cases hb8 : ((!r3) : Bool)
      · have h6 := cnd_f hb8 h6
        iterate 2 refine og rfl rfl rfl ?_
        refine og (v := .c (.d (.lit (.bool (decide (x0 < y1)))))) rfl rfl rfl ?_
        iterate 2 refine o1 rfl ?_
        cases h6
        exact o_join (sub_ren [] [4] (by decide) rfl .nil (Nat.le_of_ble_eq_true rfl))
      · have h6 := cnd_t hb8 h6
        iterate 3 refine onot rfl rfl ?_
        iterate 2 refine o1 rfl ?_
        cases h6
        exact o_join (sub_ren [] [4] (by decide) rfl .nil (Nat.le_of_ble_eq_true rfl))
  · intro s hs9
    refine after_n ?_
    refine W.sub hs9 ?_
    refine w_ret ?_
    obtain rfl := Option.some.inj hp
    exact leave_at rfl rfl (pr_c p_d pr_nil) pc_nil rfl rfl

/- (*turnout/heap.Queue[int]).up -/
def k25 : CC :=
  (.block 0
    (.loop [0, 1]
      (.seq
      (.seq
      (.drawn [
        ⟨some 4, .mv, [(.tmp 1)], none⟩,
        ⟨some 5, (.bin .gtr), [(.tmp 4), (.const (.int .i64 0))], none⟩,
        ⟨some 6, .mv, [(.tmp 5)], none⟩,
        ⟨some 7, .mv, [(.tmp 0)], (some (6, true))⟩,
        ⟨some 8, .nilCheck, [(.tmp 7)], (some (6, true))⟩,
        ⟨some 9, (.fieldAddr 0), [(.tmp 8)], (some (6, true))⟩,
        ⟨some 10, (.load false 1), [(.tmp 9)], (some (6, true))⟩,
        ⟨some 11, .mv, [(.tmp 1)], (some (6, true))⟩,
        ⟨some 12, (.indexAddr none 1), [(.tmp 10), (.tmp 11)], (some (6, true))⟩,
        ⟨some 13, (.load false 1), [(.tmp 12)], (some (6, true))⟩,
        ⟨some 14, .mv, [(.tmp 0)], (some (6, true))⟩,
        ⟨some 15, .nilCheck, [(.tmp 14)], (some (6, true))⟩,
        ⟨some 16, (.fieldAddr 0), [(.tmp 15)], (some (6, true))⟩,
        ⟨some 17, (.load false 1), [(.tmp 16)], (some (6, true))⟩,
        ⟨some 18, .mv, [(.tmp 1)], (some (6, true))⟩,
        ⟨some 19, (.bin .sub), [(.tmp 18), (.const (.int .i64 1))], (some (6, true))⟩,
        ⟨some 20, (.bin .quo), [(.tmp 19), (.const (.int .i64 2))], (some (6, true))⟩,
        ⟨some 21, (.indexAddr none 1), [(.tmp 17), (.tmp 20)], (some (6, true))⟩,
        ⟨some 22, (.load false 1), [(.tmp 21)], (some (6, true))⟩,
        ⟨some 23, (.call true []), [(.func 27), (.tmp 13), (.tmp 22)], (some (6, true))⟩,
        ⟨some 24, .pick, [(.tmp 6), (.tmp 23), (.const (.bool false))], none⟩] [] [0, 1, 24])
      (.cond (.tmp 24)
        .skip
        (.exit 0)))
      (.block 1
        (.seq
        (.drawn [
          ⟨some 25, .mv, [(.tmp 0)], none⟩,
          ⟨some 26, .nilCheck, [(.tmp 25)], none⟩,
          ⟨some 27, (.fieldAddr 0), [(.tmp 26)], none⟩,
          ⟨some 28, (.load false 1), [(.tmp 27)], none⟩,
          ⟨some 29, .mv, [(.tmp 1)], none⟩,
          ⟨some 30, .mv, [(.tmp 0)], none⟩,
          ⟨some 31, .nilCheck, [(.tmp 30)], none⟩,
          ⟨some 32, (.fieldAddr 0), [(.tmp 31)], none⟩,
          ⟨some 33, (.load false 1), [(.tmp 32)], none⟩,
          ⟨some 34, .mv, [(.tmp 1)], none⟩,
          ⟨some 35, (.bin .sub), [(.tmp 34), (.const (.int .i64 1))], none⟩,
          ⟨some 36, (.bin .quo), [(.tmp 35), (.const (.int .i64 2))], none⟩,
          ⟨some 37, .mv, [(.tmp 0)], none⟩,
          ⟨some 38, .nilCheck, [(.tmp 37)], none⟩,
          ⟨some 39, (.fieldAddr 0), [(.tmp 38)], none⟩,
          ⟨some 40, (.load false 1), [(.tmp 39)], none⟩,
          ⟨some 41, .mv, [(.tmp 1)], none⟩,
          ⟨some 42, (.bin .sub), [(.tmp 41), (.const (.int .i64 1))], none⟩,
          ⟨some 43, (.bin .quo), [(.tmp 42), (.const (.int .i64 2))], none⟩,
          ⟨some 44, (.indexAddr none 1), [(.tmp 40), (.tmp 43)], none⟩,
          ⟨some 45, (.load false 1), [(.tmp 44)], none⟩,
          ⟨some 46, .mv, [(.tmp 0)], none⟩,
          ⟨some 47, .nilCheck, [(.tmp 46)], none⟩,
          ⟨some 48, (.fieldAddr 0), [(.tmp 47)], none⟩,
          ⟨some 49, (.load false 1), [(.tmp 48)], none⟩,
          ⟨some 50, .mv, [(.tmp 1)], none⟩,
          ⟨some 51, (.indexAddr none 1), [(.tmp 49), (.tmp 50)], none⟩,
          ⟨some 52, (.load false 1), [(.tmp 51)], none⟩,
          ⟨some 53, (.indexAddr none 1), [(.tmp 28), (.tmp 29)], none⟩,
          ⟨none, (.store 1), [(.tmp 53), (.tmp 45)], none⟩,
          ⟨some 54, (.indexAddr none 1), [(.tmp 33), (.tmp 36)], none⟩,
          ⟨none, (.store 1), [(.tmp 54), (.tmp 52)], none⟩] [] [0, 1])
        (.region [
          ⟨some 55, .mv, [(.tmp 1)], none⟩,
          ⟨some 56, (.bin .sub), [(.tmp 55), (.const (.int .i64 1))], none⟩,
          ⟨some 57, (.bin .quo), [(.tmp 56), (.const (.int .i64 2))], none⟩,
          ⟨some 1, .mv, [(.tmp 57)], none⟩] [0, 1]))))))
def f25 : Ev.Fn := ⟨2, 58, [], k25⟩
set_option maxRecDepth 100000 in
theorem e25 : compFn prog sig 25 2 [[0, 1], [0, 1, 24], [0, 1], [0, 1]] = some f25 := by kernel_rfl
noncomputable def heap_Queue_int_up_L1 : (Sl Int × Int) → Option (Sum ((Sl Int × Int)) (Sl Int)) := fun (s1, i2) =>
  (bif decide (i2 > 0) then ((ixI i2 s1.l.length).bind fun n8 =>
  (ixI (wr .i64 ((wr .i64 (i2 - 1)).tdiv 2)) s1.l.length).bind fun n10 =>
  (cmp_Less_int (gt s1.l n8) (gt s1.l n10)).bind fun r12 =>
  some r12) else (some false)).bind fun b14 =>
  bif b14 then ((ixI (wr .i64 ((wr .i64 (i2 - 1)).tdiv 2)) s1.l.length).bind fun n20 =>
  (ixI i2 s1.l.length).bind fun n22 =>
  (ixI (wr .i64 ((wr .i64 (i2 - 1)).tdiv 2)) (s1.l.set n22 (gt s1.l n20)).length).bind fun n24 =>
  some (.inl ((Sl.mk ((s1.l.set n22 (gt s1.l n20)).set n24 (gt s1.l n22))), wr .i64 ((wr .i64 (i2 - 1)).tdiv 2)))) else
  (some (.inr s1))

noncomputable def heap_Queue_int_up (q0 : heap_Queue_int) (i1 : Int) : Option (heap_Queue_int) :=
  match q0 with | ⟨q0_l⟩ => ((loopO (heap_Queue_int_up_L1) (q0_l, i1)).bind fun s5 =>
  some (⟨s5⟩ : heap_Queue_int))
theorem heap_Queue_int_up_ok {q0 : heap_Queue_int} {i1 : Int} {z : heap_Queue_int} (hp : heap_Queue_int_up q0 i1 = some z) : Good prog 25 [.mt (.pt [slT 1 cI_i64 q0.l]), .d (.lit (.int .i64 i1))] [] [.pt [slT 1 cI_i64 z.l]] := by
  obtain ⟨q0_l⟩ := q0
  unfold heap_Queue_int_up at hp
  refine fn_good mixed e25 (fnS (m := []) (s := ⟨[(0, .c (.op 0 0)), (1, .c (.d (.lit (.int .i64 i1))))], [(0, some (.box [slC 1 cI_i64 1 q0_l])), (1, slO 1 cI_i64 q0_l)], 2, [.op 0 0]⟩) (len := 1) (c := k25) rfl (by rcases q0_l with _ | _ <;> first | (exact sub_ren [0, 9001] [0, 1] (by decide) rfl (.cons (.skip .nil)) (Nat.le_of_ble_eq_true rfl)) | (exact sub_ren [0, 1] [0, 1] (by decide) rfl (.cons (.cons .nil)) (Nat.le_of_ble_eq_true rfl))) rfl rfl ?_)
  refine w_block ?_
  obtain ⟨s5, h7, hp⟩ := bnd hp
  refine W.mono ?_ (w_loopS (st := fun (v : (Sl Int × Int)) => match v with | (s1, i2) => ⟨[(0, .c (.op 0 0)), (1, .c (.d (.lit (.int .i64 i2))))], [(0, some (.box [slC 1 cI_i64 1 s1])), (1, slO 1 cI_i64 s1)], 2, [.op 0 0]⟩) (a := (q0_l, i1)) (Q := Jn (fun (x : Sl Int) o s => match x with | s5 => o = Out.exit 0 ∧ Sub s ⟨[], [(0, some (.box [slC 1 cI_i64 1 s5])), (1, slO 1 cI_i64 s5)], 2, [.op 0 0]⟩)) ?_ h7 ?_)
  · intro o s hs27
    obtain ⟨rfl, hs27⟩ := hs27
    refine out_e ?_
    obtain rfl := Option.some.inj hp
    refine wk.sub hs27 ?_
    rcases s5 with _ | s5'
    · exact leave_at rfl rfl pr_nil (pc_cons (p_op rfl (pl_cons p_d pl_nil)) pc_nil) rfl rfl
    · exact leave_at rfl rfl pr_nil (pc_cons (p_op rfl (pl_cons (p_o rfl) pl_nil)) pc_nil) rfl rfl
  · exact (by rcases q0_l with _ | _ <;> first | (exact sub_ren [0, 9001] [0, 1] (by decide) rfl (.cons (.skip .nil)) (Nat.le_of_ble_eq_true rfl)) | (exact sub_ren [0, 1] [0, 1] (by decide) rfl (.cons (.cons .nil)) (Nat.le_of_ble_eq_true rfl)))
  · rintro ⟨s1, i2⟩ r hr
    unfold heap_Queue_int_up_L1 at hr
    refine w_seq ?_
    refine w_seq ?_
    obtain ⟨b14, h15, hr⟩ := bnd hr
    refine w_join (J := fun s => Sub s ⟨[(0, .c (.op 0 0)), (1, .c (.d (.lit (.int .i64 i2)))), (24, .c (.d (.lit (.bool b14))))], [(0, some (.box [slC 1 cI_i64 1 s1])), (1, slO 1 cI_i64 s1)], 2, [.op 0 0]⟩) ?_ ?_
    · rcases s1 with _ | s1'
      · try dsimp only [slC, slO]
        refine w_drawn ?_
        refine d1 rfl ?_
        refine d1 (v := .c (.d (.lit (.bool (decide (i2 > 0)))))) rfl ?_
        refine d1 rfl ?_
        cases hb16 : (decide (i2 > 0) : Bool)
        · have h15 := cnd_f hb16 h15
          iterate 17 refine dnot rfl rfl ?_
          refine d1 rfl ?_
          cases h15
          exact d_join rfl (sub_ren [0, 9001] [0, 1, 24] (by decide) rfl (.cons (.skip .nil)) (Nat.le_of_ble_eq_true rfl))
        · have h15 := cnd_t hb16 h15
          obtain ⟨n8, h9, h15⟩ := bnd h15
          iterate 5 refine dg rfl rfl rfl ?_
          exact ix_nil h9
      · try dsimp only [slC, slO]
        refine w_drawn ?_
        refine d1 rfl ?_
        refine d1 (v := .c (.d (.lit (.bool (decide (i2 > 0)))))) rfl ?_
        refine d1 rfl ?_
        cases hb17 : (decide (i2 > 0) : Bool)
        · have h15 := cnd_f hb17 h15
          iterate 17 refine dnot rfl rfl ?_
          refine d1 rfl ?_
          cases h15
          exact d_join rfl (sub_ren [0, 1] [0, 1, 24] (by decide) rfl (.cons (.cons .nil)) (Nat.le_of_ble_eq_true rfl))
        · have h15 := cnd_t hb17 h15
          obtain ⟨n8, h9, h15⟩ := bnd h15
          obtain ⟨n10, h11, h15⟩ := bnd h15
          obtain ⟨r12, h13, h15⟩ := bnd h15
          iterate 5 refine dg rfl rfl rfl ?_
          refine dg rfl rfl (ix_o h9) ?_
          refine dg rfl rfl (ld_row rfl (ixI_some.1 h9).2 rfl) ?_
          iterate 5 refine dg rfl rfl rfl ?_
          refine dg (v := .c (.d (.lit (.int .i64 (wr .i64 (i2 - 1)))))) rfl rfl rfl ?_
          refine dg (v := .c (.d (.lit (.int .i64 (wr .i64 ((wr .i64 (i2 - 1)).tdiv 2)))))) rfl rfl rfl ?_
          refine dg rfl rfl (ix_o h11) ?_
          refine dg rfl rfl (ld_row rfl (ixI_some.1 h11).2 rfl) ?_
          refine dcg (rs := [.c (.d (.lit (.bool r12)))]) (outs := []) rfl rfl rfl (cmp_Less_int_ok h13) rfl (Nat.le_of_ble_eq_true rfl) ?_
          refine d1 rfl ?_
          cases h15
          exact d_join rfl (sub_ren [0, 1] [0, 1, 24] (by decide) rfl (.cons (.cons .nil)) (Nat.le_of_ble_eq_true rfl))
    · intro s hs18
      refine after_n ?_
      refine W.sub hs18 ?_
      refine w_cond (t := b14) rfl (fun hb19 => ?_) (fun hb19 => ?_)
      · have hr := cnd_t hb19 hr
        refine w_skip ?_
        refine after_n ?_
        refine w_block ?_
        refine w_seq ?_
        obtain ⟨n20, h21, hr⟩ := bnd hr
        obtain ⟨n22, h23, hr⟩ := bnd hr
        obtain ⟨n24, h25, hr⟩ := bnd hr
        refine w_join (J := fun s => Sub s ⟨[(0, .c (.op 0 0)), (1, .c (.d (.lit (.int .i64 i2))))], [(0, some (.box [slC 1 cI_i64 1 (Sl.mk ((s1.l.set n22 (gt s1.l n20)).set n24 (gt s1.l n22)))])), (1, slO 1 cI_i64 (Sl.mk ((s1.l.set n22 (gt s1.l n20)).set n24 (gt s1.l n22))))], 2, [.op 0 0]⟩) ?_ ?_
        · rcases s1 with _ | s1'
          · try dsimp only [slC, slO]
            refine w_drawn ?_
            iterate 10 refine d1 rfl ?_
            refine d1 (v := .c (.d (.lit (.int .i64 (wr .i64 (i2 - 1)))))) rfl ?_
            refine d1 (v := .c (.d (.lit (.int .i64 (wr .i64 ((wr .i64 (i2 - 1)).tdiv 2)))))) rfl ?_
            iterate 5 refine d1 rfl ?_
            refine d1 (v := .c (.d (.lit (.int .i64 (wr .i64 (i2 - 1)))))) rfl ?_
            refine d1 (v := .c (.d (.lit (.int .i64 (wr .i64 ((wr .i64 (i2 - 1)).tdiv 2)))))) rfl ?_
            exact ix_nil h21
          · try dsimp only [slC, slO]
            refine w_drawn ?_
            iterate 10 refine d1 rfl ?_
            refine d1 (v := .c (.d (.lit (.int .i64 (wr .i64 (i2 - 1)))))) rfl ?_
            refine d1 (v := .c (.d (.lit (.int .i64 (wr .i64 ((wr .i64 (i2 - 1)).tdiv 2)))))) rfl ?_
            iterate 5 refine d1 rfl ?_
            refine d1 (v := .c (.d (.lit (.int .i64 (wr .i64 (i2 - 1)))))) rfl ?_
            refine d1 (v := .c (.d (.lit (.int .i64 (wr .i64 ((wr .i64 (i2 - 1)).tdiv 2)))))) rfl ?_
            refine d1 (ix_o h21) ?_
            refine d1 (ld_row rfl (ixI_some.1 h21).2 rfl) ?_
            iterate 5 refine d1 rfl ?_
            refine d1 (ix_o h23) ?_
            refine d1 (ld_row rfl (ixI_some.1 h23).2 rfl) ?_
            refine d1 (ix_o h23) ?_
            refine d0 (st_row (y := gt s1' n20) rfl (ixI_some.1 h23).2 rfl rfl rfl (Nat.le_of_ble_eq_true rfl) rfl) (Nat.le_of_ble_eq_true rfl) ?_
            rw [len_set s1' cI_i64 n22 (gt s1' n20)]
            refine d1 (ix_o h25) ?_
            refine d0 (st_row (y := gt s1' n22) rfl (ixI_some.1 h25).2 rfl rfl rfl (Nat.le_of_ble_eq_true rfl) rfl) (Nat.le_of_ble_eq_true rfl) ?_
            rw [len_set (s1'.set n22 (gt s1' n20)) cI_i64 n24 (gt s1' n22)]
            exact d_join rfl (sub_ren [0, 1] [0, 1] (by decide) rfl (.cons (.cons .nil)) (Nat.le_of_ble_eq_true rfl))
        · intro s hs26
          refine after_n ?_
          refine W.sub hs26 ?_
          refine w_region ?_
          refine o1 rfl ?_
          refine o1 (v := .c (.d (.lit (.int .i64 (wr .i64 (i2 - 1)))))) rfl ?_
          refine o1 (v := .c (.d (.lit (.int .i64 (wr .i64 ((wr .i64 (i2 - 1)).tdiv 2)))))) rfl ?_
          refine o1 rfl ?_
          refine o_end (e' := [(0, .c (.op 0 0)), (1, .c (.d (.lit (.int .i64 (wr .i64 ((wr .i64 (i2 - 1)).tdiv 2))))))]) rfl rfl ?_
          refine out_n ?_
          obtain rfl := Option.some.inj hr
          exact And.intro rfl (sub_ren [0, 1] [0, 1] (by decide) rfl (.cons (.cons .nil)) (Nat.le_of_ble_eq_true rfl))
      · have hr := cnd_f hb19 hr
        refine w_exit ?_
        refine after_e ?_
        obtain rfl := Option.some.inj hr
        exact And.intro nofun (And.intro rfl (by rcases s1 with _ | _ <;> first | (exact sub_ren [0, 9001] [] (by decide) rfl (.cons (.skip .nil)) (Nat.le_of_ble_eq_true rfl)) | (exact sub_ren [0, 1] [] (by decide) rfl (.cons (.cons .nil)) (Nat.le_of_ble_eq_true rfl))))

/- (*turnout/heap.Queue[int]).Push -/
def k8 : CC :=
  (.seq
  (.seq
  (.region [
    ⟨some 4, .mv, [(.tmp 0)], none⟩,
    ⟨some 5, (.eqNil 1 false), [(.tmp 4)], none⟩] [0, 1, 5])
  (.cond (.tmp 5)
    .ret
    .skip))
  (.seq
  (.region [
    ⟨some 6, .mv, [(.tmp 0)], none⟩,
    ⟨some 7, .mv, [(.tmp 0)], none⟩,
    ⟨some 8, .nilCheck, [(.tmp 7)], none⟩,
    ⟨some 9, (.fieldAddr 0), [(.tmp 8)], none⟩,
    ⟨some 10, (.load false 1), [(.tmp 9)], none⟩,
    ⟨some 11, .mv, [(.tmp 1)], none⟩,
    ⟨some 12, (.buildSlice 1 1 [(.int .i64 0)] [0]), [(.tmp 11)], none⟩,
    ⟨some 13, (.append 1), [(.tmp 10), (.tmp 12)], none⟩,
    ⟨some 14, .nilCheck, [(.tmp 6)], none⟩,
    ⟨some 15, (.fieldAddr 0), [(.tmp 14)], none⟩,
    ⟨none, (.store 1), [(.tmp 15), (.tmp 13)], none⟩] [0])
  (.region [
    ⟨some 16, .mv, [(.tmp 0)], none⟩,
    ⟨some 17, .mv, [(.tmp 0)], none⟩,
    ⟨some 18, .nilCheck, [(.tmp 17)], none⟩,
    ⟨some 19, (.fieldAddr 0), [(.tmp 18)], none⟩,
    ⟨some 20, (.load false 1), [(.tmp 19)], none⟩,
    ⟨some 21, (.len false), [(.tmp 20)], none⟩,
    ⟨some 22, (.bin .sub), [(.tmp 21), (.const (.int .i64 1))], none⟩,
    ⟨some 23, (.call false [true, false]), [(.func 25), (.tmp 16), (.tmp 22)], none⟩] [])))
def f8 : Ev.Fn := ⟨2, 24, [], k8⟩
set_option maxRecDepth 100000 in
theorem e8 : compFn prog sig 8 2 [[0, 1, 5], [0], []] = some f8 := by kernel_rfl
noncomputable def heap_Queue_int_Push (q0 : heap_Queue_int) (x1 : Int) : Option (heap_Queue_int) :=
  match q0 with | ⟨q0_l⟩ => ((capI (q0_l.l ++ [x1])).bind fun l1 =>
  (heap_Queue_int_up (⟨(Sl.mk l1)⟩ : heap_Queue_int) (wr .i64 ((l1.length : Int) - 1))).bind fun ⟨q4_l⟩ =>
  some (⟨q4_l⟩ : heap_Queue_int))
theorem heap_Queue_int_Push_ok {q0 : heap_Queue_int} {x1 : Int} {z : heap_Queue_int} (hp : heap_Queue_int_Push q0 x1 = some z) : Good prog 8 [.mt (.pt [slT 1 cI_i64 q0.l]), .d (.lit (.int .i64 x1))] [] [.pt [slT 1 cI_i64 z.l]] := by
  obtain ⟨q0_l⟩ := q0
  unfold heap_Queue_int_Push at hp
  refine fn_good mixed e8 (fnS (m := []) (s := ⟨[(0, .c (.op 0 0)), (1, .c (.d (.lit (.int .i64 x1))))], [(0, some (.box [slC 1 cI_i64 1 q0_l])), (1, slO 1 cI_i64 q0_l)], 2, [.op 0 0]⟩) (len := 1) (c := k8) rfl (by rcases q0_l with _ | _ <;> first | (exact sub_ren [0, 9001] [0, 1] (by decide) rfl (.cons (.skip .nil)) (Nat.le_of_ble_eq_true rfl)) | (exact sub_ren [0, 1] [0, 1] (by decide) rfl (.cons (.cons .nil)) (Nat.le_of_ble_eq_true rfl))) rfl rfl ?_)
  refine w_seq ?_
  refine w_seq ?_
  refine w_region ?_
  refine o1 rfl ?_
  refine o1 (v := .c (.d (.lit (.bool false)))) rfl ?_
  refine o_end (e' := [(0, .c (.op 0 0)), (1, .c (.d (.lit (.int .i64 x1)))), (5, .c (.d (.lit (.bool false))))]) rfl rfl ?_
  refine after_n ?_
  refine w_false rfl rfl ?_
  refine w_skip ?_
  refine after_n ?_
  refine w_seq ?_
  obtain ⟨l1, h2, hp⟩ := bnd hp
  refine w_join (J := fun s => Sub s ⟨[(0, .c (.op 0 0))], [(0, some (.box [slC 1 cI_i64 1 (Sl.mk l1)])), (1, slO 1 cI_i64 (Sl.mk l1))], 2, [.op 0 0]⟩) ?_ ?_
  · rcases q0_l with _ | q0_l'
    · try dsimp only [slC, slO]
      refine w_region ?_
      iterate 6 refine o1 rfl ?_
      refine o2 rfl ?_
      refine o2 (app_nil (enc := cI_i64) rfl h2) ?_
      iterate 2 refine o1 rfl ?_
      refine o0 rfl ?_
      exact o_join (sub_ren [0, 3] [0] (by decide) rfl (.cons (.cons .nil)) (Nat.le_of_ble_eq_true rfl))
    · try dsimp only [slC, slO]
      refine w_region ?_
      iterate 6 refine o1 rfl ?_
      refine o2 rfl ?_
      refine o2 (app_o rfl rfl h2) ?_
      iterate 2 refine o1 rfl ?_
      refine o0 rfl ?_
      exact o_join (sub_ren [0, 3] [0] (by decide) rfl (.cons (.cons .nil)) (Nat.le_of_ble_eq_true rfl))
  · intro s hs3
    refine after_n ?_
    refine W.sub hs3 ?_
    obtain ⟨⟨q4_l⟩, h5, hp⟩ := bnd hp
    refine w_join (J := fun s => Sub s ⟨[], [(0, some (.box [slC 1 cI_i64 1 q4_l])), (1, slO 1 cI_i64 q4_l)], 2, [.op 0 0]⟩) ?_ ?_
    · rcases q4_l with _ | q4_l'
      · try dsimp only [slC, slO]
        refine w_region ?_
        iterate 5 refine o1 rfl ?_
        refine o1 (v := .c (.d (.lit (.int .i64 (l1.length : Int))))) len_o ?_
        refine o1 (v := .c (.d (.lit (.int .i64 (wr .i64 ((l1.length : Int) - 1)))))) rfl ?_
        refine oc' (rs := []) (outs := [.pt [.d (.lit (.slice none 0 0))]]) (call_at rfl rfl (ea_mt (p_op rfl (pl_cons (p_o rfl) pl_nil)) rfl (ea_c rfl rfl ea_nil)) (wh_op wh_nil) rfl rfl) (heap_Queue_int_up_ok h5) ?_
        exact o_join (sub_ren [0, 9001] [] (by decide) rfl (.cons (.skip .nil)) (Nat.le_of_ble_eq_true rfl))
      · try dsimp only [slC, slO]
        refine w_region ?_
        iterate 5 refine o1 rfl ?_
        refine o1 (v := .c (.d (.lit (.int .i64 (l1.length : Int))))) len_o ?_
        refine o1 (v := .c (.d (.lit (.int .i64 (wr .i64 ((l1.length : Int) - 1)))))) rfl ?_
        refine oc' (rs := []) (outs := [.pt [slT 1 cI_i64 (Sl.mk q4_l')]]) (call_at rfl rfl (ea_mt (p_op rfl (pl_cons (p_o rfl) pl_nil)) rfl (ea_c rfl rfl ea_nil)) (wh_op wh_nil) rfl rfl) (heap_Queue_int_up_ok h5) ?_
        exact o_join (sub_ren [0, 2] [] (by decide) rfl (.cons (.cons .nil)) (Nat.le_of_ble_eq_true rfl))
    · intro s hs6
      obtain rfl := Option.some.inj hp
      refine wk.sub hs6 ?_
      rcases q4_l with _ | q4_l'
      · exact leave_at rfl rfl pr_nil (pc_cons (p_op rfl (pl_cons p_d pl_nil)) pc_nil) rfl rfl
      · exact leave_at rfl rfl pr_nil (pc_cons (p_op rfl (pl_cons (p_o rfl) pl_nil)) pc_nil) rfl rfl

/- turnout/turnoutref13.Push -/
def k10 : CC :=
  (.seq
  (.region [
    ⟨some 4, .mv, [(.const (.slice none 0 0))], none⟩] [0, 1])
  (.seq
  (.region [
    ⟨some 5, .mv, [(.const (.slice none 0 0))], none⟩] [0, 1, 5])
  (.seq
  (.region [
    ⟨some 6, .mv, [(.const (.bool false))], none⟩] [0, 1, 5, 6])
  (.seq
  (.seq
  (.region [
    ⟨some 7, .mv, [(.const (.int .i64 0))], none⟩] [0, 1, 5, 6, 7])
  (.block 0
    (.loop [0, 1, 5, 6, 7]
      (.seq
      (.seq
      (.region [
        ⟨some 8, .mv, [(.tmp 7)], none⟩,
        ⟨some 9, .mv, [(.tmp 0)], none⟩,
        ⟨some 10, (.len false), [(.tmp 9)], none⟩,
        ⟨some 11, (.bin .lss), [(.tmp 8), (.tmp 10)], none⟩] [0, 1, 5, 6, 7, 11])
      (.cond (.tmp 11)
        .skip
        (.exit 0)))
      (.seq
      (.block 1
        (.seq
        (.seq
        (.region [
          ⟨some 14, .mv, [(.tmp 6)], none⟩,
          ⟨some 15, (.un .not), [(.tmp 14)], none⟩,
          ⟨some 16, .mv, [(.tmp 15)], none⟩,
          ⟨some 17, .mv, [(.tmp 1)], (some (16, true))⟩,
          ⟨some 18, .mv, [(.tmp 0)], (some (16, true))⟩,
          ⟨some 19, .mv, [(.tmp 7)], (some (16, true))⟩,
          ⟨some 20, (.indexAddr none 1), [(.tmp 18), (.tmp 19)], (some (16, true))⟩,
          ⟨some 21, (.load false 1), [(.tmp 20)], (some (16, true))⟩,
          ⟨some 22, (.bin .lss), [(.tmp 17), (.tmp 21)], (some (16, true))⟩,
          ⟨some 23, .pick, [(.tmp 16), (.tmp 22), (.const (.bool false))], none⟩] [0, 1, 5, 6, 7, 23])
        (.cond (.tmp 23)
          (.seq
          (.region [
            ⟨some 24, .mv, [(.tmp 5)], none⟩,
            ⟨some 25, .mv, [(.tmp 1)], none⟩,
            ⟨some 26, (.buildSlice 1 1 [(.int .i64 0)] [0]), [(.tmp 25)], none⟩,
            ⟨some 27, (.append 1), [(.tmp 24), (.tmp 26)], none⟩,
            ⟨some 5, .mv, [(.tmp 27)], none⟩] [0, 1, 5, 7])
          (.region [
            ⟨some 6, .mv, [(.const (.bool true))], none⟩] [0, 1, 5, 6, 7]))
          .skip))
        (.region [
          ⟨some 28, .mv, [(.tmp 5)], none⟩,
          ⟨some 29, .mv, [(.tmp 0)], none⟩,
          ⟨some 30, .mv, [(.tmp 7)], none⟩,
          ⟨some 31, (.indexAddr none 1), [(.tmp 29), (.tmp 30)], none⟩,
          ⟨some 32, (.load false 1), [(.tmp 31)], none⟩,
          ⟨some 33, (.buildSlice 1 1 [(.int .i64 0)] [0]), [(.tmp 32)], none⟩,
          ⟨some 34, (.append 1), [(.tmp 28), (.tmp 33)], none⟩,
          ⟨some 5, .mv, [(.tmp 34)], none⟩] [0, 1, 5, 6, 7])))
      (.region [
        ⟨some 12, .mv, [(.tmp 7)], none⟩,
        ⟨some 13, (.bin .add), [(.tmp 12), (.const (.int .i64 1))], none⟩,
        ⟨some 7, .mv, [(.tmp 13)], none⟩] [0, 1, 5, 6, 7]))))))
  (.seq
  (.seq
  (.region [
    ⟨some 35, .mv, [(.tmp 6)], none⟩,
    ⟨some 36, (.un .not), [(.tmp 35)], none⟩] [1, 5, 36])
  (.cond (.tmp 36)
    (.region [
      ⟨some 37, .mv, [(.tmp 5)], none⟩,
      ⟨some 38, .mv, [(.tmp 1)], none⟩,
      ⟨some 39, (.buildSlice 1 1 [(.int .i64 0)] [0]), [(.tmp 38)], none⟩,
      ⟨some 40, (.append 1), [(.tmp 37), (.tmp 39)], none⟩,
      ⟨some 5, .mv, [(.tmp 40)], none⟩] [5])
    .skip))
  (.seq
  (.region [
    ⟨some 41, .mv, [(.tmp 5)], none⟩,
    ⟨some 4, .mv, [(.tmp 41)], none⟩] [4])
  .ret))))))
def f10 : Ev.Fn := ⟨2, 42, [.tmp 4], k10⟩
set_option maxRecDepth 100000 in
theorem e10 : compFn prog sig 10 2 [[0, 1], [0, 1, 5], [0, 1, 5, 6], [0, 1, 5, 6, 7], [0, 1, 5, 6, 7], [0, 1, 5, 6, 7, 11], [0, 1, 5, 6, 7, 23], [0, 1, 5, 7], [0, 1, 5, 6, 7], [0, 1, 5, 6, 7], [0, 1, 5, 6, 7], [1, 5, 36], [5], [4]] = some f10 := by kernel_rfl
noncomputable def ref13_Push_L1 (l0 : Sl Int) (x1 : Int) : (Sl Int × Bool × Int) → Option (Sum ((Sl Int × Bool × Int)) ((Sl Int × Bool))) := fun (s1, b2, i3) =>
  bif decide (i3 < (l0.l.length : Int)) then (((bif (!b2) then ((ixI i3 l0.l.length).bind fun n16 =>
  some (decide (x1 < (gt l0.l n16)))) else (some false)).bind fun b18 =>
  bif b18 then ((capI (s1.l ++ [x1])).bind fun l23 =>
  some ((Sl.mk l23), true)) else
  (some (s1, b2)) : Option ((Sl Int × Bool))).bind fun (s12, b13) =>
  (ixI i3 l0.l.length).bind fun n27 =>
  (capI (s12.l ++ [gt l0.l n27])).bind fun l29 =>
  some (.inl ((Sl.mk l29), b13, wr .i64 (i3 + 1)))) else
  (some (.inr (s1, b2)))

noncomputable def ref13_Push (l0 : Sl Int) (x1 : Int) : Option (Sl Int) :=
  (loopO (ref13_Push_L1 l0 x1) (Sl.nil, false, 0)).bind fun (s7, b8) =>
  (bif (!b8) then ((capI (s7.l ++ [x1])).bind fun l37 =>
  some (Sl.mk l37)) else
  (some s7) : Option (Sl Int)).bind fun s33 =>
  some s33
theorem ref13_Push_ok {l0 : Sl Int} {x1 : Int} {z : Sl Int} (hp : ref13_Push l0 x1 = some z) : Good prog 10 [.d (slD 1 cI_i64 l0), .d (.lit (.int .i64 x1))] [.c (.d (slD 1 cI_i64 z))] [] := by
  unfold ref13_Push at hp
  refine fn_good mixed e10 (fnS (m := [true]) (s := ⟨[(0, .c (.d (slD 1 cI_i64 l0))), (1, .c (.d (.lit (.int .i64 x1))))], [], 0, []⟩) (len := 0) (c := k10) rfl (Sub.of_eq rfl) rfl rfl ?_)
  refine w_seq ?_
  refine w_region ?_
  refine o1 rfl ?_
  refine o_end (e' := [(0, .c (.d (slD 1 cI_i64 l0))), (1, .c (.d (.lit (.int .i64 x1))))]) rfl rfl ?_
  refine after_n ?_
  refine w_seq ?_
  refine w_region ?_
  refine o1 rfl ?_
  refine o_end (e' := [(0, .c (.d (slD 1 cI_i64 l0))), (1, .c (.d (.lit (.int .i64 x1)))), (5, .c (.d (.lit (.slice none 0 0))))]) rfl rfl ?_
  refine after_n ?_
  refine w_seq ?_
  refine w_region ?_
  refine o1 rfl ?_
  refine o_end (e' := [(0, .c (.d (slD 1 cI_i64 l0))), (1, .c (.d (.lit (.int .i64 x1)))), (5, .c (.d (.lit (.slice none 0 0)))), (6, .c (.d (.lit (.bool false))))]) rfl rfl ?_
  refine after_n ?_
  refine w_seq ?_
  refine w_seq ?_
  refine w_region ?_
  refine o1 rfl ?_
  refine o_end (e' := [(0, .c (.d (slD 1 cI_i64 l0))), (1, .c (.d (.lit (.int .i64 x1)))), (5, .c (.d (.lit (.slice none 0 0)))), (6, .c (.d (.lit (.bool false)))), (7, .c (.d (.lit (.int .i64 0))))]) rfl rfl ?_
  refine after_n ?_
  refine w_block ?_
  obtain ⟨x9, h10, hp⟩ := bnd hp
  refine W.mono ?_ (w_loopS (st := fun (v : (Sl Int × Bool × Int)) => match v with | (s1, b2, i3) => ⟨[(0, .c (.d (slD 1 cI_i64 l0))), (1, .c (.d (.lit (.int .i64 x1)))), (5, .c (slC 1 cI_i64 0 s1)), (6, .c (.d (.lit (.bool b2)))), (7, .c (.d (.lit (.int .i64 i3))))], [(0, slO 1 cI_i64 s1)], 1, []⟩) (a := (Sl.nil, false, 0)) (Q := Jn (fun (x : (Sl Int × Bool)) o s => match x with | (s7, b8) => o = Out.exit 0 ∧ Sub s ⟨[(1, .c (.d (.lit (.int .i64 x1)))), (5, .c (slC 1 cI_i64 0 s7)), (6, .c (.d (.lit (.bool b8))))], [(0, slO 1 cI_i64 s7)], 1, []⟩)) ?_ h10 ?_)
  · intro o s hs32
    obtain ⟨s7, b8⟩ := x9
    obtain ⟨rfl, hs32⟩ := hs32
    refine out_e ?_
    refine after_n ?_
    refine W.sub hs32 ?_
    refine w_seq ?_
    obtain ⟨s33, h34, hp⟩ := bnd hp
    refine W.mono (Q := Jn (fun (x : Sl Int) o s => match x with | s33 => o = Out.normal ∧ Sub s ⟨[(5, .c (slC 1 cI_i64 0 s33))], [(0, slO 1 cI_i64 s33)], 1, []⟩) s33) ?_ ?_
    · intro o s hs40
      obtain ⟨rfl, hs40⟩ := hs40
      refine after_n ?_
      refine W.sub hs40 ?_
      refine w_seq ?_
      refine w_region ?_
      iterate 2 refine o1 rfl ?_
      refine o_end (e' := [(4, .c (slC 1 cI_i64 0 s33))]) rfl rfl ?_
      refine after_n ?_
      refine w_ret ?_
      obtain rfl := Option.some.inj hp
      rcases s33 with _ | s33'
      · exact leave_at rfl rfl (pr_c p_d pr_nil) pc_nil rfl rfl
      · exact leave_at rfl rfl (pr_c (p_o rfl) pr_nil) pc_nil rfl rfl
    · refine w_seq ?_
      refine w_region ?_
      refine o1 rfl ?_
      refine o1 (v := .c (.d (.lit (.bool (!b8))))) rfl ?_
      refine o_end (e' := [(1, .c (.d (.lit (.int .i64 x1)))), (5, .c (slC 1 cI_i64 0 s7)), (36, .c (.d (.lit (.bool (!b8)))))]) rfl rfl ?_
      refine after_n ?_
      refine w_cond (t := (!b8)) rfl (fun hb36 => ?_) (fun hb36 => ?_)
      · have h34 := cnd_t hb36 h34
        obtain ⟨l37, h38, h34⟩ := bnd h34
        refine w_join (J := fun s => Sub s ⟨[(5, .c (slC 1 cI_i64 0 (Sl.mk l37)))], [(0, slO 1 cI_i64 (Sl.mk l37))], 1, []⟩) ?_ ?_
        · rcases s7 with _ | s7'
          · try dsimp only [slC, slO]
            refine w_region ?_
            iterate 2 refine o1 rfl ?_
            refine o2 rfl ?_
            refine o2 (app_nil (enc := cI_i64) rfl h38) ?_
            refine o1 rfl ?_
            exact o_join (sub_ren [2] [5] (by decide) rfl (.cons .nil) (Nat.le_of_ble_eq_true rfl))
          · try dsimp only [slC, slO]
            refine w_region ?_
            iterate 2 refine o1 rfl ?_
            refine o2 rfl ?_
            refine o2 (app_o rfl rfl h38) ?_
            refine o1 rfl ?_
            exact o_join (sub_ren [2] [5] (by decide) rfl (.cons .nil) (Nat.le_of_ble_eq_true rfl))
        · intro s hs39
          obtain rfl := Option.some.inj h34
          exact And.intro rfl (Sub.trans hs39 (sub_ren [0] [5] (by decide) rfl (.cons .nil) (Nat.le_of_ble_eq_true rfl)))
      · have h34 := cnd_f hb36 h34
        refine w_skip ?_
        obtain rfl := Option.some.inj h34
        exact And.intro rfl (by rcases s7 with _ | _ <;> first | (exact sub_ren [9000] [5] (by decide) rfl (.skip .nil) (Nat.le_of_ble_eq_true rfl)) | (exact sub_ren [0] [5] (by decide) rfl (.cons .nil) (Nat.le_of_ble_eq_true rfl)))
  · exact (sub_ren [9000] [0, 1, 5, 6, 7] (by decide) rfl (.skip .nil) (Nat.le_of_ble_eq_true rfl))
  · rintro ⟨s1, b2, i3⟩ r hr
    unfold ref13_Push_L1 at hr
    refine w_seq ?_
    refine w_seq ?_
    refine w_region ?_
    iterate 2 refine o1 rfl ?_
    refine o1 (v := .c (.d (.lit (.int .i64 (l0.l.length : Int))))) len_sd ?_
    refine o1 (v := .c (.d (.lit (.bool (decide (i3 < (l0.l.length : Int))))))) rfl ?_
    refine o_end (e' := [(0, .c (.d (slD 1 cI_i64 l0))), (1, .c (.d (.lit (.int .i64 x1)))), (5, .c (slC 1 cI_i64 0 s1)), (6, .c (.d (.lit (.bool b2)))), (7, .c (.d (.lit (.int .i64 i3)))), (11, .c (.d (.lit (.bool (decide (i3 < (l0.l.length : Int)))))))]) rfl rfl ?_
    refine after_n ?_
    refine w_cond (t := decide (i3 < (l0.l.length : Int))) rfl (fun hb11 => ?_) (fun hb11 => ?_)
    · have hr := cnd_t hb11 hr
      refine w_skip ?_
      refine after_n ?_
      refine w_seq ?_
      refine w_block ?_
      refine w_seq ?_
      obtain ⟨x15, h14, hr⟩ := bnd hr
      refine W.mono (Q := Jn (fun (x : (Sl Int × Bool)) o s => match x with | (s12, b13) => o = Out.normal ∧ Sub s ⟨[(0, .c (.d (slD 1 cI_i64 l0))), (1, .c (.d (.lit (.int .i64 x1)))), (5, .c (slC 1 cI_i64 0 s12)), (6, .c (.d (.lit (.bool b13)))), (7, .c (.d (.lit (.int .i64 i3))))], [(0, slO 1 cI_i64 s12)], 1, []⟩) x15) ?_ ?_
      · intro o s hs26
        obtain ⟨s12, b13⟩ := x15
        obtain ⟨rfl, hs26⟩ := hs26
        refine after_n ?_
        refine W.sub hs26 ?_
        obtain ⟨n27, h28, hr⟩ := bnd hr
        obtain ⟨l29, h30, hr⟩ := bnd hr
        refine w_join (J := fun s => Sub s ⟨[(0, .c (.d (slD 1 cI_i64 l0))), (1, .c (.d (.lit (.int .i64 x1)))), (5, .c (slC 1 cI_i64 0 (Sl.mk l29))), (6, .c (.d (.lit (.bool b13)))), (7, .c (.d (.lit (.int .i64 i3))))], [(0, slO 1 cI_i64 (Sl.mk l29))], 1, []⟩) ?_ ?_
        · rcases s12 with _ | s12'
          · try dsimp only [slC, slO]
            refine w_region ?_
            iterate 3 refine o1 rfl ?_
            refine o1 (ix_sd h28) ?_
            refine o1 rfl ?_
            refine o2 rfl ?_
            refine o2 (app_nil (enc := cI_i64) rfl h30) ?_
            refine o1 rfl ?_
            exact o_join (sub_ren [2] [0, 1, 5, 6, 7] (by decide) rfl (.cons .nil) (Nat.le_of_ble_eq_true rfl))
          · try dsimp only [slC, slO]
            refine w_region ?_
            iterate 3 refine o1 rfl ?_
            refine o1 (ix_sd h28) ?_
            refine o1 rfl ?_
            refine o2 rfl ?_
            refine o2 (app_o rfl rfl h30) ?_
            refine o1 rfl ?_
            exact o_join (sub_ren [2] [0, 1, 5, 6, 7] (by decide) rfl (.cons .nil) (Nat.le_of_ble_eq_true rfl))
        · intro s hs31
          refine out_n ?_
          refine after_n ?_
          refine W.sub hs31 ?_
          refine w_region ?_
          refine o1 rfl ?_
          refine o1 (v := .c (.d (.lit (.int .i64 (wr .i64 (i3 + 1)))))) rfl ?_
          refine o1 rfl ?_
          refine o_end (e' := [(0, .c (.d (slD 1 cI_i64 l0))), (1, .c (.d (.lit (.int .i64 x1)))), (5, .c (slC 1 cI_i64 0 (Sl.mk l29))), (6, .c (.d (.lit (.bool b13)))), (7, .c (.d (.lit (.int .i64 (wr .i64 (i3 + 1))))))]) rfl rfl ?_
          obtain rfl := Option.some.inj hr
          exact And.intro rfl (sub_ren [0] [0, 1, 5, 6, 7] (by decide) rfl (.cons .nil) (Nat.le_of_ble_eq_true rfl))
      · refine w_seq ?_
        obtain ⟨b18, h19, h14⟩ := bnd h14
        refine w_join (J := fun s => Sub s ⟨[(0, .c (.d (slD 1 cI_i64 l0))), (1, .c (.d (.lit (.int .i64 x1)))), (5, .c (slC 1 cI_i64 0 s1)), (6, .c (.d (.lit (.bool b2)))), (7, .c (.d (.lit (.int .i64 i3)))), (23, .c (.d (.lit (.bool b18))))], [(0, slO 1 cI_i64 s1)], 1, []⟩) ?_ ?_
        · refine w_region ?_
          refine o1 rfl ?_
          refine o1 (v := .c (.d (.lit (.bool (!b2))))) rfl ?_
          refine o1 rfl ?_
          cases hb20 : ((!b2) : Bool)
          · have h19 := cnd_f hb20 h19
            iterate 6 refine onot rfl rfl ?_
            refine o1 rfl ?_
            cases h19
            exact o_join (by rcases s1 with _ | _ <;> first | (exact sub_ren [9000] [0, 1, 5, 6, 7, 23] (by decide) rfl (.skip .nil) (Nat.le_of_ble_eq_true rfl)) | (exact sub_ren [0] [0, 1, 5, 6, 7, 23] (by decide) rfl (.cons .nil) (Nat.le_of_ble_eq_true rfl)))
          · have h19 := cnd_t hb20 h19
            obtain ⟨n16, h17, h19⟩ := bnd h19
            iterate 3 refine og rfl rfl rfl ?_
            refine og rfl rfl (ix_sd h17) ?_
            refine og rfl rfl rfl ?_
            refine og (v := .c (.d (.lit (.bool (decide (x1 < (gt l0.l n16))))))) rfl rfl rfl ?_
            refine o1 rfl ?_
            cases h19
            exact o_join (by rcases s1 with _ | _ <;> first | (exact sub_ren [9000] [0, 1, 5, 6, 7, 23] (by decide) rfl (.skip .nil) (Nat.le_of_ble_eq_true rfl)) | (exact sub_ren [0] [0, 1, 5, 6, 7, 23] (by decide) rfl (.cons .nil) (Nat.le_of_ble_eq_true rfl)))
        · intro s hs21
          refine after_n ?_
          refine W.sub hs21 ?_
          refine w_cond (t := b18) rfl (fun hb22 => ?_) (fun hb22 => ?_)
          · have h14 := cnd_t hb22 h14
            refine w_seq ?_
            obtain ⟨l23, h24, h14⟩ := bnd h14
            refine w_join (J := fun s => Sub s ⟨[(0, .c (.d (slD 1 cI_i64 l0))), (1, .c (.d (.lit (.int .i64 x1)))), (5, .c (slC 1 cI_i64 0 (Sl.mk l23))), (7, .c (.d (.lit (.int .i64 i3))))], [(0, slO 1 cI_i64 (Sl.mk l23))], 1, []⟩) ?_ ?_
            · rcases s1 with _ | s1'
              · try dsimp only [slC, slO]
                refine w_region ?_
                iterate 2 refine o1 rfl ?_
                refine o2 rfl ?_
                refine o2 (app_nil (enc := cI_i64) rfl h24) ?_
                refine o1 rfl ?_
                exact o_join (sub_ren [2] [0, 1, 5, 7] (by decide) rfl (.cons .nil) (Nat.le_of_ble_eq_true rfl))
              · try dsimp only [slC, slO]
                refine w_region ?_
                iterate 2 refine o1 rfl ?_
                refine o2 rfl ?_
                refine o2 (app_o rfl rfl h24) ?_
                refine o1 rfl ?_
                exact o_join (sub_ren [2] [0, 1, 5, 7] (by decide) rfl (.cons .nil) (Nat.le_of_ble_eq_true rfl))
            · intro s hs25
              refine after_n ?_
              refine W.sub hs25 ?_
              refine w_region ?_
              refine o1 rfl ?_
              refine o_end (e' := [(0, .c (.d (slD 1 cI_i64 l0))), (1, .c (.d (.lit (.int .i64 x1)))), (5, .c (slC 1 cI_i64 0 (Sl.mk l23))), (6, .c (.d (.lit (.bool true)))), (7, .c (.d (.lit (.int .i64 i3))))]) rfl rfl ?_
              obtain rfl := Option.some.inj h14
              exact And.intro rfl (sub_ren [0] [0, 1, 5, 6, 7] (by decide) rfl (.cons .nil) (Nat.le_of_ble_eq_true rfl))
          · have h14 := cnd_f hb22 h14
            refine w_skip ?_
            obtain rfl := Option.some.inj h14
            exact And.intro rfl (by rcases s1 with _ | _ <;> first | (exact sub_ren [9000] [0, 1, 5, 6, 7] (by decide) rfl (.skip .nil) (Nat.le_of_ble_eq_true rfl)) | (exact sub_ren [0] [0, 1, 5, 6, 7] (by decide) rfl (.cons .nil) (Nat.le_of_ble_eq_true rfl)))
    · have hr := cnd_f hb11 hr
      refine w_exit ?_
      refine after_e ?_
      obtain rfl := Option.some.inj hr
      exact And.intro nofun (And.intro rfl (by rcases s1 with _ | _ <;> first | (exact sub_ren [9000] [1, 5, 6] (by decide) rfl (.skip .nil) (Nat.le_of_ble_eq_true rfl)) | (exact sub_ren [0] [1, 5, 6] (by decide) rfl (.cons .nil) (Nat.le_of_ble_eq_true rfl))))

/- (*turnout/heap.Queue[int]).Len -/
def k18 : CC :=
  (.seq
  (.region [
    ⟨some 2, .mv, [(.const (.int .i64 0))], none⟩] [0])
  (.seq
  (.seq
  (.region [
    ⟨some 3, .mv, [(.tmp 0)], none⟩,
    ⟨some 4, (.eqNil 1 false), [(.tmp 3)], none⟩] [0, 4])
  (.cond (.tmp 4)
    (.seq
    (.region [
      ⟨some 2, .mv, [(.const (.int .i64 0))], none⟩] [2])
    .ret)
    .skip))
  (.seq
  (.region [
    ⟨some 5, .mv, [(.tmp 0)], none⟩,
    ⟨some 6, .nilCheck, [(.tmp 5)], none⟩,
    ⟨some 7, (.fieldAddr 0), [(.tmp 6)], none⟩,
    ⟨some 8, (.load false 1), [(.tmp 7)], none⟩,
    ⟨some 9, (.len false), [(.tmp 8)], none⟩,
    ⟨some 2, .mv, [(.tmp 9)], none⟩] [2])
  .ret)))
def f18 : Ev.Fn := ⟨1, 10, [.tmp 2], k18⟩
set_option maxRecDepth 100000 in
theorem e18 : compFn prog sig 18 1 [[0], [0, 4], [2], [2]] = some f18 := by kernel_rfl
noncomputable def heap_Queue_int_Len (q0 : heap_Queue_int) : Option (Int) :=
  some (q0.l.l.length : Int)
theorem heap_Queue_int_Len_ok {q0 : heap_Queue_int} {z : Int} (hp : heap_Queue_int_Len q0 = some z) : Good prog 18 [.d (.pt (c_heap_Queue_int q0))] [.c (.d (.lit (.int .i64 z)))] [] := by
  unfold heap_Queue_int_Len at hp
  refine fn_good mixed e18 (fnS (m := [false]) (s := ⟨[(0, .c (.d (.pt (c_heap_Queue_int q0))))], [], 0, []⟩) (len := 0) (c := k18) rfl (Sub.of_eq rfl) rfl rfl ?_)
  refine w_seq ?_
  refine w_region ?_
  refine o1 rfl ?_
  refine o_end (e' := [(0, .c (.d (.pt (c_heap_Queue_int q0))))]) rfl rfl ?_
  refine after_n ?_
  refine w_seq ?_
  refine w_seq ?_
  refine w_region ?_
  refine o1 rfl ?_
  refine o1 (v := .c (.d (.lit (.bool false)))) rfl ?_
  refine o_end (e' := [(0, .c (.d (.pt (c_heap_Queue_int q0)))), (4, .c (.d (.lit (.bool false))))]) rfl rfl ?_
  refine after_n ?_
  refine w_false rfl rfl ?_
  refine w_skip ?_
  refine after_n ?_
  refine w_seq ?_
  refine w_region ?_
  iterate 4 refine o1 rfl ?_
  refine o1 (v := .c (.d (.lit (.int .i64 (q0.l.l.length : Int))))) len_sd ?_
  refine o1 rfl ?_
  refine o_end (e' := [(2, .c (.d (.lit (.int .i64 (q0.l.l.length : Int)))))]) rfl rfl ?_
  refine after_n ?_
  refine w_ret ?_
  obtain rfl := Option.some.inj hp
  exact leave_at rfl rfl (pr_c p_d pr_nil) pc_nil rfl rfl

/- (*turnout/heap.Queue[int]).Peek -/
def k17 : CC :=
  (.seq
  (.region [
    ⟨some 2, .mv, [(.const (.int .i64 0))], none⟩,
    ⟨some 3, .mv, [(.const (.bool false))], none⟩] [0])
  (.seq
  (.seq
  (.region [
    ⟨some 5, .mv, [(.tmp 0)], none⟩,
    ⟨some 6, (.call true []), [(.func 18), (.tmp 5)], none⟩,
    ⟨some 7, (.bin .eql), [(.tmp 6), (.const (.int .i64 0))], none⟩] [0, 7])
  (.cond (.tmp 7)
    (.seq
    (.region [
      ⟨some 4, .mv, [(.const (.int .i64 0))], none⟩] [4])
    (.seq
    (.region [
      ⟨some 8, .mv, [(.tmp 4)], none⟩,
      ⟨some 2, .mv, [(.tmp 8)], none⟩,
      ⟨some 3, .mv, [(.const (.bool false))], none⟩] [2, 3])
    .ret))
    .skip))
  (.seq
  (.region [
    ⟨some 9, .mv, [(.tmp 0)], none⟩,
    ⟨some 10, .nilCheck, [(.tmp 9)], none⟩,
    ⟨some 11, (.fieldAddr 0), [(.tmp 10)], none⟩,
    ⟨some 12, (.load false 1), [(.tmp 11)], none⟩,
    ⟨some 13, (.indexAddr none 1), [(.tmp 12), (.const (.int .i64 0))], none⟩,
    ⟨some 14, (.load false 1), [(.tmp 13)], none⟩,
    ⟨some 2, .mv, [(.tmp 14)], none⟩,
    ⟨some 3, .mv, [(.const (.bool true))], none⟩] [2, 3])
  .ret)))
def f17 : Ev.Fn := ⟨1, 15, [.tmp 2, .tmp 3], k17⟩
set_option maxRecDepth 100000 in
theorem e17 : compFn prog sig 17 1 [[0], [0, 7], [4], [2, 3], [2, 3]] = some f17 := by kernel_rfl
noncomputable def heap_Queue_int_Peek (q0 : heap_Queue_int) : Option ((Int × Bool)) :=
  (heap_Queue_int_Len q0).bind fun r1 =>
  bif (r1 == 0) then (some (0, false)) else
  ((ixI 0 q0.l.l.length).bind fun n4 =>
  some (gt q0.l.l n4, true))
theorem heap_Queue_int_Peek_ok {q0 : heap_Queue_int} {z : (Int × Bool)} (hp : heap_Queue_int_Peek q0 = some z) : Good prog 17 [.d (.pt (c_heap_Queue_int q0))] [.c (.d (.lit (.int .i64 z.1))), .c (.d (.lit (.bool z.2)))] [] := by
  unfold heap_Queue_int_Peek at hp
  refine fn_good mixed e17 (fnS (m := [false, false]) (s := ⟨[(0, .c (.d (.pt (c_heap_Queue_int q0))))], [], 0, []⟩) (len := 0) (c := k17) rfl (Sub.of_eq rfl) rfl rfl ?_)
  refine w_seq ?_
  refine w_region ?_
  iterate 2 refine o1 rfl ?_
  refine o_end (e' := [(0, .c (.d (.pt (c_heap_Queue_int q0))))]) rfl rfl ?_
  refine after_n ?_
  refine w_seq ?_
  refine w_seq ?_
  obtain ⟨r1, h2, hp⟩ := bnd hp
  refine w_region ?_
  refine o1 rfl ?_
  refine oc (rs := [.c (.d (.lit (.int .i64 r1)))]) (outs := []) rfl (heap_Queue_int_Len_ok h2) rfl ?_
  refine o1 (v := .c (.d (.lit (.bool (r1 == 0))))) rfl ?_
  refine o_end (e' := [(0, .c (.d (.pt (c_heap_Queue_int q0)))), (7, .c (.d (.lit (.bool (r1 == 0)))))]) rfl rfl ?_
  refine after_n ?_
  refine w_cond (t := (r1 == 0)) rfl (fun hb3 => ?_) (fun hb3 => ?_)
  · have hp := cnd_t hb3 hp
    refine w_seq ?_
    refine w_region ?_
    refine o1 rfl ?_
    refine o_end (e' := [(4, .c (.d (.lit (.int .i64 0))))]) rfl rfl ?_
    refine after_n ?_
    refine w_seq ?_
    refine w_region ?_
    iterate 3 refine o1 rfl ?_
    refine o_end (e' := [(2, .c (.d (.lit (.int .i64 0)))), (3, .c (.d (.lit (.bool false))))]) rfl rfl ?_
    refine after_n ?_
    refine w_ret ?_
    refine after_r ?_
    obtain rfl := Option.some.inj hp
    exact leave_at rfl rfl (pr_c p_d (pr_c p_d pr_nil)) pc_nil rfl rfl
  · have hp := cnd_f hb3 hp
    refine w_skip ?_
    refine after_n ?_
    refine w_seq ?_
    obtain ⟨n4, h5, hp⟩ := bnd hp
    refine w_region ?_
    iterate 4 refine o1 rfl ?_
    refine o1 (ix_sd h5) ?_
    iterate 3 refine o1 rfl ?_
    refine o_end (e' := [(2, .c (.d (.lit (.int .i64 (gt q0.l.l n4))))), (3, .c (.d (.lit (.bool true))))]) rfl rfl ?_
    refine after_n ?_
    refine w_ret ?_
    obtain rfl := Option.some.inj hp
    exact leave_at rfl rfl (pr_c p_d (pr_c p_d pr_nil)) pc_nil rfl rfl

/- (*turnout/heap.Queue[int]).down -/
def k34 : CC :=
  (.block 0
    (.loop [0, 1]
      (.block 1
        (.seq
        (.region [
          ⟨some 6, .mv, [(.tmp 1)], none⟩,
          ⟨some 4, .mv, [(.tmp 6)], none⟩] [0, 1, 4])
        (.seq
        (.seq
        (.region [
          ⟨some 7, .mv, [(.tmp 1)], none⟩,
          ⟨some 8, (.bin .mul), [(.const (.int .i64 2)), (.tmp 7)], none⟩,
          ⟨some 9, (.bin .add), [(.tmp 8), (.const (.int .i64 1))], none⟩,
          ⟨some 5, .mv, [(.tmp 9)], none⟩] [0, 1, 4, 5])
        (.block 2
          (.loop [0, 1, 4, 5]
            (.seq
            (.seq
            (.region [
              ⟨some 10, .mv, [(.tmp 5)], none⟩,
              ⟨some 11, .mv, [(.tmp 1)], none⟩,
              ⟨some 12, (.bin .mul), [(.const (.int .i64 2)), (.tmp 11)], none⟩,
              ⟨some 13, (.bin .add), [(.tmp 12), (.const (.int .i64 2))], none⟩,
              ⟨some 14, (.bin .leq), [(.tmp 10), (.tmp 13)], none⟩,
              ⟨some 15, .mv, [(.tmp 14)], none⟩,
              ⟨some 16, .mv, [(.tmp 5)], (some (15, true))⟩,
              ⟨some 17, .mv, [(.tmp 0)], (some (15, true))⟩,
              ⟨some 18, .nilCheck, [(.tmp 17)], (some (15, true))⟩,
              ⟨some 19, (.fieldAddr 0), [(.tmp 18)], (some (15, true))⟩,
              ⟨some 20, (.load false 1), [(.tmp 19)], (some (15, true))⟩,
              ⟨some 21, (.len false), [(.tmp 20)], (some (15, true))⟩,
              ⟨some 22, (.bin .lss), [(.tmp 16), (.tmp 21)], (some (15, true))⟩,
              ⟨some 23, .pick, [(.tmp 15), (.tmp 22), (.const (.bool false))], none⟩] [0, 1, 4, 5, 23])
            (.cond (.tmp 23)
              .skip
              (.exit 2)))
            (.seq
            (.block 3
              (.seq
              (.drawn [
                ⟨some 26, .mv, [(.tmp 0)], none⟩,
                ⟨some 27, .nilCheck, [(.tmp 26)], none⟩,
                ⟨some 28, (.fieldAddr 0), [(.tmp 27)], none⟩,
                ⟨some 29, (.load false 1), [(.tmp 28)], none⟩,
                ⟨some 30, .mv, [(.tmp 5)], none⟩,
                ⟨some 31, (.indexAddr none 1), [(.tmp 29), (.tmp 30)], none⟩,
                ⟨some 32, (.load false 1), [(.tmp 31)], none⟩,
                ⟨some 33, .mv, [(.tmp 0)], none⟩,
                ⟨some 34, .nilCheck, [(.tmp 33)], none⟩,
                ⟨some 35, (.fieldAddr 0), [(.tmp 34)], none⟩,
                ⟨some 36, (.load false 1), [(.tmp 35)], none⟩,
                ⟨some 37, .mv, [(.tmp 4)], none⟩,
                ⟨some 38, (.indexAddr none 1), [(.tmp 36), (.tmp 37)], none⟩,
                ⟨some 39, (.load false 1), [(.tmp 38)], none⟩,
                ⟨some 40, (.call true []), [(.func 27), (.tmp 32), (.tmp 39)], none⟩] [] [0, 1, 4, 5, 40])
              (.cond (.tmp 40)
                (.region [
                  ⟨some 41, .mv, [(.tmp 5)], none⟩,
                  ⟨some 4, .mv, [(.tmp 41)], none⟩] [0, 1, 4, 5])
                .skip)))
            (.region [
              ⟨some 24, .mv, [(.tmp 5)], none⟩,
              ⟨some 25, (.bin .add), [(.tmp 24), (.const (.int .i64 1))], none⟩,
              ⟨some 5, .mv, [(.tmp 25)], none⟩] [0, 1, 4, 5]))))))
        (.seq
        (.seq
        (.region [
          ⟨some 42, .mv, [(.tmp 4)], none⟩,
          ⟨some 43, .mv, [(.tmp 1)], none⟩,
          ⟨some 44, (.bin .eql), [(.tmp 42), (.tmp 43)], none⟩] [0, 1, 4, 44])
        (.cond (.tmp 44)
          .ret
          .skip))
        (.seq
        (.drawn [
          ⟨some 45, .mv, [(.tmp 0)], none⟩,
          ⟨some 46, .nilCheck, [(.tmp 45)], none⟩,
          ⟨some 47, (.fieldAddr 0), [(.tmp 46)], none⟩,
          ⟨some 48, (.load false 1), [(.tmp 47)], none⟩,
          ⟨some 49, .mv, [(.tmp 1)], none⟩,
          ⟨some 50, .mv, [(.tmp 0)], none⟩,
          ⟨some 51, .nilCheck, [(.tmp 50)], none⟩,
          ⟨some 52, (.fieldAddr 0), [(.tmp 51)], none⟩,
          ⟨some 53, (.load false 1), [(.tmp 52)], none⟩,
          ⟨some 54, .mv, [(.tmp 4)], none⟩,
          ⟨some 55, .mv, [(.tmp 0)], none⟩,
          ⟨some 56, .nilCheck, [(.tmp 55)], none⟩,
          ⟨some 57, (.fieldAddr 0), [(.tmp 56)], none⟩,
          ⟨some 58, (.load false 1), [(.tmp 57)], none⟩,
          ⟨some 59, .mv, [(.tmp 4)], none⟩,
          ⟨some 60, (.indexAddr none 1), [(.tmp 58), (.tmp 59)], none⟩,
          ⟨some 61, (.load false 1), [(.tmp 60)], none⟩,
          ⟨some 62, .mv, [(.tmp 0)], none⟩,
          ⟨some 63, .nilCheck, [(.tmp 62)], none⟩,
          ⟨some 64, (.fieldAddr 0), [(.tmp 63)], none⟩,
          ⟨some 65, (.load false 1), [(.tmp 64)], none⟩,
          ⟨some 66, .mv, [(.tmp 1)], none⟩,
          ⟨some 67, (.indexAddr none 1), [(.tmp 65), (.tmp 66)], none⟩,
          ⟨some 68, (.load false 1), [(.tmp 67)], none⟩,
          ⟨some 69, (.indexAddr none 1), [(.tmp 48), (.tmp 49)], none⟩,
          ⟨none, (.store 1), [(.tmp 69), (.tmp 61)], none⟩,
          ⟨some 70, (.indexAddr none 1), [(.tmp 53), (.tmp 54)], none⟩,
          ⟨none, (.store 1), [(.tmp 70), (.tmp 68)], none⟩] [] [0, 4])
        (.region [
          ⟨some 71, .mv, [(.tmp 4)], none⟩,
          ⟨some 1, .mv, [(.tmp 71)], none⟩] [0, 1]))))))))
def f34 : Ev.Fn := ⟨2, 72, [], k34⟩
set_option maxRecDepth 100000 in
theorem e34 : compFn prog sig 34 2 [[0, 1], [0, 1, 4], [0, 1, 4, 5], [0, 1, 4, 5], [0, 1, 4, 5, 23], [0, 1, 4, 5, 40], [0, 1, 4, 5], [0, 1, 4, 5], [0, 1, 4, 44], [0, 4], [0, 1]] = some f34 := by kernel_rfl
noncomputable def heap_Queue_int_down_L2 (s1 : Sl Int) (i2 : Int) : (Int × Int) → Option (Sum ((Int × Int)) (Int)) := fun (i8, i9) =>
  bif ((decide (i9 ≤ (wr .i64 ((wr .i64 (2 * i2)) + 2)))) && (decide (i9 < (s1.l.length : Int)))) then (((ixI i9 s1.l.length).bind fun n22 =>
  (ixI i8 s1.l.length).bind fun n24 =>
  (cmp_Less_int (gt s1.l n22) (gt s1.l n24)).bind fun r26 =>
  bif r26 then (some i9) else
  (some i8) : Option (Int)).bind fun i19 =>
  some (.inl (i19, wr .i64 (i9 + 1)))) else
  (some (.inr i8))

noncomputable def heap_Queue_int_down_L1 : (Sl Int × Int) → Option (Sum ((Sl Int × Int)) (Sl Int)) := fun (s1, i2) =>
  (loopO (heap_Queue_int_down_L2 s1 i2) (i2, wr .i64 ((wr .i64 (2 * i2)) + 1))).bind fun i12 =>
  bif (i12 == i2) then (some (.inr s1)) else
  ((ixI i12 s1.l.length).bind fun n33 =>
  (ixI i2 s1.l.length).bind fun n35 =>
  (ixI i12 (s1.l.set n35 (gt s1.l n33)).length).bind fun n37 =>
  some (.inl ((Sl.mk ((s1.l.set n35 (gt s1.l n33)).set n37 (gt s1.l n35))), i12)))

noncomputable def heap_Queue_int_down (q0 : heap_Queue_int) (i1 : Int) : Option (heap_Queue_int) :=
  match q0 with | ⟨q0_l⟩ => ((loopO (heap_Queue_int_down_L1) (q0_l, i1)).bind fun s5 =>
  some (⟨s5⟩ : heap_Queue_int))
theorem heap_Queue_int_down_ok {q0 : heap_Queue_int} {i1 : Int} {z : heap_Queue_int} (hp : heap_Queue_int_down q0 i1 = some z) : Good prog 34 [.mt (.pt [slT 1 cI_i64 q0.l]), .d (.lit (.int .i64 i1))] [] [.pt [slT 1 cI_i64 z.l]] := by
  obtain ⟨q0_l⟩ := q0
  unfold heap_Queue_int_down at hp
  refine fn_good mixed e34 (fnS (m := []) (s := ⟨[(0, .c (.op 0 0)), (1, .c (.d (.lit (.int .i64 i1))))], [(0, some (.box [slC 1 cI_i64 1 q0_l])), (1, slO 1 cI_i64 q0_l)], 2, [.op 0 0]⟩) (len := 1) (c := k34) rfl (by rcases q0_l with _ | _ <;> first | (exact sub_ren [0, 9001] [0, 1] (by decide) rfl (.cons (.skip .nil)) (Nat.le_of_ble_eq_true rfl)) | (exact sub_ren [0, 1] [0, 1] (by decide) rfl (.cons (.cons .nil)) (Nat.le_of_ble_eq_true rfl))) rfl rfl ?_)
  refine w_block ?_
  obtain ⟨s5, h7, hp⟩ := bnd hp
  refine W.mono ?_ (w_loopS (st := fun (v : (Sl Int × Int)) => match v with | (s1, i2) => ⟨[(0, .c (.op 0 0)), (1, .c (.d (.lit (.int .i64 i2))))], [(0, some (.box [slC 1 cI_i64 1 s1])), (1, slO 1 cI_i64 s1)], 2, [.op 0 0]⟩) (a := (q0_l, i1)) (Q := Jn (fun (x : Sl Int) o s => match x with | s5 => o = Out.ret ∧ Sub s ⟨[], [(0, some (.box [slC 1 cI_i64 1 s5])), (1, slO 1 cI_i64 s5)], 2, [.op 0 0]⟩)) ?_ h7 ?_)
  · intro o s hs40
    obtain ⟨rfl, hs40⟩ := hs40
    refine out_r ?_
    obtain rfl := Option.some.inj hp
    refine wk.sub hs40 ?_
    rcases s5 with _ | s5'
    · exact leave_at rfl rfl pr_nil (pc_cons (p_op rfl (pl_cons p_d pl_nil)) pc_nil) rfl rfl
    · exact leave_at rfl rfl pr_nil (pc_cons (p_op rfl (pl_cons (p_o rfl) pl_nil)) pc_nil) rfl rfl
  · exact (by rcases q0_l with _ | _ <;> first | (exact sub_ren [0, 9001] [0, 1] (by decide) rfl (.cons (.skip .nil)) (Nat.le_of_ble_eq_true rfl)) | (exact sub_ren [0, 1] [0, 1] (by decide) rfl (.cons (.cons .nil)) (Nat.le_of_ble_eq_true rfl)))
  · rintro ⟨s1, i2⟩ r hr
    unfold heap_Queue_int_down_L1 at hr
    refine w_block ?_
    refine w_seq ?_
    refine w_region ?_
    iterate 2 refine o1 rfl ?_
    refine o_end (e' := [(0, .c (.op 0 0)), (1, .c (.d (.lit (.int .i64 i2)))), (4, .c (.d (.lit (.int .i64 i2))))]) rfl rfl ?_
    refine after_n ?_
    refine w_seq ?_
    refine w_seq ?_
    refine w_region ?_
    refine o1 rfl ?_
    refine o1 (v := .c (.d (.lit (.int .i64 (wr .i64 (2 * i2)))))) rfl ?_
    refine o1 (v := .c (.d (.lit (.int .i64 (wr .i64 ((wr .i64 (2 * i2)) + 1)))))) rfl ?_
    refine o1 rfl ?_
    refine o_end (e' := [(0, .c (.op 0 0)), (1, .c (.d (.lit (.int .i64 i2)))), (4, .c (.d (.lit (.int .i64 i2)))), (5, .c (.d (.lit (.int .i64 (wr .i64 ((wr .i64 (2 * i2)) + 1))))))]) rfl rfl ?_
    refine after_n ?_
    refine w_block ?_
    obtain ⟨i12, h14, hr⟩ := bnd hr
    refine W.mono ?_ (w_loopS (st := fun (v : (Int × Int)) => match v with | (i8, i9) => ⟨[(0, .c (.op 0 0)), (1, .c (.d (.lit (.int .i64 i2)))), (4, .c (.d (.lit (.int .i64 i8)))), (5, .c (.d (.lit (.int .i64 i9))))], [(0, some (.box [slC 1 cI_i64 1 s1])), (1, slO 1 cI_i64 s1)], 2, [.op 0 0]⟩) (a := (i2, wr .i64 ((wr .i64 (2 * i2)) + 1))) (Q := Jn (fun (x : Int) o s => match x with | i12 => o = Out.exit 2 ∧ Sub s ⟨[(0, .c (.op 0 0)), (1, .c (.d (.lit (.int .i64 i2)))), (4, .c (.d (.lit (.int .i64 i12))))], [(0, some (.box [slC 1 cI_i64 1 s1])), (1, slO 1 cI_i64 s1)], 2, [.op 0 0]⟩)) ?_ h14 ?_)
    · intro o s hs31
      obtain ⟨rfl, hs31⟩ := hs31
      refine out_e ?_
      refine after_n ?_
      refine W.sub hs31 ?_
      refine w_seq ?_
      refine w_seq ?_
      refine w_region ?_
      iterate 2 refine o1 rfl ?_
      refine o1 (v := .c (.d (.lit (.bool (i12 == i2))))) rfl ?_
      refine o_end (e' := [(0, .c (.op 0 0)), (1, .c (.d (.lit (.int .i64 i2)))), (4, .c (.d (.lit (.int .i64 i12)))), (44, .c (.d (.lit (.bool (i12 == i2)))))]) rfl rfl ?_
      refine after_n ?_
      refine w_cond (t := (i12 == i2)) rfl (fun hb32 => ?_) (fun hb32 => ?_)
      · have hr := cnd_t hb32 hr
        refine w_ret ?_
        refine after_r ?_
        refine out_r ?_
        obtain rfl := Option.some.inj hr
        exact And.intro nofun (And.intro rfl (by rcases s1 with _ | _ <;> first | (exact sub_ren [0, 9001] [] (by decide) rfl (.cons (.skip .nil)) (Nat.le_of_ble_eq_true rfl)) | (exact sub_ren [0, 1] [] (by decide) rfl (.cons (.cons .nil)) (Nat.le_of_ble_eq_true rfl))))
      · have hr := cnd_f hb32 hr
        refine w_skip ?_
        refine after_n ?_
        refine w_seq ?_
        obtain ⟨n33, h34, hr⟩ := bnd hr
        obtain ⟨n35, h36, hr⟩ := bnd hr
        obtain ⟨n37, h38, hr⟩ := bnd hr
        refine w_join (J := fun s => Sub s ⟨[(0, .c (.op 0 0)), (4, .c (.d (.lit (.int .i64 i12))))], [(0, some (.box [slC 1 cI_i64 1 (Sl.mk ((s1.l.set n35 (gt s1.l n33)).set n37 (gt s1.l n35)))])), (1, slO 1 cI_i64 (Sl.mk ((s1.l.set n35 (gt s1.l n33)).set n37 (gt s1.l n35))))], 2, [.op 0 0]⟩) ?_ ?_
        · rcases s1 with _ | s1'
          · try dsimp only [slC, slO]
            refine w_drawn ?_
            iterate 15 refine d1 rfl ?_
            exact ix_nil h34
          · try dsimp only [slC, slO]
            refine w_drawn ?_
            iterate 15 refine d1 rfl ?_
            refine d1 (ix_o h34) ?_
            refine d1 (ld_row rfl (ixI_some.1 h34).2 rfl) ?_
            iterate 5 refine d1 rfl ?_
            refine d1 (ix_o h36) ?_
            refine d1 (ld_row rfl (ixI_some.1 h36).2 rfl) ?_
            refine d1 (ix_o h36) ?_
            refine d0 (st_row (y := gt s1' n33) rfl (ixI_some.1 h36).2 rfl rfl rfl (Nat.le_of_ble_eq_true rfl) rfl) (Nat.le_of_ble_eq_true rfl) ?_
            rw [len_set s1' cI_i64 n35 (gt s1' n33)]
            refine d1 (ix_o h38) ?_
            refine d0 (st_row (y := gt s1' n35) rfl (ixI_some.1 h38).2 rfl rfl rfl (Nat.le_of_ble_eq_true rfl) rfl) (Nat.le_of_ble_eq_true rfl) ?_
            rw [len_set (s1'.set n35 (gt s1' n33)) cI_i64 n37 (gt s1' n35)]
            exact d_join rfl (sub_ren [0, 1] [0, 4] (by decide) rfl (.cons (.cons .nil)) (Nat.le_of_ble_eq_true rfl))
        · intro s hs39
          refine after_n ?_
          refine W.sub hs39 ?_
          refine w_region ?_
          iterate 2 refine o1 rfl ?_
          refine o_end (e' := [(0, .c (.op 0 0)), (1, .c (.d (.lit (.int .i64 i12))))]) rfl rfl ?_
          refine out_n ?_
          obtain rfl := Option.some.inj hr
          exact And.intro rfl (sub_ren [0, 1] [0, 1] (by decide) rfl (.cons (.cons .nil)) (Nat.le_of_ble_eq_true rfl))
    · exact (by rcases s1 with _ | _ <;> first | (exact sub_ren [0, 9001] [0, 1, 4, 5] (by decide) rfl (.cons (.skip .nil)) (Nat.le_of_ble_eq_true rfl)) | (exact sub_ren [0, 1] [0, 1, 4, 5] (by decide) rfl (.cons (.cons .nil)) (Nat.le_of_ble_eq_true rfl)))
    · rintro ⟨i8, i9⟩ r hr
      unfold heap_Queue_int_down_L2 at hr
      refine w_seq ?_
      refine w_seq ?_
      refine w_join (J := fun s => Sub s ⟨[(0, .c (.op 0 0)), (1, .c (.d (.lit (.int .i64 i2)))), (4, .c (.d (.lit (.int .i64 i8)))), (5, .c (.d (.lit (.int .i64 i9)))), (23, .c (.d (.lit (.bool ((decide (i9 ≤ (wr .i64 ((wr .i64 (2 * i2)) + 2)))) && (decide (i9 < (s1.l.length : Int))))))))], [(0, some (.box [slC 1 cI_i64 1 s1])), (1, slO 1 cI_i64 s1)], 2, [.op 0 0]⟩) ?_ ?_
      · refine w_region ?_
        iterate 2 refine o1 rfl ?_
        refine o1 (v := .c (.d (.lit (.int .i64 (wr .i64 (2 * i2)))))) rfl ?_
        refine o1 (v := .c (.d (.lit (.int .i64 (wr .i64 ((wr .i64 (2 * i2)) + 2)))))) rfl ?_
        refine o1 (v := .c (.d (.lit (.bool (decide (i9 ≤ (wr .i64 ((wr .i64 (2 * i2)) + 2)))))))) rfl ?_
        refine o1 rfl ?_
        cases hb16 : (decide (i9 ≤ (wr .i64 ((wr .i64 (2 * i2)) + 2))) : Bool)
        · refine onot rfl rfl ?_
          iterate 6 refine onot rfl rfl ?_
          refine o1 rfl ?_
          exact o_join (by rcases s1 with _ | _ <;> first | (exact sub_ren [0, 9001] [0, 1, 4, 5, 23] (by decide) rfl (.cons (.skip .nil)) (Nat.le_of_ble_eq_true rfl)) | (exact sub_ren [0, 1] [0, 1, 4, 5, 23] (by decide) rfl (.cons (.cons .nil)) (Nat.le_of_ble_eq_true rfl)))
        · refine og rfl rfl rfl ?_
          iterate 4 refine og rfl rfl rfl ?_
          refine og (v := .c (.d (.lit (.int .i64 (s1.l.length : Int))))) rfl rfl len_c ?_
          refine og (v := .c (.d (.lit (.bool (decide (i9 < (s1.l.length : Int))))))) rfl rfl rfl ?_
          refine o1 rfl ?_
          exact o_join (by rcases s1 with _ | _ <;> first | (exact sub_ren [0, 9001] [0, 1, 4, 5, 23] (by decide) rfl (.cons (.skip .nil)) (Nat.le_of_ble_eq_true rfl)) | (exact sub_ren [0, 1] [0, 1, 4, 5, 23] (by decide) rfl (.cons (.cons .nil)) (Nat.le_of_ble_eq_true rfl)))
      · intro s hs17
        refine after_n ?_
        refine W.sub hs17 ?_
        refine w_cond (t := ((decide (i9 ≤ (wr .i64 ((wr .i64 (2 * i2)) + 2)))) && (decide (i9 < (s1.l.length : Int))))) rfl (fun hb18 => ?_) (fun hb18 => ?_)
        · have hr := cnd_t hb18 hr
          refine w_skip ?_
          refine after_n ?_
          refine w_seq ?_
          obtain ⟨i19, h20, hr⟩ := bnd hr
          refine W.mono (Q := Jn (fun (x : Int) o s => match x with | i19 => o = Out.normal ∧ Sub s ⟨[(0, .c (.op 0 0)), (1, .c (.d (.lit (.int .i64 i2)))), (4, .c (.d (.lit (.int .i64 i19)))), (5, .c (.d (.lit (.int .i64 i9))))], [(0, some (.box [slC 1 cI_i64 1 s1])), (1, slO 1 cI_i64 s1)], 2, [.op 0 0]⟩) i19) ?_ ?_
          · intro o s hs30
            obtain ⟨rfl, hs30⟩ := hs30
            refine after_n ?_
            refine W.sub hs30 ?_
            refine w_region ?_
            refine o1 rfl ?_
            refine o1 (v := .c (.d (.lit (.int .i64 (wr .i64 (i9 + 1)))))) rfl ?_
            refine o1 rfl ?_
            refine o_end (e' := [(0, .c (.op 0 0)), (1, .c (.d (.lit (.int .i64 i2)))), (4, .c (.d (.lit (.int .i64 i19)))), (5, .c (.d (.lit (.int .i64 (wr .i64 (i9 + 1))))))]) rfl rfl ?_
            obtain rfl := Option.some.inj hr
            exact And.intro rfl (by rcases s1 with _ | _ <;> first | (exact sub_ren [0, 9001] [0, 1, 4, 5] (by decide) rfl (.cons (.skip .nil)) (Nat.le_of_ble_eq_true rfl)) | (exact sub_ren [0, 1] [0, 1, 4, 5] (by decide) rfl (.cons (.cons .nil)) (Nat.le_of_ble_eq_true rfl)))
          · refine w_block ?_
            refine w_seq ?_
            obtain ⟨n22, h23, h20⟩ := bnd h20
            obtain ⟨n24, h25, h20⟩ := bnd h20
            obtain ⟨r26, h27, h20⟩ := bnd h20
            refine w_join (J := fun s => Sub s ⟨[(0, .c (.op 0 0)), (1, .c (.d (.lit (.int .i64 i2)))), (4, .c (.d (.lit (.int .i64 i8)))), (5, .c (.d (.lit (.int .i64 i9)))), (40, .c (.d (.lit (.bool r26))))], [(0, some (.box [slC 1 cI_i64 1 s1])), (1, slO 1 cI_i64 s1)], 2, [.op 0 0]⟩) ?_ ?_
            · rcases s1 with _ | s1'
              · try dsimp only [slC, slO]
                refine w_drawn ?_
                iterate 5 refine d1 rfl ?_
                exact ix_nil h23
              · try dsimp only [slC, slO]
                refine w_drawn ?_
                iterate 5 refine d1 rfl ?_
                refine d1 (ix_o h23) ?_
                refine d1 (ld_row rfl (ixI_some.1 h23).2 rfl) ?_
                iterate 5 refine d1 rfl ?_
                refine d1 (ix_o h25) ?_
                refine d1 (ld_row rfl (ixI_some.1 h25).2 rfl) ?_
                refine dc (rs := [.c (.d (.lit (.bool r26)))]) (outs := []) rfl (cmp_Less_int_ok h27) rfl (Nat.le_of_ble_eq_true rfl) ?_
                exact d_join rfl (sub_ren [0, 1] [0, 1, 4, 5, 40] (by decide) rfl (.cons (.cons .nil)) (Nat.le_of_ble_eq_true rfl))
            · intro s hs28
              refine after_n ?_
              refine W.sub hs28 ?_
              refine w_cond (t := r26) rfl (fun hb29 => ?_) (fun hb29 => ?_)
              · have h20 := cnd_t hb29 h20
                refine w_region ?_
                iterate 2 refine o1 rfl ?_
                refine o_end (e' := [(0, .c (.op 0 0)), (1, .c (.d (.lit (.int .i64 i2)))), (4, .c (.d (.lit (.int .i64 i9)))), (5, .c (.d (.lit (.int .i64 i9))))]) rfl rfl ?_
                refine out_n ?_
                obtain rfl := Option.some.inj h20
                exact And.intro rfl (by rcases s1 with _ | _ <;> first | (exact sub_ren [0, 9001] [0, 1, 4, 5] (by decide) rfl (.cons (.skip .nil)) (Nat.le_of_ble_eq_true rfl)) | (exact sub_ren [0, 1] [0, 1, 4, 5] (by decide) rfl (.cons (.cons .nil)) (Nat.le_of_ble_eq_true rfl)))
              · have h20 := cnd_f hb29 h20
                refine w_skip ?_
                refine out_n ?_
                obtain rfl := Option.some.inj h20
                exact And.intro rfl (by rcases s1 with _ | _ <;> first | (exact sub_ren [0, 9001] [0, 1, 4, 5] (by decide) rfl (.cons (.skip .nil)) (Nat.le_of_ble_eq_true rfl)) | (exact sub_ren [0, 1] [0, 1, 4, 5] (by decide) rfl (.cons (.cons .nil)) (Nat.le_of_ble_eq_true rfl)))
        · have hr := cnd_f hb18 hr
          refine w_exit ?_
          refine after_e ?_
          obtain rfl := Option.some.inj hr
          exact And.intro nofun (And.intro rfl (by rcases s1 with _ | _ <;> first | (exact sub_ren [0, 9001] [0, 1, 4] (by decide) rfl (.cons (.skip .nil)) (Nat.le_of_ble_eq_true rfl)) | (exact sub_ren [0, 1] [0, 1, 4] (by decide) rfl (.cons (.cons .nil)) (Nat.le_of_ble_eq_true rfl))))

/- (*turnout/heap.Queue[int]).take -/
def k26 : CC :=
  (.seq
  (.region [
    ⟨some 5, .mv, [(.tmp 0)], none⟩,
    ⟨some 6, .nilCheck, [(.tmp 5)], none⟩,
    ⟨some 7, (.fieldAddr 0), [(.tmp 6)], none⟩,
    ⟨some 8, (.load false 1), [(.tmp 7)], none⟩,
    ⟨some 9, (.len false), [(.tmp 8)], none⟩,
    ⟨some 10, (.bin .sub), [(.tmp 9), (.const (.int .i64 1))], none⟩,
    ⟨some 4, .mv, [(.tmp 10)], none⟩] [0, 1, 4])
  (.seq
  (.drawn [
    ⟨some 11, .mv, [(.tmp 0)], none⟩,
    ⟨some 12, .nilCheck, [(.tmp 11)], none⟩,
    ⟨some 13, (.fieldAddr 0), [(.tmp 12)], none⟩,
    ⟨some 14, (.load false 1), [(.tmp 13)], none⟩,
    ⟨some 15, .mv, [(.tmp 1)], none⟩,
    ⟨some 16, .mv, [(.tmp 0)], none⟩,
    ⟨some 17, .nilCheck, [(.tmp 16)], none⟩,
    ⟨some 18, (.fieldAddr 0), [(.tmp 17)], none⟩,
    ⟨some 19, (.load false 1), [(.tmp 18)], none⟩,
    ⟨some 20, .mv, [(.tmp 4)], none⟩,
    ⟨some 21, (.indexAddr none 1), [(.tmp 19), (.tmp 20)], none⟩,
    ⟨some 22, (.load false 1), [(.tmp 21)], none⟩,
    ⟨some 23, (.indexAddr none 1), [(.tmp 14), (.tmp 15)], none⟩,
    ⟨none, (.store 1), [(.tmp 23), (.tmp 22)], none⟩] [] [0, 1, 4])
  (.seq
  (.region [
    ⟨some 24, .mv, [(.tmp 0)], none⟩,
    ⟨some 25, .mv, [(.tmp 0)], none⟩,
    ⟨some 26, .nilCheck, [(.tmp 25)], none⟩,
    ⟨some 27, (.fieldAddr 0), [(.tmp 26)], none⟩,
    ⟨some 28, (.load false 1), [(.tmp 27)], none⟩,
    ⟨some 29, .mv, [(.tmp 4)], none⟩,
    ⟨some 30, (.slice false 1 false true), [(.tmp 28), (.tmp 29)], none⟩,
    ⟨some 31, .nilCheck, [(.tmp 24)], none⟩,
    ⟨some 32, (.fieldAddr 0), [(.tmp 31)], none⟩,
    ⟨none, (.store 1), [(.tmp 32), (.tmp 30)], none⟩] [0, 1, 4])
  (.seq
  (.region [
    ⟨some 33, .mv, [(.tmp 1)], none⟩,
    ⟨some 34, .mv, [(.tmp 4)], none⟩,
    ⟨some 35, (.bin .lss), [(.tmp 33), (.tmp 34)], none⟩] [0, 1, 35])
  (.cond (.tmp 35)
    (.seq
    (.region [
      ⟨some 36, .mv, [(.tmp 0)], none⟩,
      ⟨some 37, .mv, [(.tmp 1)], none⟩,
      ⟨some 38, (.call false [true, false]), [(.func 25), (.tmp 36), (.tmp 37)], none⟩] [0, 1])
    (.region [
      ⟨some 39, .mv, [(.tmp 0)], none⟩,
      ⟨some 40, .mv, [(.tmp 1)], none⟩,
      ⟨some 41, (.call false [true, false]), [(.func 34), (.tmp 39), (.tmp 40)], none⟩] []))
    .skip)))))
def f26 : Ev.Fn := ⟨2, 42, [], k26⟩
set_option maxRecDepth 100000 in
theorem e26 : compFn prog sig 26 2 [[0, 1, 4], [0, 1, 4], [0, 1, 4], [0, 1, 35], [0, 1], []] = some f26 := by kernel_rfl
noncomputable def heap_Queue_int_take (q0 : heap_Queue_int) (i1 : Int) : Option (heap_Queue_int) :=
  match q0 with | ⟨q0_l⟩ => ((ixI (wr .i64 ((q0_l.l.length : Int) - 1)) q0_l.l.length).bind fun n1 =>
  (ixI i1 q0_l.l.length).bind fun n3 =>
  (cutI (q0_l.l.set n3 (gt q0_l.l n1)) 0 (wr .i64 ((q0_l.l.length : Int) - 1))).bind fun l6 =>
  bif decide (i1 < (wr .i64 ((q0_l.l.length : Int) - 1))) then ((heap_Queue_int_up (⟨(Sl.mk l6)⟩ : heap_Queue_int) i1).bind fun ⟨q9_l⟩ =>
  (heap_Queue_int_down (⟨q9_l⟩ : heap_Queue_int) i1).bind fun ⟨q12_l⟩ =>
  some (⟨q12_l⟩ : heap_Queue_int)) else
  (some (⟨(Sl.mk l6)⟩ : heap_Queue_int)))
theorem heap_Queue_int_take_ok {q0 : heap_Queue_int} {i1 : Int} {z : heap_Queue_int} (hp : heap_Queue_int_take q0 i1 = some z) : Good prog 26 [.mt (.pt [slT 1 cI_i64 q0.l]), .d (.lit (.int .i64 i1))] [] [.pt [slT 1 cI_i64 z.l]] := by
  obtain ⟨q0_l⟩ := q0
  unfold heap_Queue_int_take at hp
  refine fn_good mixed e26 (fnS (m := []) (s := ⟨[(0, .c (.op 0 0)), (1, .c (.d (.lit (.int .i64 i1))))], [(0, some (.box [slC 1 cI_i64 1 q0_l])), (1, slO 1 cI_i64 q0_l)], 2, [.op 0 0]⟩) (len := 1) (c := k26) rfl (by rcases q0_l with _ | _ <;> first | (exact sub_ren [0, 9001] [0, 1] (by decide) rfl (.cons (.skip .nil)) (Nat.le_of_ble_eq_true rfl)) | (exact sub_ren [0, 1] [0, 1] (by decide) rfl (.cons (.cons .nil)) (Nat.le_of_ble_eq_true rfl))) rfl rfl ?_)
  refine w_seq ?_
  refine w_region ?_
  iterate 4 refine o1 rfl ?_
  refine o1 (v := .c (.d (.lit (.int .i64 (q0_l.l.length : Int))))) len_c ?_
  refine o1 (v := .c (.d (.lit (.int .i64 (wr .i64 ((q0_l.l.length : Int) - 1)))))) rfl ?_
  refine o1 rfl ?_
  refine o_end (e' := [(0, .c (.op 0 0)), (1, .c (.d (.lit (.int .i64 i1)))), (4, .c (.d (.lit (.int .i64 (wr .i64 ((q0_l.l.length : Int) - 1))))))]) rfl rfl ?_
  refine after_n ?_
  refine w_seq ?_
  obtain ⟨n1, h2, hp⟩ := bnd hp
  obtain ⟨n3, h4, hp⟩ := bnd hp
  refine w_join (J := fun s => Sub s ⟨[(0, .c (.op 0 0)), (1, .c (.d (.lit (.int .i64 i1)))), (4, .c (.d (.lit (.int .i64 (wr .i64 ((q0_l.l.length : Int) - 1))))))], [(0, some (.box [slC 1 cI_i64 1 (Sl.mk (q0_l.l.set n3 (gt q0_l.l n1)))])), (1, slO 1 cI_i64 (Sl.mk (q0_l.l.set n3 (gt q0_l.l n1))))], 2, [.op 0 0]⟩) ?_ ?_
  · rcases q0_l with _ | q0_l'
    · try dsimp only [slC, slO]
      refine w_drawn ?_
      iterate 10 refine d1 rfl ?_
      exact ix_nil h2
    · try dsimp only [slC, slO]
      refine w_drawn ?_
      iterate 10 refine d1 rfl ?_
      refine d1 (ix_o h2) ?_
      refine d1 (ld_row rfl (ixI_some.1 h2).2 rfl) ?_
      refine d1 (ix_o h4) ?_
      refine d0 (st_row (y := gt q0_l' n1) rfl (ixI_some.1 h4).2 rfl rfl rfl (Nat.le_of_ble_eq_true rfl) rfl) (Nat.le_of_ble_eq_true rfl) ?_
      rw [len_set q0_l' cI_i64 n3 (gt q0_l' n1)]
      exact d_join rfl (sub_ren [0, 1] [0, 1, 4] (by decide) rfl (.cons (.cons .nil)) (Nat.le_of_ble_eq_true rfl))
  · intro s hs5
    refine after_n ?_
    refine W.sub hs5 ?_
    refine w_seq ?_
    obtain ⟨l6, h7, hp⟩ := bnd hp
    refine w_region ?_
    iterate 6 refine o1 rfl ?_
    refine o1 (cut_oft h7) ?_
    iterate 2 refine o1 rfl ?_
    refine o0 rfl ?_
    refine o_end (e' := [(0, .c (.op 0 0)), (1, .c (.d (.lit (.int .i64 i1)))), (4, .c (.d (.lit (.int .i64 (wr .i64 ((q0_l.l.length : Int) - 1))))))]) rfl rfl ?_
    refine after_n ?_
    refine w_seq ?_
    refine w_region ?_
    iterate 2 refine o1 rfl ?_
    refine o1 (v := .c (.d (.lit (.bool (decide (i1 < (wr .i64 ((q0_l.l.length : Int) - 1)))))))) rfl ?_
    refine o_end (e' := [(0, .c (.op 0 0)), (1, .c (.d (.lit (.int .i64 i1)))), (35, .c (.d (.lit (.bool (decide (i1 < (wr .i64 ((q0_l.l.length : Int) - 1))))))))]) rfl rfl ?_
    refine after_n ?_
    refine w_cond (t := decide (i1 < (wr .i64 ((q0_l.l.length : Int) - 1)))) rfl (fun hb8 => ?_) (fun hb8 => ?_)
    · have hp := cnd_t hb8 hp
      refine w_seq ?_
      obtain ⟨⟨q9_l⟩, h10, hp⟩ := bnd hp
      refine w_join (J := fun s => Sub s ⟨[(0, .c (.op 0 0)), (1, .c (.d (.lit (.int .i64 i1))))], [(0, some (.box [slC 1 cI_i64 1 q9_l])), (1, slO 1 cI_i64 q9_l)], 2, [.op 0 0]⟩) ?_ ?_
      · rcases q9_l with _ | q9_l'
        · try dsimp only [slC, slO]
          refine w_region ?_
          iterate 2 refine o1 rfl ?_
          refine oc' (rs := []) (outs := [.pt [.d (.lit (.slice none 0 0))]]) (call_at rfl rfl (ea_mt (p_op rfl (pl_cons (p_s rfl h7) pl_nil)) rfl (ea_c rfl rfl ea_nil)) (wh_op wh_nil) rfl rfl) (heap_Queue_int_up_ok h10) ?_
          exact o_join (sub_ren [0, 9001] [0, 1] (by decide) rfl (.cons (.skip .nil)) (Nat.le_of_ble_eq_true rfl))
        · try dsimp only [slC, slO]
          refine w_region ?_
          iterate 2 refine o1 rfl ?_
          refine oc' (rs := []) (outs := [.pt [slT 1 cI_i64 (Sl.mk q9_l')]]) (call_at rfl rfl (ea_mt (p_op rfl (pl_cons (p_s rfl h7) pl_nil)) rfl (ea_c rfl rfl ea_nil)) (wh_op wh_nil) rfl rfl) (heap_Queue_int_up_ok h10) ?_
          exact o_join (sub_ren [0, 2] [0, 1] (by decide) rfl (.cons (.cons .nil)) (Nat.le_of_ble_eq_true rfl))
      · intro s hs11
        refine after_n ?_
        refine W.sub hs11 ?_
        obtain ⟨⟨q12_l⟩, h13, hp⟩ := bnd hp
        refine w_join (J := fun s => Sub s ⟨[], [(0, some (.box [slC 1 cI_i64 1 q12_l])), (1, slO 1 cI_i64 q12_l)], 2, [.op 0 0]⟩) ?_ ?_
        · rcases q12_l with _ | q12_l' <;> rcases q9_l with _ | q9_l'
          · try dsimp only [slC, slO]
            refine w_region ?_
            iterate 2 refine o1 rfl ?_
            refine oc (rs := []) (outs := [.pt [.d (.lit (.slice none 0 0))]]) rfl (heap_Queue_int_down_ok h13) rfl ?_
            exact o_join (sub_ren [0, 9001] [] (by decide) rfl (.cons (.skip .nil)) (Nat.le_of_ble_eq_true rfl))
          · try dsimp only [slC, slO]
            refine w_region ?_
            iterate 2 refine o1 rfl ?_
            refine oc' (rs := []) (outs := [.pt [.d (.lit (.slice none 0 0))]]) (call_at rfl rfl (ea_mt (p_op rfl (pl_cons (p_o rfl) pl_nil)) rfl (ea_c rfl rfl ea_nil)) (wh_op wh_nil) rfl rfl) (heap_Queue_int_down_ok h13) ?_
            exact o_join (sub_ren [0, 9001] [] (by decide) rfl (.cons (.skip .nil)) (Nat.le_of_ble_eq_true rfl))
          · try dsimp only [slC, slO]
            refine w_region ?_
            iterate 2 refine o1 rfl ?_
            refine oc (rs := []) (outs := [.pt [slT 1 cI_i64 (Sl.mk q12_l')]]) rfl (heap_Queue_int_down_ok h13) rfl ?_
            exact o_join (sub_ren [0, 2] [] (by decide) rfl (.cons (.cons .nil)) (Nat.le_of_ble_eq_true rfl))
          · try dsimp only [slC, slO]
            refine w_region ?_
            iterate 2 refine o1 rfl ?_
            refine oc' (rs := []) (outs := [.pt [slT 1 cI_i64 (Sl.mk q12_l')]]) (call_at rfl rfl (ea_mt (p_op rfl (pl_cons (p_o rfl) pl_nil)) rfl (ea_c rfl rfl ea_nil)) (wh_op wh_nil) rfl rfl) (heap_Queue_int_down_ok h13) ?_
            exact o_join (sub_ren [0, 2] [] (by decide) rfl (.cons (.cons .nil)) (Nat.le_of_ble_eq_true rfl))
        · intro s hs14
          obtain rfl := Option.some.inj hp
          refine wk.sub hs14 ?_
          rcases q12_l with _ | q12_l'
          · exact leave_at rfl rfl pr_nil (pc_cons (p_op rfl (pl_cons p_d pl_nil)) pc_nil) rfl rfl
          · exact leave_at rfl rfl pr_nil (pc_cons (p_op rfl (pl_cons (p_o rfl) pl_nil)) pc_nil) rfl rfl
    · have hp := cnd_f hb8 hp
      refine w_skip ?_
      obtain rfl := Option.some.inj hp
      exact leave_at rfl rfl pr_nil (pc_cons (p_op rfl (pl_cons (p_s rfl h7) pl_nil)) pc_nil) rfl rfl

/- (*turnout/heap.Queue[int]).Pop -/
def k9 : CC :=
  (.seq
  (.region [
    ⟨some 2, .mv, [(.const (.int .i64 0))], none⟩,
    ⟨some 3, .mv, [(.const (.bool false))], none⟩] [0])
  (.seq
  (.region [
    ⟨some 7, .mv, [(.tmp 0)], none⟩,
    ⟨some 8, (.call true []), [(.func 17), (.tmp 7)], none⟩,
    ⟨some 6, .mv, [(.tmp 8)], none⟩,
    ⟨some 9, (.extract 0), [(.tmp 6)], none⟩,
    ⟨some 10, (.extract 1), [(.tmp 6)], none⟩,
    ⟨some 4, .mv, [(.tmp 9)], none⟩,
    ⟨some 5, .mv, [(.tmp 10)], none⟩] [0, 4, 5])
  (.seq
  (.seq
  (.region [
    ⟨some 11, .mv, [(.tmp 5)], none⟩] [0, 4, 5, 11])
  (.cond (.tmp 11)
    (.region [
      ⟨some 12, .mv, [(.tmp 0)], none⟩,
      ⟨some 13, (.call false [true, false]), [(.func 26), (.tmp 12), (.const (.int .i64 0))], none⟩] [4, 5])
    .skip))
  (.seq
  (.region [
    ⟨some 14, .mv, [(.tmp 4)], none⟩,
    ⟨some 15, .mv, [(.tmp 5)], none⟩,
    ⟨some 2, .mv, [(.tmp 14)], none⟩,
    ⟨some 3, .mv, [(.tmp 15)], none⟩] [2, 3])
  .ret))))
def f9 : Ev.Fn := ⟨1, 16, [.tmp 2, .tmp 3], k9⟩
set_option maxRecDepth 100000 in
theorem e9 : compFn prog sig 9 1 [[0], [0, 4, 5], [0, 4, 5, 11], [4, 5], [2, 3]] = some f9 := by kernel_rfl
noncomputable def heap_Queue_int_Pop (q0 : heap_Queue_int) : Option ((Int × Bool × heap_Queue_int)) :=
  match q0 with | ⟨q0_l⟩ => ((heap_Queue_int_Peek (⟨q0_l⟩ : heap_Queue_int)).bind fun (r1, r2) =>
  (bif r2 then ((heap_Queue_int_take (⟨q0_l⟩ : heap_Queue_int) 0).bind fun ⟨q9_l⟩ =>
  some q9_l) else
  (some q0_l) : Option (Sl Int)).bind fun s5 =>
  some (r1, r2, (⟨s5⟩ : heap_Queue_int)))
theorem heap_Queue_int_Pop_ok {q0 : heap_Queue_int} {z : (Int × Bool × heap_Queue_int)} (hp : heap_Queue_int_Pop q0 = some z) : Good prog 9 [.mt (.pt [slT 1 cI_i64 q0.l])] [.c (.d (.lit (.int .i64 z.1))), .c (.d (.lit (.bool z.2.1)))] [.pt [slT 1 cI_i64 z.2.2.l]] := by
  obtain ⟨q0_l⟩ := q0
  unfold heap_Queue_int_Pop at hp
  refine fn_good mixed e9 (fnS (m := [false, false]) (s := ⟨[(0, .c (.op 0 0))], [(0, some (.box [slC 1 cI_i64 1 q0_l])), (1, slO 1 cI_i64 q0_l)], 2, [.op 0 0]⟩) (len := 1) (c := k9) rfl (by rcases q0_l with _ | _ <;> first | (exact sub_ren [0, 9001] [0] (by decide) rfl (.cons (.skip .nil)) (Nat.le_of_ble_eq_true rfl)) | (exact sub_ren [0, 1] [0] (by decide) rfl (.cons (.cons .nil)) (Nat.le_of_ble_eq_true rfl))) rfl rfl ?_)
  refine w_seq ?_
  refine w_region ?_
  iterate 2 refine o1 rfl ?_
  refine o_end (e' := [(0, .c (.op 0 0))]) rfl rfl ?_
  refine after_n ?_
  refine w_seq ?_
  obtain ⟨⟨r1, r2⟩, h3, hp⟩ := bnd hp
  refine w_join (J := fun s => Sub s ⟨[(0, .c (.op 0 0)), (4, .c (.d (.lit (.int .i64 r1)))), (5, .c (.d (.lit (.bool r2))))], [(0, some (.box [slC 1 cI_i64 1 q0_l])), (1, slO 1 cI_i64 q0_l)], 2, [.op 0 0]⟩) ?_ ?_
  · rcases q0_l with _ | q0_l'
    · try dsimp only [slC, slO]
      refine w_region ?_
      refine o1 rfl ?_
      refine oc (rs := [.c (.d (.lit (.int .i64 r1))), .c (.d (.lit (.bool r2)))]) (outs := []) rfl (heap_Queue_int_Peek_ok h3) rfl ?_
      iterate 5 refine o1 rfl ?_
      exact o_join (sub_ren [0, 9001] [0, 4, 5] (by decide) rfl (.cons (.skip .nil)) (Nat.le_of_ble_eq_true rfl))
    · try dsimp only [slC, slO]
      refine w_region ?_
      refine o1 rfl ?_
      refine oc' (rs := [.c (.d (.lit (.int .i64 r1))), .c (.d (.lit (.bool r2)))]) (outs := []) (call_at rfl rfl (ea_c (v_op rfl (vl_cons (v_o rfl) vl_nil)) rfl ea_nil) wh_nil rfl rfl) (heap_Queue_int_Peek_ok h3) ?_
      iterate 5 refine o1 rfl ?_
      exact o_join (sub_ren [0, 1] [0, 4, 5] (by decide) rfl (.cons (.cons .nil)) (Nat.le_of_ble_eq_true rfl))
  · intro s hs4
    refine after_n ?_
    refine W.sub hs4 ?_
    refine w_seq ?_
    obtain ⟨s5, h6, hp⟩ := bnd hp
    refine W.mono (Q := Jn (fun (x : Sl Int) o s => match x with | s5 => o = Out.normal ∧ Sub s ⟨[(4, .c (.d (.lit (.int .i64 r1)))), (5, .c (.d (.lit (.bool r2))))], [(0, some (.box [slC 1 cI_i64 1 s5])), (1, slO 1 cI_i64 s5)], 2, [.op 0 0]⟩) s5) ?_ ?_
    · intro o s hs12
      obtain ⟨rfl, hs12⟩ := hs12
      refine after_n ?_
      refine W.sub hs12 ?_
      refine w_seq ?_
      refine w_region ?_
      iterate 4 refine o1 rfl ?_
      refine o_end (e' := [(2, .c (.d (.lit (.int .i64 r1)))), (3, .c (.d (.lit (.bool r2))))]) rfl rfl ?_
      refine after_n ?_
      refine w_ret ?_
      obtain rfl := Option.some.inj hp
      rcases s5 with _ | s5'
      · exact leave_at rfl rfl (pr_c p_d (pr_c p_d pr_nil)) (pc_cons (p_op rfl (pl_cons p_d pl_nil)) pc_nil) rfl rfl
      · exact leave_at rfl rfl (pr_c p_d (pr_c p_d pr_nil)) (pc_cons (p_op rfl (pl_cons (p_o rfl) pl_nil)) pc_nil) rfl rfl
    · refine w_seq ?_
      refine w_region ?_
      refine o1 rfl ?_
      refine o_end (e' := [(0, .c (.op 0 0)), (4, .c (.d (.lit (.int .i64 r1)))), (5, .c (.d (.lit (.bool r2)))), (11, .c (.d (.lit (.bool r2))))]) rfl rfl ?_
      refine after_n ?_
      refine w_cond (t := r2) rfl (fun hb8 => ?_) (fun hb8 => ?_)
      · have h6 := cnd_t hb8 h6
        obtain ⟨⟨q9_l⟩, h10, h6⟩ := bnd h6
        refine w_join (J := fun s => Sub s ⟨[(4, .c (.d (.lit (.int .i64 r1)))), (5, .c (.d (.lit (.bool r2))))], [(0, some (.box [slC 1 cI_i64 1 q9_l])), (1, slO 1 cI_i64 q9_l)], 2, [.op 0 0]⟩) ?_ ?_
        · rcases q0_l with _ | q0_l' <;> rcases q9_l with _ | q9_l'
          · try dsimp only [slC, slO]
            refine w_region ?_
            refine o1 rfl ?_
            refine oc (rs := []) (outs := [.pt [.d (.lit (.slice none 0 0))]]) rfl (heap_Queue_int_take_ok h10) rfl ?_
            exact o_join (sub_ren [0, 9001] [4, 5] (by decide) rfl (.cons (.skip .nil)) (Nat.le_of_ble_eq_true rfl))
          · try dsimp only [slC, slO]
            refine w_region ?_
            refine o1 rfl ?_
            refine oc (rs := []) (outs := [.pt [slT 1 cI_i64 (Sl.mk q9_l')]]) rfl (heap_Queue_int_take_ok h10) rfl ?_
            exact o_join (sub_ren [0, 2] [4, 5] (by decide) rfl (.cons (.cons .nil)) (Nat.le_of_ble_eq_true rfl))
          · try dsimp only [slC, slO]
            refine w_region ?_
            refine o1 rfl ?_
            refine oc' (rs := []) (outs := [.pt [.d (.lit (.slice none 0 0))]]) (call_at rfl rfl (ea_mt (p_op rfl (pl_cons (p_o rfl) pl_nil)) rfl (ea_c rfl rfl ea_nil)) (wh_op wh_nil) rfl rfl) (heap_Queue_int_take_ok h10) ?_
            exact o_join (sub_ren [0, 9001] [4, 5] (by decide) rfl (.cons (.skip .nil)) (Nat.le_of_ble_eq_true rfl))
          · try dsimp only [slC, slO]
            refine w_region ?_
            refine o1 rfl ?_
            refine oc' (rs := []) (outs := [.pt [slT 1 cI_i64 (Sl.mk q9_l')]]) (call_at rfl rfl (ea_mt (p_op rfl (pl_cons (p_o rfl) pl_nil)) rfl (ea_c rfl rfl ea_nil)) (wh_op wh_nil) rfl rfl) (heap_Queue_int_take_ok h10) ?_
            exact o_join (sub_ren [0, 2] [4, 5] (by decide) rfl (.cons (.cons .nil)) (Nat.le_of_ble_eq_true rfl))
        · intro s hs11
          obtain rfl := Option.some.inj h6
          exact And.intro rfl (Sub.trans hs11 (by rcases q9_l with _ | _ <;> first | (exact sub_ren [0, 9001] [4, 5] (by decide) rfl (.cons (.skip .nil)) (Nat.le_of_ble_eq_true rfl)) | (exact sub_ren [0, 1] [4, 5] (by decide) rfl (.cons (.cons .nil)) (Nat.le_of_ble_eq_true rfl))))
      · have h6 := cnd_f hb8 h6
        refine w_skip ?_
        obtain rfl := Option.some.inj h6
        exact And.intro rfl (by rcases q0_l with _ | _ <;> first | (exact sub_ren [0, 9001] [4, 5] (by decide) rfl (.cons (.skip .nil)) (Nat.le_of_ble_eq_true rfl)) | (exact sub_ren [0, 1] [4, 5] (by decide) rfl (.cons (.cons .nil)) (Nat.le_of_ble_eq_true rfl)))

/- turnout/turnoutref13.Pop -/
def k11 : CC :=
  (.seq
  (.region [
    ⟨some 2, .mv, [(.const (.int .i64 0))], none⟩,
    ⟨some 3, .mv, [(.const (.slice none 0 0))], none⟩,
    ⟨some 4, .mv, [(.const (.bool false))], none⟩] [0])
  (.seq
  (.seq
  (.region [
    ⟨some 5, .mv, [(.tmp 0)], none⟩,
    ⟨some 6, (.len false), [(.tmp 5)], none⟩,
    ⟨some 7, (.bin .eql), [(.tmp 6), (.const (.int .i64 0))], none⟩] [0, 7])
  (.cond (.tmp 7)
    (.seq
    (.region [
      ⟨some 2, .mv, [(.const (.int .i64 0))], none⟩,
      ⟨some 3, .mv, [(.const (.slice none 0 0))], none⟩,
      ⟨some 4, .mv, [(.const (.bool false))], none⟩] [2, 3, 4])
    .ret)
    .skip))
  (.seq
  (.drawn [
    ⟨some 8, .mv, [(.tmp 0)], none⟩,
    ⟨some 9, (.indexAddr none 1), [(.tmp 8), (.const (.int .i64 0))], none⟩,
    ⟨some 10, (.load false 1), [(.tmp 9)], none⟩,
    ⟨some 11, .mv, [(.tmp 0)], none⟩,
    ⟨some 12, (.slice false 1 true false), [(.tmp 11), (.const (.int .i64 1))], none⟩,
    ⟨some 2, .mv, [(.tmp 10)], none⟩,
    ⟨some 3, .mv, [(.tmp 12)], none⟩,
    ⟨some 4, .mv, [(.const (.bool true))], none⟩] [] [2, 3, 4])
  .ret)))
def f11 : Ev.Fn := ⟨1, 13, [.tmp 2, .tmp 3, .tmp 4], k11⟩
set_option maxRecDepth 100000 in
theorem e11 : compFn prog sig 11 1 [[0], [0, 7], [2, 3, 4], [2, 3, 4]] = some f11 := by kernel_rfl
noncomputable def ref13_Pop (l0 : Sl Int) : Option ((Int × Sl Int × Bool)) :=
  bif ((l0.l.length : Int) == 0) then (some (0, Sl.nil, false)) else
  ((ixI 0 l0.l.length).bind fun n2 =>
  (cutI l0.l 1 l0.l.length).bind fun l4 =>
  some (gt l0.l n2, (l0.to l4), true))
theorem ref13_Pop_ok {l0 : Sl Int} {z : (Int × Sl Int × Bool)} (hp : ref13_Pop l0 = some z) : Good prog 11 [.d (slD 1 cI_i64 l0)] [.c (.d (.lit (.int .i64 z.1))), .c (.d (slD 1 cI_i64 z.2.1)), .c (.d (.lit (.bool z.2.2)))] [] := by
  unfold ref13_Pop at hp
  refine fn_good mixed e11 (fnS (m := [false, true, false]) (s := ⟨[(0, .c (.d (slD 1 cI_i64 l0)))], [], 0, []⟩) (len := 0) (c := k11) rfl (Sub.of_eq rfl) rfl rfl ?_)
  refine w_seq ?_
  refine w_region ?_
  iterate 3 refine o1 rfl ?_
  refine o_end (e' := [(0, .c (.d (slD 1 cI_i64 l0)))]) rfl rfl ?_
  refine after_n ?_
  refine w_seq ?_
  refine w_seq ?_
  refine w_region ?_
  refine o1 rfl ?_
  refine o1 (v := .c (.d (.lit (.int .i64 (l0.l.length : Int))))) len_sd ?_
  refine o1 (v := .c (.d (.lit (.bool ((l0.l.length : Int) == 0))))) rfl ?_
  refine o_end (e' := [(0, .c (.d (slD 1 cI_i64 l0))), (7, .c (.d (.lit (.bool ((l0.l.length : Int) == 0)))))]) rfl rfl ?_
  refine after_n ?_
  refine w_cond (t := ((l0.l.length : Int) == 0)) rfl (fun hb1 => ?_) (fun hb1 => ?_)
  · have hp := cnd_t hb1 hp
    refine w_seq ?_
    refine w_region ?_
    iterate 3 refine o1 rfl ?_
    refine o_end (e' := [(2, .c (.d (.lit (.int .i64 0)))), (3, .c (.d (.lit (.slice none 0 0)))), (4, .c (.d (.lit (.bool false))))]) rfl rfl ?_
    refine after_n ?_
    refine w_ret ?_
    refine after_r ?_
    obtain rfl := Option.some.inj hp
    exact leave_at rfl rfl (pr_c p_d (pr_c p_d (pr_c p_d pr_nil))) pc_nil rfl rfl
  · have hp := cnd_f hb1 hp
    refine w_skip ?_
    refine after_n ?_
    refine w_seq ?_
    obtain ⟨n2, h3, hp⟩ := bnd hp
    obtain ⟨l4, h5, hp⟩ := bnd hp
    refine w_drawn ?_
    refine d1 rfl ?_
    refine d1 (ix_sd h3) ?_
    iterate 2 refine d1 rfl ?_
    refine d1 (cut_sdtf h5) ?_
    iterate 3 refine d1 rfl ?_
    refine d_fin (e' := [(2, .c (.d (.lit (.int .i64 (gt l0.l n2))))), (3, .c (.d (slD 1 cI_i64 (l0.to l4)))), (4, .c (.d (.lit (.bool true))))]) (n' := 512) rfl rfl rfl rfl ?_
    refine after_n ?_
    refine w_ret ?_
    obtain rfl := Option.some.inj hp
    exact leave_at rfl rfl (pr_c p_d (pr_c p_d (pr_c p_d pr_nil))) pc_nil rfl rfl

/- turnout/turnoutref13.Drain -/
def k12 : CC :=
  (.seq
  (.region [
    ⟨some 4, .mv, [(.const (.slice none 0 0))], none⟩,
    ⟨some 5, .mv, [(.const (.slice none 0 0))], none⟩] [0, 1])
  (.seq
  (.region [
    ⟨some 6, .mv, [(.const (.int .i64 0))], none⟩] [0, 1, 6])
  (.seq
  (.block 0
    (.loop [0, 1, 6]
      (.seq
      (.seq
      (.region [
        ⟨some 7, .mv, [(.tmp 6)], none⟩,
        ⟨some 8, .mv, [(.tmp 0)], none⟩,
        ⟨some 9, (.len false), [(.tmp 8)], none⟩,
        ⟨some 10, (.bin .lss), [(.tmp 7), (.tmp 9)], none⟩,
        ⟨some 11, .mv, [(.tmp 10)], none⟩,
        ⟨some 12, .mv, [(.tmp 0)], (some (11, true))⟩,
        ⟨some 13, .mv, [(.tmp 6)], (some (11, true))⟩,
        ⟨some 14, (.indexAddr none 1), [(.tmp 12), (.tmp 13)], (some (11, true))⟩,
        ⟨some 15, (.load false 1), [(.tmp 14)], (some (11, true))⟩,
        ⟨some 16, .mv, [(.tmp 1)], (some (11, true))⟩,
        ⟨some 17, (.bin .leq), [(.tmp 15), (.tmp 16)], (some (11, true))⟩,
        ⟨some 18, .pick, [(.tmp 11), (.tmp 17), (.const (.bool false))], none⟩] [0, 1, 6, 18])
      (.cond (.tmp 18)
        .skip
        (.exit 0)))
      (.block 1
        (.region [
          ⟨some 19, .mv, [(.tmp 6)], none⟩,
          ⟨some 20, (.bin .add), [(.tmp 19), (.const (.int .i64 1))], none⟩,
          ⟨some 6, .mv, [(.tmp 20)], none⟩] [0, 1, 6])))))
  (.seq
  (.drawn [
    ⟨some 21, .mv, [(.tmp 0)], none⟩,
    ⟨some 22, .mv, [(.tmp 6)], none⟩,
    ⟨some 23, (.slice false 1 false true), [(.tmp 21), (.tmp 22)], none⟩,
    ⟨some 24, .mv, [(.tmp 0)], none⟩,
    ⟨some 25, .mv, [(.tmp 6)], none⟩,
    ⟨some 26, (.slice false 1 true false), [(.tmp 24), (.tmp 25)], none⟩,
    ⟨some 4, .mv, [(.tmp 23)], none⟩,
    ⟨some 5, .mv, [(.tmp 26)], none⟩] [] [4, 5])
  .ret))))
def f12 : Ev.Fn := ⟨2, 27, [.tmp 4, .tmp 5], k12⟩
set_option maxRecDepth 100000 in
theorem e12 : compFn prog sig 12 2 [[0, 1], [0, 1, 6], [0, 1, 6], [0, 1, 6, 18], [0, 1, 6], [4, 5]] = some f12 := by kernel_rfl
noncomputable def ref13_Drain_L1 (l0 : Sl Int) (most1 : Int) : Int → Option (Sum (Int) (Int)) := fun i1 =>
  (bif decide (i1 < (l0.l.length : Int)) then ((ixI i1 l0.l.length).bind fun n6 =>
  some (decide ((gt l0.l n6) ≤ most1))) else (some false)).bind fun b8 =>
  bif b8 then (some (.inl (wr .i64 (i1 + 1)))) else
  (some (.inr i1))

noncomputable def ref13_Drain (l0 : Sl Int) (most1 : Int) : Option ((Sl Int × Sl Int)) :=
  (loopO (ref13_Drain_L1 l0 most1) 0).bind fun i3 =>
  (cutI l0.l 0 i3).bind fun l14 =>
  (cutI l0.l i3 l0.l.length).bind fun l16 =>
  some ((l0.to l14), (l0.to l16))
theorem ref13_Drain_ok {l0 : Sl Int} {most1 : Int} {z : (Sl Int × Sl Int)} (hp : ref13_Drain l0 most1 = some z) : Good prog 12 [.d (slD 1 cI_i64 l0), .d (.lit (.int .i64 most1))] [.c (.d (slD 1 cI_i64 z.1)), .c (.d (slD 1 cI_i64 z.2))] [] := by
  unfold ref13_Drain at hp
  refine fn_good mixed e12 (fnS (m := [true, true]) (s := ⟨[(0, .c (.d (slD 1 cI_i64 l0))), (1, .c (.d (.lit (.int .i64 most1))))], [], 0, []⟩) (len := 0) (c := k12) rfl (Sub.of_eq rfl) rfl rfl ?_)
  refine w_seq ?_
  refine w_region ?_
  iterate 2 refine o1 rfl ?_
  refine o_end (e' := [(0, .c (.d (slD 1 cI_i64 l0))), (1, .c (.d (.lit (.int .i64 most1))))]) rfl rfl ?_
  refine after_n ?_
  refine w_seq ?_
  refine w_region ?_
  refine o1 rfl ?_
  refine o_end (e' := [(0, .c (.d (slD 1 cI_i64 l0))), (1, .c (.d (.lit (.int .i64 most1)))), (6, .c (.d (.lit (.int .i64 0))))]) rfl rfl ?_
  refine after_n ?_
  refine w_seq ?_
  refine w_block ?_
  obtain ⟨i3, h5, hp⟩ := bnd hp
  refine W.mono ?_ (w_loopS (st := fun (v : Int) => match v with | i1 => ⟨[(0, .c (.d (slD 1 cI_i64 l0))), (1, .c (.d (.lit (.int .i64 most1)))), (6, .c (.d (.lit (.int .i64 i1))))], [], 0, []⟩) (a := 0) (Q := Jn (fun (x : Int) o s => match x with | i3 => o = Out.exit 0 ∧ Sub s ⟨[(0, .c (.d (slD 1 cI_i64 l0))), (6, .c (.d (.lit (.int .i64 i3))))], [], 0, []⟩)) ?_ h5 ?_)
  · intro o s hs13
    obtain ⟨rfl, hs13⟩ := hs13
    refine out_e ?_
    refine after_n ?_
    refine W.sub hs13 ?_
    refine w_seq ?_
    obtain ⟨l14, h15, hp⟩ := bnd hp
    obtain ⟨l16, h17, hp⟩ := bnd hp
    refine w_drawn ?_
    iterate 2 refine d1 rfl ?_
    refine d1 (cut_sdft h15) ?_
    iterate 2 refine d1 rfl ?_
    refine d1 (cut_sdtf h17) ?_
    iterate 2 refine d1 rfl ?_
    refine d_fin (e' := [(4, .c (.d (slD 1 cI_i64 (l0.to l14)))), (5, .c (.d (slD 1 cI_i64 (l0.to l16))))]) (n' := 512) rfl rfl rfl rfl ?_
    refine after_n ?_
    refine w_ret ?_
    obtain rfl := Option.some.inj hp
    exact leave_at rfl rfl (pr_c p_d (pr_c p_d pr_nil)) pc_nil rfl rfl
  · exact (sub_ren [] [0, 1, 6] (by decide) rfl .nil (Nat.le_of_ble_eq_true rfl))
  · rintro i1 r hr
    unfold ref13_Drain_L1 at hr
    refine w_seq ?_
    refine w_seq ?_
    obtain ⟨b8, h9, hr⟩ := bnd hr
    refine w_join (J := fun s => Sub s ⟨[(0, .c (.d (slD 1 cI_i64 l0))), (1, .c (.d (.lit (.int .i64 most1)))), (6, .c (.d (.lit (.int .i64 i1)))), (18, .c (.d (.lit (.bool b8))))], [], 0, []⟩) ?_ ?_
    · refine w_region ?_
      iterate 2 refine o1 rfl ?_
      refine o1 (v := .c (.d (.lit (.int .i64 (l0.l.length : Int))))) len_sd ?_
      refine o1 (v := .c (.d (.lit (.bool (decide (i1 < (l0.l.length : Int))))))) rfl ?_
      refine o1 rfl ?_
      cases hb10 : (decide (i1 < (l0.l.length : Int)) : Bool)
      · have h9 := cnd_f hb10 h9
        iterate 6 refine onot rfl rfl ?_
        refine o1 rfl ?_
        cases h9
        exact o_join (sub_ren [] [0, 1, 6, 18] (by decide) rfl .nil (Nat.le_of_ble_eq_true rfl))
      · have h9 := cnd_t hb10 h9
        obtain ⟨n6, h7, h9⟩ := bnd h9
        iterate 2 refine og rfl rfl rfl ?_
        refine og rfl rfl (ix_sd h7) ?_
        iterate 2 refine og rfl rfl rfl ?_
        refine og (v := .c (.d (.lit (.bool (decide ((gt l0.l n6) ≤ most1)))))) rfl rfl rfl ?_
        refine o1 rfl ?_
        cases h9
        exact o_join (sub_ren [] [0, 1, 6, 18] (by decide) rfl .nil (Nat.le_of_ble_eq_true rfl))
    · intro s hs11
      refine after_n ?_
      refine W.sub hs11 ?_
      refine w_cond (t := b8) rfl (fun hb12 => ?_) (fun hb12 => ?_)
      · have hr := cnd_t hb12 hr
        refine w_skip ?_
        refine after_n ?_
        refine w_block ?_
        refine w_region ?_
        refine o1 rfl ?_
        refine o1 (v := .c (.d (.lit (.int .i64 (wr .i64 (i1 + 1)))))) rfl ?_
        refine o1 rfl ?_
        refine o_end (e' := [(0, .c (.d (slD 1 cI_i64 l0))), (1, .c (.d (.lit (.int .i64 most1)))), (6, .c (.d (.lit (.int .i64 (wr .i64 (i1 + 1))))))]) rfl rfl ?_
        refine out_n ?_
        obtain rfl := Option.some.inj hr
        exact And.intro rfl (sub_ren [] [0, 1, 6] (by decide) rfl .nil (Nat.le_of_ble_eq_true rfl))
      · have hr := cnd_f hb12 hr
        refine w_exit ?_
        refine after_e ?_
        obtain rfl := Option.some.inj hr
        exact And.intro nofun (And.intro rfl (sub_ren [] [0, 6] (by decide) rfl .nil (Nat.le_of_ble_eq_true rfl)))

/- (*turnout/heap.Queue[int]).Drain -/
def k14 : CC :=
  (.seq
  (.region [
    ⟨some 4, .mv, [(.const (.slice none 0 0))], none⟩] [0, 1])
  (.seq
  (.region [
    ⟨some 5, .mv, [(.const (.slice none 0 0))], none⟩] [0, 1, 5])
  (.block 0
    (.loop [0, 1, 5]
      (.block 1
        (.seq
        (.region [
          ⟨some 9, .mv, [(.tmp 0)], none⟩,
          ⟨some 10, (.call true []), [(.func 17), (.tmp 9)], none⟩,
          ⟨some 8, .mv, [(.tmp 10)], none⟩,
          ⟨some 11, (.extract 0), [(.tmp 8)], none⟩,
          ⟨some 12, (.extract 1), [(.tmp 8)], none⟩,
          ⟨some 6, .mv, [(.tmp 11)], none⟩,
          ⟨some 7, .mv, [(.tmp 12)], none⟩] [0, 1, 5, 6, 7])
        (.seq
        (.seq
        (.region [
          ⟨some 13, .mv, [(.tmp 7)], none⟩,
          ⟨some 14, (.un .not), [(.tmp 13)], none⟩,
          ⟨some 15, .mv, [(.tmp 14)], none⟩,
          ⟨some 16, .mv, [(.tmp 1)], (some (15, false))⟩,
          ⟨some 17, .mv, [(.tmp 6)], (some (15, false))⟩,
          ⟨some 18, (.call true []), [(.func 27), (.tmp 16), (.tmp 17)], (some (15, false))⟩,
          ⟨some 19, .pick, [(.tmp 15), (.const (.bool true)), (.tmp 18)], none⟩] [0, 1, 5, 6, 19])
        (.cond (.tmp 19)
          (.seq
          (.region [
            ⟨some 20, .mv, [(.tmp 5)], none⟩,
            ⟨some 4, .mv, [(.tmp 20)], none⟩] [4])
          .ret)
          .skip))
        (.seq
        (.region [
          ⟨some 21, .mv, [(.tmp 0)], none⟩,
          ⟨some 22, (.call false [true, false]), [(.func 26), (.tmp 21), (.const (.int .i64 0))], none⟩] [0, 1, 5, 6])
        (.region [
          ⟨some 23, .mv, [(.tmp 5)], none⟩,
          ⟨some 24, .mv, [(.tmp 6)], none⟩,
          ⟨some 25, (.buildSlice 1 1 [(.int .i64 0)] [0]), [(.tmp 24)], none⟩,
          ⟨some 26, (.append 1), [(.tmp 23), (.tmp 25)], none⟩,
          ⟨some 5, .mv, [(.tmp 26)], none⟩] [0, 1, 5])))))))))
def f14 : Ev.Fn := ⟨2, 27, [.tmp 4], k14⟩
set_option maxRecDepth 100000 in
theorem e14 : compFn prog sig 14 2 [[0, 1], [0, 1, 5], [0, 1, 5], [0, 1, 5, 6, 7], [0, 1, 5, 6, 19], [4], [0, 1, 5, 6], [0, 1, 5]] = some f14 := by kernel_rfl
noncomputable def heap_Queue_int_Drain_L1 (most1 : Int) : (Sl Int × Sl Int) → Option (Sum ((Sl Int × Sl Int)) ((Sl Int × Sl Int))) := fun (s1, s2) =>
  (heap_Queue_int_Peek (⟨s1⟩ : heap_Queue_int)).bind fun (r9, r10) =>
  (bif (!r10) then (some true) else ((cmp_Less_int most1 r9).bind fun r13 =>
  some r13)).bind fun b15 =>
  bif b15 then (some (.inr (s1, s2))) else
  ((heap_Queue_int_take (⟨s1⟩ : heap_Queue_int) 0).bind fun ⟨q20_l⟩ =>
  (capI (s2.l ++ [r9])).bind fun l23 =>
  some (.inl (q20_l, (Sl.mk l23))))

noncomputable def heap_Queue_int_Drain (q0 : heap_Queue_int) (most1 : Int) : Option ((Sl Int × heap_Queue_int)) :=
  match q0 with | ⟨q0_l⟩ => ((loopO (heap_Queue_int_Drain_L1 most1) (q0_l, Sl.nil)).bind fun (s5, s6) =>
  some (s6, (⟨s5⟩ : heap_Queue_int)))
theorem heap_Queue_int_Drain_ok {q0 : heap_Queue_int} {most1 : Int} {z : (Sl Int × heap_Queue_int)} (hp : heap_Queue_int_Drain q0 most1 = some z) : Good prog 14 [.mt (.pt [slT 1 cI_i64 q0.l]), .d (.lit (.int .i64 most1))] [.c (.d (slD 1 cI_i64 z.1))] [.pt [slT 1 cI_i64 z.2.l]] := by
  obtain ⟨q0_l⟩ := q0
  unfold heap_Queue_int_Drain at hp
  refine fn_good mixed e14 (fnS (m := [true]) (s := ⟨[(0, .c (.op 0 0)), (1, .c (.d (.lit (.int .i64 most1))))], [(0, some (.box [slC 1 cI_i64 1 q0_l])), (1, slO 1 cI_i64 q0_l)], 2, [.op 0 0]⟩) (len := 1) (c := k14) rfl (by rcases q0_l with _ | _ <;> first | (exact sub_ren [0, 9001] [0, 1] (by decide) rfl (.cons (.skip .nil)) (Nat.le_of_ble_eq_true rfl)) | (exact sub_ren [0, 1] [0, 1] (by decide) rfl (.cons (.cons .nil)) (Nat.le_of_ble_eq_true rfl))) rfl rfl ?_)
  refine w_seq ?_
  refine w_region ?_
  refine o1 rfl ?_
  refine o_end (e' := [(0, .c (.op 0 0)), (1, .c (.d (.lit (.int .i64 most1))))]) rfl rfl ?_
  refine after_n ?_
  refine w_seq ?_
  refine w_region ?_
  refine o1 rfl ?_
  refine o_end (e' := [(0, .c (.op 0 0)), (1, .c (.d (.lit (.int .i64 most1)))), (5, .c (.d (.lit (.slice none 0 0))))]) rfl rfl ?_
  refine after_n ?_
  refine w_block ?_
  obtain ⟨x7, h8, hp⟩ := bnd hp
  refine W.mono ?_ (w_loopS (st := fun (v : (Sl Int × Sl Int)) => match v with | (s1, s2) => ⟨[(0, .c (.op 0 0)), (1, .c (.d (.lit (.int .i64 most1)))), (5, .c (slC 1 cI_i64 2 s2))], [(0, some (.box [slC 1 cI_i64 1 s1])), (1, slO 1 cI_i64 s1), (2, slO 1 cI_i64 s2)], 3, [.op 0 0]⟩) (a := (q0_l, Sl.nil)) (Q := Jn (fun (x : (Sl Int × Sl Int)) o s => match x with | (s5, s6) => o = Out.ret ∧ Sub s ⟨[(4, .c (slC 1 cI_i64 2 s6))], [(0, some (.box [slC 1 cI_i64 1 s5])), (1, slO 1 cI_i64 s5), (2, slO 1 cI_i64 s6)], 3, [.op 0 0]⟩)) ?_ h8 ?_)
  · intro o s hs26
    obtain ⟨s5, s6⟩ := x7
    obtain ⟨rfl, hs26⟩ := hs26
    refine out_r ?_
    obtain rfl := Option.some.inj hp
    refine wk.sub hs26 ?_
    rcases s6 with _ | s6' <;> rcases s5 with _ | s5'
    · exact leave_at rfl rfl (pr_c p_d pr_nil) (pc_cons (p_op rfl (pl_cons p_d pl_nil)) pc_nil) rfl rfl
    · exact leave_at rfl rfl (pr_c p_d pr_nil) (pc_cons (p_op rfl (pl_cons (p_o rfl) pl_nil)) pc_nil) rfl rfl
    · exact leave_at rfl rfl (pr_c (p_o rfl) pr_nil) (pc_cons (p_op rfl (pl_cons p_d pl_nil)) pc_nil) rfl rfl
    · exact leave_at rfl rfl (pr_c (p_o rfl) pr_nil) (pc_cons (p_op rfl (pl_cons (p_o rfl) pl_nil)) pc_nil) rfl rfl
  · exact (by rcases q0_l with _ | _ <;> first | (exact sub_ren [0, 9001, 9002] [0, 1, 5] (by decide) rfl (.cons (.skip (.skip .nil))) (Nat.le_of_ble_eq_true rfl)) | (exact sub_ren [0, 1, 9002] [0, 1, 5] (by decide) rfl (.cons (.cons (.skip .nil))) (Nat.le_of_ble_eq_true rfl)))
  · rintro ⟨s1, s2⟩ r hr
    unfold heap_Queue_int_Drain_L1 at hr
    refine w_block ?_
    refine w_seq ?_
    obtain ⟨⟨r9, r10⟩, h11, hr⟩ := bnd hr
    refine w_join (J := fun s => Sub s ⟨[(0, .c (.op 0 0)), (1, .c (.d (.lit (.int .i64 most1)))), (5, .c (slC 1 cI_i64 2 s2)), (6, .c (.d (.lit (.int .i64 r9)))), (7, .c (.d (.lit (.bool r10))))], [(0, some (.box [slC 1 cI_i64 1 s1])), (1, slO 1 cI_i64 s1), (2, slO 1 cI_i64 s2)], 3, [.op 0 0]⟩) ?_ ?_
    · rcases s1 with _ | s1'
      · try dsimp only [slC, slO]
        refine w_region ?_
        refine o1 rfl ?_
        refine oc (rs := [.c (.d (.lit (.int .i64 r9))), .c (.d (.lit (.bool r10)))]) (outs := []) rfl (heap_Queue_int_Peek_ok h11) rfl ?_
        iterate 5 refine o1 rfl ?_
        exact o_join (by rcases s2 with _ | _ <;> first | (exact sub_ren [0, 9001, 9002] [0, 1, 5, 6, 7] (by decide) rfl (.cons (.skip (.skip .nil))) (Nat.le_of_ble_eq_true rfl)) | (exact sub_ren [0, 9001, 2] [0, 1, 5, 6, 7] (by decide) rfl (.cons (.skip (.cons .nil))) (Nat.le_of_ble_eq_true rfl)))
      · try dsimp only [slC, slO]
        refine w_region ?_
        refine o1 rfl ?_
        refine oc' (rs := [.c (.d (.lit (.int .i64 r9))), .c (.d (.lit (.bool r10)))]) (outs := []) (call_at rfl rfl (ea_c (v_op rfl (vl_cons (v_o rfl) vl_nil)) rfl ea_nil) wh_nil rfl rfl) (heap_Queue_int_Peek_ok h11) ?_
        iterate 5 refine o1 rfl ?_
        exact o_join (by rcases s2 with _ | _ <;> first | (exact sub_ren [0, 1, 9002] [0, 1, 5, 6, 7] (by decide) rfl (.cons (.cons (.skip .nil))) (Nat.le_of_ble_eq_true rfl)) | (exact sub_ren [0, 1, 2] [0, 1, 5, 6, 7] (by decide) rfl (.cons (.cons (.cons .nil))) (Nat.le_of_ble_eq_true rfl)))
    · intro s hs12
      refine after_n ?_
      refine W.sub hs12 ?_
      refine w_seq ?_
      refine w_seq ?_
      obtain ⟨b15, h16, hr⟩ := bnd hr
      refine w_join (J := fun s => Sub s ⟨[(0, .c (.op 0 0)), (1, .c (.d (.lit (.int .i64 most1)))), (5, .c (slC 1 cI_i64 2 s2)), (6, .c (.d (.lit (.int .i64 r9)))), (19, .c (.d (.lit (.bool b15))))], [(0, some (.box [slC 1 cI_i64 1 s1])), (1, slO 1 cI_i64 s1), (2, slO 1 cI_i64 s2)], 3, [.op 0 0]⟩) ?_ ?_
      · refine w_region ?_
        refine o1 rfl ?_
        refine o1 (v := .c (.d (.lit (.bool (!r10))))) rfl ?_
        refine o1 rfl ?_
        cases hb17 : ((!r10) : Bool)
        · have h16 := cnd_f hb17 h16
          obtain ⟨r13, h14, h16⟩ := bnd h16
          iterate 2 refine og rfl rfl rfl ?_
          refine ocg (rs := [.c (.d (.lit (.bool r13)))]) (outs := []) rfl rfl rfl (cmp_Less_int_ok h14) rfl ?_
          refine o1 rfl ?_
          cases h16
          exact o_join (by rcases s1 with _ | _ <;> rcases s2 with _ | _ <;> first | (exact sub_ren [0, 9001, 9002] [0, 1, 5, 6, 19] (by decide) rfl (.cons (.skip (.skip .nil))) (Nat.le_of_ble_eq_true rfl)) | (exact sub_ren [0, 9001, 2] [0, 1, 5, 6, 19] (by decide) rfl (.cons (.skip (.cons .nil))) (Nat.le_of_ble_eq_true rfl)) | (exact sub_ren [0, 1, 9002] [0, 1, 5, 6, 19] (by decide) rfl (.cons (.cons (.skip .nil))) (Nat.le_of_ble_eq_true rfl)) | (exact sub_ren [0, 1, 2] [0, 1, 5, 6, 19] (by decide) rfl (.cons (.cons (.cons .nil))) (Nat.le_of_ble_eq_true rfl)))
        · have h16 := cnd_t hb17 h16
          iterate 3 refine onot rfl rfl ?_
          refine o1 rfl ?_
          cases h16
          exact o_join (by rcases s1 with _ | _ <;> rcases s2 with _ | _ <;> first | (exact sub_ren [0, 9001, 9002] [0, 1, 5, 6, 19] (by decide) rfl (.cons (.skip (.skip .nil))) (Nat.le_of_ble_eq_true rfl)) | (exact sub_ren [0, 9001, 2] [0, 1, 5, 6, 19] (by decide) rfl (.cons (.skip (.cons .nil))) (Nat.le_of_ble_eq_true rfl)) | (exact sub_ren [0, 1, 9002] [0, 1, 5, 6, 19] (by decide) rfl (.cons (.cons (.skip .nil))) (Nat.le_of_ble_eq_true rfl)) | (exact sub_ren [0, 1, 2] [0, 1, 5, 6, 19] (by decide) rfl (.cons (.cons (.cons .nil))) (Nat.le_of_ble_eq_true rfl)))
      · intro s hs18
        refine after_n ?_
        refine W.sub hs18 ?_
        refine w_cond (t := b15) rfl (fun hb19 => ?_) (fun hb19 => ?_)
        · have hr := cnd_t hb19 hr
          refine w_seq ?_
          refine w_region ?_
          iterate 2 refine o1 rfl ?_
          refine o_end (e' := [(4, .c (slC 1 cI_i64 2 s2))]) rfl rfl ?_
          refine after_n ?_
          refine w_ret ?_
          refine after_r ?_
          refine out_r ?_
          obtain rfl := Option.some.inj hr
          exact And.intro nofun (And.intro rfl (by rcases s1 with _ | _ <;> rcases s2 with _ | _ <;> first | (exact sub_ren [0, 9001, 9002] [4] (by decide) rfl (.cons (.skip (.skip .nil))) (Nat.le_of_ble_eq_true rfl)) | (exact sub_ren [0, 9001, 2] [4] (by decide) rfl (.cons (.skip (.cons .nil))) (Nat.le_of_ble_eq_true rfl)) | (exact sub_ren [0, 1, 9002] [4] (by decide) rfl (.cons (.cons (.skip .nil))) (Nat.le_of_ble_eq_true rfl)) | (exact sub_ren [0, 1, 2] [4] (by decide) rfl (.cons (.cons (.cons .nil))) (Nat.le_of_ble_eq_true rfl))))
        · have hr := cnd_f hb19 hr
          refine w_skip ?_
          refine after_n ?_
          refine w_seq ?_
          obtain ⟨⟨q20_l⟩, h21, hr⟩ := bnd hr
          refine w_join (J := fun s => Sub s ⟨[(0, .c (.op 0 0)), (1, .c (.d (.lit (.int .i64 most1)))), (5, .c (slC 1 cI_i64 2 s2)), (6, .c (.d (.lit (.int .i64 r9))))], [(0, some (.box [slC 1 cI_i64 1 q20_l])), (1, slO 1 cI_i64 q20_l), (2, slO 1 cI_i64 s2)], 3, [.op 0 0]⟩) ?_ ?_
          · rcases q20_l with _ | q20_l' <;> rcases s1 with _ | s1'
            · try dsimp only [slC, slO]
              refine w_region ?_
              refine o1 rfl ?_
              refine oc (rs := []) (outs := [.pt [.d (.lit (.slice none 0 0))]]) rfl (heap_Queue_int_take_ok h21) rfl ?_
              exact o_join (by rcases s2 with _ | _ <;> first | (exact sub_ren [0, 9001, 9002] [0, 1, 5, 6] (by decide) rfl (.cons (.skip (.skip .nil))) (Nat.le_of_ble_eq_true rfl)) | (exact sub_ren [0, 9001, 2] [0, 1, 5, 6] (by decide) rfl (.cons (.skip (.cons .nil))) (Nat.le_of_ble_eq_true rfl)))
            · try dsimp only [slC, slO]
              refine w_region ?_
              refine o1 rfl ?_
              refine oc' (rs := []) (outs := [.pt [.d (.lit (.slice none 0 0))]]) (call_at rfl rfl (ea_mt (p_op rfl (pl_cons (p_o rfl) pl_nil)) rfl (ea_c rfl rfl ea_nil)) (wh_op wh_nil) rfl rfl) (heap_Queue_int_take_ok h21) ?_
              exact o_join (by rcases s2 with _ | _ <;> first | (exact sub_ren [0, 9001, 9002] [0, 1, 5, 6] (by decide) rfl (.cons (.skip (.skip .nil))) (Nat.le_of_ble_eq_true rfl)) | (exact sub_ren [0, 9001, 2] [0, 1, 5, 6] (by decide) rfl (.cons (.skip (.cons .nil))) (Nat.le_of_ble_eq_true rfl)))
            · try dsimp only [slC, slO]
              refine w_region ?_
              refine o1 rfl ?_
              refine oc (rs := []) (outs := [.pt [slT 1 cI_i64 (Sl.mk q20_l')]]) rfl (heap_Queue_int_take_ok h21) rfl ?_
              exact o_join (by rcases s2 with _ | _ <;> first | (exact sub_ren [0, 3, 9002] [0, 1, 5, 6] (by decide) rfl (.cons (.cons (.skip .nil))) (Nat.le_of_ble_eq_true rfl)) | (exact sub_ren [0, 3, 2] [0, 1, 5, 6] (by decide) rfl (.cons (.cons (.cons .nil))) (Nat.le_of_ble_eq_true rfl)))
            · try dsimp only [slC, slO]
              refine w_region ?_
              refine o1 rfl ?_
              refine oc' (rs := []) (outs := [.pt [slT 1 cI_i64 (Sl.mk q20_l')]]) (call_at rfl rfl (ea_mt (p_op rfl (pl_cons (p_o rfl) pl_nil)) rfl (ea_c rfl rfl ea_nil)) (wh_op wh_nil) rfl rfl) (heap_Queue_int_take_ok h21) ?_
              exact o_join (by rcases s2 with _ | _ <;> first | (exact sub_ren [0, 3, 9002] [0, 1, 5, 6] (by decide) rfl (.cons (.cons (.skip .nil))) (Nat.le_of_ble_eq_true rfl)) | (exact sub_ren [0, 3, 2] [0, 1, 5, 6] (by decide) rfl (.cons (.cons (.cons .nil))) (Nat.le_of_ble_eq_true rfl)))
          · intro s hs22
            refine after_n ?_
            refine W.sub hs22 ?_
            obtain ⟨l23, h24, hr⟩ := bnd hr
            refine w_join (J := fun s => Sub s ⟨[(0, .c (.op 0 0)), (1, .c (.d (.lit (.int .i64 most1)))), (5, .c (slC 1 cI_i64 2 (Sl.mk l23)))], [(0, some (.box [slC 1 cI_i64 1 q20_l])), (1, slO 1 cI_i64 q20_l), (2, slO 1 cI_i64 (Sl.mk l23))], 3, [.op 0 0]⟩) ?_ ?_
            · rcases s2 with _ | s2'
              · try dsimp only [slC, slO]
                refine w_region ?_
                iterate 2 refine o1 rfl ?_
                refine o2 rfl ?_
                refine o2 (app_nil (enc := cI_i64) rfl h24) ?_
                refine o1 rfl ?_
                exact o_join (by rcases q20_l with _ | _ <;> first | (exact sub_ren [0, 9001, 4] [0, 1, 5] (by decide) rfl (.cons (.skip (.cons .nil))) (Nat.le_of_ble_eq_true rfl)) | (exact sub_ren [0, 1, 4] [0, 1, 5] (by decide) rfl (.cons (.cons (.cons .nil))) (Nat.le_of_ble_eq_true rfl)))
              · try dsimp only [slC, slO]
                refine w_region ?_
                iterate 2 refine o1 rfl ?_
                refine o2 rfl ?_
                refine o2 (app_o rfl rfl h24) ?_
                refine o1 rfl ?_
                exact o_join (by rcases q20_l with _ | _ <;> first | (exact sub_ren [0, 9001, 4] [0, 1, 5] (by decide) rfl (.cons (.skip (.cons .nil))) (Nat.le_of_ble_eq_true rfl)) | (exact sub_ren [0, 1, 4] [0, 1, 5] (by decide) rfl (.cons (.cons (.cons .nil))) (Nat.le_of_ble_eq_true rfl)))
            · intro s hs25
              refine out_n ?_
              obtain rfl := Option.some.inj hr
              exact And.intro rfl (Sub.trans hs25 (by rcases q20_l with _ | _ <;> first | (exact sub_ren [0, 9001, 2] [0, 1, 5] (by decide) rfl (.cons (.skip (.cons .nil))) (Nat.le_of_ble_eq_true rfl)) | (exact sub_ren [0, 1, 2] [0, 1, 5] (by decide) rfl (.cons (.cons (.cons .nil))) (Nat.le_of_ble_eq_true rfl))))

/- turnout/turnoutref13.Same -/
def k13 : CC :=
  (.seq
  (.region [
    ⟨some 4, .mv, [(.const (.bool false))], none⟩] [0, 1])
  (.seq
  (.seq
  (.region [
    ⟨some 6, .mv, [(.tmp 0)], none⟩,
    ⟨some 7, (.len false), [(.tmp 6)], none⟩,
    ⟨some 8, .mv, [(.tmp 1)], none⟩,
    ⟨some 9, (.len false), [(.tmp 8)], none⟩,
    ⟨some 10, (.bin .neq), [(.tmp 7), (.tmp 9)], none⟩] [0, 1, 10])
  (.cond (.tmp 10)
    (.seq
    (.region [
      ⟨some 4, .mv, [(.const (.bool false))], none⟩] [4])
    .ret)
    .skip))
  (.seq
  (.seq
  (.region [
    ⟨some 5, .mv, [(.const (.int .i64 0))], none⟩] [0, 1, 5])
  (.block 0
    (.loop [0, 1, 5]
      (.seq
      (.seq
      (.region [
        ⟨some 11, .mv, [(.tmp 5)], none⟩,
        ⟨some 12, .mv, [(.tmp 0)], none⟩,
        ⟨some 13, (.len false), [(.tmp 12)], none⟩,
        ⟨some 14, (.bin .lss), [(.tmp 11), (.tmp 13)], none⟩] [0, 1, 5, 14])
      (.cond (.tmp 14)
        .skip
        (.exit 0)))
      (.seq
      (.block 1
        (.seq
        (.drawn [
          ⟨some 17, .mv, [(.tmp 0)], none⟩,
          ⟨some 18, .mv, [(.tmp 5)], none⟩,
          ⟨some 19, (.indexAddr none 1), [(.tmp 17), (.tmp 18)], none⟩,
          ⟨some 20, (.load false 1), [(.tmp 19)], none⟩,
          ⟨some 21, .mv, [(.tmp 1)], none⟩,
          ⟨some 22, .mv, [(.tmp 5)], none⟩,
          ⟨some 23, (.indexAddr none 1), [(.tmp 21), (.tmp 22)], none⟩,
          ⟨some 24, (.load false 1), [(.tmp 23)], none⟩,
          ⟨some 25, (.bin .neq), [(.tmp 20), (.tmp 24)], none⟩] [] [0, 1, 5, 25])
        (.cond (.tmp 25)
          (.seq
          (.region [
            ⟨some 4, .mv, [(.const (.bool false))], none⟩] [4])
          .ret)
          .skip)))
      (.region [
        ⟨some 15, .mv, [(.tmp 5)], none⟩,
        ⟨some 16, (.bin .add), [(.tmp 15), (.const (.int .i64 1))], none⟩,
        ⟨some 5, .mv, [(.tmp 16)], none⟩] [0, 1, 5]))))))
  (.seq
  (.region [
    ⟨some 4, .mv, [(.const (.bool true))], none⟩] [4])
  .ret))))
def f13 : Ev.Fn := ⟨2, 26, [.tmp 4], k13⟩
set_option maxRecDepth 100000 in
theorem e13 : compFn prog sig 13 2 [[0, 1], [0, 1, 10], [4], [0, 1, 5], [0, 1, 5], [0, 1, 5, 14], [0, 1, 5, 25], [4], [0, 1, 5], [4]] = some f13 := by kernel_rfl
noncomputable def ref13_Same_L1 (a0 : Sl Int) (b1 : Sl Int) : Int → Option (Sum (Int) (Sum (Unit) (Unit))) := fun i2 =>
  bif decide (i2 < (a0.l.length : Int)) then ((ixI i2 a0.l.length).bind fun n7 =>
  (ixI i2 b1.l.length).bind fun n9 =>
  bif ((gt a0.l n7) != (gt b1.l n9)) then (some (.inr (.inl ()))) else
  (some (.inl (wr .i64 (i2 + 1))))) else
  (some (.inr (.inr ())))

noncomputable def ref13_Same (a0 : Sl Int) (b1 : Sl Int) : Option (Bool) :=
  bif ((a0.l.length : Int) != (b1.l.length : Int)) then (some false) else
  ((loopO (ref13_Same_L1 a0 b1) 0).bind fun
  | .inl _ => (some false)
  | .inr (_) => (some true))
theorem ref13_Same_ok {a0 : Sl Int} {b1 : Sl Int} {z : Bool} (hp : ref13_Same a0 b1 = some z) : Good prog 13 [.d (slD 1 cI_i64 a0), .d (slD 1 cI_i64 b1)] [.c (.d (.lit (.bool z)))] [] := by
  unfold ref13_Same at hp
  refine fn_good mixed e13 (fnS (m := [false]) (s := ⟨[(0, .c (.d (slD 1 cI_i64 a0))), (1, .c (.d (slD 1 cI_i64 b1)))], [], 0, []⟩) (len := 0) (c := k13) rfl (Sub.of_eq rfl) rfl rfl ?_)
  refine w_seq ?_
  refine w_region ?_
  refine o1 rfl ?_
  refine o_end (e' := [(0, .c (.d (slD 1 cI_i64 a0))), (1, .c (.d (slD 1 cI_i64 b1)))]) rfl rfl ?_
  refine after_n ?_
  refine w_seq ?_
  refine w_seq ?_
  refine w_region ?_
  refine o1 rfl ?_
  refine o1 (v := .c (.d (.lit (.int .i64 (a0.l.length : Int))))) len_sd ?_
  refine o1 rfl ?_
  refine o1 (v := .c (.d (.lit (.int .i64 (b1.l.length : Int))))) len_sd ?_
  refine o1 (v := .c (.d (.lit (.bool ((a0.l.length : Int) != (b1.l.length : Int)))))) rfl ?_
  refine o_end (e' := [(0, .c (.d (slD 1 cI_i64 a0))), (1, .c (.d (slD 1 cI_i64 b1))), (10, .c (.d (.lit (.bool ((a0.l.length : Int) != (b1.l.length : Int))))))]) rfl rfl ?_
  refine after_n ?_
  refine w_cond (t := ((a0.l.length : Int) != (b1.l.length : Int))) rfl (fun hb1 => ?_) (fun hb1 => ?_)
  · have hp := cnd_t hb1 hp
    refine w_seq ?_
    refine w_region ?_
    refine o1 rfl ?_
    refine o_end (e' := [(4, .c (.d (.lit (.bool false))))]) rfl rfl ?_
    refine after_n ?_
    refine w_ret ?_
    refine after_r ?_
    obtain rfl := Option.some.inj hp
    exact leave_at rfl rfl (pr_c p_d pr_nil) pc_nil rfl rfl
  · have hp := cnd_f hb1 hp
    refine w_skip ?_
    refine after_n ?_
    refine w_seq ?_
    refine w_seq ?_
    refine w_region ?_
    refine o1 rfl ?_
    refine o_end (e' := [(0, .c (.d (slD 1 cI_i64 a0))), (1, .c (.d (slD 1 cI_i64 b1))), (5, .c (.d (.lit (.int .i64 0))))]) rfl rfl ?_
    refine after_n ?_
    refine w_block ?_
    obtain ⟨x4, h5, hp⟩ := bnd hp
    refine W.mono ?_ (w_loopS (st := fun (v : Int) => match v with | i2 => ⟨[(0, .c (.d (slD 1 cI_i64 a0))), (1, .c (.d (slD 1 cI_i64 b1))), (5, .c (.d (.lit (.int .i64 i2))))], [], 0, []⟩) (a := 0) (Q := Jn (fun (x : Sum (Unit) (Unit)) o s => match x with | .inl _ => o = Out.ret ∧ Sub s ⟨[(4, .c (.d (.lit (.bool false))))], [], 0, []⟩ | .inr (_) => o = Out.exit 0 ∧ Sub s ⟨[], [], 0, []⟩)) ?_ h5 ?_)
    · intro o s hs12
      rcases x4 with (_ | _)
      · obtain ⟨rfl, hs12⟩ := hs12
        refine out_r ?_
        refine after_r ?_
        obtain rfl := Option.some.inj hp
        refine wk.sub hs12 ?_
        exact leave_at rfl rfl (pr_c p_d pr_nil) pc_nil rfl rfl
      · obtain ⟨rfl, hs12⟩ := hs12
        refine out_e ?_
        refine after_n ?_
        refine W.sub hs12 ?_
        refine w_seq ?_
        refine w_region ?_
        refine o1 rfl ?_
        refine o_end (e' := [(4, .c (.d (.lit (.bool true))))]) rfl rfl ?_
        refine after_n ?_
        refine w_ret ?_
        obtain rfl := Option.some.inj hp
        exact leave_at rfl rfl (pr_c p_d pr_nil) pc_nil rfl rfl
    · exact (sub_ren [] [0, 1, 5] (by decide) rfl .nil (Nat.le_of_ble_eq_true rfl))
    · rintro i2 r hr
      unfold ref13_Same_L1 at hr
      refine w_seq ?_
      refine w_seq ?_
      refine w_region ?_
      iterate 2 refine o1 rfl ?_
      refine o1 (v := .c (.d (.lit (.int .i64 (a0.l.length : Int))))) len_sd ?_
      refine o1 (v := .c (.d (.lit (.bool (decide (i2 < (a0.l.length : Int))))))) rfl ?_
      refine o_end (e' := [(0, .c (.d (slD 1 cI_i64 a0))), (1, .c (.d (slD 1 cI_i64 b1))), (5, .c (.d (.lit (.int .i64 i2)))), (14, .c (.d (.lit (.bool (decide (i2 < (a0.l.length : Int)))))))]) rfl rfl ?_
      refine after_n ?_
      refine w_cond (t := decide (i2 < (a0.l.length : Int))) rfl (fun hb6 => ?_) (fun hb6 => ?_)
      · have hr := cnd_t hb6 hr
        refine w_skip ?_
        refine after_n ?_
        refine w_seq ?_
        refine w_block ?_
        refine w_seq ?_
        obtain ⟨n7, h8, hr⟩ := bnd hr
        obtain ⟨n9, h10, hr⟩ := bnd hr
        refine w_drawn ?_
        iterate 2 refine d1 rfl ?_
        refine d1 (ix_sd h8) ?_
        iterate 3 refine d1 rfl ?_
        refine d1 (ix_sd h10) ?_
        refine d1 rfl ?_
        refine d1 (v := .c (.d (.lit (.bool ((gt a0.l n7) != (gt b1.l n9)))))) rfl ?_
        refine d_fin (e' := [(0, .c (.d (slD 1 cI_i64 a0))), (1, .c (.d (slD 1 cI_i64 b1))), (5, .c (.d (.lit (.int .i64 i2)))), (25, .c (.d (.lit (.bool ((gt a0.l n7) != (gt b1.l n9))))))]) (n' := 576) rfl rfl rfl rfl ?_
        refine after_n ?_
        refine w_cond (t := ((gt a0.l n7) != (gt b1.l n9))) rfl (fun hb11 => ?_) (fun hb11 => ?_)
        · have hr := cnd_t hb11 hr
          refine w_seq ?_
          refine w_region ?_
          refine o1 rfl ?_
          refine o_end (e' := [(4, .c (.d (.lit (.bool false))))]) rfl rfl ?_
          refine after_n ?_
          refine w_ret ?_
          refine out_r ?_
          refine after_r ?_
          obtain rfl := Option.some.inj hr
          exact And.intro nofun (And.intro rfl (sub_ren [] [4] (by decide) rfl .nil (Nat.le_of_ble_eq_true rfl)))
        · have hr := cnd_f hb11 hr
          refine w_skip ?_
          refine out_n ?_
          refine after_n ?_
          refine w_region ?_
          refine o1 rfl ?_
          refine o1 (v := .c (.d (.lit (.int .i64 (wr .i64 (i2 + 1)))))) rfl ?_
          refine o1 rfl ?_
          refine o_end (e' := [(0, .c (.d (slD 1 cI_i64 a0))), (1, .c (.d (slD 1 cI_i64 b1))), (5, .c (.d (.lit (.int .i64 (wr .i64 (i2 + 1))))))]) rfl rfl ?_
          obtain rfl := Option.some.inj hr
          exact And.intro rfl (sub_ren [] [0, 1, 5] (by decide) rfl .nil (Nat.le_of_ble_eq_true rfl))
      · have hr := cnd_f hb6 hr
        refine w_exit ?_
        refine after_e ?_
        obtain rfl := Option.some.inj hr
        exact And.intro nofun (And.intro rfl (sub_ren [] [] (by decide) rfl .nil (Nat.le_of_ble_eq_true rfl)))

/- turnout/turnoutref13.Drop -/
def k15 : CC :=
  (.seq
  (.region [
    ⟨some 4, .mv, [(.const (.slice none 0 0))], none⟩,
    ⟨some 5, .mv, [(.const (.bool false))], none⟩] [0, 1])
  (.seq
  (.region [
    ⟨some 6, .mv, [(.const (.slice none 0 0))], none⟩] [0, 1, 6])
  (.seq
  (.region [
    ⟨some 7, .mv, [(.const (.bool false))], none⟩] [0, 1, 6, 7])
  (.seq
  (.seq
  (.region [
    ⟨some 8, .mv, [(.const (.int .i64 0))], none⟩] [0, 1, 6, 7, 8])
  (.block 0
    (.loop [0, 1, 6, 7, 8]
      (.seq
      (.seq
      (.region [
        ⟨some 9, .mv, [(.tmp 8)], none⟩,
        ⟨some 10, .mv, [(.tmp 0)], none⟩,
        ⟨some 11, (.len false), [(.tmp 10)], none⟩,
        ⟨some 12, (.bin .lss), [(.tmp 9), (.tmp 11)], none⟩] [0, 1, 6, 7, 8, 12])
      (.cond (.tmp 12)
        .skip
        (.exit 0)))
      (.seq
      (.block 1
        (.seq
        (.seq
        (.region [
          ⟨some 15, .mv, [(.tmp 7)], none⟩,
          ⟨some 16, (.un .not), [(.tmp 15)], none⟩,
          ⟨some 17, .mv, [(.tmp 16)], none⟩,
          ⟨some 18, .mv, [(.tmp 0)], (some (17, true))⟩,
          ⟨some 19, .mv, [(.tmp 8)], (some (17, true))⟩,
          ⟨some 20, (.indexAddr none 1), [(.tmp 18), (.tmp 19)], (some (17, true))⟩,
          ⟨some 21, (.load false 1), [(.tmp 20)], (some (17, true))⟩,
          ⟨some 22, .mv, [(.tmp 1)], (some (17, true))⟩,
          ⟨some 23, (.bin .eql), [(.tmp 21), (.tmp 22)], (some (17, true))⟩,
          ⟨some 24, .pick, [(.tmp 17), (.tmp 23), (.const (.bool false))], none⟩] [0, 1, 6, 7, 8, 24])
        (.cond (.tmp 24)
          (.seq
          (.region [
            ⟨some 7, .mv, [(.const (.bool true))], none⟩] [0, 1, 6, 7, 8])
          (.exit 1))
          .skip))
        (.region [
          ⟨some 25, .mv, [(.tmp 6)], none⟩,
          ⟨some 26, .mv, [(.tmp 0)], none⟩,
          ⟨some 27, .mv, [(.tmp 8)], none⟩,
          ⟨some 28, (.indexAddr none 1), [(.tmp 26), (.tmp 27)], none⟩,
          ⟨some 29, (.load false 1), [(.tmp 28)], none⟩,
          ⟨some 30, (.buildSlice 1 1 [(.int .i64 0)] [0]), [(.tmp 29)], none⟩,
          ⟨some 31, (.append 1), [(.tmp 25), (.tmp 30)], none⟩,
          ⟨some 6, .mv, [(.tmp 31)], none⟩] [0, 1, 6, 7, 8])))
      (.region [
        ⟨some 13, .mv, [(.tmp 8)], none⟩,
        ⟨some 14, (.bin .add), [(.tmp 13), (.const (.int .i64 1))], none⟩,
        ⟨some 8, .mv, [(.tmp 14)], none⟩] [0, 1, 6, 7, 8]))))))
  (.seq
  (.region [
    ⟨some 32, .mv, [(.tmp 6)], none⟩,
    ⟨some 33, .mv, [(.tmp 7)], none⟩,
    ⟨some 4, .mv, [(.tmp 32)], none⟩,
    ⟨some 5, .mv, [(.tmp 33)], none⟩] [4, 5])
  .ret)))))
def f15 : Ev.Fn := ⟨2, 34, [.tmp 4, .tmp 5], k15⟩
set_option maxRecDepth 100000 in
theorem e15 : compFn prog sig 15 2 [[0, 1], [0, 1, 6], [0, 1, 6, 7], [0, 1, 6, 7, 8], [0, 1, 6, 7, 8], [0, 1, 6, 7, 8, 12], [0, 1, 6, 7, 8, 24], [0, 1, 6, 7, 8], [0, 1, 6, 7, 8], [0, 1, 6, 7, 8], [4, 5]] = some f15 := by kernel_rfl
noncomputable def ref13_Drop_L1 (l0 : Sl Int) (x1 : Int) : (Sl Int × Bool × Int) → Option (Sum ((Sl Int × Bool × Int)) ((Sl Int × Bool))) := fun (s1, b2, i3) =>
  bif decide (i3 < (l0.l.length : Int)) then (((bif (!b2) then ((ixI i3 l0.l.length).bind fun n16 =>
  some ((gt l0.l n16) == x1)) else (some false)).bind fun b18 =>
  bif b18 then (some (s1, true)) else
  ((ixI i3 l0.l.length).bind fun n23 =>
  (capI (s1.l ++ [gt l0.l n23])).bind fun l25 =>
  some ((Sl.mk l25), b2)) : Option ((Sl Int × Bool))).bind fun (s12, b13) =>
  some (.inl (s12, b13, wr .i64 (i3 + 1)))) else
  (some (.inr (s1, b2)))

noncomputable def ref13_Drop (l0 : Sl Int) (x1 : Int) : Option ((Sl Int × Bool)) :=
  (loopO (ref13_Drop_L1 l0 x1) (Sl.nil, false, 0)).bind fun (s7, b8) =>
  some (s7, b8)
theorem ref13_Drop_ok {l0 : Sl Int} {x1 : Int} {z : (Sl Int × Bool)} (hp : ref13_Drop l0 x1 = some z) : Good prog 15 [.d (slD 1 cI_i64 l0), .d (.lit (.int .i64 x1))] [.c (.d (slD 1 cI_i64 z.1)), .c (.d (.lit (.bool z.2)))] [] := by
  unfold ref13_Drop at hp
  refine fn_good mixed e15 (fnS (m := [true, false]) (s := ⟨[(0, .c (.d (slD 1 cI_i64 l0))), (1, .c (.d (.lit (.int .i64 x1))))], [], 0, []⟩) (len := 0) (c := k15) rfl (Sub.of_eq rfl) rfl rfl ?_)
  refine w_seq ?_
  refine w_region ?_
  iterate 2 refine o1 rfl ?_
  refine o_end (e' := [(0, .c (.d (slD 1 cI_i64 l0))), (1, .c (.d (.lit (.int .i64 x1))))]) rfl rfl ?_
  refine after_n ?_
  refine w_seq ?_
  refine w_region ?_
  refine o1 rfl ?_
  refine o_end (e' := [(0, .c (.d (slD 1 cI_i64 l0))), (1, .c (.d (.lit (.int .i64 x1)))), (6, .c (.d (.lit (.slice none 0 0))))]) rfl rfl ?_
  refine after_n ?_
  refine w_seq ?_
  refine w_region ?_
  refine o1 rfl ?_
  refine o_end (e' := [(0, .c (.d (slD 1 cI_i64 l0))), (1, .c (.d (.lit (.int .i64 x1)))), (6, .c (.d (.lit (.slice none 0 0)))), (7, .c (.d (.lit (.bool false))))]) rfl rfl ?_
  refine after_n ?_
  refine w_seq ?_
  refine w_seq ?_
  refine w_region ?_
  refine o1 rfl ?_
  refine o_end (e' := [(0, .c (.d (slD 1 cI_i64 l0))), (1, .c (.d (.lit (.int .i64 x1)))), (6, .c (.d (.lit (.slice none 0 0)))), (7, .c (.d (.lit (.bool false)))), (8, .c (.d (.lit (.int .i64 0))))]) rfl rfl ?_
  refine after_n ?_
  refine w_block ?_
  obtain ⟨x9, h10, hp⟩ := bnd hp
  refine W.mono ?_ (w_loopS (st := fun (v : (Sl Int × Bool × Int)) => match v with | (s1, b2, i3) => ⟨[(0, .c (.d (slD 1 cI_i64 l0))), (1, .c (.d (.lit (.int .i64 x1)))), (6, .c (slC 1 cI_i64 0 s1)), (7, .c (.d (.lit (.bool b2)))), (8, .c (.d (.lit (.int .i64 i3))))], [(0, slO 1 cI_i64 s1)], 1, []⟩) (a := (Sl.nil, false, 0)) (Q := Jn (fun (x : (Sl Int × Bool)) o s => match x with | (s7, b8) => o = Out.exit 0 ∧ Sub s ⟨[(6, .c (slC 1 cI_i64 0 s7)), (7, .c (.d (.lit (.bool b8))))], [(0, slO 1 cI_i64 s7)], 1, []⟩)) ?_ h10 ?_)
  · intro o s hs29
    obtain ⟨s7, b8⟩ := x9
    obtain ⟨rfl, hs29⟩ := hs29
    refine out_e ?_
    refine after_n ?_
    refine W.sub hs29 ?_
    refine w_seq ?_
    refine w_region ?_
    iterate 4 refine o1 rfl ?_
    refine o_end (e' := [(4, .c (slC 1 cI_i64 0 s7)), (5, .c (.d (.lit (.bool b8))))]) rfl rfl ?_
    refine after_n ?_
    refine w_ret ?_
    obtain rfl := Option.some.inj hp
    rcases s7 with _ | s7'
    · exact leave_at rfl rfl (pr_c p_d (pr_c p_d pr_nil)) pc_nil rfl rfl
    · exact leave_at rfl rfl (pr_c (p_o rfl) (pr_c p_d pr_nil)) pc_nil rfl rfl
  · exact (sub_ren [9000] [0, 1, 6, 7, 8] (by decide) rfl (.skip .nil) (Nat.le_of_ble_eq_true rfl))
  · rintro ⟨s1, b2, i3⟩ r hr
    unfold ref13_Drop_L1 at hr
    refine w_seq ?_
    refine w_seq ?_
    refine w_region ?_
    iterate 2 refine o1 rfl ?_
    refine o1 (v := .c (.d (.lit (.int .i64 (l0.l.length : Int))))) len_sd ?_
    refine o1 (v := .c (.d (.lit (.bool (decide (i3 < (l0.l.length : Int))))))) rfl ?_
    refine o_end (e' := [(0, .c (.d (slD 1 cI_i64 l0))), (1, .c (.d (.lit (.int .i64 x1)))), (6, .c (slC 1 cI_i64 0 s1)), (7, .c (.d (.lit (.bool b2)))), (8, .c (.d (.lit (.int .i64 i3)))), (12, .c (.d (.lit (.bool (decide (i3 < (l0.l.length : Int)))))))]) rfl rfl ?_
    refine after_n ?_
    refine w_cond (t := decide (i3 < (l0.l.length : Int))) rfl (fun hb11 => ?_) (fun hb11 => ?_)
    · have hr := cnd_t hb11 hr
      refine w_skip ?_
      refine after_n ?_
      refine w_seq ?_
      obtain ⟨x15, h14, hr⟩ := bnd hr
      refine W.mono (Q := Jn (fun (x : (Sl Int × Bool)) o s => match x with | (s12, b13) => o = Out.normal ∧ Sub s ⟨[(0, .c (.d (slD 1 cI_i64 l0))), (1, .c (.d (.lit (.int .i64 x1)))), (6, .c (slC 1 cI_i64 0 s12)), (7, .c (.d (.lit (.bool b13)))), (8, .c (.d (.lit (.int .i64 i3))))], [(0, slO 1 cI_i64 s12)], 1, []⟩) x15) ?_ ?_
      · intro o s hs28
        obtain ⟨s12, b13⟩ := x15
        obtain ⟨rfl, hs28⟩ := hs28
        refine after_n ?_
        refine W.sub hs28 ?_
        refine w_region ?_
        refine o1 rfl ?_
        refine o1 (v := .c (.d (.lit (.int .i64 (wr .i64 (i3 + 1)))))) rfl ?_
        refine o1 rfl ?_
        refine o_end (e' := [(0, .c (.d (slD 1 cI_i64 l0))), (1, .c (.d (.lit (.int .i64 x1)))), (6, .c (slC 1 cI_i64 0 s12)), (7, .c (.d (.lit (.bool b13)))), (8, .c (.d (.lit (.int .i64 (wr .i64 (i3 + 1))))))]) rfl rfl ?_
        obtain rfl := Option.some.inj hr
        exact And.intro rfl (by rcases s12 with _ | _ <;> first | (exact sub_ren [9000] [0, 1, 6, 7, 8] (by decide) rfl (.skip .nil) (Nat.le_of_ble_eq_true rfl)) | (exact sub_ren [0] [0, 1, 6, 7, 8] (by decide) rfl (.cons .nil) (Nat.le_of_ble_eq_true rfl)))
      · refine w_block ?_
        refine w_seq ?_
        refine w_seq ?_
        obtain ⟨b18, h19, h14⟩ := bnd h14
        refine w_join (J := fun s => Sub s ⟨[(0, .c (.d (slD 1 cI_i64 l0))), (1, .c (.d (.lit (.int .i64 x1)))), (6, .c (slC 1 cI_i64 0 s1)), (7, .c (.d (.lit (.bool b2)))), (8, .c (.d (.lit (.int .i64 i3)))), (24, .c (.d (.lit (.bool b18))))], [(0, slO 1 cI_i64 s1)], 1, []⟩) ?_ ?_
        · refine w_region ?_
          refine o1 rfl ?_
          refine o1 (v := .c (.d (.lit (.bool (!b2))))) rfl ?_
          refine o1 rfl ?_
          cases hb20 : ((!b2) : Bool)
          · have h19 := cnd_f hb20 h19
            iterate 6 refine onot rfl rfl ?_
            refine o1 rfl ?_
            cases h19
            exact o_join (by rcases s1 with _ | _ <;> first | (exact sub_ren [9000] [0, 1, 6, 7, 8, 24] (by decide) rfl (.skip .nil) (Nat.le_of_ble_eq_true rfl)) | (exact sub_ren [0] [0, 1, 6, 7, 8, 24] (by decide) rfl (.cons .nil) (Nat.le_of_ble_eq_true rfl)))
          · have h19 := cnd_t hb20 h19
            obtain ⟨n16, h17, h19⟩ := bnd h19
            iterate 2 refine og rfl rfl rfl ?_
            refine og rfl rfl (ix_sd h17) ?_
            iterate 2 refine og rfl rfl rfl ?_
            refine og (v := .c (.d (.lit (.bool ((gt l0.l n16) == x1))))) rfl rfl rfl ?_
            refine o1 rfl ?_
            cases h19
            exact o_join (by rcases s1 with _ | _ <;> first | (exact sub_ren [9000] [0, 1, 6, 7, 8, 24] (by decide) rfl (.skip .nil) (Nat.le_of_ble_eq_true rfl)) | (exact sub_ren [0] [0, 1, 6, 7, 8, 24] (by decide) rfl (.cons .nil) (Nat.le_of_ble_eq_true rfl)))
        · intro s hs21
          refine after_n ?_
          refine W.sub hs21 ?_
          refine w_cond (t := b18) rfl (fun hb22 => ?_) (fun hb22 => ?_)
          · have h14 := cnd_t hb22 h14
            refine w_seq ?_
            refine w_region ?_
            refine o1 rfl ?_
            refine o_end (e' := [(0, .c (.d (slD 1 cI_i64 l0))), (1, .c (.d (.lit (.int .i64 x1)))), (6, .c (slC 1 cI_i64 0 s1)), (7, .c (.d (.lit (.bool true)))), (8, .c (.d (.lit (.int .i64 i3))))]) rfl rfl ?_
            refine after_n ?_
            refine w_exit ?_
            refine after_e ?_
            refine out_e ?_
            obtain rfl := Option.some.inj h14
            exact And.intro rfl (by rcases s1 with _ | _ <;> first | (exact sub_ren [9000] [0, 1, 6, 7, 8] (by decide) rfl (.skip .nil) (Nat.le_of_ble_eq_true rfl)) | (exact sub_ren [0] [0, 1, 6, 7, 8] (by decide) rfl (.cons .nil) (Nat.le_of_ble_eq_true rfl)))
          · have h14 := cnd_f hb22 h14
            refine w_skip ?_
            refine after_n ?_
            obtain ⟨n23, h24, h14⟩ := bnd h14
            obtain ⟨l25, h26, h14⟩ := bnd h14
            refine w_join (J := fun s => Sub s ⟨[(0, .c (.d (slD 1 cI_i64 l0))), (1, .c (.d (.lit (.int .i64 x1)))), (6, .c (slC 1 cI_i64 0 (Sl.mk l25))), (7, .c (.d (.lit (.bool b2)))), (8, .c (.d (.lit (.int .i64 i3))))], [(0, slO 1 cI_i64 (Sl.mk l25))], 1, []⟩) ?_ ?_
            · rcases s1 with _ | s1'
              · try dsimp only [slC, slO]
                refine w_region ?_
                iterate 3 refine o1 rfl ?_
                refine o1 (ix_sd h24) ?_
                refine o1 rfl ?_
                refine o2 rfl ?_
                refine o2 (app_nil (enc := cI_i64) rfl h26) ?_
                refine o1 rfl ?_
                exact o_join (sub_ren [2] [0, 1, 6, 7, 8] (by decide) rfl (.cons .nil) (Nat.le_of_ble_eq_true rfl))
              · try dsimp only [slC, slO]
                refine w_region ?_
                iterate 3 refine o1 rfl ?_
                refine o1 (ix_sd h24) ?_
                refine o1 rfl ?_
                refine o2 rfl ?_
                refine o2 (app_o rfl rfl h26) ?_
                refine o1 rfl ?_
                exact o_join (sub_ren [2] [0, 1, 6, 7, 8] (by decide) rfl (.cons .nil) (Nat.le_of_ble_eq_true rfl))
            · intro s hs27
              refine out_n ?_
              obtain rfl := Option.some.inj h14
              exact And.intro rfl (Sub.trans hs27 (sub_ren [0] [0, 1, 6, 7, 8] (by decide) rfl (.cons .nil) (Nat.le_of_ble_eq_true rfl)))
    · have hr := cnd_f hb11 hr
      refine w_exit ?_
      refine after_e ?_
      obtain rfl := Option.some.inj hr
      exact And.intro nofun (And.intro rfl (by rcases s1 with _ | _ <;> first | (exact sub_ren [9000] [6, 7] (by decide) rfl (.skip .nil) (Nat.le_of_ble_eq_true rfl)) | (exact sub_ren [0] [6, 7] (by decide) rfl (.cons .nil) (Nat.le_of_ble_eq_true rfl))))

/- slices.Index[[]int,int] -/
def k28 : CC :=
  (.seq
  (.region [
    ⟨some 4, .mv, [(.const (.int .i64 0))], none⟩] [0, 1])
  (.seq
  (.seq
  (.region [
    ⟨some 6, .mv, [(.tmp 0)], none⟩,
    ⟨some 7, (.len false), [(.tmp 6)], none⟩,
    ⟨some 8, .mv, [(.const (.int .i64 0))], none⟩] [0, 1, 7, 8])
  (.block 0
    (.loop [0, 1, 7, 8]
      (.seq
      (.region [
        ⟨some 9, (.bin .lss), [(.tmp 8), (.tmp 7)], none⟩] [0, 1, 7, 8, 9])
      (.seq
      (.cond (.tmp 9)
        .skip
        (.exit 0))
      (.seq
      (.block 1
        (.seq
        (.region [
          ⟨some 10, .mv, [(.tmp 8)], none⟩,
          ⟨some 5, .mv, [(.tmp 10)], none⟩] [0, 1, 5, 7, 8])
        (.seq
        (.region [
          ⟨some 11, .mv, [(.tmp 1)], none⟩,
          ⟨some 12, .mv, [(.tmp 0)], none⟩,
          ⟨some 13, .mv, [(.tmp 5)], none⟩,
          ⟨some 14, (.indexAddr none 1), [(.tmp 12), (.tmp 13)], none⟩,
          ⟨some 15, (.load false 1), [(.tmp 14)], none⟩,
          ⟨some 16, (.bin .eql), [(.tmp 11), (.tmp 15)], none⟩] [0, 1, 5, 7, 8, 16])
        (.cond (.tmp 16)
          (.seq
          (.region [
            ⟨some 17, .mv, [(.tmp 5)], none⟩,
            ⟨some 4, .mv, [(.tmp 17)], none⟩] [4])
          .ret)
          .skip))))
      (.region [
        ⟨some 18, (.bin .add), [(.tmp 8), (.const (.int .i64 1))], none⟩,
        ⟨some 8, .mv, [(.tmp 18)], none⟩] [0, 1, 7, 8])))))))
  (.seq
  (.region [
    ⟨some 4, .mv, [(.const (.int .i64 (-1)))], none⟩] [4])
  .ret)))
def f28 : Ev.Fn := ⟨2, 19, [.tmp 4], k28⟩
set_option maxRecDepth 100000 in
theorem e28 : compFn prog sig 28 2 [[0, 1], [0, 1, 7, 8], [0, 1, 7, 8], [0, 1, 7, 8, 9], [0, 1, 5, 7, 8], [0, 1, 5, 7, 8, 16], [4], [0, 1, 7, 8], [4]] = some f28 := by kernel_rfl
noncomputable def slices_Index_int_int_L1 (s0 : Sl Int) (v1 : Int) : Int → Option (Sum (Int) (Sum (Int) (Unit))) := fun i1 =>
  bif decide (i1 < (s0.l.length : Int)) then ((ixI i1 s0.l.length).bind fun n7 =>
  bif (v1 == (gt s0.l n7)) then (some (.inr (.inl i1))) else
  (some (.inl (wr .i64 (i1 + 1))))) else
  (some (.inr (.inr ())))

noncomputable def slices_Index_int_int (s0 : Sl Int) (v1 : Int) : Option (Int) :=
  (loopO (slices_Index_int_int_L1 s0 v1) 0).bind fun
  | .inl i3 => (some i3)
  | .inr (_) => (some (-1))
theorem slices_Index_int_int_ok {s0 : Sl Int} {v1 : Int} {z : Int} (hp : slices_Index_int_int s0 v1 = some z) : Good prog 28 [.d (slD 1 cI_i64 s0), .d (.lit (.int .i64 v1))] [.c (.d (.lit (.int .i64 z)))] [] := by
  unfold slices_Index_int_int at hp
  refine fn_good mixed e28 (fnS (m := [false]) (s := ⟨[(0, .c (.d (slD 1 cI_i64 s0))), (1, .c (.d (.lit (.int .i64 v1))))], [], 0, []⟩) (len := 0) (c := k28) rfl (Sub.of_eq rfl) rfl rfl ?_)
  refine w_seq ?_
  refine w_region ?_
  refine o1 rfl ?_
  refine o_end (e' := [(0, .c (.d (slD 1 cI_i64 s0))), (1, .c (.d (.lit (.int .i64 v1))))]) rfl rfl ?_
  refine after_n ?_
  refine w_seq ?_
  refine w_seq ?_
  refine w_region ?_
  refine o1 rfl ?_
  refine o1 (v := .c (.d (.lit (.int .i64 (s0.l.length : Int))))) len_sd ?_
  refine o1 rfl ?_
  refine o_end (e' := [(0, .c (.d (slD 1 cI_i64 s0))), (1, .c (.d (.lit (.int .i64 v1)))), (7, .c (.d (.lit (.int .i64 (s0.l.length : Int))))), (8, .c (.d (.lit (.int .i64 0))))]) rfl rfl ?_
  refine after_n ?_
  refine w_block ?_
  obtain ⟨x4, h5, hp⟩ := bnd hp
  refine W.mono ?_ (w_loopS (st := fun (v : Int) => match v with | i1 => ⟨[(0, .c (.d (slD 1 cI_i64 s0))), (1, .c (.d (.lit (.int .i64 v1)))), (7, .c (.d (.lit (.int .i64 (s0.l.length : Int))))), (8, .c (.d (.lit (.int .i64 i1))))], [], 0, []⟩) (a := 0) (Q := Jn (fun (x : Sum (Int) (Unit)) o s => match x with | .inl i3 => o = Out.ret ∧ Sub s ⟨[(4, .c (.d (.lit (.int .i64 i3))))], [], 0, []⟩ | .inr (_) => o = Out.exit 0 ∧ Sub s ⟨[], [], 0, []⟩)) ?_ h5 ?_)
  · intro o s hs10
    rcases x4 with (i3 | _)
    · obtain ⟨rfl, hs10⟩ := hs10
      refine out_r ?_
      refine after_r ?_
      obtain rfl := Option.some.inj hp
      refine wk.sub hs10 ?_
      exact leave_at rfl rfl (pr_c p_d pr_nil) pc_nil rfl rfl
    · obtain ⟨rfl, hs10⟩ := hs10
      refine out_e ?_
      refine after_n ?_
      refine W.sub hs10 ?_
      refine w_seq ?_
      refine w_region ?_
      refine o1 rfl ?_
      refine o_end (e' := [(4, .c (.d (.lit (.int .i64 (-1)))))]) rfl rfl ?_
      refine after_n ?_
      refine w_ret ?_
      obtain rfl := Option.some.inj hp
      exact leave_at rfl rfl (pr_c p_d pr_nil) pc_nil rfl rfl
  · exact (sub_ren [] [0, 1, 7, 8] (by decide) rfl .nil (Nat.le_of_ble_eq_true rfl))
  · rintro i1 r hr
    unfold slices_Index_int_int_L1 at hr
    refine w_seq ?_
    refine w_region ?_
    refine o1 (v := .c (.d (.lit (.bool (decide (i1 < (s0.l.length : Int))))))) rfl ?_
    refine o_end (e' := [(0, .c (.d (slD 1 cI_i64 s0))), (1, .c (.d (.lit (.int .i64 v1)))), (7, .c (.d (.lit (.int .i64 (s0.l.length : Int))))), (8, .c (.d (.lit (.int .i64 i1)))), (9, .c (.d (.lit (.bool (decide (i1 < (s0.l.length : Int)))))))]) rfl rfl ?_
    refine after_n ?_
    refine w_seq ?_
    refine w_cond (t := decide (i1 < (s0.l.length : Int))) rfl (fun hb6 => ?_) (fun hb6 => ?_)
    · have hr := cnd_t hb6 hr
      refine w_skip ?_
      refine after_n ?_
      refine w_seq ?_
      refine w_block ?_
      refine w_seq ?_
      refine w_region ?_
      iterate 2 refine o1 rfl ?_
      refine o_end (e' := [(0, .c (.d (slD 1 cI_i64 s0))), (1, .c (.d (.lit (.int .i64 v1)))), (5, .c (.d (.lit (.int .i64 i1)))), (7, .c (.d (.lit (.int .i64 (s0.l.length : Int))))), (8, .c (.d (.lit (.int .i64 i1))))]) rfl rfl ?_
      refine after_n ?_
      refine w_seq ?_
      obtain ⟨n7, h8, hr⟩ := bnd hr
      refine w_region ?_
      iterate 3 refine o1 rfl ?_
      refine o1 (ix_sd h8) ?_
      refine o1 rfl ?_
      refine o1 (v := .c (.d (.lit (.bool (v1 == (gt s0.l n7)))))) rfl ?_
      refine o_end (e' := [(0, .c (.d (slD 1 cI_i64 s0))), (1, .c (.d (.lit (.int .i64 v1)))), (5, .c (.d (.lit (.int .i64 i1)))), (7, .c (.d (.lit (.int .i64 (s0.l.length : Int))))), (8, .c (.d (.lit (.int .i64 i1)))), (16, .c (.d (.lit (.bool (v1 == (gt s0.l n7))))))]) rfl rfl ?_
      refine after_n ?_
      refine w_cond (t := (v1 == (gt s0.l n7))) rfl (fun hb9 => ?_) (fun hb9 => ?_)
      · have hr := cnd_t hb9 hr
        refine w_seq ?_
        refine w_region ?_
        iterate 2 refine o1 rfl ?_
        refine o_end (e' := [(4, .c (.d (.lit (.int .i64 i1))))]) rfl rfl ?_
        refine after_n ?_
        refine w_ret ?_
        refine out_r ?_
        refine after_r ?_
        obtain rfl := Option.some.inj hr
        exact And.intro nofun (And.intro rfl (sub_ren [] [4] (by decide) rfl .nil (Nat.le_of_ble_eq_true rfl)))
      · have hr := cnd_f hb9 hr
        refine w_skip ?_
        refine out_n ?_
        refine after_n ?_
        refine w_region ?_
        refine o1 (v := .c (.d (.lit (.int .i64 (wr .i64 (i1 + 1)))))) rfl ?_
        refine o1 rfl ?_
        refine o_end (e' := [(0, .c (.d (slD 1 cI_i64 s0))), (1, .c (.d (.lit (.int .i64 v1)))), (7, .c (.d (.lit (.int .i64 (s0.l.length : Int))))), (8, .c (.d (.lit (.int .i64 (wr .i64 (i1 + 1))))))]) rfl rfl ?_
        obtain rfl := Option.some.inj hr
        exact And.intro rfl (sub_ren [] [0, 1, 7, 8] (by decide) rfl .nil (Nat.le_of_ble_eq_true rfl))
    · have hr := cnd_f hb6 hr
      refine w_exit ?_
      refine after_e ?_
      obtain rfl := Option.some.inj hr
      exact And.intro nofun (And.intro rfl (sub_ren [] [] (by decide) rfl .nil (Nat.le_of_ble_eq_true rfl)))

/- (*turnout/heap.Queue[int]).Drop -/
def k16 : CC :=
  (.seq
  (.region [
    ⟨some 4, .mv, [(.const (.bool false))], none⟩] [0, 1])
  (.seq
  (.seq
  (.region [
    ⟨some 6, .mv, [(.tmp 0)], none⟩,
    ⟨some 7, (.eqNil 1 false), [(.tmp 6)], none⟩] [0, 1, 7])
  (.cond (.tmp 7)
    (.seq
    (.region [
      ⟨some 4, .mv, [(.const (.bool false))], none⟩] [4])
    .ret)
    .skip))
  (.seq
  (.region [
    ⟨some 8, .mv, [(.tmp 0)], none⟩,
    ⟨some 9, .nilCheck, [(.tmp 8)], none⟩,
    ⟨some 10, (.fieldAddr 0), [(.tmp 9)], none⟩,
    ⟨some 11, (.load false 1), [(.tmp 10)], none⟩,
    ⟨some 12, .mv, [(.tmp 1)], none⟩,
    ⟨some 13, (.call true []), [(.func 28), (.tmp 11), (.tmp 12)], none⟩,
    ⟨some 5, .mv, [(.tmp 13)], none⟩] [0, 5])
  (.seq
  (.seq
  (.region [
    ⟨some 14, .mv, [(.tmp 5)], none⟩,
    ⟨some 15, (.bin .lss), [(.tmp 14), (.const (.int .i64 0))], none⟩] [0, 5, 15])
  (.cond (.tmp 15)
    (.seq
    (.region [
      ⟨some 4, .mv, [(.const (.bool false))], none⟩] [4])
    .ret)
    .skip))
  (.seq
  (.region [
    ⟨some 16, .mv, [(.tmp 0)], none⟩,
    ⟨some 17, .mv, [(.tmp 5)], none⟩,
    ⟨some 18, (.call false [true, false]), [(.func 26), (.tmp 16), (.tmp 17)], none⟩] [])
  (.seq
  (.region [
    ⟨some 4, .mv, [(.const (.bool true))], none⟩] [4])
  .ret))))))
def f16 : Ev.Fn := ⟨2, 19, [.tmp 4], k16⟩
set_option maxRecDepth 100000 in
theorem e16 : compFn prog sig 16 2 [[0, 1], [0, 1, 7], [4], [0, 5], [0, 5, 15], [4], [], [4]] = some f16 := by kernel_rfl
noncomputable def heap_Queue_int_Drop (q0 : heap_Queue_int) (x1 : Int) : Option ((Bool × heap_Queue_int)) :=
  match q0 with | ⟨q0_l⟩ => ((slices_Index_int_int q0_l x1).bind fun r1 =>
  bif decide (r1 < 0) then (some (false, (⟨q0_l⟩ : heap_Queue_int))) else
  ((heap_Queue_int_take (⟨q0_l⟩ : heap_Queue_int) r1).bind fun ⟨q5_l⟩ =>
  some (true, (⟨q5_l⟩ : heap_Queue_int))))
theorem heap_Queue_int_Drop_ok {q0 : heap_Queue_int} {x1 : Int} {z : (Bool × heap_Queue_int)} (hp : heap_Queue_int_Drop q0 x1 = some z) : Good prog 16 [.mt (.pt [slT 1 cI_i64 q0.l]), .d (.lit (.int .i64 x1))] [.c (.d (.lit (.bool z.1)))] [.pt [slT 1 cI_i64 z.2.l]] := by
  obtain ⟨q0_l⟩ := q0
  unfold heap_Queue_int_Drop at hp
  refine fn_good mixed e16 (fnS (m := [false]) (s := ⟨[(0, .c (.op 0 0)), (1, .c (.d (.lit (.int .i64 x1))))], [(0, some (.box [slC 1 cI_i64 1 q0_l])), (1, slO 1 cI_i64 q0_l)], 2, [.op 0 0]⟩) (len := 1) (c := k16) rfl (by rcases q0_l with _ | _ <;> first | (exact sub_ren [0, 9001] [0, 1] (by decide) rfl (.cons (.skip .nil)) (Nat.le_of_ble_eq_true rfl)) | (exact sub_ren [0, 1] [0, 1] (by decide) rfl (.cons (.cons .nil)) (Nat.le_of_ble_eq_true rfl))) rfl rfl ?_)
  refine w_seq ?_
  refine w_region ?_
  refine o1 rfl ?_
  refine o_end (e' := [(0, .c (.op 0 0)), (1, .c (.d (.lit (.int .i64 x1))))]) rfl rfl ?_
  refine after_n ?_
  refine w_seq ?_
  refine w_seq ?_
  refine w_region ?_
  refine o1 rfl ?_
  refine o1 (v := .c (.d (.lit (.bool false)))) rfl ?_
  refine o_end (e' := [(0, .c (.op 0 0)), (1, .c (.d (.lit (.int .i64 x1)))), (7, .c (.d (.lit (.bool false))))]) rfl rfl ?_
  refine after_n ?_
  refine w_false rfl rfl ?_
  refine w_skip ?_
  refine after_n ?_
  refine w_seq ?_
  obtain ⟨r1, h2, hp⟩ := bnd hp
  refine w_join (J := fun s => Sub s ⟨[(0, .c (.op 0 0)), (5, .c (.d (.lit (.int .i64 r1))))], [(0, some (.box [slC 1 cI_i64 1 q0_l])), (1, slO 1 cI_i64 q0_l)], 2, [.op 0 0]⟩) ?_ ?_
  · rcases q0_l with _ | q0_l'
    · try dsimp only [slC, slO]
      refine w_region ?_
      iterate 5 refine o1 rfl ?_
      refine oc (rs := [.c (.d (.lit (.int .i64 r1)))]) (outs := []) rfl (slices_Index_int_int_ok h2) rfl ?_
      refine o1 rfl ?_
      exact o_join (sub_ren [0, 9001] [0, 5] (by decide) rfl (.cons (.skip .nil)) (Nat.le_of_ble_eq_true rfl))
    · try dsimp only [slC, slO]
      refine w_region ?_
      iterate 5 refine o1 rfl ?_
      refine oc' (rs := [.c (.d (.lit (.int .i64 r1)))]) (outs := []) (call_at rfl rfl (ea_c (v_o rfl) rfl (ea_c rfl rfl ea_nil)) wh_nil rfl rfl) (slices_Index_int_int_ok h2) ?_
      refine o1 rfl ?_
      exact o_join (sub_ren [0, 1] [0, 5] (by decide) rfl (.cons (.cons .nil)) (Nat.le_of_ble_eq_true rfl))
  · intro s hs3
    refine after_n ?_
    refine W.sub hs3 ?_
    refine w_seq ?_
    refine w_seq ?_
    refine w_region ?_
    refine o1 rfl ?_
    refine o1 (v := .c (.d (.lit (.bool (decide (r1 < 0)))))) rfl ?_
    refine o_end (e' := [(0, .c (.op 0 0)), (5, .c (.d (.lit (.int .i64 r1)))), (15, .c (.d (.lit (.bool (decide (r1 < 0))))))]) rfl rfl ?_
    refine after_n ?_
    refine w_cond (t := decide (r1 < 0)) rfl (fun hb4 => ?_) (fun hb4 => ?_)
    · have hp := cnd_t hb4 hp
      refine w_seq ?_
      refine w_region ?_
      refine o1 rfl ?_
      refine o_end (e' := [(4, .c (.d (.lit (.bool false))))]) rfl rfl ?_
      refine after_n ?_
      refine w_ret ?_
      refine after_r ?_
      obtain rfl := Option.some.inj hp
      rcases q0_l with _ | q0_l'
      · exact leave_at rfl rfl (pr_c p_d pr_nil) (pc_cons (p_op rfl (pl_cons p_d pl_nil)) pc_nil) rfl rfl
      · exact leave_at rfl rfl (pr_c p_d pr_nil) (pc_cons (p_op rfl (pl_cons (p_o rfl) pl_nil)) pc_nil) rfl rfl
    · have hp := cnd_f hb4 hp
      refine w_skip ?_
      refine after_n ?_
      refine w_seq ?_
      obtain ⟨⟨q5_l⟩, h6, hp⟩ := bnd hp
      refine w_join (J := fun s => Sub s ⟨[], [(0, some (.box [slC 1 cI_i64 1 q5_l])), (1, slO 1 cI_i64 q5_l)], 2, [.op 0 0]⟩) ?_ ?_
      · rcases q0_l with _ | q0_l' <;> rcases q5_l with _ | q5_l'
        · try dsimp only [slC, slO]
          refine w_region ?_
          iterate 2 refine o1 rfl ?_
          refine oc (rs := []) (outs := [.pt [.d (.lit (.slice none 0 0))]]) rfl (heap_Queue_int_take_ok h6) rfl ?_
          exact o_join (sub_ren [0, 9001] [] (by decide) rfl (.cons (.skip .nil)) (Nat.le_of_ble_eq_true rfl))
        · try dsimp only [slC, slO]
          refine w_region ?_
          iterate 2 refine o1 rfl ?_
          refine oc (rs := []) (outs := [.pt [slT 1 cI_i64 (Sl.mk q5_l')]]) rfl (heap_Queue_int_take_ok h6) rfl ?_
          exact o_join (sub_ren [0, 2] [] (by decide) rfl (.cons (.cons .nil)) (Nat.le_of_ble_eq_true rfl))
        · try dsimp only [slC, slO]
          refine w_region ?_
          iterate 2 refine o1 rfl ?_
          refine oc' (rs := []) (outs := [.pt [.d (.lit (.slice none 0 0))]]) (call_at rfl rfl (ea_mt (p_op rfl (pl_cons (p_o rfl) pl_nil)) rfl (ea_c rfl rfl ea_nil)) (wh_op wh_nil) rfl rfl) (heap_Queue_int_take_ok h6) ?_
          exact o_join (sub_ren [0, 9001] [] (by decide) rfl (.cons (.skip .nil)) (Nat.le_of_ble_eq_true rfl))
        · try dsimp only [slC, slO]
          refine w_region ?_
          iterate 2 refine o1 rfl ?_
          refine oc' (rs := []) (outs := [.pt [slT 1 cI_i64 (Sl.mk q5_l')]]) (call_at rfl rfl (ea_mt (p_op rfl (pl_cons (p_o rfl) pl_nil)) rfl (ea_c rfl rfl ea_nil)) (wh_op wh_nil) rfl rfl) (heap_Queue_int_take_ok h6) ?_
          exact o_join (sub_ren [0, 2] [] (by decide) rfl (.cons (.cons .nil)) (Nat.le_of_ble_eq_true rfl))
      · intro s hs7
        refine after_n ?_
        refine W.sub hs7 ?_
        refine w_seq ?_
        refine w_region ?_
        refine o1 rfl ?_
        refine o_end (e' := [(4, .c (.d (.lit (.bool true))))]) rfl rfl ?_
        refine after_n ?_
        refine w_ret ?_
        obtain rfl := Option.some.inj hp
        rcases q5_l with _ | q5_l'
        · exact leave_at rfl rfl (pr_c p_d pr_nil) (pc_cons (p_op rfl (pl_cons p_d pl_nil)) pc_nil) rfl rfl
        · exact leave_at rfl rfl (pr_c p_d pr_nil) (pc_cons (p_op rfl (pl_cons (p_o rfl) pl_nil)) pc_nil) rfl rfl

/- turnout/turnoutlaw13.awake -/
def k6 : CC :=
  (.seq
  (.region [
    ⟨some 0, .mv, [(.const (.bool false))], none⟩] [])
  (.seq
  (.region [
    ⟨some 6, (.call false []), [(.func 7)], none⟩,
    ⟨some 1, .mv, [(.tmp 6)], none⟩] [1])
  (.seq
  (.region [
    ⟨some 7, .mv, [(.tmp 1)], none⟩,
    ⟨some 8, (.call false [true, false]), [(.func 8), (.tmp 7), (.const (.int .i64 3))], none⟩] [1])
  (.seq
  (.region [
    ⟨some 9, .mv, [(.tmp 1)], none⟩,
    ⟨some 10, (.call false [true, false]), [(.func 8), (.tmp 9), (.const (.int .i64 1))], none⟩] [1])
  (.seq
  (.region [
    ⟨some 11, .mv, [(.tmp 1)], none⟩,
    ⟨some 12, (.call false [true, false]), [(.func 8), (.tmp 11), (.const (.int .i64 2))], none⟩] [1])
  (.seq
  (.region [
    ⟨some 14, .mv, [(.tmp 1)], none⟩,
    ⟨some 15, (.call false [true]), [(.func 9), (.tmp 14)], none⟩,
    ⟨some 13, .mv, [(.tmp 15)], none⟩,
    ⟨some 16, (.extract 0), [(.tmp 13)], none⟩,
    ⟨some 17, (.extract 1), [(.tmp 13)], none⟩,
    ⟨some 2, .mv, [(.tmp 16)], none⟩,
    ⟨some 3, .mv, [(.tmp 17)], none⟩] [1, 2, 3])
  (.seq
  (.region [
    ⟨some 19, .mv, [(.tmp 1)], none⟩,
    ⟨some 20, (.call false [true]), [(.func 9), (.tmp 19)], none⟩,
    ⟨some 18, .mv, [(.tmp 20)], none⟩,
    ⟨some 21, (.extract 0), [(.tmp 18)], none⟩,
    ⟨some 22, (.extract 1), [(.tmp 18)], none⟩,
    ⟨some 4, .mv, [(.tmp 21)], none⟩,
    ⟨some 5, .mv, [(.tmp 22)], none⟩] [1, 2, 3, 4, 5])
  (.seq
  (.region [
    ⟨some 23, .mv, [(.tmp 1)], none⟩,
    ⟨some 24, (.call true []), [(.func 18), (.tmp 23)], none⟩,
    ⟨some 25, (.bin .eql), [(.tmp 24), (.const (.int .i64 1))], none⟩,
    ⟨some 26, .mv, [(.tmp 25)], none⟩,
    ⟨some 27, .mv, [(.tmp 2)], (some (26, true))⟩,
    ⟨some 28, (.bin .eql), [(.tmp 27), (.const (.int .i64 1))], (some (26, true))⟩,
    ⟨some 29, .pick, [(.tmp 26), (.tmp 28), (.const (.bool false))], none⟩,
    ⟨some 30, .mv, [(.tmp 29)], none⟩,
    ⟨some 31, .mv, [(.tmp 4)], (some (30, true))⟩,
    ⟨some 32, (.bin .eql), [(.tmp 31), (.const (.int .i64 2))], (some (30, true))⟩,
    ⟨some 33, .pick, [(.tmp 30), (.tmp 32), (.const (.bool false))], none⟩,
    ⟨some 34, .mv, [(.tmp 33)], none⟩,
    ⟨some 35, .mv, [(.tmp 3)], (some (34, true))⟩,
    ⟨some 36, .pick, [(.tmp 34), (.tmp 35), (.const (.bool false))], none⟩,
    ⟨some 37, .mv, [(.tmp 36)], none⟩,
    ⟨some 38, .mv, [(.tmp 5)], (some (37, true))⟩,
    ⟨some 39, .pick, [(.tmp 37), (.tmp 38), (.const (.bool false))], none⟩,
    ⟨some 40, .mv, [(.tmp 39)], none⟩,
    ⟨some 41, .mv, [(.tmp 1)], (some (40, true))⟩,
    ⟨some 42, (.call false [true, false]), [(.func 14), (.tmp 41), (.const (.int .i64 9))], (some (40, true))⟩,
    ⟨some 43, (.buildSlice 1 1 [(.int .i64 0)] [0]), [(.const (.int .i64 3))], (some (40, true))⟩,
    ⟨some 44, (.call true []), [(.func 13), (.tmp 42), (.tmp 43)], (some (40, true))⟩,
    ⟨some 45, .pick, [(.tmp 40), (.tmp 44), (.const (.bool false))], none⟩,
    ⟨some 0, .mv, [(.tmp 45)], none⟩] [0])
  .ret))))))))
def f6 : Ev.Fn := ⟨0, 46, [.tmp 0], k6⟩
set_option maxRecDepth 100000 in
theorem e6 : compFn prog sig 6 0 [[], [1], [1], [1], [1], [1, 2, 3], [1, 2, 3, 4, 5], [0]] = some f6 := by kernel_rfl
noncomputable def law13_awake : Option (Bool) :=
  (heap_New_int).bind fun ⟨r1_l⟩ =>
  (heap_Queue_int_Push (⟨r1_l⟩ : heap_Queue_int) 3).bind fun ⟨q4_l⟩ =>
  (heap_Queue_int_Push (⟨q4_l⟩ : heap_Queue_int) 1).bind fun ⟨q7_l⟩ =>
  (heap_Queue_int_Push (⟨q7_l⟩ : heap_Queue_int) 2).bind fun ⟨q10_l⟩ =>
  (heap_Queue_int_Pop (⟨q10_l⟩ : heap_Queue_int)).bind fun (r14, r15, ⟨q13_l⟩) =>
  (heap_Queue_int_Pop (⟨q13_l⟩ : heap_Queue_int)).bind fun (r19, r20, ⟨q18_l⟩) =>
  (heap_Queue_int_Len (⟨q18_l⟩ : heap_Queue_int)).bind fun r23 =>
  (bif (r23 == 1) then (bif (r14 == 1) then (bif (r19 == 2) then (bif r15 then (bif r20 then ((heap_Queue_int_Drain (⟨q18_l⟩ : heap_Queue_int) 9).bind fun (r26, ⟨q25_l⟩) =>
  (ref13_Same r26 (Sl.mk [3])).bind fun r28 =>
  some r28) else (some false)) else (some false)) else (some false)) else (some false)) else (some false)).bind fun b30 =>
  some b30
theorem law13_awake_ok {z : Bool} (hp : law13_awake = some z) : Good prog 6 [] [.c (.d (.lit (.bool z)))] [] := by
  unfold law13_awake at hp
  refine fn_good mixed e6 (fnS (m := [false]) (s := ⟨[], [], 0, []⟩) (len := 0) (c := k6) rfl (Sub.of_eq rfl) rfl rfl ?_)
  refine w_seq ?_
  refine w_region ?_
  refine o1 rfl ?_
  refine o_end (e' := []) rfl rfl ?_
  refine after_n ?_
  refine w_seq ?_
  obtain ⟨⟨r1_l⟩, h2, hp⟩ := bnd hp
  refine w_join (J := fun s => Sub s ⟨[(1, .c (.op 0 0))], [(0, some (.box [slC 1 cI_i64 1 r1_l])), (1, slO 1 cI_i64 r1_l)], 2, []⟩) ?_ ?_
  · rcases r1_l with _ | r1_l'
    · try dsimp only [slC, slO]
      refine w_region ?_
      refine oc (rs := [.c (.pt [.d (.lit (.slice none 0 0))])]) (outs := []) rfl (heap_New_int_ok h2) rfl ?_
      refine o1 rfl ?_
      exact o_join (sub_ren [0, 9001] [1] (by decide) rfl (.cons (.skip .nil)) (Nat.le_of_ble_eq_true rfl))
    · try dsimp only [slC, slO]
      refine w_region ?_
      refine oc (rs := [.c (.pt [slT 1 cI_i64 (Sl.mk r1_l')])]) (outs := []) rfl (heap_New_int_ok h2) rfl ?_
      refine o1 rfl ?_
      exact o_join (sub_ren [0, 1] [1] (by decide) rfl (.cons (.cons .nil)) (Nat.le_of_ble_eq_true rfl))
  · intro s hs3
    refine after_n ?_
    refine W.sub hs3 ?_
    refine w_seq ?_
    obtain ⟨⟨q4_l⟩, h5, hp⟩ := bnd hp
    refine w_join (J := fun s => Sub s ⟨[(1, .c (.op 0 0))], [(0, some (.box [slC 1 cI_i64 1 q4_l])), (1, slO 1 cI_i64 q4_l)], 2, []⟩) ?_ ?_
    · rcases q4_l with _ | q4_l' <;> rcases r1_l with _ | r1_l'
      · try dsimp only [slC, slO]
        refine w_region ?_
        refine o1 rfl ?_
        refine oc (rs := []) (outs := [.pt [.d (.lit (.slice none 0 0))]]) rfl (heap_Queue_int_Push_ok h5) rfl ?_
        exact o_join (sub_ren [0, 9001] [1] (by decide) rfl (.cons (.skip .nil)) (Nat.le_of_ble_eq_true rfl))
      · try dsimp only [slC, slO]
        refine w_region ?_
        refine o1 rfl ?_
        refine oc' (rs := []) (outs := [.pt [.d (.lit (.slice none 0 0))]]) (call_at rfl rfl (ea_mt (p_op rfl (pl_cons (p_o rfl) pl_nil)) rfl (ea_c rfl rfl ea_nil)) (wh_op wh_nil) rfl rfl) (heap_Queue_int_Push_ok h5) ?_
        exact o_join (sub_ren [0, 9001] [1] (by decide) rfl (.cons (.skip .nil)) (Nat.le_of_ble_eq_true rfl))
      · try dsimp only [slC, slO]
        refine w_region ?_
        refine o1 rfl ?_
        refine oc (rs := []) (outs := [.pt [slT 1 cI_i64 (Sl.mk q4_l')]]) rfl (heap_Queue_int_Push_ok h5) rfl ?_
        exact o_join (sub_ren [0, 2] [1] (by decide) rfl (.cons (.cons .nil)) (Nat.le_of_ble_eq_true rfl))
      · try dsimp only [slC, slO]
        refine w_region ?_
        refine o1 rfl ?_
        refine oc' (rs := []) (outs := [.pt [slT 1 cI_i64 (Sl.mk q4_l')]]) (call_at rfl rfl (ea_mt (p_op rfl (pl_cons (p_o rfl) pl_nil)) rfl (ea_c rfl rfl ea_nil)) (wh_op wh_nil) rfl rfl) (heap_Queue_int_Push_ok h5) ?_
        exact o_join (sub_ren [0, 2] [1] (by decide) rfl (.cons (.cons .nil)) (Nat.le_of_ble_eq_true rfl))
    · intro s hs6
      refine after_n ?_
      refine W.sub hs6 ?_
      refine w_seq ?_
      obtain ⟨⟨q7_l⟩, h8, hp⟩ := bnd hp
      refine w_join (J := fun s => Sub s ⟨[(1, .c (.op 0 0))], [(0, some (.box [slC 1 cI_i64 1 q7_l])), (1, slO 1 cI_i64 q7_l)], 2, []⟩) ?_ ?_
      · rcases q4_l with _ | q4_l' <;> rcases q7_l with _ | q7_l'
        · try dsimp only [slC, slO]
          refine w_region ?_
          refine o1 rfl ?_
          refine oc (rs := []) (outs := [.pt [.d (.lit (.slice none 0 0))]]) rfl (heap_Queue_int_Push_ok h8) rfl ?_
          exact o_join (sub_ren [0, 9001] [1] (by decide) rfl (.cons (.skip .nil)) (Nat.le_of_ble_eq_true rfl))
        · try dsimp only [slC, slO]
          refine w_region ?_
          refine o1 rfl ?_
          refine oc (rs := []) (outs := [.pt [slT 1 cI_i64 (Sl.mk q7_l')]]) rfl (heap_Queue_int_Push_ok h8) rfl ?_
          exact o_join (sub_ren [0, 2] [1] (by decide) rfl (.cons (.cons .nil)) (Nat.le_of_ble_eq_true rfl))
        · try dsimp only [slC, slO]
          refine w_region ?_
          refine o1 rfl ?_
          refine oc' (rs := []) (outs := [.pt [.d (.lit (.slice none 0 0))]]) (call_at rfl rfl (ea_mt (p_op rfl (pl_cons (p_o rfl) pl_nil)) rfl (ea_c rfl rfl ea_nil)) (wh_op wh_nil) rfl rfl) (heap_Queue_int_Push_ok h8) ?_
          exact o_join (sub_ren [0, 9001] [1] (by decide) rfl (.cons (.skip .nil)) (Nat.le_of_ble_eq_true rfl))
        · try dsimp only [slC, slO]
          refine w_region ?_
          refine o1 rfl ?_
          refine oc' (rs := []) (outs := [.pt [slT 1 cI_i64 (Sl.mk q7_l')]]) (call_at rfl rfl (ea_mt (p_op rfl (pl_cons (p_o rfl) pl_nil)) rfl (ea_c rfl rfl ea_nil)) (wh_op wh_nil) rfl rfl) (heap_Queue_int_Push_ok h8) ?_
          exact o_join (sub_ren [0, 2] [1] (by decide) rfl (.cons (.cons .nil)) (Nat.le_of_ble_eq_true rfl))
      · intro s hs9
        refine after_n ?_
        refine W.sub hs9 ?_
        refine w_seq ?_
        obtain ⟨⟨q10_l⟩, h11, hp⟩ := bnd hp
        refine w_join (J := fun s => Sub s ⟨[(1, .c (.op 0 0))], [(0, some (.box [slC 1 cI_i64 1 q10_l])), (1, slO 1 cI_i64 q10_l)], 2, []⟩) ?_ ?_
        · rcases q10_l with _ | q10_l' <;> rcases q7_l with _ | q7_l'
          · try dsimp only [slC, slO]
            refine w_region ?_
            refine o1 rfl ?_
            refine oc (rs := []) (outs := [.pt [.d (.lit (.slice none 0 0))]]) rfl (heap_Queue_int_Push_ok h11) rfl ?_
            exact o_join (sub_ren [0, 9001] [1] (by decide) rfl (.cons (.skip .nil)) (Nat.le_of_ble_eq_true rfl))
          · try dsimp only [slC, slO]
            refine w_region ?_
            refine o1 rfl ?_
            refine oc' (rs := []) (outs := [.pt [.d (.lit (.slice none 0 0))]]) (call_at rfl rfl (ea_mt (p_op rfl (pl_cons (p_o rfl) pl_nil)) rfl (ea_c rfl rfl ea_nil)) (wh_op wh_nil) rfl rfl) (heap_Queue_int_Push_ok h11) ?_
            exact o_join (sub_ren [0, 9001] [1] (by decide) rfl (.cons (.skip .nil)) (Nat.le_of_ble_eq_true rfl))
          · try dsimp only [slC, slO]
            refine w_region ?_
            refine o1 rfl ?_
            refine oc (rs := []) (outs := [.pt [slT 1 cI_i64 (Sl.mk q10_l')]]) rfl (heap_Queue_int_Push_ok h11) rfl ?_
            exact o_join (sub_ren [0, 2] [1] (by decide) rfl (.cons (.cons .nil)) (Nat.le_of_ble_eq_true rfl))
          · try dsimp only [slC, slO]
            refine w_region ?_
            refine o1 rfl ?_
            refine oc' (rs := []) (outs := [.pt [slT 1 cI_i64 (Sl.mk q10_l')]]) (call_at rfl rfl (ea_mt (p_op rfl (pl_cons (p_o rfl) pl_nil)) rfl (ea_c rfl rfl ea_nil)) (wh_op wh_nil) rfl rfl) (heap_Queue_int_Push_ok h11) ?_
            exact o_join (sub_ren [0, 2] [1] (by decide) rfl (.cons (.cons .nil)) (Nat.le_of_ble_eq_true rfl))
        · intro s hs12
          refine after_n ?_
          refine W.sub hs12 ?_
          refine w_seq ?_
          obtain ⟨⟨r14, r15, ⟨q13_l⟩⟩, h16, hp⟩ := bnd hp
          refine w_join (J := fun s => Sub s ⟨[(1, .c (.op 0 0)), (2, .c (.d (.lit (.int .i64 r14)))), (3, .c (.d (.lit (.bool r15))))], [(0, some (.box [slC 1 cI_i64 1 q13_l])), (1, slO 1 cI_i64 q13_l)], 2, []⟩) ?_ ?_
          · rcases q10_l with _ | q10_l' <;> rcases q13_l with _ | q13_l'
            · try dsimp only [slC, slO]
              refine w_region ?_
              refine o1 rfl ?_
              refine oc (rs := [.c (.d (.lit (.int .i64 r14))), .c (.d (.lit (.bool r15)))]) (outs := [.pt [.d (.lit (.slice none 0 0))]]) rfl (heap_Queue_int_Pop_ok h16) rfl ?_
              iterate 5 refine o1 rfl ?_
              exact o_join (sub_ren [0, 9001] [1, 2, 3] (by decide) rfl (.cons (.skip .nil)) (Nat.le_of_ble_eq_true rfl))
            · try dsimp only [slC, slO]
              refine w_region ?_
              refine o1 rfl ?_
              refine oc (rs := [.c (.d (.lit (.int .i64 r14))), .c (.d (.lit (.bool r15)))]) (outs := [.pt [slT 1 cI_i64 (Sl.mk q13_l')]]) rfl (heap_Queue_int_Pop_ok h16) rfl ?_
              iterate 5 refine o1 rfl ?_
              exact o_join (sub_ren [0, 2] [1, 2, 3] (by decide) rfl (.cons (.cons .nil)) (Nat.le_of_ble_eq_true rfl))
            · try dsimp only [slC, slO]
              refine w_region ?_
              refine o1 rfl ?_
              refine oc' (rs := [.c (.d (.lit (.int .i64 r14))), .c (.d (.lit (.bool r15)))]) (outs := [.pt [.d (.lit (.slice none 0 0))]]) (call_at rfl rfl (ea_mt (p_op rfl (pl_cons (p_o rfl) pl_nil)) rfl ea_nil) (wh_op wh_nil) rfl rfl) (heap_Queue_int_Pop_ok h16) ?_
              iterate 5 refine o1 rfl ?_
              exact o_join (sub_ren [0, 9001] [1, 2, 3] (by decide) rfl (.cons (.skip .nil)) (Nat.le_of_ble_eq_true rfl))
            · try dsimp only [slC, slO]
              refine w_region ?_
              refine o1 rfl ?_
              refine oc' (rs := [.c (.d (.lit (.int .i64 r14))), .c (.d (.lit (.bool r15)))]) (outs := [.pt [slT 1 cI_i64 (Sl.mk q13_l')]]) (call_at rfl rfl (ea_mt (p_op rfl (pl_cons (p_o rfl) pl_nil)) rfl ea_nil) (wh_op wh_nil) rfl rfl) (heap_Queue_int_Pop_ok h16) ?_
              iterate 5 refine o1 rfl ?_
              exact o_join (sub_ren [0, 2] [1, 2, 3] (by decide) rfl (.cons (.cons .nil)) (Nat.le_of_ble_eq_true rfl))
          · intro s hs17
            refine after_n ?_
            refine W.sub hs17 ?_
            refine w_seq ?_
            obtain ⟨⟨r19, r20, ⟨q18_l⟩⟩, h21, hp⟩ := bnd hp
            refine w_join (J := fun s => Sub s ⟨[(1, .c (.op 0 0)), (2, .c (.d (.lit (.int .i64 r14)))), (3, .c (.d (.lit (.bool r15)))), (4, .c (.d (.lit (.int .i64 r19)))), (5, .c (.d (.lit (.bool r20))))], [(0, some (.box [slC 1 cI_i64 1 q18_l])), (1, slO 1 cI_i64 q18_l)], 2, []⟩) ?_ ?_
            · rcases q13_l with _ | q13_l' <;> rcases q18_l with _ | q18_l'
              · try dsimp only [slC, slO]
                refine w_region ?_
                refine o1 rfl ?_
                refine oc (rs := [.c (.d (.lit (.int .i64 r19))), .c (.d (.lit (.bool r20)))]) (outs := [.pt [.d (.lit (.slice none 0 0))]]) rfl (heap_Queue_int_Pop_ok h21) rfl ?_
                iterate 5 refine o1 rfl ?_
                exact o_join (sub_ren [0, 9001] [1, 2, 3, 4, 5] (by decide) rfl (.cons (.skip .nil)) (Nat.le_of_ble_eq_true rfl))
              · try dsimp only [slC, slO]
                refine w_region ?_
                refine o1 rfl ?_
                refine oc (rs := [.c (.d (.lit (.int .i64 r19))), .c (.d (.lit (.bool r20)))]) (outs := [.pt [slT 1 cI_i64 (Sl.mk q18_l')]]) rfl (heap_Queue_int_Pop_ok h21) rfl ?_
                iterate 5 refine o1 rfl ?_
                exact o_join (sub_ren [0, 2] [1, 2, 3, 4, 5] (by decide) rfl (.cons (.cons .nil)) (Nat.le_of_ble_eq_true rfl))
              · try dsimp only [slC, slO]
                refine w_region ?_
                refine o1 rfl ?_
                refine oc' (rs := [.c (.d (.lit (.int .i64 r19))), .c (.d (.lit (.bool r20)))]) (outs := [.pt [.d (.lit (.slice none 0 0))]]) (call_at rfl rfl (ea_mt (p_op rfl (pl_cons (p_o rfl) pl_nil)) rfl ea_nil) (wh_op wh_nil) rfl rfl) (heap_Queue_int_Pop_ok h21) ?_
                iterate 5 refine o1 rfl ?_
                exact o_join (sub_ren [0, 9001] [1, 2, 3, 4, 5] (by decide) rfl (.cons (.skip .nil)) (Nat.le_of_ble_eq_true rfl))
              · try dsimp only [slC, slO]
                refine w_region ?_
                refine o1 rfl ?_
                refine oc' (rs := [.c (.d (.lit (.int .i64 r19))), .c (.d (.lit (.bool r20)))]) (outs := [.pt [slT 1 cI_i64 (Sl.mk q18_l')]]) (call_at rfl rfl (ea_mt (p_op rfl (pl_cons (p_o rfl) pl_nil)) rfl ea_nil) (wh_op wh_nil) rfl rfl) (heap_Queue_int_Pop_ok h21) ?_
                iterate 5 refine o1 rfl ?_
                exact o_join (sub_ren [0, 2] [1, 2, 3, 4, 5] (by decide) rfl (.cons (.cons .nil)) (Nat.le_of_ble_eq_true rfl))
            · intro s hs22
              refine after_n ?_
              refine W.sub hs22 ?_
              refine w_seq ?_
              obtain ⟨r23, h24, hp⟩ := bnd hp
              obtain ⟨b30, h31, hp⟩ := bnd hp
              refine w_join (J := fun s => Sub s ⟨[(0, .c (.d (.lit (.bool b30))))], [], 0, []⟩) ?_ ?_
              · rcases q18_l with _ | q18_l'
                · try dsimp only [slC, slO]
                  refine w_region ?_
                  refine o1 rfl ?_
                  refine oc (rs := [.c (.d (.lit (.int .i64 r23)))]) (outs := []) rfl (heap_Queue_int_Len_ok h24) rfl ?_
                  refine o1 (v := .c (.d (.lit (.bool (r23 == 1))))) rfl ?_
                  refine o1 rfl ?_
                  cases hb32 : ((r23 == 1) : Bool)
                  · have h31 := cnd_f hb32 h31
                    iterate 2 refine onot rfl rfl ?_
                    iterate 2 refine o1 rfl ?_
                    iterate 2 refine onot rfl rfl ?_
                    iterate 2 refine o1 rfl ?_
                    refine onot rfl rfl ?_
                    iterate 2 refine o1 rfl ?_
                    refine onot rfl rfl ?_
                    iterate 2 refine o1 rfl ?_
                    iterate 4 refine onot rfl rfl ?_
                    iterate 2 refine o1 rfl ?_
                    cases h31
                    exact o_join (sub_ren [] [0] (by decide) rfl .nil (Nat.le_of_ble_eq_true rfl))
                  · have h31 := cnd_t hb32 h31
                    refine og rfl rfl rfl ?_
                    refine og (v := .c (.d (.lit (.bool (r14 == 1))))) rfl rfl rfl ?_
                    iterate 2 refine o1 rfl ?_
                    cases hb33 : ((r14 == 1) : Bool)
                    · have h31 := cnd_f hb33 h31
                      iterate 2 refine onot rfl rfl ?_
                      iterate 2 refine o1 rfl ?_
                      refine onot rfl rfl ?_
                      iterate 2 refine o1 rfl ?_
                      refine onot rfl rfl ?_
                      iterate 2 refine o1 rfl ?_
                      iterate 4 refine onot rfl rfl ?_
                      iterate 2 refine o1 rfl ?_
                      cases h31
                      exact o_join (sub_ren [] [0] (by decide) rfl .nil (Nat.le_of_ble_eq_true rfl))
                    · have h31 := cnd_t hb33 h31
                      refine og rfl rfl rfl ?_
                      refine og (v := .c (.d (.lit (.bool (r19 == 2))))) rfl rfl rfl ?_
                      iterate 2 refine o1 rfl ?_
                      cases hb34 : ((r19 == 2) : Bool)
                      · have h31 := cnd_f hb34 h31
                        refine onot rfl rfl ?_
                        iterate 2 refine o1 rfl ?_
                        refine onot rfl rfl ?_
                        iterate 2 refine o1 rfl ?_
                        iterate 4 refine onot rfl rfl ?_
                        iterate 2 refine o1 rfl ?_
                        cases h31
                        exact o_join (sub_ren [] [0] (by decide) rfl .nil (Nat.le_of_ble_eq_true rfl))
                      · have h31 := cnd_t hb34 h31
                        refine og rfl rfl rfl ?_
                        iterate 2 refine o1 rfl ?_
                        cases hb35 : (r15 : Bool)
                        · have h31 := cnd_f hb35 h31
                          refine onot rfl rfl ?_
                          iterate 2 refine o1 rfl ?_
                          iterate 4 refine onot rfl rfl ?_
                          iterate 2 refine o1 rfl ?_
                          cases h31
                          exact o_join (sub_ren [] [0] (by decide) rfl .nil (Nat.le_of_ble_eq_true rfl))
                        · have h31 := cnd_t hb35 h31
                          refine og rfl rfl rfl ?_
                          iterate 2 refine o1 rfl ?_
                          cases hb36 : (r20 : Bool)
                          · have h31 := cnd_f hb36 h31
                            iterate 4 refine onot rfl rfl ?_
                            iterate 2 refine o1 rfl ?_
                            cases h31
                            exact o_join (sub_ren [] [0] (by decide) rfl .nil (Nat.le_of_ble_eq_true rfl))
                          · have h31 := cnd_t hb36 h31
                            obtain ⟨⟨r26, ⟨q25_l⟩⟩, h27, h31⟩ := bnd h31
                            refine og rfl rfl rfl ?_
                            rcases q25_l with _ | q25_l'
                            · try dsimp only [slC, slO]
                              obtain ⟨r28, h29, h31⟩ := bnd h31
                              refine ocg (rs := [.c (.d (slD 1 cI_i64 r26))]) (outs := [.pt [.d (.lit (.slice none 0 0))]]) rfl rfl rfl (heap_Queue_int_Drain_ok h27) rfl ?_
                              refine og2 rfl rfl rfl ?_
                              refine ocg' (rs := [.c (.d (.lit (.bool r28)))]) (outs := []) rfl rfl (call_at rfl rfl (ea_c rfl rfl (ea_c rfl rfl ea_nil)) wh_nil rfl rfl) (ref13_Same_ok h29) ?_
                              iterate 2 refine o1 rfl ?_
                              cases h31
                              exact o_join (sub_ren [] [0] (by decide) rfl .nil (Nat.le_of_ble_eq_true rfl))
                            · try dsimp only [slC, slO]
                              obtain ⟨r28, h29, h31⟩ := bnd h31
                              refine ocg (rs := [.c (.d (slD 1 cI_i64 r26))]) (outs := [.pt [slT 1 cI_i64 (Sl.mk q25_l')]]) rfl rfl rfl (heap_Queue_int_Drain_ok h27) rfl ?_
                              refine og2 rfl rfl rfl ?_
                              refine ocg' (rs := [.c (.d (.lit (.bool r28)))]) (outs := []) rfl rfl (call_at rfl rfl (ea_c rfl rfl (ea_c rfl rfl ea_nil)) wh_nil rfl rfl) (ref13_Same_ok h29) ?_
                              iterate 2 refine o1 rfl ?_
                              cases h31
                              exact o_join (sub_ren [] [0] (by decide) rfl .nil (Nat.le_of_ble_eq_true rfl))
                · try dsimp only [slC, slO]
                  refine w_region ?_
                  refine o1 rfl ?_
                  refine oc' (rs := [.c (.d (.lit (.int .i64 r23)))]) (outs := []) (call_at rfl rfl (ea_c (v_op rfl (vl_cons (v_o rfl) vl_nil)) rfl ea_nil) wh_nil rfl rfl) (heap_Queue_int_Len_ok h24) ?_
                  refine o1 (v := .c (.d (.lit (.bool (r23 == 1))))) rfl ?_
                  refine o1 rfl ?_
                  cases hb37 : ((r23 == 1) : Bool)
                  · have h31 := cnd_f hb37 h31
                    iterate 2 refine onot rfl rfl ?_
                    iterate 2 refine o1 rfl ?_
                    iterate 2 refine onot rfl rfl ?_
                    iterate 2 refine o1 rfl ?_
                    refine onot rfl rfl ?_
                    iterate 2 refine o1 rfl ?_
                    refine onot rfl rfl ?_
                    iterate 2 refine o1 rfl ?_
                    iterate 4 refine onot rfl rfl ?_
                    iterate 2 refine o1 rfl ?_
                    cases h31
                    exact o_join (sub_ren [] [0] (by decide) rfl .nil (Nat.le_of_ble_eq_true rfl))
                  · have h31 := cnd_t hb37 h31
                    refine og rfl rfl rfl ?_
                    refine og (v := .c (.d (.lit (.bool (r14 == 1))))) rfl rfl rfl ?_
                    iterate 2 refine o1 rfl ?_
                    cases hb38 : ((r14 == 1) : Bool)
                    · have h31 := cnd_f hb38 h31
                      iterate 2 refine onot rfl rfl ?_
                      iterate 2 refine o1 rfl ?_
                      refine onot rfl rfl ?_
                      iterate 2 refine o1 rfl ?_
                      refine onot rfl rfl ?_
                      iterate 2 refine o1 rfl ?_
                      iterate 4 refine onot rfl rfl ?_
                      iterate 2 refine o1 rfl ?_
                      cases h31
                      exact o_join (sub_ren [] [0] (by decide) rfl .nil (Nat.le_of_ble_eq_true rfl))
                    · have h31 := cnd_t hb38 h31
                      refine og rfl rfl rfl ?_
                      refine og (v := .c (.d (.lit (.bool (r19 == 2))))) rfl rfl rfl ?_
                      iterate 2 refine o1 rfl ?_
                      cases hb39 : ((r19 == 2) : Bool)
                      · have h31 := cnd_f hb39 h31
                        refine onot rfl rfl ?_
                        iterate 2 refine o1 rfl ?_
                        refine onot rfl rfl ?_
                        iterate 2 refine o1 rfl ?_
                        iterate 4 refine onot rfl rfl ?_
                        iterate 2 refine o1 rfl ?_
                        cases h31
                        exact o_join (sub_ren [] [0] (by decide) rfl .nil (Nat.le_of_ble_eq_true rfl))
                      · have h31 := cnd_t hb39 h31
                        refine og rfl rfl rfl ?_
                        iterate 2 refine o1 rfl ?_
                        cases hb40 : (r15 : Bool)
                        · have h31 := cnd_f hb40 h31
                          refine onot rfl rfl ?_
                          iterate 2 refine o1 rfl ?_
                          iterate 4 refine onot rfl rfl ?_
                          iterate 2 refine o1 rfl ?_
                          cases h31
                          exact o_join (sub_ren [] [0] (by decide) rfl .nil (Nat.le_of_ble_eq_true rfl))
                        · have h31 := cnd_t hb40 h31
                          refine og rfl rfl rfl ?_
                          iterate 2 refine o1 rfl ?_
                          cases hb41 : (r20 : Bool)
                          · have h31 := cnd_f hb41 h31
                            iterate 4 refine onot rfl rfl ?_
                            iterate 2 refine o1 rfl ?_
                            cases h31
                            exact o_join (sub_ren [] [0] (by decide) rfl .nil (Nat.le_of_ble_eq_true rfl))
                          · have h31 := cnd_t hb41 h31
                            obtain ⟨⟨r26, ⟨q25_l⟩⟩, h27, h31⟩ := bnd h31
                            refine og rfl rfl rfl ?_
                            rcases q25_l with _ | q25_l'
                            · try dsimp only [slC, slO]
                              obtain ⟨r28, h29, h31⟩ := bnd h31
                              refine ocg' (rs := [.c (.d (slD 1 cI_i64 r26))]) (outs := [.pt [.d (.lit (.slice none 0 0))]]) rfl rfl (call_at rfl rfl (ea_mt (p_op rfl (pl_cons (p_o rfl) pl_nil)) rfl (ea_c rfl rfl ea_nil)) (wh_op wh_nil) rfl rfl) (heap_Queue_int_Drain_ok h27) ?_
                              refine og2 rfl rfl rfl ?_
                              refine ocg' (rs := [.c (.d (.lit (.bool r28)))]) (outs := []) rfl rfl (call_at rfl rfl (ea_c rfl rfl (ea_c rfl rfl ea_nil)) wh_nil rfl rfl) (ref13_Same_ok h29) ?_
                              iterate 2 refine o1 rfl ?_
                              cases h31
                              exact o_join (sub_ren [] [0] (by decide) rfl .nil (Nat.le_of_ble_eq_true rfl))
                            · try dsimp only [slC, slO]
                              obtain ⟨r28, h29, h31⟩ := bnd h31
                              refine ocg' (rs := [.c (.d (slD 1 cI_i64 r26))]) (outs := [.pt [slT 1 cI_i64 (Sl.mk q25_l')]]) rfl rfl (call_at rfl rfl (ea_mt (p_op rfl (pl_cons (p_o rfl) pl_nil)) rfl (ea_c rfl rfl ea_nil)) (wh_op wh_nil) rfl rfl) (heap_Queue_int_Drain_ok h27) ?_
                              refine og2 rfl rfl rfl ?_
                              refine ocg' (rs := [.c (.d (.lit (.bool r28)))]) (outs := []) rfl rfl (call_at rfl rfl (ea_c rfl rfl (ea_c rfl rfl ea_nil)) wh_nil rfl rfl) (ref13_Same_ok h29) ?_
                              iterate 2 refine o1 rfl ?_
                              cases h31
                              exact o_join (sub_ren [] [0] (by decide) rfl .nil (Nat.le_of_ble_eq_true rfl))
              · intro s hs42
                refine after_n ?_
                refine W.sub hs42 ?_
                refine w_ret ?_
                obtain rfl := Option.some.inj hp
                exact leave_at rfl rfl (pr_c p_d pr_nil) pc_nil rfl rfl

/- turnout/turnoutlaw13.HeapPlays -/
def k4 : CC :=
  (.seq
  (.region [
    ⟨some 2, .mv, [(.const (.bool false))], none⟩] [0])
  (.seq
  (.region [
    ⟨some 20, (.call false []), [(.func 7)], none⟩,
    ⟨some 3, .mv, [(.tmp 20)], none⟩] [0, 3])
  (.seq
  (.region [
    ⟨some 4, .mv, [(.const (.slice none 0 0))], none⟩] [0, 3, 4])
  (.seq
  (.seq
  (.region [
    ⟨some 5, .mv, [(.const (.int .i64 0))], none⟩] [0, 3, 4, 5])
  (.block 0
    (.loop [0, 3, 4, 5]
      (.seq
      (.seq
      (.region [
        ⟨some 21, .mv, [(.tmp 5)], none⟩,
        ⟨some 22, .mv, [(.tmp 0)], none⟩,
        ⟨some 23, (.len false), [(.tmp 22)], none⟩,
        ⟨some 24, (.bin .lss), [(.tmp 21), (.tmp 23)], none⟩,
        ⟨some 25, .mv, [(.tmp 24)], none⟩,
        ⟨some 26, .mv, [(.tmp 5)], (some (25, true))⟩,
        ⟨some 27, (.bin .lss), [(.tmp 26), (.const (.int .i64 80))], (some (25, true))⟩,
        ⟨some 28, .pick, [(.tmp 25), (.tmp 27), (.const (.bool false))], none⟩] [0, 3, 4, 5, 28])
      (.cond (.tmp 28)
        .skip
        (.exit 0)))
      (.seq
      (.block 1
        (.seq
        (.seq
        (.region [
          ⟨some 31, .mv, [(.tmp 0)], none⟩,
          ⟨some 32, .mv, [(.tmp 5)], none⟩,
          ⟨some 33, (.indexAddr none 2), [(.tmp 31), (.tmp 32)], none⟩,
          ⟨some 34, (.fieldAddr 0), [(.tmp 33)], none⟩,
          ⟨some 35, (.load false 1), [(.tmp 34)], none⟩] [0, 3, 4, 5, 35])
        (.block 2
          (.seq
          (.seq
          (.region [
            ⟨some 37, (.bin .eql), [(.tmp 35), (.const (.int .i64 0))], none⟩,
            ⟨some 36, .mv, [(.tmp 37)], none⟩] [0, 3, 4, 5, 35, 36])
          (.cond (.tmp 36)
            .skip
            (.seq
            (.region [
              ⟨some 38, (.bin .eql), [(.tmp 35), (.const (.int .i64 1))], none⟩,
              ⟨some 36, .mv, [(.tmp 38)], none⟩] [0, 3, 4, 5, 35, 36])
            (.cond (.tmp 36)
              .skip
              (.region [
                ⟨some 39, (.bin .eql), [(.tmp 35), (.const (.int .i64 2))], none⟩,
                ⟨some 36, .mv, [(.tmp 39)], none⟩] [0, 3, 4, 5, 35, 36])))))
          (.cond (.tmp 36)
            (.seq
            (.region [
              ⟨some 40, .mv, [(.tmp 3)], none⟩,
              ⟨some 41, .mv, [(.tmp 0)], none⟩,
              ⟨some 42, .mv, [(.tmp 5)], none⟩,
              ⟨some 43, (.indexAddr none 2), [(.tmp 41), (.tmp 42)], none⟩,
              ⟨some 44, (.fieldAddr 1), [(.tmp 43)], none⟩,
              ⟨some 45, (.load false 1), [(.tmp 44)], none⟩,
              ⟨some 46, (.call false [true, false]), [(.func 8), (.tmp 40), (.tmp 45)], none⟩] [0, 3, 4, 5])
            (.region [
              ⟨some 47, .mv, [(.tmp 4)], none⟩,
              ⟨some 48, .mv, [(.tmp 0)], none⟩,
              ⟨some 49, .mv, [(.tmp 5)], none⟩,
              ⟨some 50, (.indexAddr none 2), [(.tmp 48), (.tmp 49)], none⟩,
              ⟨some 51, (.fieldAddr 1), [(.tmp 50)], none⟩,
              ⟨some 52, (.load false 1), [(.tmp 51)], none⟩,
              ⟨some 53, (.call false []), [(.func 10), (.tmp 47), (.tmp 52)], none⟩,
              ⟨some 4, .mv, [(.tmp 53)], none⟩] [0, 3, 4, 5]))
            (.seq
            (.seq
            (.region [
              ⟨some 55, (.bin .eql), [(.tmp 35), (.const (.int .i64 3))], none⟩,
              ⟨some 54, .mv, [(.tmp 55)], none⟩] [0, 3, 4, 5, 35, 54])
            (.cond (.tmp 54)
              .skip
              (.region [
                ⟨some 56, (.bin .eql), [(.tmp 35), (.const (.int .i64 4))], none⟩,
                ⟨some 54, .mv, [(.tmp 56)], none⟩] [0, 3, 4, 5, 35, 54])))
            (.cond (.tmp 54)
              (.seq
              (.region [
                ⟨some 58, .mv, [(.tmp 3)], none⟩,
                ⟨some 59, (.call false [true]), [(.func 9), (.tmp 58)], none⟩,
                ⟨some 57, .mv, [(.tmp 59)], none⟩,
                ⟨some 60, (.extract 0), [(.tmp 57)], none⟩,
                ⟨some 61, (.extract 1), [(.tmp 57)], none⟩,
                ⟨some 6, .mv, [(.tmp 60)], none⟩,
                ⟨some 7, .mv, [(.tmp 61)], none⟩] [0, 3, 4, 5, 6, 7])
              (.seq
              (.region [
                ⟨some 63, .mv, [(.tmp 4)], none⟩,
                ⟨some 64, (.call false []), [(.func 11), (.tmp 63)], none⟩,
                ⟨some 62, .mv, [(.tmp 64)], none⟩,
                ⟨some 65, (.extract 0), [(.tmp 62)], none⟩,
                ⟨some 66, (.extract 1), [(.tmp 62)], none⟩,
                ⟨some 67, (.extract 2), [(.tmp 62)], none⟩,
                ⟨some 8, .mv, [(.tmp 65)], none⟩,
                ⟨some 9, .mv, [(.tmp 66)], none⟩,
                ⟨some 10, .mv, [(.tmp 67)], none⟩] [0, 3, 5, 6, 7, 8, 9, 10])
              (.seq
              (.region [
                ⟨some 68, .mv, [(.tmp 9)], none⟩,
                ⟨some 4, .mv, [(.tmp 68)], none⟩] [0, 3, 4, 5, 6, 7, 8, 10])
              (.seq
              (.region [
                ⟨some 69, .mv, [(.tmp 6)], none⟩,
                ⟨some 70, .mv, [(.tmp 8)], none⟩,
                ⟨some 71, (.bin .neq), [(.tmp 69), (.tmp 70)], none⟩,
                ⟨some 72, .mv, [(.tmp 71)], none⟩,
                ⟨some 73, .mv, [(.tmp 7)], (some (72, false))⟩,
                ⟨some 74, .mv, [(.tmp 10)], (some (72, false))⟩,
                ⟨some 75, (.eqBool true), [(.tmp 73), (.tmp 74)], (some (72, false))⟩,
                ⟨some 76, .pick, [(.tmp 72), (.const (.bool true)), (.tmp 75)], none⟩] [0, 3, 4, 5, 76])
              (.cond (.tmp 76)
                (.seq
                (.region [
                  ⟨some 2, .mv, [(.const (.bool false))], none⟩] [2])
                .ret)
                .skip)))))
              (.seq
              (.region [
                ⟨some 78, (.bin .eql), [(.tmp 35), (.const (.int .i64 5))], none⟩,
                ⟨some 77, .mv, [(.tmp 78)], none⟩] [0, 3, 4, 5, 35, 77])
              (.cond (.tmp 77)
                (.seq
                (.region [
                  ⟨some 80, .mv, [(.tmp 4)], none⟩,
                  ⟨some 81, .mv, [(.tmp 0)], none⟩,
                  ⟨some 82, .mv, [(.tmp 5)], none⟩,
                  ⟨some 83, (.indexAddr none 2), [(.tmp 81), (.tmp 82)], none⟩,
                  ⟨some 84, (.fieldAddr 1), [(.tmp 83)], none⟩,
                  ⟨some 85, (.load false 1), [(.tmp 84)], none⟩,
                  ⟨some 86, (.call false []), [(.func 12), (.tmp 80), (.tmp 85)], none⟩,
                  ⟨some 79, .mv, [(.tmp 86)], none⟩,
                  ⟨some 87, (.extract 0), [(.tmp 79)], none⟩,
                  ⟨some 88, (.extract 1), [(.tmp 79)], none⟩,
                  ⟨some 11, .mv, [(.tmp 87)], none⟩,
                  ⟨some 12, .mv, [(.tmp 88)], none⟩] [0, 3, 5, 11, 12])
                (.seq
                (.region [
                  ⟨some 89, .mv, [(.tmp 12)], none⟩,
                  ⟨some 4, .mv, [(.tmp 89)], none⟩] [0, 3, 4, 5, 11])
                (.seq
                (.region [
                  ⟨some 90, .mv, [(.tmp 3)], none⟩,
                  ⟨some 91, .mv, [(.tmp 0)], none⟩,
                  ⟨some 92, .mv, [(.tmp 5)], none⟩,
                  ⟨some 93, (.indexAddr none 2), [(.tmp 91), (.tmp 92)], none⟩,
                  ⟨some 94, (.fieldAddr 1), [(.tmp 93)], none⟩,
                  ⟨some 95, (.load false 1), [(.tmp 94)], none⟩,
                  ⟨some 96, (.call false [true, false]), [(.func 14), (.tmp 90), (.tmp 95)], none⟩,
                  ⟨some 97, .mv, [(.tmp 11)], none⟩,
                  ⟨some 98, (.call true []), [(.func 13), (.tmp 96), (.tmp 97)], none⟩,
                  ⟨some 99, (.un .not), [(.tmp 98)], none⟩] [0, 3, 4, 5, 99])
                (.cond (.tmp 99)
                  (.seq
                  (.region [
                    ⟨some 2, .mv, [(.const (.bool false))], none⟩] [2])
                  .ret)
                  .skip))))
                (.seq
                (.region [
                  ⟨some 101, (.bin .eql), [(.tmp 35), (.const (.int .i64 6))], none⟩,
                  ⟨some 100, .mv, [(.tmp 101)], none⟩] [0, 3, 4, 5, 35, 100])
                (.cond (.tmp 100)
                  (.seq
                  (.region [
                    ⟨some 103, .mv, [(.tmp 4)], none⟩,
                    ⟨some 104, .mv, [(.tmp 0)], none⟩,
                    ⟨some 105, .mv, [(.tmp 5)], none⟩,
                    ⟨some 106, (.indexAddr none 2), [(.tmp 104), (.tmp 105)], none⟩,
                    ⟨some 107, (.fieldAddr 1), [(.tmp 106)], none⟩,
                    ⟨some 108, (.load false 1), [(.tmp 107)], none⟩,
                    ⟨some 109, (.call false []), [(.func 15), (.tmp 103), (.tmp 108)], none⟩,
                    ⟨some 102, .mv, [(.tmp 109)], none⟩,
                    ⟨some 110, (.extract 0), [(.tmp 102)], none⟩,
                    ⟨some 111, (.extract 1), [(.tmp 102)], none⟩,
                    ⟨some 13, .mv, [(.tmp 110)], none⟩,
                    ⟨some 14, .mv, [(.tmp 111)], none⟩] [0, 3, 5, 13, 14])
                  (.seq
                  (.region [
                    ⟨some 112, .mv, [(.tmp 13)], none⟩,
                    ⟨some 4, .mv, [(.tmp 112)], none⟩] [0, 3, 4, 5, 14])
                  (.seq
                  (.region [
                    ⟨some 113, .mv, [(.tmp 3)], none⟩,
                    ⟨some 114, .mv, [(.tmp 0)], none⟩,
                    ⟨some 115, .mv, [(.tmp 5)], none⟩,
                    ⟨some 116, (.indexAddr none 2), [(.tmp 114), (.tmp 115)], none⟩,
                    ⟨some 117, (.fieldAddr 1), [(.tmp 116)], none⟩,
                    ⟨some 118, (.load false 1), [(.tmp 117)], none⟩,
                    ⟨some 119, (.call false [true, false]), [(.func 16), (.tmp 113), (.tmp 118)], none⟩,
                    ⟨some 120, .mv, [(.tmp 14)], none⟩,
                    ⟨some 121, (.eqBool true), [(.tmp 119), (.tmp 120)], none⟩] [0, 3, 4, 5, 121])
                  (.cond (.tmp 121)
                    (.seq
                    (.region [
                      ⟨some 2, .mv, [(.const (.bool false))], none⟩] [2])
                    .ret)
                    .skip))))
                  (.seq
                  (.region [
                    ⟨some 123, (.bin .eql), [(.tmp 35), (.const (.int .i64 7))], none⟩,
                    ⟨some 122, .mv, [(.tmp 123)], none⟩] [0, 3, 4, 5, 122])
                  (.cond (.tmp 122)
                    (.seq
                    (.region [
                      ⟨some 125, .mv, [(.tmp 3)], none⟩,
                      ⟨some 126, (.call true []), [(.func 17), (.tmp 125)], none⟩,
                      ⟨some 124, .mv, [(.tmp 126)], none⟩,
                      ⟨some 127, (.extract 0), [(.tmp 124)], none⟩,
                      ⟨some 128, (.extract 1), [(.tmp 124)], none⟩,
                      ⟨some 15, .mv, [(.tmp 127)], none⟩,
                      ⟨some 16, .mv, [(.tmp 128)], none⟩] [0, 3, 4, 5, 15, 16])
                    (.seq
                    (.region [
                      ⟨some 130, .mv, [(.tmp 4)], none⟩,
                      ⟨some 131, (.call false []), [(.func 11), (.tmp 130)], none⟩,
                      ⟨some 129, .mv, [(.tmp 131)], none⟩,
                      ⟨some 132, (.extract 0), [(.tmp 129)], none⟩,
                      ⟨some 133, (.extract 1), [(.tmp 129)], none⟩,
                      ⟨some 134, (.extract 2), [(.tmp 129)], none⟩,
                      ⟨some 17, .mv, [(.tmp 132)], none⟩,
                      ⟨some 18, .mv, [(.tmp 133)], none⟩,
                      ⟨some 19, .mv, [(.tmp 134)], none⟩] [0, 3, 4, 5, 15, 16, 17, 19])
                    (.seq
                    (.region [
                      ⟨some 135, .mv, [(.tmp 15)], none⟩,
                      ⟨some 136, .mv, [(.tmp 17)], none⟩,
                      ⟨some 137, (.bin .neq), [(.tmp 135), (.tmp 136)], none⟩,
                      ⟨some 138, .mv, [(.tmp 137)], none⟩,
                      ⟨some 139, .mv, [(.tmp 16)], (some (138, false))⟩,
                      ⟨some 140, .mv, [(.tmp 19)], (some (138, false))⟩,
                      ⟨some 141, (.eqBool true), [(.tmp 139), (.tmp 140)], (some (138, false))⟩,
                      ⟨some 142, .pick, [(.tmp 138), (.const (.bool true)), (.tmp 141)], none⟩] [0, 3, 4, 5, 142])
                    (.cond (.tmp 142)
                      (.seq
                      (.region [
                        ⟨some 2, .mv, [(.const (.bool false))], none⟩] [2])
                      .ret)
                      .skip))))
                    .skip))))))))))))
        (.seq
        (.region [
          ⟨some 143, .mv, [(.tmp 3)], none⟩,
          ⟨some 144, (.call true []), [(.func 18), (.tmp 143)], none⟩,
          ⟨some 145, .mv, [(.tmp 4)], none⟩,
          ⟨some 146, (.len false), [(.tmp 145)], none⟩,
          ⟨some 147, (.bin .neq), [(.tmp 144), (.tmp 146)], none⟩] [0, 3, 4, 5, 147])
        (.cond (.tmp 147)
          (.seq
          (.region [
            ⟨some 2, .mv, [(.const (.bool false))], none⟩] [2])
          .ret)
          .skip))))
      (.region [
        ⟨some 29, .mv, [(.tmp 5)], none⟩,
        ⟨some 30, (.bin .add), [(.tmp 29), (.const (.int .i64 1))], none⟩,
        ⟨some 5, .mv, [(.tmp 30)], none⟩] [0, 3, 4, 5]))))))
  (.seq
  (.region [
    ⟨some 148, (.call true []), [(.func 6)], none⟩,
    ⟨some 2, .mv, [(.tmp 148)], none⟩] [2])
  .ret)))))
def f4 : Ev.Fn := ⟨1, 149, [.tmp 2], k4⟩
set_option maxRecDepth 100000 in
theorem e4 : compFn prog sig 4 1 [[0], [0, 3], [0, 3, 4], [0, 3, 4, 5], [0, 3, 4, 5], [0, 3, 4, 5, 28], [0, 3, 4, 5, 35], [0, 3, 4, 5, 35, 36], [0, 3, 4, 5, 35, 36], [0, 3, 4, 5, 35, 36], [0, 3, 4, 5], [0, 3, 4, 5], [0, 3, 4, 5, 35, 54], [0, 3, 4, 5, 35, 54], [0, 3, 4, 5, 6, 7], [0, 3, 5, 6, 7, 8, 9, 10], [0, 3, 4, 5, 6, 7, 8, 10], [0, 3, 4, 5, 76], [2], [0, 3, 4, 5, 35, 77], [0, 3, 5, 11, 12], [0, 3, 4, 5, 11], [0, 3, 4, 5, 99], [2], [0, 3, 4, 5, 35, 100], [0, 3, 5, 13, 14], [0, 3, 4, 5, 14], [0, 3, 4, 5, 121], [2], [0, 3, 4, 5, 122], [0, 3, 4, 5, 15, 16], [0, 3, 4, 5, 15, 16, 17, 19], [0, 3, 4, 5, 142], [2], [0, 3, 4, 5, 147], [2], [0, 3, 4, 5], [2]] = some f4 := by kernel_rfl
noncomputable def law13_HeapPlays_L1 (l0 : Sl law13_Deed) : (Sl Int × Sl Int × Int) → Option (Sum ((Sl Int × Sl Int × Int)) (Sum (Unit) (Unit))) := fun (s4, s5, i6) =>
  bif ((decide (i6 < (l0.l.length : Int))) && (decide (i6 < 80))) then (((ixI i6 l0.l.length).bind fun n20 =>
  (bif (((gt l0.l n20).Kind) == 0) then (some (((gt l0.l n20).Kind) == 0)) else
  (bif (((gt l0.l n20).Kind) == 1) then (some (((gt l0.l n20).Kind) == 1)) else
  (some (((gt l0.l n20).Kind) == 2))) : Option (Bool)).bind fun b22 =>
  bif b22 then ((heap_Queue_int_Push (⟨s4⟩ : heap_Queue_int) ((gt l0.l n20).N)).bind fun ⟨q29_l⟩ =>
  (ref13_Push s5 ((gt l0.l n20).N)).bind fun r32 =>
  some (.inl (q29_l, r32))) else
  ((bif (((gt l0.l n20).Kind) == 3) then (some (((gt l0.l n20).Kind) == 3)) else
  (some (((gt l0.l n20).Kind) == 4)) : Option (Bool)).bind fun b34 =>
  bif b34 then ((heap_Queue_int_Pop (⟨s4⟩ : heap_Queue_int)).bind fun (r41, r42, ⟨q40_l⟩) =>
  (ref13_Pop s5).bind fun (r45, r46, r47) =>
  bif ((r41 != r45) || (!(r42 == r47))) then (some (.inr ())) else
  (some (.inl (q40_l, r46)))) else
  (bif (((gt l0.l n20).Kind) == 5) then ((ref13_Drain s5 ((gt l0.l n20).N)).bind fun (r54, r55) =>
  (heap_Queue_int_Drain (⟨s4⟩ : heap_Queue_int) ((gt l0.l n20).N)).bind fun (r58, ⟨q57_l⟩) =>
  (ref13_Same r58 r54).bind fun r60 =>
  bif (!r60) then (some (.inr ())) else
  (some (.inl (q57_l, r55)))) else
  (bif (((gt l0.l n20).Kind) == 6) then ((ref13_Drop s5 ((gt l0.l n20).N)).bind fun (r65, r66) =>
  (heap_Queue_int_Drop (⟨s4⟩ : heap_Queue_int) ((gt l0.l n20).N)).bind fun (r69, ⟨q68_l⟩) =>
  bif (!(r69 == r66)) then (some (.inr ())) else
  (some (.inl (q68_l, r65)))) else
  (bif (((gt l0.l n20).Kind) == 7) then ((heap_Queue_int_Peek (⟨s4⟩ : heap_Queue_int)).bind fun (r74, r75) =>
  (ref13_Pop s5).bind fun (r78, r79, r80) =>
  bif ((r74 != r78) || (!(r75 == r80))) then (some (.inr ())) else
  (some (.inl (s4, s5)))) else
  (some (.inl (s4, s5))))))) : Option (Sum ((Sl Int × Sl Int)) (Unit))).bind fun
  | .inl (s16, s17) => ((heap_Queue_int_Len (⟨s16⟩ : heap_Queue_int)).bind fun r87 =>
  bif (r87 != (s17.l.length : Int)) then (some (.inr (.inl ()))) else
  (some (.inl (s16, s17, wr .i64 (i6 + 1)))))
  | .inr _ => (some (.inr (.inl ())))) else
  (some (.inr (.inr ())))

noncomputable def law13_HeapPlays (l0 : Sl law13_Deed) : Option (Bool) :=
  (heap_New_int).bind fun ⟨r1_l⟩ =>
  (loopO (law13_HeapPlays_L1 l0) (r1_l, Sl.nil, 0)).bind fun
  | .inl _ => (some false)
  | .inr (_) => ((law13_awake).bind fun r92 =>
  some r92)
theorem law13_HeapPlays_ok {l0 : Sl law13_Deed} {z : Bool} (hp : law13_HeapPlays l0 = some z) : Good prog 4 [.d (slD 2 c_law13_Deed l0)] [.c (.d (.lit (.bool z)))] [] := by
  unfold law13_HeapPlays at hp
  refine fn_good mixed e4 (fnS (m := [false]) (s := ⟨[(0, .c (.d (slD 2 c_law13_Deed l0)))], [], 0, []⟩) (len := 0) (c := k4) rfl (Sub.of_eq rfl) rfl rfl ?_)
  refine w_seq ?_
  refine w_region ?_
  refine o1 rfl ?_
  refine o_end (e' := [(0, .c (.d (slD 2 c_law13_Deed l0)))]) rfl rfl ?_
  refine after_n ?_
  refine w_seq ?_
  obtain ⟨⟨r1_l⟩, h2, hp⟩ := bnd hp
  refine w_join (J := fun s => Sub s ⟨[(0, .c (.d (slD 2 c_law13_Deed l0))), (3, .c (.op 0 0))], [(0, some (.box [slC 1 cI_i64 1 r1_l])), (1, slO 1 cI_i64 r1_l)], 2, []⟩) ?_ ?_
  · rcases r1_l with _ | r1_l'
    · try dsimp only [slC, slO]
      refine w_region ?_
      refine oc (rs := [.c (.pt [.d (.lit (.slice none 0 0))])]) (outs := []) rfl (heap_New_int_ok h2) rfl ?_
      refine o1 rfl ?_
      exact o_join (sub_ren [0, 9001] [0, 3] (by decide) rfl (.cons (.skip .nil)) (Nat.le_of_ble_eq_true rfl))
    · try dsimp only [slC, slO]
      refine w_region ?_
      refine oc (rs := [.c (.pt [slT 1 cI_i64 (Sl.mk r1_l')])]) (outs := []) rfl (heap_New_int_ok h2) rfl ?_
      refine o1 rfl ?_
      exact o_join (sub_ren [0, 1] [0, 3] (by decide) rfl (.cons (.cons .nil)) (Nat.le_of_ble_eq_true rfl))
  · intro s hs3
    refine after_n ?_
    refine W.sub hs3 ?_
    refine w_seq ?_
    refine w_region ?_
    refine o1 rfl ?_
    refine o_end (e' := [(0, .c (.d (slD 2 c_law13_Deed l0))), (3, .c (.op 0 0)), (4, .c (.d (.lit (.slice none 0 0))))]) rfl rfl ?_
    refine after_n ?_
    refine w_seq ?_
    refine w_seq ?_
    refine w_region ?_
    refine o1 rfl ?_
    refine o_end (e' := [(0, .c (.d (slD 2 c_law13_Deed l0))), (3, .c (.op 0 0)), (4, .c (.d (.lit (.slice none 0 0)))), (5, .c (.d (.lit (.int .i64 0))))]) rfl rfl ?_
    refine after_n ?_
    refine w_block ?_
    obtain ⟨x10, h11, hp⟩ := bnd hp
    refine W.mono ?_ (w_loopS (st := fun (v : (Sl Int × Sl Int × Int)) => match v with | (s4, s5, i6) => ⟨[(0, .c (.d (slD 2 c_law13_Deed l0))), (3, .c (.op 0 0)), (4, .c (.d (slD 1 cI_i64 s5))), (5, .c (.d (.lit (.int .i64 i6))))], [(0, some (.box [slC 1 cI_i64 1 s4])), (1, slO 1 cI_i64 s4)], 2, []⟩) (a := (r1_l, Sl.nil, 0)) (Q := Jn (fun (x : Sum (Unit) (Unit)) o s => match x with | .inl _ => o = Out.ret ∧ Sub s ⟨[(2, .c (.d (.lit (.bool false))))], [], 0, []⟩ | .inr (_) => o = Out.exit 0 ∧ Sub s ⟨[], [], 0, []⟩)) ?_ h11 ?_)
    · intro o s hs91
      rcases x10 with (_ | _)
      · obtain ⟨rfl, hs91⟩ := hs91
        refine out_r ?_
        refine after_r ?_
        obtain rfl := Option.some.inj hp
        refine wk.sub hs91 ?_
        exact leave_at rfl rfl (pr_c p_d pr_nil) pc_nil rfl rfl
      · obtain ⟨rfl, hs91⟩ := hs91
        refine out_e ?_
        refine after_n ?_
        refine W.sub hs91 ?_
        refine w_seq ?_
        obtain ⟨r92, h93, hp⟩ := bnd hp
        refine w_region ?_
        refine oc (rs := [.c (.d (.lit (.bool r92)))]) (outs := []) rfl (law13_awake_ok h93) rfl ?_
        refine o1 rfl ?_
        refine o_end (e' := [(2, .c (.d (.lit (.bool r92))))]) rfl rfl ?_
        refine after_n ?_
        refine w_ret ?_
        obtain rfl := Option.some.inj hp
        exact leave_at rfl rfl (pr_c p_d pr_nil) pc_nil rfl rfl
    · exact (by rcases r1_l with _ | _ <;> first | (exact sub_ren [0, 9001] [0, 3, 4, 5] (by decide) rfl (.cons (.skip .nil)) (Nat.le_of_ble_eq_true rfl)) | (exact sub_ren [0, 1] [0, 3, 4, 5] (by decide) rfl (.cons (.cons .nil)) (Nat.le_of_ble_eq_true rfl)))
    · rintro ⟨s4, s5, i6⟩ r hr
      unfold law13_HeapPlays_L1 at hr
      refine w_seq ?_
      refine w_seq ?_
      refine w_join (J := fun s => Sub s ⟨[(0, .c (.d (slD 2 c_law13_Deed l0))), (3, .c (.op 0 0)), (4, .c (.d (slD 1 cI_i64 s5))), (5, .c (.d (.lit (.int .i64 i6)))), (28, .c (.d (.lit (.bool ((decide (i6 < (l0.l.length : Int))) && (decide (i6 < 80)))))))], [(0, some (.box [slC 1 cI_i64 1 s4])), (1, slO 1 cI_i64 s4)], 2, []⟩) ?_ ?_
      · refine w_region ?_
        iterate 2 refine o1 rfl ?_
        refine o1 (v := .c (.d (.lit (.int .i64 (l0.l.length : Int))))) len_sd ?_
        refine o1 (v := .c (.d (.lit (.bool (decide (i6 < (l0.l.length : Int))))))) rfl ?_
        refine o1 rfl ?_
        cases hb13 : (decide (i6 < (l0.l.length : Int)) : Bool)
        · refine onot rfl rfl ?_
          refine onot rfl rfl ?_
          refine o1 rfl ?_
          exact o_join (by rcases s4 with _ | _ <;> first | (exact sub_ren [0, 9001] [0, 3, 4, 5, 28] (by decide) rfl (.cons (.skip .nil)) (Nat.le_of_ble_eq_true rfl)) | (exact sub_ren [0, 1] [0, 3, 4, 5, 28] (by decide) rfl (.cons (.cons .nil)) (Nat.le_of_ble_eq_true rfl)))
        · refine og rfl rfl rfl ?_
          refine og (v := .c (.d (.lit (.bool (decide (i6 < 80)))))) rfl rfl rfl ?_
          refine o1 rfl ?_
          exact o_join (by rcases s4 with _ | _ <;> first | (exact sub_ren [0, 9001] [0, 3, 4, 5, 28] (by decide) rfl (.cons (.skip .nil)) (Nat.le_of_ble_eq_true rfl)) | (exact sub_ren [0, 1] [0, 3, 4, 5, 28] (by decide) rfl (.cons (.cons .nil)) (Nat.le_of_ble_eq_true rfl)))
      · intro s hs14
        refine after_n ?_
        refine W.sub hs14 ?_
        refine w_cond (t := ((decide (i6 < (l0.l.length : Int))) && (decide (i6 < 80)))) rfl (fun hb15 => ?_) (fun hb15 => ?_)
        · have hr := cnd_t hb15 hr
          refine w_skip ?_
          refine after_n ?_
          refine w_seq ?_
          refine w_block ?_
          refine w_seq ?_
          obtain ⟨x19, h18, hr⟩ := bnd hr
          refine W.mono (Q := Jn (fun (x : Sum ((Sl Int × Sl Int)) (Unit)) o s => match x with | .inl (s16, s17) => o = Out.normal ∧ Sub s ⟨[(0, .c (.d (slD 2 c_law13_Deed l0))), (3, .c (.op 0 0)), (4, .c (.d (slD 1 cI_i64 s17))), (5, .c (.d (.lit (.int .i64 i6))))], [(0, some (.box [slC 1 cI_i64 1 s16])), (1, slO 1 cI_i64 s16)], 2, []⟩ | .inr _ => o = Out.ret ∧ Sub s ⟨[(2, .c (.d (.lit (.bool false))))], [], 0, []⟩) x19) ?_ ?_
          · intro o s hs86
            rcases x19 with (⟨s16, s17⟩ | _)
            · obtain ⟨rfl, hs86⟩ := hs86
              refine after_n ?_
              refine W.sub hs86 ?_
              refine w_seq ?_
              obtain ⟨r87, h88, hr⟩ := bnd hr
              refine w_join (J := fun s => Sub s ⟨[(0, .c (.d (slD 2 c_law13_Deed l0))), (3, .c (.op 0 0)), (4, .c (.d (slD 1 cI_i64 s17))), (5, .c (.d (.lit (.int .i64 i6)))), (147, .c (.d (.lit (.bool (r87 != (s17.l.length : Int))))))], [(0, some (.box [slC 1 cI_i64 1 s16])), (1, slO 1 cI_i64 s16)], 2, []⟩) ?_ ?_
              · rcases s16 with _ | s16'
                · try dsimp only [slC, slO]
                  refine w_region ?_
                  refine o1 rfl ?_
                  refine oc (rs := [.c (.d (.lit (.int .i64 r87)))]) (outs := []) rfl (heap_Queue_int_Len_ok h88) rfl ?_
                  refine o1 rfl ?_
                  refine o1 (v := .c (.d (.lit (.int .i64 (s17.l.length : Int))))) len_sd ?_
                  refine o1 (v := .c (.d (.lit (.bool (r87 != (s17.l.length : Int)))))) rfl ?_
                  exact o_join (sub_ren [0, 9001] [0, 3, 4, 5, 147] (by decide) rfl (.cons (.skip .nil)) (Nat.le_of_ble_eq_true rfl))
                · try dsimp only [slC, slO]
                  refine w_region ?_
                  refine o1 rfl ?_
                  refine oc' (rs := [.c (.d (.lit (.int .i64 r87)))]) (outs := []) (call_at rfl rfl (ea_c (v_op rfl (vl_cons (v_o rfl) vl_nil)) rfl ea_nil) wh_nil rfl rfl) (heap_Queue_int_Len_ok h88) ?_
                  refine o1 rfl ?_
                  refine o1 (v := .c (.d (.lit (.int .i64 (s17.l.length : Int))))) len_sd ?_
                  refine o1 (v := .c (.d (.lit (.bool (r87 != (s17.l.length : Int)))))) rfl ?_
                  exact o_join (sub_ren [0, 1] [0, 3, 4, 5, 147] (by decide) rfl (.cons (.cons .nil)) (Nat.le_of_ble_eq_true rfl))
              · intro s hs89
                refine after_n ?_
                refine W.sub hs89 ?_
                refine w_cond (t := (r87 != (s17.l.length : Int))) rfl (fun hb90 => ?_) (fun hb90 => ?_)
                · have hr := cnd_t hb90 hr
                  refine w_seq ?_
                  refine w_region ?_
                  refine o1 rfl ?_
                  refine o_end (e' := [(2, .c (.d (.lit (.bool false))))]) rfl rfl ?_
                  refine after_n ?_
                  refine w_ret ?_
                  refine out_r ?_
                  refine after_r ?_
                  obtain rfl := Option.some.inj hr
                  exact And.intro nofun (And.intro rfl (sub_ren [] [2] (by decide) rfl .nil (Nat.le_of_ble_eq_true rfl)))
                · have hr := cnd_f hb90 hr
                  refine w_skip ?_
                  refine out_n ?_
                  refine after_n ?_
                  refine w_region ?_
                  refine o1 rfl ?_
                  refine o1 (v := .c (.d (.lit (.int .i64 (wr .i64 (i6 + 1)))))) rfl ?_
                  refine o1 rfl ?_
                  refine o_end (e' := [(0, .c (.d (slD 2 c_law13_Deed l0))), (3, .c (.op 0 0)), (4, .c (.d (slD 1 cI_i64 s17))), (5, .c (.d (.lit (.int .i64 (wr .i64 (i6 + 1))))))]) rfl rfl ?_
                  obtain rfl := Option.some.inj hr
                  exact And.intro rfl (by rcases s16 with _ | _ <;> first | (exact sub_ren [0, 9001] [0, 3, 4, 5] (by decide) rfl (.cons (.skip .nil)) (Nat.le_of_ble_eq_true rfl)) | (exact sub_ren [0, 1] [0, 3, 4, 5] (by decide) rfl (.cons (.cons .nil)) (Nat.le_of_ble_eq_true rfl)))
            · obtain ⟨rfl, hs86⟩ := hs86
              refine after_r ?_
              refine out_r ?_
              refine after_r ?_
              obtain rfl := Option.some.inj hr
              exact And.intro nofun (And.intro rfl (Sub.trans hs86 (sub_ren [] [2] (by decide) rfl .nil (Nat.le_of_ble_eq_true rfl))))
          · refine w_seq ?_
            obtain ⟨n20, h21, h18⟩ := bnd h18
            refine w_region ?_
            iterate 2 refine o1 rfl ?_
            refine o1 (ix_sd h21) ?_
            iterate 2 refine o1 rfl ?_
            refine o_end (e' := [(0, .c (.d (slD 2 c_law13_Deed l0))), (3, .c (.op 0 0)), (4, .c (.d (slD 1 cI_i64 s5))), (5, .c (.d (.lit (.int .i64 i6)))), (35, .c (.d (.lit (.int .i64 ((gt l0.l n20).Kind)))))]) rfl rfl ?_
            refine after_n ?_
            refine w_block ?_
            refine w_seq ?_
            obtain ⟨b22, h23, h18⟩ := bnd h18
            refine W.mono (Q := Jn (fun (x : Bool) o s => match x with | b22 => o = Out.normal ∧ Sub s ⟨[(0, .c (.d (slD 2 c_law13_Deed l0))), (3, .c (.op 0 0)), (4, .c (.d (slD 1 cI_i64 s5))), (5, .c (.d (.lit (.int .i64 i6)))), (35, .c (.d (.lit (.int .i64 ((gt l0.l n20).Kind))))), (36, .c (.d (.lit (.bool b22))))], [(0, some (.box [slC 1 cI_i64 1 s4])), (1, slO 1 cI_i64 s4)], 2, []⟩) b22) ?_ ?_
            · intro o s hs27
              obtain ⟨rfl, hs27⟩ := hs27
              refine after_n ?_
              refine W.sub hs27 ?_
              refine w_cond (t := b22) rfl (fun hb28 => ?_) (fun hb28 => ?_)
              · have h18 := cnd_t hb28 h18
                refine w_seq ?_
                obtain ⟨⟨q29_l⟩, h30, h18⟩ := bnd h18
                refine w_join (J := fun s => Sub s ⟨[(0, .c (.d (slD 2 c_law13_Deed l0))), (3, .c (.op 0 0)), (4, .c (.d (slD 1 cI_i64 s5))), (5, .c (.d (.lit (.int .i64 i6))))], [(0, some (.box [slC 1 cI_i64 1 q29_l])), (1, slO 1 cI_i64 q29_l)], 2, []⟩) ?_ ?_
                · rcases q29_l with _ | q29_l' <;> rcases s4 with _ | s4'
                  · try dsimp only [slC, slO]
                    refine w_region ?_
                    iterate 3 refine o1 rfl ?_
                    refine o1 (ix_sd h21) ?_
                    iterate 2 refine o1 rfl ?_
                    refine oc (rs := []) (outs := [.pt [.d (.lit (.slice none 0 0))]]) rfl (heap_Queue_int_Push_ok h30) rfl ?_
                    exact o_join (sub_ren [0, 9001] [0, 3, 4, 5] (by decide) rfl (.cons (.skip .nil)) (Nat.le_of_ble_eq_true rfl))
                  · try dsimp only [slC, slO]
                    refine w_region ?_
                    iterate 3 refine o1 rfl ?_
                    refine o1 (ix_sd h21) ?_
                    iterate 2 refine o1 rfl ?_
                    refine oc' (rs := []) (outs := [.pt [.d (.lit (.slice none 0 0))]]) (call_at rfl rfl (ea_mt (p_op rfl (pl_cons (p_o rfl) pl_nil)) rfl (ea_c rfl rfl ea_nil)) (wh_op wh_nil) rfl rfl) (heap_Queue_int_Push_ok h30) ?_
                    exact o_join (sub_ren [0, 9001] [0, 3, 4, 5] (by decide) rfl (.cons (.skip .nil)) (Nat.le_of_ble_eq_true rfl))
                  · try dsimp only [slC, slO]
                    refine w_region ?_
                    iterate 3 refine o1 rfl ?_
                    refine o1 (ix_sd h21) ?_
                    iterate 2 refine o1 rfl ?_
                    refine oc (rs := []) (outs := [.pt [slT 1 cI_i64 (Sl.mk q29_l')]]) rfl (heap_Queue_int_Push_ok h30) rfl ?_
                    exact o_join (sub_ren [0, 2] [0, 3, 4, 5] (by decide) rfl (.cons (.cons .nil)) (Nat.le_of_ble_eq_true rfl))
                  · try dsimp only [slC, slO]
                    refine w_region ?_
                    iterate 3 refine o1 rfl ?_
                    refine o1 (ix_sd h21) ?_
                    iterate 2 refine o1 rfl ?_
                    refine oc' (rs := []) (outs := [.pt [slT 1 cI_i64 (Sl.mk q29_l')]]) (call_at rfl rfl (ea_mt (p_op rfl (pl_cons (p_o rfl) pl_nil)) rfl (ea_c rfl rfl ea_nil)) (wh_op wh_nil) rfl rfl) (heap_Queue_int_Push_ok h30) ?_
                    exact o_join (sub_ren [0, 2] [0, 3, 4, 5] (by decide) rfl (.cons (.cons .nil)) (Nat.le_of_ble_eq_true rfl))
                · intro s hs31
                  refine after_n ?_
                  refine W.sub hs31 ?_
                  obtain ⟨r32, h33, h18⟩ := bnd h18
                  refine w_region ?_
                  iterate 3 refine o1 rfl ?_
                  refine o1 (ix_sd h21) ?_
                  iterate 2 refine o1 rfl ?_
                  refine oc (rs := [.c (.d (slD 1 cI_i64 r32))]) (outs := []) rfl (ref13_Push_ok h33) rfl ?_
                  refine o1 rfl ?_
                  refine o_end (e' := [(0, .c (.d (slD 2 c_law13_Deed l0))), (3, .c (.op 0 0)), (4, .c (.d (slD 1 cI_i64 r32))), (5, .c (.d (.lit (.int .i64 i6))))]) rfl rfl ?_
                  refine out_n ?_
                  obtain rfl := Option.some.inj h18
                  exact And.intro rfl (by rcases q29_l with _ | _ <;> first | (exact sub_ren [0, 9001] [0, 3, 4, 5] (by decide) rfl (.cons (.skip .nil)) (Nat.le_of_ble_eq_true rfl)) | (exact sub_ren [0, 1] [0, 3, 4, 5] (by decide) rfl (.cons (.cons .nil)) (Nat.le_of_ble_eq_true rfl)))
              · have h18 := cnd_f hb28 h18
                refine w_seq ?_
                obtain ⟨b34, h35, h18⟩ := bnd h18
                refine W.mono (Q := Jn (fun (x : Bool) o s => match x with | b34 => o = Out.normal ∧ Sub s ⟨[(0, .c (.d (slD 2 c_law13_Deed l0))), (3, .c (.op 0 0)), (4, .c (.d (slD 1 cI_i64 s5))), (5, .c (.d (.lit (.int .i64 i6)))), (35, .c (.d (.lit (.int .i64 ((gt l0.l n20).Kind))))), (54, .c (.d (.lit (.bool b34))))], [(0, some (.box [slC 1 cI_i64 1 s4])), (1, slO 1 cI_i64 s4)], 2, []⟩) b34) ?_ ?_
                · intro o s hs38
                  obtain ⟨rfl, hs38⟩ := hs38
                  refine after_n ?_
                  refine W.sub hs38 ?_
                  refine w_cond (t := b34) rfl (fun hb39 => ?_) (fun hb39 => ?_)
                  · have h18 := cnd_t hb39 h18
                    refine w_seq ?_
                    obtain ⟨⟨r41, r42, ⟨q40_l⟩⟩, h43, h18⟩ := bnd h18
                    refine w_join (J := fun s => Sub s ⟨[(0, .c (.d (slD 2 c_law13_Deed l0))), (3, .c (.op 0 0)), (4, .c (.d (slD 1 cI_i64 s5))), (5, .c (.d (.lit (.int .i64 i6)))), (6, .c (.d (.lit (.int .i64 r41)))), (7, .c (.d (.lit (.bool r42))))], [(0, some (.box [slC 1 cI_i64 1 q40_l])), (1, slO 1 cI_i64 q40_l)], 2, []⟩) ?_ ?_
                    · rcases q40_l with _ | q40_l' <;> rcases s4 with _ | s4'
                      · try dsimp only [slC, slO]
                        refine w_region ?_
                        refine o1 rfl ?_
                        refine oc (rs := [.c (.d (.lit (.int .i64 r41))), .c (.d (.lit (.bool r42)))]) (outs := [.pt [.d (.lit (.slice none 0 0))]]) rfl (heap_Queue_int_Pop_ok h43) rfl ?_
                        iterate 5 refine o1 rfl ?_
                        exact o_join (sub_ren [0, 9001] [0, 3, 4, 5, 6, 7] (by decide) rfl (.cons (.skip .nil)) (Nat.le_of_ble_eq_true rfl))
                      · try dsimp only [slC, slO]
                        refine w_region ?_
                        refine o1 rfl ?_
                        refine oc' (rs := [.c (.d (.lit (.int .i64 r41))), .c (.d (.lit (.bool r42)))]) (outs := [.pt [.d (.lit (.slice none 0 0))]]) (call_at rfl rfl (ea_mt (p_op rfl (pl_cons (p_o rfl) pl_nil)) rfl ea_nil) (wh_op wh_nil) rfl rfl) (heap_Queue_int_Pop_ok h43) ?_
                        iterate 5 refine o1 rfl ?_
                        exact o_join (sub_ren [0, 9001] [0, 3, 4, 5, 6, 7] (by decide) rfl (.cons (.skip .nil)) (Nat.le_of_ble_eq_true rfl))
                      · try dsimp only [slC, slO]
                        refine w_region ?_
                        refine o1 rfl ?_
                        refine oc (rs := [.c (.d (.lit (.int .i64 r41))), .c (.d (.lit (.bool r42)))]) (outs := [.pt [slT 1 cI_i64 (Sl.mk q40_l')]]) rfl (heap_Queue_int_Pop_ok h43) rfl ?_
                        iterate 5 refine o1 rfl ?_
                        exact o_join (sub_ren [0, 2] [0, 3, 4, 5, 6, 7] (by decide) rfl (.cons (.cons .nil)) (Nat.le_of_ble_eq_true rfl))
                      · try dsimp only [slC, slO]
                        refine w_region ?_
                        refine o1 rfl ?_
                        refine oc' (rs := [.c (.d (.lit (.int .i64 r41))), .c (.d (.lit (.bool r42)))]) (outs := [.pt [slT 1 cI_i64 (Sl.mk q40_l')]]) (call_at rfl rfl (ea_mt (p_op rfl (pl_cons (p_o rfl) pl_nil)) rfl ea_nil) (wh_op wh_nil) rfl rfl) (heap_Queue_int_Pop_ok h43) ?_
                        iterate 5 refine o1 rfl ?_
                        exact o_join (sub_ren [0, 2] [0, 3, 4, 5, 6, 7] (by decide) rfl (.cons (.cons .nil)) (Nat.le_of_ble_eq_true rfl))
                    · intro s hs44
                      refine after_n ?_
                      refine W.sub hs44 ?_
                      refine w_seq ?_
                      obtain ⟨⟨r45, r46, r47⟩, h48, h18⟩ := bnd h18
                      refine w_region ?_
                      refine o1 rfl ?_
                      refine oc (rs := [.c (.d (.lit (.int .i64 r45))), .c (.d (slD 1 cI_i64 r46)), .c (.d (.lit (.bool r47)))]) (outs := []) rfl (ref13_Pop_ok h48) rfl ?_
                      iterate 7 refine o1 rfl ?_
                      refine o_end (e' := [(0, .c (.d (slD 2 c_law13_Deed l0))), (3, .c (.op 0 0)), (5, .c (.d (.lit (.int .i64 i6)))), (6, .c (.d (.lit (.int .i64 r41)))), (7, .c (.d (.lit (.bool r42)))), (8, .c (.d (.lit (.int .i64 r45)))), (9, .c (.d (slD 1 cI_i64 r46))), (10, .c (.d (.lit (.bool r47))))]) rfl rfl ?_
                      refine after_n ?_
                      refine w_seq ?_
                      refine w_region ?_
                      iterate 2 refine o1 rfl ?_
                      refine o_end (e' := [(0, .c (.d (slD 2 c_law13_Deed l0))), (3, .c (.op 0 0)), (4, .c (.d (slD 1 cI_i64 r46))), (5, .c (.d (.lit (.int .i64 i6)))), (6, .c (.d (.lit (.int .i64 r41)))), (7, .c (.d (.lit (.bool r42)))), (8, .c (.d (.lit (.int .i64 r45)))), (10, .c (.d (.lit (.bool r47))))]) rfl rfl ?_
                      refine after_n ?_
                      refine w_seq ?_
                      refine w_join (J := fun s => Sub s ⟨[(0, .c (.d (slD 2 c_law13_Deed l0))), (3, .c (.op 0 0)), (4, .c (.d (slD 1 cI_i64 r46))), (5, .c (.d (.lit (.int .i64 i6)))), (76, .c (.d (.lit (.bool ((r41 != r45) || (!(r42 == r47)))))))], [(0, some (.box [slC 1 cI_i64 1 q40_l])), (1, slO 1 cI_i64 q40_l)], 2, []⟩) ?_ ?_
                      · refine w_region ?_
                        iterate 2 refine o1 rfl ?_
                        refine o1 (v := .c (.d (.lit (.bool (r41 != r45))))) rfl ?_
                        refine o1 rfl ?_
                        cases hb50 : ((r41 != r45) : Bool)
                        · refine og rfl rfl rfl ?_
                          refine og rfl rfl rfl ?_
                          refine og (v := .c (.d (.lit (.bool (!(r42 == r47)))))) rfl rfl rfl ?_
                          refine o1 rfl ?_
                          exact o_join (by rcases q40_l with _ | _ <;> first | (exact sub_ren [0, 9001] [0, 3, 4, 5, 76] (by decide) rfl (.cons (.skip .nil)) (Nat.le_of_ble_eq_true rfl)) | (exact sub_ren [0, 1] [0, 3, 4, 5, 76] (by decide) rfl (.cons (.cons .nil)) (Nat.le_of_ble_eq_true rfl)))
                        · refine onot rfl rfl ?_
                          iterate 2 refine onot rfl rfl ?_
                          refine o1 rfl ?_
                          exact o_join (by rcases q40_l with _ | _ <;> first | (exact sub_ren [0, 9001] [0, 3, 4, 5, 76] (by decide) rfl (.cons (.skip .nil)) (Nat.le_of_ble_eq_true rfl)) | (exact sub_ren [0, 1] [0, 3, 4, 5, 76] (by decide) rfl (.cons (.cons .nil)) (Nat.le_of_ble_eq_true rfl)))
                      · intro s hs51
                        refine after_n ?_
                        refine W.sub hs51 ?_
                        refine w_cond (t := ((r41 != r45) || (!(r42 == r47)))) rfl (fun hb52 => ?_) (fun hb52 => ?_)
                        · have h18 := cnd_t hb52 h18
                          refine w_seq ?_
                          refine w_region ?_
                          refine o1 rfl ?_
                          refine o_end (e' := [(2, .c (.d (.lit (.bool false))))]) rfl rfl ?_
                          refine after_n ?_
                          refine w_ret ?_
                          refine out_r ?_
                          obtain rfl := Option.some.inj h18
                          exact And.intro rfl (sub_ren [] [2] (by decide) rfl .nil (Nat.le_of_ble_eq_true rfl))
                        · have h18 := cnd_f hb52 h18
                          refine w_skip ?_
                          refine out_n ?_
                          obtain rfl := Option.some.inj h18
                          exact And.intro rfl (by rcases q40_l with _ | _ <;> first | (exact sub_ren [0, 9001] [0, 3, 4, 5] (by decide) rfl (.cons (.skip .nil)) (Nat.le_of_ble_eq_true rfl)) | (exact sub_ren [0, 1] [0, 3, 4, 5] (by decide) rfl (.cons (.cons .nil)) (Nat.le_of_ble_eq_true rfl)))
                  · have h18 := cnd_f hb39 h18
                    refine w_seq ?_
                    refine w_region ?_
                    refine o1 (v := .c (.d (.lit (.bool (((gt l0.l n20).Kind) == 5))))) rfl ?_
                    refine o1 rfl ?_
                    refine o_end (e' := [(0, .c (.d (slD 2 c_law13_Deed l0))), (3, .c (.op 0 0)), (4, .c (.d (slD 1 cI_i64 s5))), (5, .c (.d (.lit (.int .i64 i6)))), (35, .c (.d (.lit (.int .i64 ((gt l0.l n20).Kind))))), (77, .c (.d (.lit (.bool (((gt l0.l n20).Kind) == 5)))))]) rfl rfl ?_
                    refine after_n ?_
                    refine w_cond (t := (((gt l0.l n20).Kind) == 5)) rfl (fun hb53 => ?_) (fun hb53 => ?_)
                    · have h18 := cnd_t hb53 h18
                      refine w_seq ?_
                      obtain ⟨⟨r54, r55⟩, h56, h18⟩ := bnd h18
                      refine w_region ?_
                      iterate 3 refine o1 rfl ?_
                      refine o1 (ix_sd h21) ?_
                      iterate 2 refine o1 rfl ?_
                      refine oc (rs := [.c (.d (slD 1 cI_i64 r54)), .c (.d (slD 1 cI_i64 r55))]) (outs := []) rfl (ref13_Drain_ok h56) rfl ?_
                      iterate 5 refine o1 rfl ?_
                      refine o_end (e' := [(0, .c (.d (slD 2 c_law13_Deed l0))), (3, .c (.op 0 0)), (5, .c (.d (.lit (.int .i64 i6)))), (11, .c (.d (slD 1 cI_i64 r54))), (12, .c (.d (slD 1 cI_i64 r55)))]) rfl rfl ?_
                      refine after_n ?_
                      refine w_seq ?_
                      refine w_region ?_
                      iterate 2 refine o1 rfl ?_
                      refine o_end (e' := [(0, .c (.d (slD 2 c_law13_Deed l0))), (3, .c (.op 0 0)), (4, .c (.d (slD 1 cI_i64 r55))), (5, .c (.d (.lit (.int .i64 i6)))), (11, .c (.d (slD 1 cI_i64 r54)))]) rfl rfl ?_
                      refine after_n ?_
                      refine w_seq ?_
                      obtain ⟨⟨r58, ⟨q57_l⟩⟩, h59, h18⟩ := bnd h18
                      obtain ⟨r60, h61, h18⟩ := bnd h18
                      refine w_join (J := fun s => Sub s ⟨[(0, .c (.d (slD 2 c_law13_Deed l0))), (3, .c (.op 0 0)), (4, .c (.d (slD 1 cI_i64 r55))), (5, .c (.d (.lit (.int .i64 i6)))), (99, .c (.d (.lit (.bool (!r60)))))], [(0, some (.box [slC 1 cI_i64 1 q57_l])), (1, slO 1 cI_i64 q57_l)], 2, []⟩) ?_ ?_
                      · rcases q57_l with _ | q57_l' <;> rcases s4 with _ | s4'
                        · try dsimp only [slC, slO]
                          refine w_region ?_
                          iterate 3 refine o1 rfl ?_
                          refine o1 (ix_sd h21) ?_
                          iterate 2 refine o1 rfl ?_
                          refine oc (rs := [.c (.d (slD 1 cI_i64 r58))]) (outs := [.pt [.d (.lit (.slice none 0 0))]]) rfl (heap_Queue_int_Drain_ok h59) rfl ?_
                          refine o1 rfl ?_
                          refine oc (rs := [.c (.d (.lit (.bool r60)))]) (outs := []) rfl (ref13_Same_ok h61) rfl ?_
                          refine o1 (v := .c (.d (.lit (.bool (!r60))))) rfl ?_
                          exact o_join (sub_ren [0, 9001] [0, 3, 4, 5, 99] (by decide) rfl (.cons (.skip .nil)) (Nat.le_of_ble_eq_true rfl))
                        · try dsimp only [slC, slO]
                          refine w_region ?_
                          iterate 3 refine o1 rfl ?_
                          refine o1 (ix_sd h21) ?_
                          iterate 2 refine o1 rfl ?_
                          refine oc' (rs := [.c (.d (slD 1 cI_i64 r58))]) (outs := [.pt [.d (.lit (.slice none 0 0))]]) (call_at rfl rfl (ea_mt (p_op rfl (pl_cons (p_o rfl) pl_nil)) rfl (ea_c rfl rfl ea_nil)) (wh_op wh_nil) rfl rfl) (heap_Queue_int_Drain_ok h59) ?_
                          refine o1 rfl ?_
                          refine oc (rs := [.c (.d (.lit (.bool r60)))]) (outs := []) rfl (ref13_Same_ok h61) rfl ?_
                          refine o1 (v := .c (.d (.lit (.bool (!r60))))) rfl ?_
                          exact o_join (sub_ren [0, 9001] [0, 3, 4, 5, 99] (by decide) rfl (.cons (.skip .nil)) (Nat.le_of_ble_eq_true rfl))
                        · try dsimp only [slC, slO]
                          refine w_region ?_
                          iterate 3 refine o1 rfl ?_
                          refine o1 (ix_sd h21) ?_
                          iterate 2 refine o1 rfl ?_
                          refine oc (rs := [.c (.d (slD 1 cI_i64 r58))]) (outs := [.pt [slT 1 cI_i64 (Sl.mk q57_l')]]) rfl (heap_Queue_int_Drain_ok h59) rfl ?_
                          refine o1 rfl ?_
                          refine oc (rs := [.c (.d (.lit (.bool r60)))]) (outs := []) rfl (ref13_Same_ok h61) rfl ?_
                          refine o1 (v := .c (.d (.lit (.bool (!r60))))) rfl ?_
                          exact o_join (sub_ren [0, 2] [0, 3, 4, 5, 99] (by decide) rfl (.cons (.cons .nil)) (Nat.le_of_ble_eq_true rfl))
                        · try dsimp only [slC, slO]
                          refine w_region ?_
                          iterate 3 refine o1 rfl ?_
                          refine o1 (ix_sd h21) ?_
                          iterate 2 refine o1 rfl ?_
                          refine oc' (rs := [.c (.d (slD 1 cI_i64 r58))]) (outs := [.pt [slT 1 cI_i64 (Sl.mk q57_l')]]) (call_at rfl rfl (ea_mt (p_op rfl (pl_cons (p_o rfl) pl_nil)) rfl (ea_c rfl rfl ea_nil)) (wh_op wh_nil) rfl rfl) (heap_Queue_int_Drain_ok h59) ?_
                          refine o1 rfl ?_
                          refine oc (rs := [.c (.d (.lit (.bool r60)))]) (outs := []) rfl (ref13_Same_ok h61) rfl ?_
                          refine o1 (v := .c (.d (.lit (.bool (!r60))))) rfl ?_
                          exact o_join (sub_ren [0, 2] [0, 3, 4, 5, 99] (by decide) rfl (.cons (.cons .nil)) (Nat.le_of_ble_eq_true rfl))
                      · intro s hs62
                        refine after_n ?_
                        refine W.sub hs62 ?_
                        refine w_cond (t := (!r60)) rfl (fun hb63 => ?_) (fun hb63 => ?_)
                        · have h18 := cnd_t hb63 h18
                          refine w_seq ?_
                          refine w_region ?_
                          refine o1 rfl ?_
                          refine o_end (e' := [(2, .c (.d (.lit (.bool false))))]) rfl rfl ?_
                          refine after_n ?_
                          refine w_ret ?_
                          refine out_r ?_
                          obtain rfl := Option.some.inj h18
                          exact And.intro rfl (sub_ren [] [2] (by decide) rfl .nil (Nat.le_of_ble_eq_true rfl))
                        · have h18 := cnd_f hb63 h18
                          refine w_skip ?_
                          refine out_n ?_
                          obtain rfl := Option.some.inj h18
                          exact And.intro rfl (by rcases q57_l with _ | _ <;> first | (exact sub_ren [0, 9001] [0, 3, 4, 5] (by decide) rfl (.cons (.skip .nil)) (Nat.le_of_ble_eq_true rfl)) | (exact sub_ren [0, 1] [0, 3, 4, 5] (by decide) rfl (.cons (.cons .nil)) (Nat.le_of_ble_eq_true rfl)))
                    · have h18 := cnd_f hb53 h18
                      refine w_seq ?_
                      refine w_region ?_
                      refine o1 (v := .c (.d (.lit (.bool (((gt l0.l n20).Kind) == 6))))) rfl ?_
                      refine o1 rfl ?_
                      refine o_end (e' := [(0, .c (.d (slD 2 c_law13_Deed l0))), (3, .c (.op 0 0)), (4, .c (.d (slD 1 cI_i64 s5))), (5, .c (.d (.lit (.int .i64 i6)))), (35, .c (.d (.lit (.int .i64 ((gt l0.l n20).Kind))))), (100, .c (.d (.lit (.bool (((gt l0.l n20).Kind) == 6)))))]) rfl rfl ?_
                      refine after_n ?_
                      refine w_cond (t := (((gt l0.l n20).Kind) == 6)) rfl (fun hb64 => ?_) (fun hb64 => ?_)
                      · have h18 := cnd_t hb64 h18
                        refine w_seq ?_
                        obtain ⟨⟨r65, r66⟩, h67, h18⟩ := bnd h18
                        refine w_region ?_
                        iterate 3 refine o1 rfl ?_
                        refine o1 (ix_sd h21) ?_
                        iterate 2 refine o1 rfl ?_
                        refine oc (rs := [.c (.d (slD 1 cI_i64 r65)), .c (.d (.lit (.bool r66)))]) (outs := []) rfl (ref13_Drop_ok h67) rfl ?_
                        iterate 5 refine o1 rfl ?_
                        refine o_end (e' := [(0, .c (.d (slD 2 c_law13_Deed l0))), (3, .c (.op 0 0)), (5, .c (.d (.lit (.int .i64 i6)))), (13, .c (.d (slD 1 cI_i64 r65))), (14, .c (.d (.lit (.bool r66))))]) rfl rfl ?_
                        refine after_n ?_
                        refine w_seq ?_
                        refine w_region ?_
                        iterate 2 refine o1 rfl ?_
                        refine o_end (e' := [(0, .c (.d (slD 2 c_law13_Deed l0))), (3, .c (.op 0 0)), (4, .c (.d (slD 1 cI_i64 r65))), (5, .c (.d (.lit (.int .i64 i6)))), (14, .c (.d (.lit (.bool r66))))]) rfl rfl ?_
                        refine after_n ?_
                        refine w_seq ?_
                        obtain ⟨⟨r69, ⟨q68_l⟩⟩, h70, h18⟩ := bnd h18
                        refine w_join (J := fun s => Sub s ⟨[(0, .c (.d (slD 2 c_law13_Deed l0))), (3, .c (.op 0 0)), (4, .c (.d (slD 1 cI_i64 r65))), (5, .c (.d (.lit (.int .i64 i6)))), (121, .c (.d (.lit (.bool (!(r69 == r66))))))], [(0, some (.box [slC 1 cI_i64 1 q68_l])), (1, slO 1 cI_i64 q68_l)], 2, []⟩) ?_ ?_
                        · rcases q68_l with _ | q68_l' <;> rcases s4 with _ | s4'
                          · try dsimp only [slC, slO]
                            refine w_region ?_
                            iterate 3 refine o1 rfl ?_
                            refine o1 (ix_sd h21) ?_
                            iterate 2 refine o1 rfl ?_
                            refine oc (rs := [.c (.d (.lit (.bool r69)))]) (outs := [.pt [.d (.lit (.slice none 0 0))]]) rfl (heap_Queue_int_Drop_ok h70) rfl ?_
                            refine o1 rfl ?_
                            refine o1 (v := .c (.d (.lit (.bool (!(r69 == r66)))))) rfl ?_
                            exact o_join (sub_ren [0, 9001] [0, 3, 4, 5, 121] (by decide) rfl (.cons (.skip .nil)) (Nat.le_of_ble_eq_true rfl))
                          · try dsimp only [slC, slO]
                            refine w_region ?_
                            iterate 3 refine o1 rfl ?_
                            refine o1 (ix_sd h21) ?_
                            iterate 2 refine o1 rfl ?_
                            refine oc' (rs := [.c (.d (.lit (.bool r69)))]) (outs := [.pt [.d (.lit (.slice none 0 0))]]) (call_at rfl rfl (ea_mt (p_op rfl (pl_cons (p_o rfl) pl_nil)) rfl (ea_c rfl rfl ea_nil)) (wh_op wh_nil) rfl rfl) (heap_Queue_int_Drop_ok h70) ?_
                            refine o1 rfl ?_
                            refine o1 (v := .c (.d (.lit (.bool (!(r69 == r66)))))) rfl ?_
                            exact o_join (sub_ren [0, 9001] [0, 3, 4, 5, 121] (by decide) rfl (.cons (.skip .nil)) (Nat.le_of_ble_eq_true rfl))
                          · try dsimp only [slC, slO]
                            refine w_region ?_
                            iterate 3 refine o1 rfl ?_
                            refine o1 (ix_sd h21) ?_
                            iterate 2 refine o1 rfl ?_
                            refine oc (rs := [.c (.d (.lit (.bool r69)))]) (outs := [.pt [slT 1 cI_i64 (Sl.mk q68_l')]]) rfl (heap_Queue_int_Drop_ok h70) rfl ?_
                            refine o1 rfl ?_
                            refine o1 (v := .c (.d (.lit (.bool (!(r69 == r66)))))) rfl ?_
                            exact o_join (sub_ren [0, 2] [0, 3, 4, 5, 121] (by decide) rfl (.cons (.cons .nil)) (Nat.le_of_ble_eq_true rfl))
                          · try dsimp only [slC, slO]
                            refine w_region ?_
                            iterate 3 refine o1 rfl ?_
                            refine o1 (ix_sd h21) ?_
                            iterate 2 refine o1 rfl ?_
                            refine oc' (rs := [.c (.d (.lit (.bool r69)))]) (outs := [.pt [slT 1 cI_i64 (Sl.mk q68_l')]]) (call_at rfl rfl (ea_mt (p_op rfl (pl_cons (p_o rfl) pl_nil)) rfl (ea_c rfl rfl ea_nil)) (wh_op wh_nil) rfl rfl) (heap_Queue_int_Drop_ok h70) ?_
                            refine o1 rfl ?_
                            refine o1 (v := .c (.d (.lit (.bool (!(r69 == r66)))))) rfl ?_
                            exact o_join (sub_ren [0, 2] [0, 3, 4, 5, 121] (by decide) rfl (.cons (.cons .nil)) (Nat.le_of_ble_eq_true rfl))
                        · intro s hs71
                          refine after_n ?_
                          refine W.sub hs71 ?_
                          refine w_cond (t := (!(r69 == r66))) rfl (fun hb72 => ?_) (fun hb72 => ?_)
                          · have h18 := cnd_t hb72 h18
                            refine w_seq ?_
                            refine w_region ?_
                            refine o1 rfl ?_
                            refine o_end (e' := [(2, .c (.d (.lit (.bool false))))]) rfl rfl ?_
                            refine after_n ?_
                            refine w_ret ?_
                            refine out_r ?_
                            obtain rfl := Option.some.inj h18
                            exact And.intro rfl (sub_ren [] [2] (by decide) rfl .nil (Nat.le_of_ble_eq_true rfl))
                          · have h18 := cnd_f hb72 h18
                            refine w_skip ?_
                            refine out_n ?_
                            obtain rfl := Option.some.inj h18
                            exact And.intro rfl (by rcases q68_l with _ | _ <;> first | (exact sub_ren [0, 9001] [0, 3, 4, 5] (by decide) rfl (.cons (.skip .nil)) (Nat.le_of_ble_eq_true rfl)) | (exact sub_ren [0, 1] [0, 3, 4, 5] (by decide) rfl (.cons (.cons .nil)) (Nat.le_of_ble_eq_true rfl)))
                      · have h18 := cnd_f hb64 h18
                        refine w_seq ?_
                        refine w_region ?_
                        refine o1 (v := .c (.d (.lit (.bool (((gt l0.l n20).Kind) == 7))))) rfl ?_
                        refine o1 rfl ?_
                        refine o_end (e' := [(0, .c (.d (slD 2 c_law13_Deed l0))), (3, .c (.op 0 0)), (4, .c (.d (slD 1 cI_i64 s5))), (5, .c (.d (.lit (.int .i64 i6)))), (122, .c (.d (.lit (.bool (((gt l0.l n20).Kind) == 7)))))]) rfl rfl ?_
                        refine after_n ?_
                        refine w_cond (t := (((gt l0.l n20).Kind) == 7)) rfl (fun hb73 => ?_) (fun hb73 => ?_)
                        · have h18 := cnd_t hb73 h18
                          refine w_seq ?_
                          obtain ⟨⟨r74, r75⟩, h76, h18⟩ := bnd h18
                          refine w_join (J := fun s => Sub s ⟨[(0, .c (.d (slD 2 c_law13_Deed l0))), (3, .c (.op 0 0)), (4, .c (.d (slD 1 cI_i64 s5))), (5, .c (.d (.lit (.int .i64 i6)))), (15, .c (.d (.lit (.int .i64 r74)))), (16, .c (.d (.lit (.bool r75))))], [(0, some (.box [slC 1 cI_i64 1 s4])), (1, slO 1 cI_i64 s4)], 2, []⟩) ?_ ?_
                          · rcases s4 with _ | s4'
                            · try dsimp only [slC, slO]
                              refine w_region ?_
                              refine o1 rfl ?_
                              refine oc (rs := [.c (.d (.lit (.int .i64 r74))), .c (.d (.lit (.bool r75)))]) (outs := []) rfl (heap_Queue_int_Peek_ok h76) rfl ?_
                              iterate 5 refine o1 rfl ?_
                              exact o_join (sub_ren [0, 9001] [0, 3, 4, 5, 15, 16] (by decide) rfl (.cons (.skip .nil)) (Nat.le_of_ble_eq_true rfl))
                            · try dsimp only [slC, slO]
                              refine w_region ?_
                              refine o1 rfl ?_
                              refine oc' (rs := [.c (.d (.lit (.int .i64 r74))), .c (.d (.lit (.bool r75)))]) (outs := []) (call_at rfl rfl (ea_c (v_op rfl (vl_cons (v_o rfl) vl_nil)) rfl ea_nil) wh_nil rfl rfl) (heap_Queue_int_Peek_ok h76) ?_
                              iterate 5 refine o1 rfl ?_
                              exact o_join (sub_ren [0, 1] [0, 3, 4, 5, 15, 16] (by decide) rfl (.cons (.cons .nil)) (Nat.le_of_ble_eq_true rfl))
                          · intro s hs77
                            refine after_n ?_
                            refine W.sub hs77 ?_
                            refine w_seq ?_
                            obtain ⟨⟨r78, r79, r80⟩, h81, h18⟩ := bnd h18
                            refine w_region ?_
                            refine o1 rfl ?_
                            refine oc (rs := [.c (.d (.lit (.int .i64 r78))), .c (.d (slD 1 cI_i64 r79)), .c (.d (.lit (.bool r80)))]) (outs := []) rfl (ref13_Pop_ok h81) rfl ?_
                            iterate 7 refine o1 rfl ?_
                            refine o_end (e' := [(0, .c (.d (slD 2 c_law13_Deed l0))), (3, .c (.op 0 0)), (4, .c (.d (slD 1 cI_i64 s5))), (5, .c (.d (.lit (.int .i64 i6)))), (15, .c (.d (.lit (.int .i64 r74)))), (16, .c (.d (.lit (.bool r75)))), (17, .c (.d (.lit (.int .i64 r78)))), (19, .c (.d (.lit (.bool r80))))]) rfl rfl ?_
                            refine after_n ?_
                            refine w_seq ?_
                            refine w_join (J := fun s => Sub s ⟨[(0, .c (.d (slD 2 c_law13_Deed l0))), (3, .c (.op 0 0)), (4, .c (.d (slD 1 cI_i64 s5))), (5, .c (.d (.lit (.int .i64 i6)))), (142, .c (.d (.lit (.bool ((r74 != r78) || (!(r75 == r80)))))))], [(0, some (.box [slC 1 cI_i64 1 s4])), (1, slO 1 cI_i64 s4)], 2, []⟩) ?_ ?_
                            · refine w_region ?_
                              iterate 2 refine o1 rfl ?_
                              refine o1 (v := .c (.d (.lit (.bool (r74 != r78))))) rfl ?_
                              refine o1 rfl ?_
                              cases hb83 : ((r74 != r78) : Bool)
                              · refine og rfl rfl rfl ?_
                                refine og rfl rfl rfl ?_
                                refine og (v := .c (.d (.lit (.bool (!(r75 == r80)))))) rfl rfl rfl ?_
                                refine o1 rfl ?_
                                exact o_join (by rcases s4 with _ | _ <;> first | (exact sub_ren [0, 9001] [0, 3, 4, 5, 142] (by decide) rfl (.cons (.skip .nil)) (Nat.le_of_ble_eq_true rfl)) | (exact sub_ren [0, 1] [0, 3, 4, 5, 142] (by decide) rfl (.cons (.cons .nil)) (Nat.le_of_ble_eq_true rfl)))
                              · refine onot rfl rfl ?_
                                iterate 2 refine onot rfl rfl ?_
                                refine o1 rfl ?_
                                exact o_join (by rcases s4 with _ | _ <;> first | (exact sub_ren [0, 9001] [0, 3, 4, 5, 142] (by decide) rfl (.cons (.skip .nil)) (Nat.le_of_ble_eq_true rfl)) | (exact sub_ren [0, 1] [0, 3, 4, 5, 142] (by decide) rfl (.cons (.cons .nil)) (Nat.le_of_ble_eq_true rfl)))
                            · intro s hs84
                              refine after_n ?_
                              refine W.sub hs84 ?_
                              refine w_cond (t := ((r74 != r78) || (!(r75 == r80)))) rfl (fun hb85 => ?_) (fun hb85 => ?_)
                              · have h18 := cnd_t hb85 h18
                                refine w_seq ?_
                                refine w_region ?_
                                refine o1 rfl ?_
                                refine o_end (e' := [(2, .c (.d (.lit (.bool false))))]) rfl rfl ?_
                                refine after_n ?_
                                refine w_ret ?_
                                refine out_r ?_
                                obtain rfl := Option.some.inj h18
                                exact And.intro rfl (sub_ren [] [2] (by decide) rfl .nil (Nat.le_of_ble_eq_true rfl))
                              · have h18 := cnd_f hb85 h18
                                refine w_skip ?_
                                refine out_n ?_
                                obtain rfl := Option.some.inj h18
                                exact And.intro rfl (by rcases s4 with _ | _ <;> first | (exact sub_ren [0, 9001] [0, 3, 4, 5] (by decide) rfl (.cons (.skip .nil)) (Nat.le_of_ble_eq_true rfl)) | (exact sub_ren [0, 1] [0, 3, 4, 5] (by decide) rfl (.cons (.cons .nil)) (Nat.le_of_ble_eq_true rfl)))
                        · have h18 := cnd_f hb73 h18
                          refine w_skip ?_
                          refine out_n ?_
                          obtain rfl := Option.some.inj h18
                          exact And.intro rfl (by rcases s4 with _ | _ <;> first | (exact sub_ren [0, 9001] [0, 3, 4, 5] (by decide) rfl (.cons (.skip .nil)) (Nat.le_of_ble_eq_true rfl)) | (exact sub_ren [0, 1] [0, 3, 4, 5] (by decide) rfl (.cons (.cons .nil)) (Nat.le_of_ble_eq_true rfl)))
                · refine w_seq ?_
                  refine w_region ?_
                  refine o1 (v := .c (.d (.lit (.bool (((gt l0.l n20).Kind) == 3))))) rfl ?_
                  refine o1 rfl ?_
                  refine o_end (e' := [(0, .c (.d (slD 2 c_law13_Deed l0))), (3, .c (.op 0 0)), (4, .c (.d (slD 1 cI_i64 s5))), (5, .c (.d (.lit (.int .i64 i6)))), (35, .c (.d (.lit (.int .i64 ((gt l0.l n20).Kind))))), (54, .c (.d (.lit (.bool (((gt l0.l n20).Kind) == 3)))))]) rfl rfl ?_
                  refine after_n ?_
                  refine w_cond (t := (((gt l0.l n20).Kind) == 3)) rfl (fun hb37 => ?_) (fun hb37 => ?_)
                  · have h35 := cnd_t hb37 h35
                    refine w_skip ?_
                    obtain rfl := Option.some.inj h35
                    exact And.intro rfl (by rcases s4 with _ | _ <;> first | (exact sub_ren [0, 9001] [0, 3, 4, 5, 35, 54] (by decide) rfl (.cons (.skip .nil)) (Nat.le_of_ble_eq_true rfl)) | (exact sub_ren [0, 1] [0, 3, 4, 5, 35, 54] (by decide) rfl (.cons (.cons .nil)) (Nat.le_of_ble_eq_true rfl)))
                  · have h35 := cnd_f hb37 h35
                    refine w_region ?_
                    refine o1 (v := .c (.d (.lit (.bool (((gt l0.l n20).Kind) == 4))))) rfl ?_
                    refine o1 rfl ?_
                    refine o_end (e' := [(0, .c (.d (slD 2 c_law13_Deed l0))), (3, .c (.op 0 0)), (4, .c (.d (slD 1 cI_i64 s5))), (5, .c (.d (.lit (.int .i64 i6)))), (35, .c (.d (.lit (.int .i64 ((gt l0.l n20).Kind))))), (54, .c (.d (.lit (.bool (((gt l0.l n20).Kind) == 4)))))]) rfl rfl ?_
                    obtain rfl := Option.some.inj h35
                    exact And.intro rfl (by rcases s4 with _ | _ <;> first | (exact sub_ren [0, 9001] [0, 3, 4, 5, 35, 54] (by decide) rfl (.cons (.skip .nil)) (Nat.le_of_ble_eq_true rfl)) | (exact sub_ren [0, 1] [0, 3, 4, 5, 35, 54] (by decide) rfl (.cons (.cons .nil)) (Nat.le_of_ble_eq_true rfl)))
            · refine w_seq ?_
              refine w_region ?_
              refine o1 (v := .c (.d (.lit (.bool (((gt l0.l n20).Kind) == 0))))) rfl ?_
              refine o1 rfl ?_
              refine o_end (e' := [(0, .c (.d (slD 2 c_law13_Deed l0))), (3, .c (.op 0 0)), (4, .c (.d (slD 1 cI_i64 s5))), (5, .c (.d (.lit (.int .i64 i6)))), (35, .c (.d (.lit (.int .i64 ((gt l0.l n20).Kind))))), (36, .c (.d (.lit (.bool (((gt l0.l n20).Kind) == 0)))))]) rfl rfl ?_
              refine after_n ?_
              refine w_cond (t := (((gt l0.l n20).Kind) == 0)) rfl (fun hb25 => ?_) (fun hb25 => ?_)
              · have h23 := cnd_t hb25 h23
                refine w_skip ?_
                obtain rfl := Option.some.inj h23
                exact And.intro rfl (by rcases s4 with _ | _ <;> first | (exact sub_ren [0, 9001] [0, 3, 4, 5, 35, 36] (by decide) rfl (.cons (.skip .nil)) (Nat.le_of_ble_eq_true rfl)) | (exact sub_ren [0, 1] [0, 3, 4, 5, 35, 36] (by decide) rfl (.cons (.cons .nil)) (Nat.le_of_ble_eq_true rfl)))
              · have h23 := cnd_f hb25 h23
                refine w_seq ?_
                refine w_region ?_
                refine o1 (v := .c (.d (.lit (.bool (((gt l0.l n20).Kind) == 1))))) rfl ?_
                refine o1 rfl ?_
                refine o_end (e' := [(0, .c (.d (slD 2 c_law13_Deed l0))), (3, .c (.op 0 0)), (4, .c (.d (slD 1 cI_i64 s5))), (5, .c (.d (.lit (.int .i64 i6)))), (35, .c (.d (.lit (.int .i64 ((gt l0.l n20).Kind))))), (36, .c (.d (.lit (.bool (((gt l0.l n20).Kind) == 1)))))]) rfl rfl ?_
                refine after_n ?_
                refine w_cond (t := (((gt l0.l n20).Kind) == 1)) rfl (fun hb26 => ?_) (fun hb26 => ?_)
                · have h23 := cnd_t hb26 h23
                  refine w_skip ?_
                  obtain rfl := Option.some.inj h23
                  exact And.intro rfl (by rcases s4 with _ | _ <;> first | (exact sub_ren [0, 9001] [0, 3, 4, 5, 35, 36] (by decide) rfl (.cons (.skip .nil)) (Nat.le_of_ble_eq_true rfl)) | (exact sub_ren [0, 1] [0, 3, 4, 5, 35, 36] (by decide) rfl (.cons (.cons .nil)) (Nat.le_of_ble_eq_true rfl)))
                · have h23 := cnd_f hb26 h23
                  refine w_region ?_
                  refine o1 (v := .c (.d (.lit (.bool (((gt l0.l n20).Kind) == 2))))) rfl ?_
                  refine o1 rfl ?_
                  refine o_end (e' := [(0, .c (.d (slD 2 c_law13_Deed l0))), (3, .c (.op 0 0)), (4, .c (.d (slD 1 cI_i64 s5))), (5, .c (.d (.lit (.int .i64 i6)))), (35, .c (.d (.lit (.int .i64 ((gt l0.l n20).Kind))))), (36, .c (.d (.lit (.bool (((gt l0.l n20).Kind) == 2)))))]) rfl rfl ?_
                  obtain rfl := Option.some.inj h23
                  exact And.intro rfl (by rcases s4 with _ | _ <;> first | (exact sub_ren [0, 9001] [0, 3, 4, 5, 35, 36] (by decide) rfl (.cons (.skip .nil)) (Nat.le_of_ble_eq_true rfl)) | (exact sub_ren [0, 1] [0, 3, 4, 5, 35, 36] (by decide) rfl (.cons (.cons .nil)) (Nat.le_of_ble_eq_true rfl)))
        · have hr := cnd_f hb15 hr
          refine w_exit ?_
          refine after_e ?_
          obtain rfl := Option.some.inj hr
          exact And.intro nofun (And.intro rfl (sub_ren [] [] (by decide) rfl .nil (Nat.le_of_ble_eq_true rfl)))

end Go.Proofs.Ytebcbdalaiefmaa.H
