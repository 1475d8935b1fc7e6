/- What functions of the program compute, and that the model's run computes it. Conditions: as stated. -/
import Derived.Test.YtebcbdalaiefmaaEvX
import Derived.Test.YtebcbdalaiefmaaChecked
import Derived.KernelRfl
open Go.Ev Go
namespace Go.Proofs.Ytebcbdalaiefmaa.H

noncomputable abbrev prog : Program := Try.prog
theorem mixed : prog.follows .mixedOrders = true := by kernel_rfl
def sig : Sig := fun f =>
  if f = 2 then (true, []) else if f = 3 then (true, []) else if f = 4 then (true, []) else if f = 5 then (true, []) else if f = 6 then (true, []) else if f = 8 then (false, [true, false]) else if f = 9 then (false, [true]) else if f = 13 then (true, []) else if f = 14 then (false, [true, false]) else if f = 16 then (false, [true, false]) else if f = 17 then (true, []) else if f = 18 then (true, []) else if f = 20 then (false, [true, false]) else if f = 21 then (false, [true, false]) else if f = 22 then (false, [true]) else if f = 23 then (true, []) else if f = 24 then (false, [true, false]) else if f = 25 then (false, [true, false]) else if f = 26 then (false, [true, false]) else if f = 27 then (true, []) else if f = 28 then (true, []) else if f = 29 then (false, [true, false]) else if f = 30 then (true, []) else if f = 31 then (true, []) else if f = 32 then (false, [true, false]) else if f = 33 then (true, []) else if f = 34 then (false, [true, false]) else if f = 35 then (true, []) else if f = 36 then (true, []) else if f = 37 then (false, [true, false]) else (false, [])

def cS (x : ByteArray) : List D := [.lit (.string x)]

structure heap_Queue_int where
  l : Sl Int
  deriving Inhabited, DecidableEq

def cI_i64 (x : Int) : List D := [.lit (.int .i64 x)]

def c_heap_Queue_int (x : heap_Queue_int) : List D := [slD 1 cI_i64 x.l]

structure heap_Queue_string where
  l : Sl ByteArray
  deriving Inhabited, DecidableEq

def c_heap_Queue_string (x : heap_Queue_string) : List D := [slD 1 cS x.l]

/- turnout/heap.New[int] -/
def k7 : CC :=
  (.seq
  (.region [
    ⟨some 0, .mv, [(.const (.pointer none))], none⟩] [])
  (.seq
  (.region [
    ⟨some 1, (.build [(.slice none 0 0)] []), [], none⟩,
    ⟨some 2, .box, [(.tmp 1)], none⟩,
    ⟨some 0, .mv, [(.tmp 2)], none⟩] [0])
  .ret))
def f7 : Ev.Fn := ⟨0, 3, [.tmp 0], k7⟩
set_option maxRecDepth 100000 in
theorem e7 : compFn prog sig 7 0 [[], [0]] = some f7 := by kernel_rfl
noncomputable def heap_New_int : Option (heap_Queue_int) :=
  some (⟨Sl.nil⟩ : heap_Queue_int)
theorem heap_New_int_ok {z : heap_Queue_int} (hp : heap_New_int = some z) : Good prog 7 [] [.c (.pt [slT 1 cI_i64 z.l])] [] := by
  unfold heap_New_int at hp
  refine fn_good mixed e7 (fnS (m := [false]) (s := ⟨[], [], 0, []⟩) (len := 0) (c := k7) rfl (Sub.of_eq rfl) rfl rfl ?_)
  refine w_seq ?_
  refine w_region ?_
  refine o1 rfl ?_
  refine o_end (e' := []) rfl rfl ?_
  refine after_n ?_
  refine w_seq ?_
  refine w_region ?_
  refine o1 rfl ?_
  refine o2 rfl ?_
  refine o1 rfl ?_
  refine o_end (e' := [(0, .c (.op 0 0))]) rfl rfl ?_
  refine after_n ?_
  refine w_ret ?_
  obtain rfl := Option.some.inj hp
  exact leave_at rfl rfl (pr_c (p_op rfl (pl_cons p_d pl_nil)) pr_nil) pc_nil rfl rfl

/- cmp.isNaN[int] -/
def k35 : CC :=
  (.seq
  (.region [
    ⟨some 2, .mv, [(.const (.bool false))], none⟩] [0])
  (.seq
  (.region [
    ⟨some 3, .mv, [(.tmp 0)], none⟩,
    ⟨some 4, .mv, [(.tmp 0)], none⟩,
    ⟨some 5, (.bin .neq), [(.tmp 3), (.tmp 4)], none⟩,
    ⟨some 2, .mv, [(.tmp 5)], none⟩] [2])
  .ret))
def f35 : Ev.Fn := ⟨1, 6, [.tmp 2], k35⟩
set_option maxRecDepth 100000 in
theorem e35 : compFn prog sig 35 1 [[0], [2]] = some f35 := by kernel_rfl
noncomputable def cmp_isNaN_int (x0 : Int) : Option (Bool) :=
  some (x0 != x0)
theorem cmp_isNaN_int_ok {x0 : Int} {z : Bool} (hp : cmp_isNaN_int x0 = some z) : Good prog 35 [.d (.lit (.int .i64 x0))] [.c (.d (.lit (.bool z)))] [] := by
  unfold cmp_isNaN_int at hp
  refine fn_good mixed e35 (fnS (m := [false]) (s := ⟨[(0, .c (.d (.lit (.int .i64 x0))))], [], 0, []⟩) (len := 0) (c := k35) rfl (Sub.of_eq rfl) rfl rfl ?_)
  refine w_seq ?_
  refine w_region ?_
  refine o1 rfl ?_
  refine o_end (e' := [(0, .c (.d (.lit (.int .i64 x0))))]) rfl rfl ?_
  refine after_n ?_
  refine w_seq ?_
  refine w_region ?_
  iterate 2 refine o1 rfl ?_
  refine o1 (v := .c (.d (.lit (.bool (x0 != x0))))) rfl ?_
  refine o1 rfl ?_
  refine o_end (e' := [(2, .c (.d (.lit (.bool (x0 != x0)))))]) rfl rfl ?_
  refine after_n ?_
  refine w_ret ?_
  obtain rfl := Option.some.inj hp
  exact leave_at rfl rfl (pr_c p_d pr_nil) pc_nil rfl rfl

/- cmp.Less[int] -/
def k27 : CC :=
  (.seq
  (.region [
    ⟨some 4, .mv, [(.const (.bool false))], none⟩] [0, 1])
  (.seq
  (.region [
    ⟨some 5, .mv, [(.tmp 0)], none⟩,
    ⟨some 6, (.call true []), [(.func 35), (.tmp 5)], none⟩,
    ⟨some 7, .mv, [(.tmp 6)], none⟩,
    ⟨some 8, .mv, [(.tmp 1)], (some (7, true))⟩,
    ⟨some 9, (.call true []), [(.func 35), (.tmp 8)], (some (7, true))⟩,
    ⟨some 10, (.un .not), [(.tmp 9)], (some (7, true))⟩,
    ⟨some 11, .pick, [(.tmp 7), (.tmp 10), (.const (.bool false))], none⟩,
    ⟨some 12, .mv, [(.tmp 11)], none⟩,
    ⟨some 13, .mv, [(.tmp 0)], (some (12, false))⟩,
    ⟨some 14, .mv, [(.tmp 1)], (some (12, false))⟩,
    ⟨some 15, (.bin .lss), [(.tmp 13), (.tmp 14)], (some (12, false))⟩,
    ⟨some 16, .pick, [(.tmp 12), (.const (.bool true)), (.tmp 15)], none⟩,
    ⟨some 4, .mv, [(.tmp 16)], none⟩] [4])
  .ret))
def f27 : Ev.Fn := ⟨2, 17, [.tmp 4], k27⟩
set_option maxRecDepth 100000 in
theorem e27 : compFn prog sig 27 2 [[0, 1], [4]] = some f27 := by kernel_rfl
noncomputable def cmp_Less_int (x0 : Int) (y1 : Int) : Option (Bool) :=
  (cmp_isNaN_int x0).bind fun r1 =>
  (bif r1 then ((cmp_isNaN_int y1).bind fun r3 =>
  bif (!r3) then (some true) else (some (decide (x0 < y1)))) else (some (decide (x0 < y1)))).bind fun b5 =>
  some b5
theorem cmp_Less_int_ok {x0 : Int} {y1 : Int} {z : Bool} (hp : cmp_Less_int x0 y1 = some z) : Good prog 27 [.d (.lit (.int .i64 x0)), .d (.lit (.int .i64 y1))] [.c (.d (.lit (.bool z)))] [] := by
  unfold cmp_Less_int at hp
  refine fn_good mixed e27 (fnS (m := [false]) (s := ⟨[(0, .c (.d (.lit (.int .i64 x0)))), (1, .c (.d (.lit (.int .i64 y1))))], [], 0, []⟩) (len := 0) (c := k27) rfl (Sub.of_eq rfl) rfl rfl ?_)
  refine w_seq ?_
  refine w_region ?_
  refine o1 rfl ?_
  refine o_end (e' := [(0, .c (.d (.lit (.int .i64 x0)))), (1, .c (.d (.lit (.int .i64 y1))))]) rfl rfl ?_
  refine after_n ?_
  refine w_seq ?_
  obtain ⟨r1, h2, hp⟩ := bnd hp
  obtain ⟨b5, h6, hp⟩ := bnd hp
  refine w_join (J := fun s => Sub s ⟨[(4, .c (.d (.lit (.bool b5))))], [], 0, []⟩) ?_ ?_
  · refine w_region ?_
    refine o1 rfl ?_
    refine oc (rs := [.c (.d (.lit (.bool r1)))]) (outs := []) rfl (cmp_isNaN_int_ok h2) rfl ?_
    refine o1 rfl ?_
    cases hb7 : (r1 : Bool)
    · have h6 := cnd_f hb7 h6
      iterate 3 refine onot rfl rfl ?_
      iterate 2 refine o1 rfl ?_
      iterate 2 refine og rfl rfl rfl ?_
      refine og (v := .c (.d (.lit (.bool (decide (x0 < y1)))))) rfl rfl rfl ?_
      iterate 2 refine o1 rfl ?_
      cases h6
      exact o_join (sub_ren [] [4] (by decide) rfl .nil (Nat.le_of_ble_eq_true rfl))
    · have h6 := cnd_t hb7 h6
      obtain ⟨r3, h4, h6⟩ := bnd h6
      refine og rfl rfl rfl ?_
      refine ocg (rs := [.c (.d (.lit (.bool r3)))]) (outs := []) rfl rfl rfl (cmp_isNaN_int_ok h4) rfl ?_
      refine og (v := .c (.d (.lit (.bool (!r3))))) rfl rfl rfl ?_
      iterate 2 refine o1 rfl ?_
      cases hb8 : ((!r3) : Bool)
      · have h6 := cnd_f hb8 h6
        iterate 2 refine og rfl rfl rfl ?_
        refine og (v := .c (.d (.lit (.bool (decide (x0 < y1)))))) rfl rfl rfl ?_
        iterate 2 refine o1 rfl ?_
        cases h6
        exact o_join (sub_ren [] [4] (by decide) rfl .nil (Nat.le_of_ble_eq_true rfl))
      · have h6 := cnd_t hb8 h6
        iterate 3 refine onot rfl rfl ?_
        iterate 2 refine o1 rfl ?_
        cases h6
        exact o_join (sub_ren [] [4] (by decide) rfl .nil (Nat.le_of_ble_eq_true rfl))
  · intro s hs9
    refine after_n ?_
    refine W.sub hs9 ?_
    refine w_ret ?_
    obtain rfl := Option.some.inj hp
    exact leave_at rfl rfl (pr_c p_d pr_nil) pc_nil rfl rfl

/- (*turnout/heap.Queue[int]).up -/
def k25 : CC :=
  (.block 0
    (.loop [0, 1]
      (.seq
      (.seq
      (.drawn [
        ⟨some 4, .mv, [(.tmp 1)], none⟩,
        ⟨some 5, (.bin .gtr), [(.tmp 4), (.const (.int .i64 0))], none⟩,
        ⟨some 6, .mv, [(.tmp 5)], none⟩,
        ⟨some 7, .mv, [(.tmp 0)], (some (6, true))⟩,
        ⟨some 8, .nilCheck, [(.tmp 7)], (some (6, true))⟩,
        ⟨some 9, (.fieldAddr 0), [(.tmp 8)], (some (6, true))⟩,
        ⟨some 10, (.load false 1), [(.tmp 9)], (some (6, true))⟩,
        ⟨some 11, .mv, [(.tmp 1)], (some (6, true))⟩,
        ⟨some 12, (.indexAddr none 1), [(.tmp 10), (.tmp 11)], (some (6, true))⟩,
        ⟨some 13, (.load false 1), [(.tmp 12)], (some (6, true))⟩,
        ⟨some 14, .mv, [(.tmp 0)], (some (6, true))⟩,
        ⟨some 15, .nilCheck, [(.tmp 14)], (some (6, true))⟩,
        ⟨some 16, (.fieldAddr 0), [(.tmp 15)], (some (6, true))⟩,
        ⟨some 17, (.load false 1), [(.tmp 16)], (some (6, true))⟩,
        ⟨some 18, .mv, [(.tmp 1)], (some (6, true))⟩,
        ⟨some 19, (.bin .sub), [(.tmp 18), (.const (.int .i64 1))], (some (6, true))⟩,
        ⟨some 20, (.bin .quo), [(.tmp 19), (.const (.int .i64 2))], (some (6, true))⟩,
        ⟨some 21, (.indexAddr none 1), [(.tmp 17), (.tmp 20)], (some (6, true))⟩,
        ⟨some 22, (.load false 1), [(.tmp 21)], (some (6, true))⟩,
        ⟨some 23, (.call true []), [(.func 27), (.tmp 13), (.tmp 22)], (some (6, true))⟩,
        ⟨some 24, .pick, [(.tmp 6), (.tmp 23), (.const (.bool false))], none⟩] [] [0, 1, 24])
      (.cond (.tmp 24)
        .skip
        (.exit 0)))
      (.block 1
        (.seq
        (.drawn [
          ⟨some 25, .mv, [(.tmp 0)], none⟩,
          ⟨some 26, .nilCheck, [(.tmp 25)], none⟩,
          ⟨some 27, (.fieldAddr 0), [(.tmp 26)], none⟩,
          ⟨some 28, (.load false 1), [(.tmp 27)], none⟩,
          ⟨some 29, .mv, [(.tmp 1)], none⟩,
          ⟨some 30, .mv, [(.tmp 0)], none⟩,
          ⟨some 31, .nilCheck, [(.tmp 30)], none⟩,
          ⟨some 32, (.fieldAddr 0), [(.tmp 31)], none⟩,
          ⟨some 33, (.load false 1), [(.tmp 32)], none⟩,
          ⟨some 34, .mv, [(.tmp 1)], none⟩,
          ⟨some 35, (.bin .sub), [(.tmp 34), (.const (.int .i64 1))], none⟩,
          ⟨some 36, (.bin .quo), [(.tmp 35), (.const (.int .i64 2))], none⟩,
          ⟨some 37, .mv, [(.tmp 0)], none⟩,
          ⟨some 38, .nilCheck, [(.tmp 37)], none⟩,
          ⟨some 39, (.fieldAddr 0), [(.tmp 38)], none⟩,
          ⟨some 40, (.load false 1), [(.tmp 39)], none⟩,
          ⟨some 41, .mv, [(.tmp 1)], none⟩,
          ⟨some 42, (.bin .sub), [(.tmp 41), (.const (.int .i64 1))], none⟩,
          ⟨some 43, (.bin .quo), [(.tmp 42), (.const (.int .i64 2))], none⟩,
          ⟨some 44, (.indexAddr none 1), [(.tmp 40), (.tmp 43)], none⟩,
          ⟨some 45, (.load false 1), [(.tmp 44)], none⟩,
          ⟨some 46, .mv, [(.tmp 0)], none⟩,
          ⟨some 47, .nilCheck, [(.tmp 46)], none⟩,
          ⟨some 48, (.fieldAddr 0), [(.tmp 47)], none⟩,
          ⟨some 49, (.load false 1), [(.tmp 48)], none⟩,
          ⟨some 50, .mv, [(.tmp 1)], none⟩,
          ⟨some 51, (.indexAddr none 1), [(.tmp 49), (.tmp 50)], none⟩,
          ⟨some 52, (.load false 1), [(.tmp 51)], none⟩,
          ⟨some 53, (.indexAddr none 1), [(.tmp 28), (.tmp 29)], none⟩,
          ⟨none, (.store 1), [(.tmp 53), (.tmp 45)], none⟩,
          ⟨some 54, (.indexAddr none 1), [(.tmp 33), (.tmp 36)], none⟩,
          ⟨none, (.store 1), [(.tmp 54), (.tmp 52)], none⟩] [] [0, 1])
        (.region [
          ⟨some 55, .mv, [(.tmp 1)], none⟩,
          ⟨some 56, (.bin .sub), [(.tmp 55), (.const (.int .i64 1))], none⟩,
          ⟨some 57, (.bin .quo), [(.tmp 56), (.const (.int .i64 2))], none⟩,
          ⟨some 1, .mv, [(.tmp 57)], none⟩] [0, 1]))))))
def f25 : Ev.Fn := ⟨2, 58, [], k25⟩
set_option maxRecDepth 100000 in
theorem e25 : compFn prog sig 25 2 [[0, 1], [0, 1, 24], [0, 1], [0, 1]] = some f25 := by kernel_rfl
noncomputable def heap_Queue_int_up_L1 : (Sl Int × Int) → Option (Sum ((Sl Int × Int)) (Sl Int)) := fun (s1, i2) =>
  (bif decide (i2 > 0) then ((ixI i2 s1.l.length).bind fun n8 =>
  (ixI (wr .i64 ((wr .i64 (i2 - 1)).tdiv 2)) s1.l.length).bind fun n10 =>
  (cmp_Less_int (gt s1.l n8) (gt s1.l n10)).bind fun r12 =>
  some r12) else (some false)).bind fun b14 =>
  bif b14 then ((ixI (wr .i64 ((wr .i64 (i2 - 1)).tdiv 2)) s1.l.length).bind fun n20 =>
  (ixI i2 s1.l.length).bind fun n22 =>
  (ixI (wr .i64 ((wr .i64 (i2 - 1)).tdiv 2)) (s1.l.set n22 (gt s1.l n20)).length).bind fun n24 =>
  some (.inl ((Sl.mk ((s1.l.set n22 (gt s1.l n20)).set n24 (gt s1.l n22))), wr .i64 ((wr .i64 (i2 - 1)).tdiv 2)))) else
  (some (.inr s1))

noncomputable def heap_Queue_int_up (q0 : heap_Queue_int) (i1 : Int) : Option (heap_Queue_int) :=
  match q0 with | ⟨q0_l⟩ => ((loopO (heap_Queue_int_up_L1) (q0_l, i1)).bind fun s5 =>
  some (⟨s5⟩ : heap_Queue_int))
theorem heap_Queue_int_up_ok {q0 : heap_Queue_int} {i1 : Int} {z : heap_Queue_int} (hp : heap_Queue_int_up q0 i1 = some z) : Good prog 25 [.mt (.pt [slT 1 cI_i64 q0.l]), .d (.lit (.int .i64 i1))] [] [.pt [slT 1 cI_i64 z.l]] := by
  obtain ⟨q0_l⟩ := q0
  unfold heap_Queue_int_up at hp
  refine fn_good mixed e25 (fnS (m := []) (s := ⟨[(0, .c (.op 0 0)), (1, .c (.d (.lit (.int .i64 i1))))], [(0, some (.box [slC 1 cI_i64 1 q0_l])), (1, slO 1 cI_i64 q0_l)], 2, [.op 0 0]⟩) (len := 1) (c := k25) rfl (by rcases q0_l with _ | _ <;> first | (exact sub_ren [0, 9001] [0, 1] (by decide) rfl (.cons (.skip .nil)) (Nat.le_of_ble_eq_true rfl)) | (exact sub_ren [0, 1] [0, 1] (by decide) rfl (.cons (.cons .nil)) (Nat.le_of_ble_eq_true rfl))) rfl rfl ?_)
  refine w_block ?_
  obtain ⟨s5, h7, hp⟩ := bnd hp
  refine W.mono ?_ (w_loopS (st := fun (v : (Sl Int × Int)) => match v with | (s1, i2) => ⟨[(0, .c (.op 0 0)), (1, .c (.d (.lit (.int .i64 i2))))], [(0, some (.box [slC 1 cI_i64 1 s1])), (1, slO 1 cI_i64 s1)], 2, [.op 0 0]⟩) (a := (q0_l, i1)) (Q := Jn (fun (x : Sl Int) o s => match x with | s5 => o = Out.exit 0 ∧ Sub s ⟨[], [(0, some (.box [slC 1 cI_i64 1 s5])), (1, slO 1 cI_i64 s5)], 2, [.op 0 0]⟩)) ?_ h7 ?_)
  · intro o s hs27
    obtain ⟨rfl, hs27⟩ := hs27
    refine out_e ?_
    obtain rfl := Option.some.inj hp
    refine wk.sub hs27 ?_
    rcases s5 with _ | s5'
    · exact leave_at rfl rfl pr_nil (pc_cons (p_op rfl (pl_cons p_d pl_nil)) pc_nil) rfl rfl
    · exact leave_at rfl rfl pr_nil (pc_cons (p_op rfl (pl_cons (p_o rfl) pl_nil)) pc_nil) rfl rfl
  · exact (by rcases q0_l with _ | _ <;> first | (exact sub_ren [0, 9001] [0, 1] (by decide) rfl (.cons (.skip .nil)) (Nat.le_of_ble_eq_true rfl)) | (exact sub_ren [0, 1] [0, 1] (by decide) rfl (.cons (.cons .nil)) (Nat.le_of_ble_eq_true rfl)))
  · rintro ⟨s1, i2⟩ r hr
    unfold heap_Queue_int_up_L1 at hr
    refine w_seq ?_
    refine w_seq ?_
    obtain ⟨b14, h15, hr⟩ := bnd hr
    refine w_join (J := fun s => Sub s ⟨[(0, .c (.op 0 0)), (1, .c (.d (.lit (.int .i64 i2)))), (24, .c (.d (.lit (.bool b14))))], [(0, some (.box [slC 1 cI_i64 1 s1])), (1, slO 1 cI_i64 s1)], 2, [.op 0 0]⟩) ?_ ?_
    · rcases s1 with _ | s1'
      · try dsimp only [slC, slO]
        refine w_drawn ?_
        refine d1 rfl ?_
        refine d1 (v := .c (.d (.lit (.bool (decide (i2 > 0)))))) rfl ?_
        refine d1 rfl ?_
        cases hb16 : (decide (i2 > 0) : Bool)
        · have h15 := cnd_f hb16 h15
          iterate 17 refine dnot rfl rfl ?_
          refine d1 rfl ?_
          cases h15
          exact d_join rfl (sub_ren [0, 9001] [0, 1, 24] (by decide) rfl (.cons (.skip .nil)) (Nat.le_of_ble_eq_true rfl))
        · have h15 := cnd_t hb16 h15
          obtain ⟨n8, h9, h15⟩ := bnd h15
          iterate 5 refine dg rfl rfl rfl ?_
          exact ix_nil h9
      · try dsimp only [slC, slO]
        refine w_drawn ?_
        refine d1 rfl ?_
        refine d1 (v := .c (.d (.lit (.bool (decide (i2 > 0)))))) rfl ?_
        refine d1 rfl ?_
        cases hb17 : (decide (i2 > 0) : Bool)
        · have h15 := cnd_f hb17 h15
          iterate 17 refine dnot rfl rfl ?_
          refine d1 rfl ?_
          cases h15
          exact d_join rfl (sub_ren [0, 1] [0, 1, 24] (by decide) rfl (.cons (.cons .nil)) (Nat.le_of_ble_eq_true rfl))
        · have h15 := cnd_t hb17 h15
          obtain ⟨n8, h9, h15⟩ := bnd h15
          obtain ⟨n10, h11, h15⟩ := bnd h15
          obtain ⟨r12, h13, h15⟩ := bnd h15
          iterate 5 refine dg rfl rfl rfl ?_
          refine dg rfl rfl (ix_o h9) ?_
          refine dg rfl rfl (ld_row rfl (ixI_some.1 h9).2 rfl) ?_
          iterate 5 refine dg rfl rfl rfl ?_
          refine dg (v := .c (.d (.lit (.int .i64 (wr .i64 (i2 - 1)))))) rfl rfl rfl ?_
          refine dg (v := .c (.d (.lit (.int .i64 (wr .i64 ((wr .i64 (i2 - 1)).tdiv 2)))))) rfl rfl rfl ?_
          refine dg rfl rfl (ix_o h11) ?_
          refine dg rfl rfl (ld_row rfl (ixI_some.1 h11).2 rfl) ?_
          refine dcg (rs := [.c (.d (.lit (.bool r12)))]) (outs := []) rfl rfl rfl (cmp_Less_int_ok h13) rfl (Nat.le_of_ble_eq_true rfl) ?_
          refine d1 rfl ?_
          cases h15
          exact d_join rfl (sub_ren [0, 1] [0, 1, 24] (by decide) rfl (.cons (.cons .nil)) (Nat.le_of_ble_eq_true rfl))
    · intro s hs18
      refine after_n ?_
      refine W.sub hs18 ?_
      refine w_cond (t := b14) rfl (fun hb19 => ?_) (fun hb19 => ?_)
      · have hr := cnd_t hb19 hr
        refine w_skip ?_
        refine after_n ?_
        refine w_block ?_
        refine w_seq ?_
        obtain ⟨n20, h21, hr⟩ := bnd hr
        obtain ⟨n22, h23, hr⟩ := bnd hr
        obtain ⟨n24, h25, hr⟩ := bnd hr
        refine w_join (J := fun s => Sub s ⟨[(0, .c (.op 0 0)), (1, .c (.d (.lit (.int .i64 i2))))], [(0, some (.box [slC 1 cI_i64 1 (Sl.mk ((s1.l.set n22 (gt s1.l n20)).set n24 (gt s1.l n22)))])), (1, slO 1 cI_i64 (Sl.mk ((s1.l.set n22 (gt s1.l n20)).set n24 (gt s1.l n22))))], 2, [.op 0 0]⟩) ?_ ?_
        · rcases s1 with _ | s1'
          · try dsimp only [slC, slO]
            refine w_drawn ?_
            iterate 10 refine d1 rfl ?_
            refine d1 (v := .c (.d (.lit (.int .i64 (wr .i64 (i2 - 1)))))) rfl ?_
            refine d1 (v := .c (.d (.lit (.int .i64 (wr .i64 ((wr .i64 (i2 - 1)).tdiv 2)))))) rfl ?_
            iterate 5 refine d1 rfl ?_
            refine d1 (v := .c (.d (.lit (.int .i64 (wr .i64 (i2 - 1)))))) rfl ?_
            refine d1 (v := .c (.d (.lit (.int .i64 (wr .i64 ((wr .i64 (i2 - 1)).tdiv 2)))))) rfl ?_
            exact ix_nil h21
          · try dsimp only [slC, slO]
            refine w_drawn ?_
            iterate 10 refine d1 rfl ?_
            refine d1 (v := .c (.d (.lit (.int .i64 (wr .i64 (i2 - 1)))))) rfl ?_
            refine d1 (v := .c (.d (.lit (.int .i64 (wr .i64 ((wr .i64 (i2 - 1)).tdiv 2)))))) rfl ?_
            iterate 5 refine d1 rfl ?_
            refine d1 (v := .c (.d (.lit (.int .i64 (wr .i64 (i2 - 1)))))) rfl ?_
            refine d1 (v := .c (.d (.lit (.int .i64 (wr .i64 ((wr .i64 (i2 - 1)).tdiv 2)))))) rfl ?_
            refine d1 (ix_o h21) ?_
            refine d1 (ld_row rfl (ixI_some.1 h21).2 rfl) ?_
            iterate 5 refine d1 rfl ?_
            refine d1 (ix_o h23) ?_
            refine d1 (ld_row rfl (ixI_some.1 h23).2 rfl) ?_
            refine d1 (ix_o h23) ?_
            refine d0 (st_row (y := gt s1' n20) rfl (ixI_some.1 h23).2 rfl rfl rfl (Nat.le_of_ble_eq_true rfl) rfl) (Nat.le_of_ble_eq_true rfl) ?_
            rw [len_set s1' cI_i64 n22 (gt s1' n20)]
            refine d1 (ix_o h25) ?_
            refine d0 (st_row (y := gt s1' n22) rfl (ixI_some.1 h25).2 rfl rfl rfl (Nat.le_of_ble_eq_true rfl) rfl) (Nat.le_of_ble_eq_true rfl) ?_
            rw [len_set (s1'.set n22 (gt s1' n20)) cI_i64 n24 (gt s1' n22)]
            exact d_join rfl (sub_ren [0, 1] [0, 1] (by decide) rfl (.cons (.cons .nil)) (Nat.le_of_ble_eq_true rfl))
        · intro s hs26
          refine after_n ?_
          refine W.sub hs26 ?_
          refine w_region ?_
          refine o1 rfl ?_
          refine o1 (v := .c (.d (.lit (.int .i64 (wr .i64 (i2 - 1)))))) rfl ?_
          refine o1 (v := .c (.d (.lit (.int .i64 (wr .i64 ((wr .i64 (i2 - 1)).tdiv 2)))))) rfl ?_
          refine o1 rfl ?_
          refine o_end (e' := [(0, .c (.op 0 0)), (1, .c (.d (.lit (.int .i64 (wr .i64 ((wr .i64 (i2 - 1)).tdiv 2))))))]) rfl rfl ?_
          refine out_n ?_
          obtain rfl := Option.some.inj hr
          exact And.intro rfl (sub_ren [0, 1] [0, 1] (by decide) rfl (.cons (.cons .nil)) (Nat.le_of_ble_eq_true rfl))
      · have hr := cnd_f hb19 hr
        refine w_exit ?_
        refine after_e ?_
        obtain rfl := Option.some.inj hr
        exact And.intro nofun (And.intro rfl (by rcases s1 with _ | _ <;> first | (exact sub_ren [0, 9001] [] (by decide) rfl (.cons (.skip .nil)) (Nat.le_of_ble_eq_true rfl)) | (exact sub_ren [0, 1] [] (by decide) rfl (.cons (.cons .nil)) (Nat.le_of_ble_eq_true rfl))))

/- (*turnout/heap.Queue[int]).Push -/
def k8 : CC :=
  (.seq
  (.seq
  (.region [
    ⟨some 4, .mv, [(.tmp 0)], none⟩,
    ⟨some 5, (.eqNil 1 false), [(.tmp 4)], none⟩] [0, 1, 5])
  (.cond (.tmp 5)
    .ret
    .skip))
  (.seq
  (.region [
    ⟨some 6, .mv, [(.tmp 0)], none⟩,
    ⟨some 7, .mv, [(.tmp 0)], none⟩,
    ⟨some 8, .nilCheck, [(.tmp 7)], none⟩,
    ⟨some 9, (.fieldAddr 0), [(.tmp 8)], none⟩,
    ⟨some 10, (.load false 1), [(.tmp 9)], none⟩,
    ⟨some 11, .mv, [(.tmp 1)], none⟩,
    ⟨some 12, (.buildSlice 1 1 [(.int .i64 0)] [0]), [(.tmp 11)], none⟩,
    ⟨some 13, (.append 1), [(.tmp 10), (.tmp 12)], none⟩,
    ⟨some 14, .nilCheck, [(.tmp 6)], none⟩,
    ⟨some 15, (.fieldAddr 0), [(.tmp 14)], none⟩,
    ⟨none, (.store 1), [(.tmp 15), (.tmp 13)], none⟩] [0])
  (.region [
    ⟨some 16, .mv, [(.tmp 0)], none⟩,
    ⟨some 17, .mv, [(.tmp 0)], none⟩,
    ⟨some 18, .nilCheck, [(.tmp 17)], none⟩,
    ⟨some 19, (.fieldAddr 0), [(.tmp 18)], none⟩,
    ⟨some 20, (.load false 1), [(.tmp 19)], none⟩,
    ⟨some 21, (.len false), [(.tmp 20)], none⟩,
    ⟨some 22, (.bin .sub), [(.tmp 21), (.const (.int .i64 1))], none⟩,
    ⟨some 23, (.call false [true, false]), [(.func 25), (.tmp 16), (.tmp 22)], none⟩] [])))
def f8 : Ev.Fn := ⟨2, 24, [], k8⟩
set_option maxRecDepth 100000 in
theorem e8 : compFn prog sig 8 2 [[0, 1, 5], [0], []] = some f8 := by kernel_rfl
noncomputable def heap_Queue_int_Push (q0 : heap_Queue_int) (x1 : Int) : Option (heap_Queue_int) :=
  match q0 with | ⟨q0_l⟩ => ((capI (q0_l.l ++ [x1])).bind fun l1 =>
  (heap_Queue_int_up (⟨(Sl.mk l1)⟩ : heap_Queue_int) (wr .i64 ((l1.length : Int) - 1))).bind fun ⟨q4_l⟩ =>
  some (⟨q4_l⟩ : heap_Queue_int))
theorem heap_Queue_int_Push_ok {q0 : heap_Queue_int} {x1 : Int} {z : heap_Queue_int} (hp : heap_Queue_int_Push q0 x1 = some z) : Good prog 8 [.mt (.pt [slT 1 cI_i64 q0.l]), .d (.lit (.int .i64 x1))] [] [.pt [slT 1 cI_i64 z.l]] := by
  obtain ⟨q0_l⟩ := q0
  unfold heap_Queue_int_Push at hp
  refine fn_good mixed e8 (fnS (m := []) (s := ⟨[(0, .c (.op 0 0)), (1, .c (.d (.lit (.int .i64 x1))))], [(0, some (.box [slC 1 cI_i64 1 q0_l])), (1, slO 1 cI_i64 q0_l)], 2, [.op 0 0]⟩) (len := 1) (c := k8) rfl (by rcases q0_l with _ | _ <;> first | (exact sub_ren [0, 9001] [0, 1] (by decide) rfl (.cons (.skip .nil)) (Nat.le_of_ble_eq_true rfl)) | (exact sub_ren [0, 1] [0, 1] (by decide) rfl (.cons (.cons .nil)) (Nat.le_of_ble_eq_true rfl))) rfl rfl ?_)
  refine w_seq ?_
  refine w_seq ?_
  refine w_region ?_
  refine o1 rfl ?_
  refine o1 (v := .c (.d (.lit (.bool false)))) rfl ?_
  refine o_end (e' := [(0, .c (.op 0 0)), (1, .c (.d (.lit (.int .i64 x1)))), (5, .c (.d (.lit (.bool false))))]) rfl rfl ?_
  refine after_n ?_
  refine w_false rfl rfl ?_
  refine w_skip ?_
  refine after_n ?_
  refine w_seq ?_
  obtain ⟨l1, h2, hp⟩ := bnd hp
  refine w_join (J := fun s => Sub s ⟨[(0, .c (.op 0 0))], [(0, some (.box [slC 1 cI_i64 1 (Sl.mk l1)])), (1, slO 1 cI_i64 (Sl.mk l1))], 2, [.op 0 0]⟩) ?_ ?_
  · rcases q0_l with _ | q0_l'
    · try dsimp only [slC, slO]
      refine w_region ?_
      iterate 6 refine o1 rfl ?_
      refine o2 rfl ?_
      refine o2 (app_nil (enc := cI_i64) rfl h2) ?_
      iterate 2 refine o1 rfl ?_
      refine o0 rfl ?_
      exact o_join (sub_ren [0, 3] [0] (by decide) rfl (.cons (.cons .nil)) (Nat.le_of_ble_eq_true rfl))
    · try dsimp only [slC, slO]
      refine w_region ?_
      iterate 6 refine o1 rfl ?_
      refine o2 rfl ?_
      refine o2 (app_o rfl rfl h2) ?_
      iterate 2 refine o1 rfl ?_
      refine o0 rfl ?_
      exact o_join (sub_ren [0, 3] [0] (by decide) rfl (.cons (.cons .nil)) (Nat.le_of_ble_eq_true rfl))
  · intro s hs3
    refine after_n ?_
    refine W.sub hs3 ?_
    obtain ⟨⟨q4_l⟩, h5, hp⟩ := bnd hp
    refine w_join (J := fun s => Sub s ⟨[], [(0, some (.box [slC 1 cI_i64 1 q4_l])), (1, slO 1 cI_i64 q4_l)], 2, [.op 0 0]⟩) ?_ ?_
    · rcases q4_l with _ | q4_l'
      · try dsimp only [slC, slO]
        refine w_region ?_
        iterate 5 refine o1 rfl ?_
        refine o1 (v := .c (.d (.lit (.int .i64 (l1.length : Int))))) len_o ?_
        refine o1 (v := .c (.d (.lit (.int .i64 (wr .i64 ((l1.length : Int) - 1)))))) rfl ?_
        refine oc' (rs := []) (outs := [.pt [.d (.lit (.slice none 0 0))]]) (call_at rfl rfl (ea_mt (p_op rfl (pl_cons (p_o rfl) pl_nil)) rfl (ea_c rfl rfl ea_nil)) (wh_op wh_nil) rfl rfl) (heap_Queue_int_up_ok h5) ?_
        exact o_join (sub_ren [0, 9001] [] (by decide) rfl (.cons (.skip .nil)) (Nat.le_of_ble_eq_true rfl))
      · try dsimp only [slC, slO]
        refine w_region ?_
        iterate 5 refine o1 rfl ?_
        refine o1 (v := .c (.d (.lit (.int .i64 (l1.length : Int))))) len_o ?_
        refine o1 (v := .c (.d (.lit (.int .i64 (wr .i64 ((l1.length : Int) - 1)))))) rfl ?_
        refine oc' (rs := []) (outs := [.pt [slT 1 cI_i64 (Sl.mk q4_l')]]) (call_at rfl rfl (ea_mt (p_op rfl (pl_cons (p_o rfl) pl_nil)) rfl (ea_c rfl rfl ea_nil)) (wh_op wh_nil) rfl rfl) (heap_Queue_int_up_ok h5) ?_
        exact o_join (sub_ren [0, 2] [] (by decide) rfl (.cons (.cons .nil)) (Nat.le_of_ble_eq_true rfl))
    · intro s hs6
      obtain rfl := Option.some.inj hp
      refine wk.sub hs6 ?_
      rcases q4_l with _ | q4_l'
      · exact leave_at rfl rfl pr_nil (pc_cons (p_op rfl (pl_cons p_d pl_nil)) pc_nil) rfl rfl
      · exact leave_at rfl rfl pr_nil (pc_cons (p_op rfl (pl_cons (p_o rfl) pl_nil)) pc_nil) rfl rfl

/- (*turnout/heap.Queue[int]).Len -/
def k18 : CC :=
  (.seq
  (.region [
    ⟨some 2, .mv, [(.const (.int .i64 0))], none⟩] [0])
  (.seq
  (.seq
  (.region [
    ⟨some 3, .mv, [(.tmp 0)], none⟩,
    ⟨some 4, (.eqNil 1 false), [(.tmp 3)], none⟩] [0, 4])
  (.cond (.tmp 4)
    (.seq
    (.region [
      ⟨some 2, .mv, [(.const (.int .i64 0))], none⟩] [2])
    .ret)
    .skip))
  (.seq
  (.region [
    ⟨some 5, .mv, [(.tmp 0)], none⟩,
    ⟨some 6, .nilCheck, [(.tmp 5)], none⟩,
    ⟨some 7, (.fieldAddr 0), [(.tmp 6)], none⟩,
    ⟨some 8, (.load false 1), [(.tmp 7)], none⟩,
    ⟨some 9, (.len false), [(.tmp 8)], none⟩,
    ⟨some 2, .mv, [(.tmp 9)], none⟩] [2])
  .ret)))
def f18 : Ev.Fn := ⟨1, 10, [.tmp 2], k18⟩
set_option maxRecDepth 100000 in
theorem e18 : compFn prog sig 18 1 [[0], [0, 4], [2], [2]] = some f18 := by kernel_rfl
noncomputable def heap_Queue_int_Len (q0 : heap_Queue_int) : Option (Int) :=
  some (q0.l.l.length : Int)
theorem heap_Queue_int_Len_ok {q0 : heap_Queue_int} {z : Int} (hp : heap_Queue_int_Len q0 = some z) : Good prog 18 [.d (.pt (c_heap_Queue_int q0))] [.c (.d (.lit (.int .i64 z)))] [] := by
  unfold heap_Queue_int_Len at hp
  refine fn_good mixed e18 (fnS (m := [false]) (s := ⟨[(0, .c (.d (.pt (c_heap_Queue_int q0))))], [], 0, []⟩) (len := 0) (c := k18) rfl (Sub.of_eq rfl) rfl rfl ?_)
  refine w_seq ?_
  refine w_region ?_
  refine o1 rfl ?_
  refine o_end (e' := [(0, .c (.d (.pt (c_heap_Queue_int q0))))]) rfl rfl ?_
  refine after_n ?_
  refine w_seq ?_
  refine w_seq ?_
  refine w_region ?_
  refine o1 rfl ?_
  refine o1 (v := .c (.d (.lit (.bool false)))) rfl ?_
  refine o_end (e' := [(0, .c (.d (.pt (c_heap_Queue_int q0)))), (4, .c (.d (.lit (.bool false))))]) rfl rfl ?_
  refine after_n ?_
  refine w_false rfl rfl ?_
  refine w_skip ?_
  refine after_n ?_
  refine w_seq ?_
  refine w_region ?_
  iterate 4 refine o1 rfl ?_
  refine o1 (v := .c (.d (.lit (.int .i64 (q0.l.l.length : Int))))) len_sd ?_
  refine o1 rfl ?_
  refine o_end (e' := [(2, .c (.d (.lit (.int .i64 (q0.l.l.length : Int)))))]) rfl rfl ?_
  refine after_n ?_
  refine w_ret ?_
  obtain rfl := Option.some.inj hp
  exact leave_at rfl rfl (pr_c p_d pr_nil) pc_nil rfl rfl

/- (*turnout/heap.Queue[int]).Peek -/
def k17 : CC :=
  (.seq
  (.region [
    ⟨some 2, .mv, [(.const (.int .i64 0))], none⟩,
    ⟨some 3, .mv, [(.const (.bool false))], none⟩] [0])
  (.seq
  (.seq
  (.region [
    ⟨some 5, .mv, [(.tmp 0)], none⟩,
    ⟨some 6, (.call true []), [(.func 18), (.tmp 5)], none⟩,
    ⟨some 7, (.bin .eql), [(.tmp 6), (.const (.int .i64 0))], none⟩] [0, 7])
  (.cond (.tmp 7)
    (.seq
    (.region [
      ⟨some 4, .mv, [(.const (.int .i64 0))], none⟩] [4])
    (.seq
    (.region [
      ⟨some 8, .mv, [(.tmp 4)], none⟩,
      ⟨some 2, .mv, [(.tmp 8)], none⟩,
      ⟨some 3, .mv, [(.const (.bool false))], none⟩] [2, 3])
    .ret))
    .skip))
  (.seq
  (.region [
    ⟨some 9, .mv, [(.tmp 0)], none⟩,
    ⟨some 10, .nilCheck, [(.tmp 9)], none⟩,
    ⟨some 11, (.fieldAddr 0), [(.tmp 10)], none⟩,
    ⟨some 12, (.load false 1), [(.tmp 11)], none⟩,
    ⟨some 13, (.indexAddr none 1), [(.tmp 12), (.const (.int .i64 0))], none⟩,
    ⟨some 14, (.load false 1), [(.tmp 13)], none⟩,
    ⟨some 2, .mv, [(.tmp 14)], none⟩,
    ⟨some 3, .mv, [(.const (.bool true))], none⟩] [2, 3])
  .ret)))
def f17 : Ev.Fn := ⟨1, 15, [.tmp 2, .tmp 3], k17⟩
set_option maxRecDepth 100000 in
theorem e17 : compFn prog sig 17 1 [[0], [0, 7], [4], [2, 3], [2, 3]] = some f17 := by kernel_rfl
noncomputable def heap_Queue_int_Peek (q0 : heap_Queue_int) : Option ((Int × Bool)) :=
  (heap_Queue_int_Len q0).bind fun r1 =>
  bif (r1 == 0) then (some (0, false)) else
  ((ixI 0 q0.l.l.length).bind fun n4 =>
  some (gt q0.l.l n4, true))
theorem heap_Queue_int_Peek_ok {q0 : heap_Queue_int} {z : (Int × Bool)} (hp : heap_Queue_int_Peek q0 = some z) : Good prog 17 [.d (.pt (c_heap_Queue_int q0))] [.c (.d (.lit (.int .i64 z.1))), .c (.d (.lit (.bool z.2)))] [] := by
  unfold heap_Queue_int_Peek at hp
  refine fn_good mixed e17 (fnS (m := [false, false]) (s := ⟨[(0, .c (.d (.pt (c_heap_Queue_int q0))))], [], 0, []⟩) (len := 0) (c := k17) rfl (Sub.of_eq rfl) rfl rfl ?_)
  refine w_seq ?_
  refine w_region ?_
  iterate 2 refine o1 rfl ?_
  refine o_end (e' := [(0, .c (.d (.pt (c_heap_Queue_int q0))))]) rfl rfl ?_
  refine after_n ?_
  refine w_seq ?_
  refine w_seq ?_
  obtain ⟨r1, h2, hp⟩ := bnd hp
  refine w_region ?_
  refine o1 rfl ?_
  refine oc (rs := [.c (.d (.lit (.int .i64 r1)))]) (outs := []) rfl (heap_Queue_int_Len_ok h2) rfl ?_
  refine o1 (v := .c (.d (.lit (.bool (r1 == 0))))) rfl ?_
  refine o_end (e' := [(0, .c (.d (.pt (c_heap_Queue_int q0)))), (7, .c (.d (.lit (.bool (r1 == 0)))))]) rfl rfl ?_
  refine after_n ?_
  refine w_cond (t := (r1 == 0)) rfl (fun hb3 => ?_) (fun hb3 => ?_)
  · have hp := cnd_t hb3 hp
    refine w_seq ?_
    refine w_region ?_
    refine o1 rfl ?_
    refine o_end (e' := [(4, .c (.d (.lit (.int .i64 0))))]) rfl rfl ?_
    refine after_n ?_
    refine w_seq ?_
    refine w_region ?_
    iterate 3 refine o1 rfl ?_
    refine o_end (e' := [(2, .c (.d (.lit (.int .i64 0)))), (3, .c (.d (.lit (.bool false))))]) rfl rfl ?_
    refine after_n ?_
    refine w_ret ?_
    refine after_r ?_
    obtain rfl := Option.some.inj hp
    exact leave_at rfl rfl (pr_c p_d (pr_c p_d pr_nil)) pc_nil rfl rfl
  · have hp := cnd_f hb3 hp
    refine w_skip ?_
    refine after_n ?_
    refine w_seq ?_
    obtain ⟨n4, h5, hp⟩ := bnd hp
    refine w_region ?_
    iterate 4 refine o1 rfl ?_
    refine o1 (ix_sd h5) ?_
    iterate 3 refine o1 rfl ?_
    refine o_end (e' := [(2, .c (.d (.lit (.int .i64 (gt q0.l.l n4))))), (3, .c (.d (.lit (.bool true))))]) rfl rfl ?_
    refine after_n ?_
    refine w_ret ?_
    obtain rfl := Option.some.inj hp
    exact leave_at rfl rfl (pr_c p_d (pr_c p_d pr_nil)) pc_nil rfl rfl

/- (*turnout/heap.Queue[int]).down -/
def k34 : CC :=
  (.block 0
    (.loop [0, 1]
      (.block 1
        (.seq
        (.region [
          ⟨some 6, .mv, [(.tmp 1)], none⟩,
          ⟨some 4, .mv, [(.tmp 6)], none⟩] [0, 1, 4])
        (.seq
        (.seq
        (.region [
          ⟨some 7, .mv, [(.tmp 1)], none⟩,
          ⟨some 8, (.bin .mul), [(.const (.int .i64 2)), (.tmp 7)], none⟩,
          ⟨some 9, (.bin .add), [(.tmp 8), (.const (.int .i64 1))], none⟩,
          ⟨some 5, .mv, [(.tmp 9)], none⟩] [0, 1, 4, 5])
        (.block 2
          (.loop [0, 1, 4, 5]
            (.seq
            (.seq
            (.region [
              ⟨some 10, .mv, [(.tmp 5)], none⟩,
              ⟨some 11, .mv, [(.tmp 1)], none⟩,
              ⟨some 12, (.bin .mul), [(.const (.int .i64 2)), (.tmp 11)], none⟩,
              ⟨some 13, (.bin .add), [(.tmp 12), (.const (.int .i64 2))], none⟩,
              ⟨some 14, (.bin .leq), [(.tmp 10), (.tmp 13)], none⟩,
              ⟨some 15, .mv, [(.tmp 14)], none⟩,
              ⟨some 16, .mv, [(.tmp 5)], (some (15, true))⟩,
              ⟨some 17, .mv, [(.tmp 0)], (some (15, true))⟩,
              ⟨some 18, .nilCheck, [(.tmp 17)], (some (15, true))⟩,
              ⟨some 19, (.fieldAddr 0), [(.tmp 18)], (some (15, true))⟩,
              ⟨some 20, (.load false 1), [(.tmp 19)], (some (15, true))⟩,
              ⟨some 21, (.len false), [(.tmp 20)], (some (15, true))⟩,
              ⟨some 22, (.bin .lss), [(.tmp 16), (.tmp 21)], (some (15, true))⟩,
              ⟨some 23, .pick, [(.tmp 15), (.tmp 22), (.const (.bool false))], none⟩] [0, 1, 4, 5, 23])
            (.cond (.tmp 23)
              .skip
              (.exit 2)))
            (.seq
            (.block 3
              (.seq
              (.drawn [
                ⟨some 26, .mv, [(.tmp 0)], none⟩,
                ⟨some 27, .nilCheck, [(.tmp 26)], none⟩,
                ⟨some 28, (.fieldAddr 0), [(.tmp 27)], none⟩,
                ⟨some 29, (.load false 1), [(.tmp 28)], none⟩,
                ⟨some 30, .mv, [(.tmp 5)], none⟩,
                ⟨some 31, (.indexAddr none 1), [(.tmp 29), (.tmp 30)], none⟩,
                ⟨some 32, (.load false 1), [(.tmp 31)], none⟩,
                ⟨some 33, .mv, [(.tmp 0)], none⟩,
                ⟨some 34, .nilCheck, [(.tmp 33)], none⟩,
                ⟨some 35, (.fieldAddr 0), [(.tmp 34)], none⟩,
                ⟨some 36, (.load false 1), [(.tmp 35)], none⟩,
                ⟨some 37, .mv, [(.tmp 4)], none⟩,
                ⟨some 38, (.indexAddr none 1), [(.tmp 36), (.tmp 37)], none⟩,
                ⟨some 39, (.load false 1), [(.tmp 38)], none⟩,
                ⟨some 40, (.call true []), [(.func 27), (.tmp 32), (.tmp 39)], none⟩] [] [0, 1, 4, 5, 40])
              (.cond (.tmp 40)
                (.region [
                  ⟨some 41, .mv, [(.tmp 5)], none⟩,
                  ⟨some 4, .mv, [(.tmp 41)], none⟩] [0, 1, 4, 5])
                .skip)))
            (.region [
              ⟨some 24, .mv, [(.tmp 5)], none⟩,
              ⟨some 25, (.bin .add), [(.tmp 24), (.const (.int .i64 1))], none⟩,
              ⟨some 5, .mv, [(.tmp 25)], none⟩] [0, 1, 4, 5]))))))
        (.seq
        (.seq
        (.region [
          ⟨some 42, .mv, [(.tmp 4)], none⟩,
          ⟨some 43, .mv, [(.tmp 1)], none⟩,
          ⟨some 44, (.bin .eql), [(.tmp 42), (.tmp 43)], none⟩] [0, 1, 4, 44])
        (.cond (.tmp 44)
          .ret
          .skip))
        (.seq
        (.drawn [
          ⟨some 45, .mv, [(.tmp 0)], none⟩,
          ⟨some 46, .nilCheck, [(.tmp 45)], none⟩,
          ⟨some 47, (.fieldAddr 0), [(.tmp 46)], none⟩,
          ⟨some 48, (.load false 1), [(.tmp 47)], none⟩,
          ⟨some 49, .mv, [(.tmp 1)], none⟩,
          ⟨some 50, .mv, [(.tmp 0)], none⟩,
          ⟨some 51, .nilCheck, [(.tmp 50)], none⟩,
          ⟨some 52, (.fieldAddr 0), [(.tmp 51)], none⟩,
          ⟨some 53, (.load false 1), [(.tmp 52)], none⟩,
          ⟨some 54, .mv, [(.tmp 4)], none⟩,
          ⟨some 55, .mv, [(.tmp 0)], none⟩,
          ⟨some 56, .nilCheck, [(.tmp 55)], none⟩,
          ⟨some 57, (.fieldAddr 0), [(.tmp 56)], none⟩,
          ⟨some 58, (.load false 1), [(.tmp 57)], none⟩,
          ⟨some 59, .mv, [(.tmp 4)], none⟩,
          ⟨some 60, (.indexAddr none 1), [(.tmp 58), (.tmp 59)], none⟩,
          ⟨some 61, (.load false 1), [(.tmp 60)], none⟩,
          ⟨some 62, .mv, [(.tmp 0)], none⟩,
          ⟨some 63, .nilCheck, [(.tmp 62)], none⟩,
          ⟨some 64, (.fieldAddr 0), [(.tmp 63)], none⟩,
          ⟨some 65, (.load false 1), [(.tmp 64)], none⟩,
          ⟨some 66, .mv, [(.tmp 1)], none⟩,
          ⟨some 67, (.indexAddr none 1), [(.tmp 65), (.tmp 66)], none⟩,
          ⟨some 68, (.load false 1), [(.tmp 67)], none⟩,
          ⟨some 69, (.indexAddr none 1), [(.tmp 48), (.tmp 49)], none⟩,
          ⟨none, (.store 1), [(.tmp 69), (.tmp 61)], none⟩,
          ⟨some 70, (.indexAddr none 1), [(.tmp 53), (.tmp 54)], none⟩,
          ⟨none, (.store 1), [(.tmp 70), (.tmp 68)], none⟩] [] [0, 4])
        (.region [
          ⟨some 71, .mv, [(.tmp 4)], none⟩,
          ⟨some 1, .mv, [(.tmp 71)], none⟩] [0, 1]))))))))
def f34 : Ev.Fn := ⟨2, 72, [], k34⟩
set_option maxRecDepth 100000 in
theorem e34 : compFn prog sig 34 2 [[0, 1], [0, 1, 4], [0, 1, 4, 5], [0, 1, 4, 5], [0, 1, 4, 5, 23], [0, 1, 4, 5, 40], [0, 1, 4, 5], [0, 1, 4, 5], [0, 1, 4, 44], [0, 4], [0, 1]] = some f34 := by kernel_rfl
noncomputable def heap_Queue_int_down_L2 (s1 : Sl Int) (i2 : Int) : (Int × Int) → Option (Sum ((Int × Int)) (Int)) := fun (i8, i9) =>
  bif ((decide (i9 ≤ (wr .i64 ((wr .i64 (2 * i2)) + 2)))) && (decide (i9 < (s1.l.length : Int)))) then (((ixI i9 s1.l.length).bind fun n22 =>
  (ixI i8 s1.l.length).bind fun n24 =>
  (cmp_Less_int (gt s1.l n22) (gt s1.l n24)).bind fun r26 =>
  bif r26 then (some i9) else
  (some i8) : Option (Int)).bind fun i19 =>
  some (.inl (i19, wr .i64 (i9 + 1)))) else
  (some (.inr i8))

noncomputable def heap_Queue_int_down_L1 : (Sl Int × Int) → Option (Sum ((Sl Int × Int)) (Sl Int)) := fun (s1, i2) =>
  (loopO (heap_Queue_int_down_L2 s1 i2) (i2, wr .i64 ((wr .i64 (2 * i2)) + 1))).bind fun i12 =>
  bif (i12 == i2) then (some (.inr s1)) else
  ((ixI i12 s1.l.length).bind fun n33 =>
  (ixI i2 s1.l.length).bind fun n35 =>
  (ixI i12 (s1.l.set n35 (gt s1.l n33)).length).bind fun n37 =>
  some (.inl ((Sl.mk ((s1.l.set n35 (gt s1.l n33)).set n37 (gt s1.l n35))), i12)))

noncomputable def heap_Queue_int_down (q0 : heap_Queue_int) (i1 : Int) : Option (heap_Queue_int) :=
  match q0 with | ⟨q0_l⟩ => ((loopO (heap_Queue_int_down_L1) (q0_l, i1)).bind fun s5 =>
  some (⟨s5⟩ : heap_Queue_int))
theorem heap_Queue_int_down_ok {q0 : heap_Queue_int} {i1 : Int} {z : heap_Queue_int} (hp : heap_Queue_int_down q0 i1 = some z) : Good prog 34 [.mt (.pt [slT 1 cI_i64 q0.l]), .d (.lit (.int .i64 i1))] [] [.pt [slT 1 cI_i64 z.l]] := by
  obtain ⟨q0_l⟩ := q0
  unfold heap_Queue_int_down at hp
  refine fn_good mixed e34 (fnS (m := []) (s := ⟨[(0, .c (.op 0 0)), (1, .c (.d (.lit (.int .i64 i1))))], [(0, some (.box [slC 1 cI_i64 1 q0_l])), (1, slO 1 cI_i64 q0_l)], 2, [.op 0 0]⟩) (len := 1) (c := k34) rfl (by rcases q0_l with _ | _ <;> first | (exact sub_ren [0, 9001] [0, 1] (by decide) rfl (.cons (.skip .nil)) (Nat.le_of_ble_eq_true rfl)) | (exact sub_ren [0, 1] [0, 1] (by decide) rfl (.cons (.cons .nil)) (Nat.le_of_ble_eq_true rfl))) rfl rfl ?_)
  refine w_block ?_
  obtain ⟨s5, h7, hp⟩ := bnd hp
  refine W.mono ?_ (w_loopS (st := fun (v : (Sl Int × Int)) => match v with | (s1, i2) => ⟨[(0, .c (.op 0 0)), (1, .c (.d (.lit (.int .i64 i2))))], [(0, some (.box [slC 1 cI_i64 1 s1])), (1, slO 1 cI_i64 s1)], 2, [.op 0 0]⟩) (a := (q0_l, i1)) (Q := Jn (fun (x : Sl Int) o s => match x with | s5 => o = Out.ret ∧ Sub s ⟨[], [(0, some (.box [slC 1 cI_i64 1 s5])), (1, slO 1 cI_i64 s5)], 2, [.op 0 0]⟩)) ?_ h7 ?_)
  · intro o s hs40
    obtain ⟨rfl, hs40⟩ := hs40
    refine out_r ?_
    obtain rfl := Option.some.inj hp
    refine wk.sub hs40 ?_
    rcases s5 with _ | s5'
    · exact leave_at rfl rfl pr_nil (pc_cons (p_op rfl (pl_cons p_d pl_nil)) pc_nil) rfl rfl
    · exact leave_at rfl rfl pr_nil (pc_cons (p_op rfl (pl_cons (p_o rfl) pl_nil)) pc_nil) rfl rfl
  · exact (by rcases q0_l with _ | _ <;> first | (exact sub_ren [0, 9001] [0, 1] (by decide) rfl (.cons (.skip .nil)) (Nat.le_of_ble_eq_true rfl)) | (exact sub_ren [0, 1] [0, 1] (by decide) rfl (.cons (.cons .nil)) (Nat.le_of_ble_eq_true rfl)))
  · rintro ⟨s1, i2⟩ r hr
    unfold heap_Queue_int_down_L1 at hr
    refine w_block ?_
    refine w_seq ?_
    refine w_region ?_
    iterate 2 refine o1 rfl ?_
    refine o_end (e' := [(0, .c (.op 0 0)), (1, .c (.d (.lit (.int .i64 i2)))), (4, .c (.d (.lit (.int .i64 i2))))]) rfl rfl ?_
    refine after_n ?_
    refine w_seq ?_
    refine w_seq ?_
    refine w_region ?_
    refine o1 rfl ?_
    refine o1 (v := .c (.d (.lit (.int .i64 (wr .i64 (2 * i2)))))) rfl ?_
    refine o1 (v := .c (.d (.lit (.int .i64 (wr .i64 ((wr .i64 (2 * i2)) + 1)))))) rfl ?_
    refine o1 rfl ?_
    refine o_end (e' := [(0, .c (.op 0 0)), (1, .c (.d (.lit (.int .i64 i2)))), (4, .c (.d (.lit (.int .i64 i2)))), (5, .c (.d (.lit (.int .i64 (wr .i64 ((wr .i64 (2 * i2)) + 1))))))]) rfl rfl ?_
    refine after_n ?_
    refine w_block ?_
    obtain ⟨i12, h14, hr⟩ := bnd hr
    refine W.mono ?_ (w_loopS (st := fun (v : (Int × Int)) => match v with | (i8, i9) => ⟨[(0, .c (.op 0 0)), (1, .c (.d (.lit (.int .i64 i2)))), (4, .c (.d (.lit (.int .i64 i8)))), (5, .c (.d (.lit (.int .i64 i9))))], [(0, some (.box [slC 1 cI_i64 1 s1])), (1, slO 1 cI_i64 s1)], 2, [.op 0 0]⟩) (a := (i2, wr .i64 ((wr .i64 (2 * i2)) + 1))) (Q := Jn (fun (x : Int) o s => match x with | i12 => o = Out.exit 2 ∧ Sub s ⟨[(0, .c (.op 0 0)), (1, .c (.d (.lit (.int .i64 i2)))), (4, .c (.d (.lit (.int .i64 i12))))], [(0, some (.box [slC 1 cI_i64 1 s1])), (1, slO 1 cI_i64 s1)], 2, [.op 0 0]⟩)) ?_ h14 ?_)
    · intro o s hs31
      obtain ⟨rfl, hs31⟩ := hs31
      refine out_e ?_
      refine after_n ?_
      refine W.sub hs31 ?_
      refine w_seq ?_
      refine w_seq ?_
      refine w_region ?_
      iterate 2 refine o1 rfl ?_
      refine o1 (v := .c (.d (.lit (.bool (i12 == i2))))) rfl ?_
      refine o_end (e' := [(0, .c (.op 0 0)), (1, .c (.d (.lit (.int .i64 i2)))), (4, .c (.d (.lit (.int .i64 i12)))), (44, .c (.d (.lit (.bool (i12 == i2)))))]) rfl rfl ?_
      refine after_n ?_
      refine w_cond (t := (i12 == i2)) rfl (fun hb32 => ?_) (fun hb32 => ?_)
      · have hr := cnd_t hb32 hr
        refine w_ret ?_
        refine after_r ?_
        refine out_r ?_
        obtain rfl := Option.some.inj hr
        exact And.intro nofun (And.intro rfl (by rcases s1 with _ | _ <;> first | (exact sub_ren [0, 9001] [] (by decide) rfl (.cons (.skip .nil)) (Nat.le_of_ble_eq_true rfl)) | (exact sub_ren [0, 1] [] (by decide) rfl (.cons (.cons .nil)) (Nat.le_of_ble_eq_true rfl))))
      · have hr := cnd_f hb32 hr
        refine w_skip ?_
        refine after_n ?_
        refine w_seq ?_
        obtain ⟨n33, h34, hr⟩ := bnd hr
        obtain ⟨n35, h36, hr⟩ := bnd hr
        obtain ⟨n37, h38, hr⟩ := bnd hr
        refine w_join (J := fun s => Sub s ⟨[(0, .c (.op 0 0)), (4, .c (.d (.lit (.int .i64 i12))))], [(0, some (.box [slC 1 cI_i64 1 (Sl.mk ((s1.l.set n35 (gt s1.l n33)).set n37 (gt s1.l n35)))])), (1, slO 1 cI_i64 (Sl.mk ((s1.l.set n35 (gt s1.l n33)).set n37 (gt s1.l n35))))], 2, [.op 0 0]⟩) ?_ ?_
        · rcases s1 with _ | s1'
          · try dsimp only [slC, slO]
            refine w_drawn ?_
            iterate 15 refine d1 rfl ?_
            exact ix_nil h34
          · try dsimp only [slC, slO]
            refine w_drawn ?_
            iterate 15 refine d1 rfl ?_
            refine d1 (ix_o h34) ?_
            refine d1 (ld_row rfl (ixI_some.1 h34).2 rfl) ?_
            iterate 5 refine d1 rfl ?_
            refine d1 (ix_o h36) ?_
            refine d1 (ld_row rfl (ixI_some.1 h36).2 rfl) ?_
            refine d1 (ix_o h36) ?_
            refine d0 (st_row (y := gt s1' n33) rfl (ixI_some.1 h36).2 rfl rfl rfl (Nat.le_of_ble_eq_true rfl) rfl) (Nat.le_of_ble_eq_true rfl) ?_
            rw [len_set s1' cI_i64 n35 (gt s1' n33)]
            refine d1 (ix_o h38) ?_
            refine d0 (st_row (y := gt s1' n35) rfl (ixI_some.1 h38).2 rfl rfl rfl (Nat.le_of_ble_eq_true rfl) rfl) (Nat.le_of_ble_eq_true rfl) ?_
            rw [len_set (s1'.set n35 (gt s1' n33)) cI_i64 n37 (gt s1' n35)]
            exact d_join rfl (sub_ren [0, 1] [0, 4] (by decide) rfl (.cons (.cons .nil)) (Nat.le_of_ble_eq_true rfl))
        · intro s hs39
          refine after_n ?_
          refine W.sub hs39 ?_
          refine w_region ?_
          iterate 2 refine o1 rfl ?_
          refine o_end (e' := [(0, .c (.op 0 0)), (1, .c (.d (.lit (.int .i64 i12))))]) rfl rfl ?_
          refine out_n ?_
          obtain rfl := Option.some.inj hr
          exact And.intro rfl (sub_ren [0, 1] [0, 1] (by decide) rfl (.cons (.cons .nil)) (Nat.le_of_ble_eq_true rfl))
    · exact (by rcases s1 with _ | _ <;> first | (exact sub_ren [0, 9001] [0, 1, 4, 5] (by decide) rfl (.cons (.skip .nil)) (Nat.le_of_ble_eq_true rfl)) | (exact sub_ren [0, 1] [0, 1, 4, 5] (by decide) rfl (.cons (.cons .nil)) (Nat.le_of_ble_eq_true rfl)))
    · rintro ⟨i8, i9⟩ r hr
      unfold heap_Queue_int_down_L2 at hr
      refine w_seq ?_
      refine w_seq ?_
      refine w_join (J := fun s => Sub s ⟨[(0, .c (.op 0 0)), (1, .c (.d (.lit (.int .i64 i2)))), (4, .c (.d (.lit (.int .i64 i8)))), (5, .c (.d (.lit (.int .i64 i9)))), (23, .c (.d (.lit (.bool ((decide (i9 ≤ (wr .i64 ((wr .i64 (2 * i2)) + 2)))) && (decide (i9 < (s1.l.length : Int))))))))], [(0, some (.box [slC 1 cI_i64 1 s1])), (1, slO 1 cI_i64 s1)], 2, [.op 0 0]⟩) ?_ ?_
      · refine w_region ?_
        iterate 2 refine o1 rfl ?_
        refine o1 (v := .c (.d (.lit (.int .i64 (wr .i64 (2 * i2)))))) rfl ?_
        refine o1 (v := .c (.d (.lit (.int .i64 (wr .i64 ((wr .i64 (2 * i2)) + 2)))))) rfl ?_
        refine o1 (v := .c (.d (.lit (.bool (decide (i9 ≤ (wr .i64 ((wr .i64 (2 * i2)) + 2)))))))) rfl ?_
        refine o1 rfl ?_
        cases hb16 : (decide (i9 ≤ (wr .i64 ((wr .i64 (2 * i2)) + 2))) : Bool)
        · refine onot rfl rfl ?_
          iterate 6 refine onot rfl rfl ?_
          refine o1 rfl ?_
          exact o_join (by rcases s1 with _ | _ <;> first | (exact sub_ren [0, 9001] [0, 1, 4, 5, 23] (by decide) rfl (.cons (.skip .nil)) (Nat.le_of_ble_eq_true rfl)) | (exact sub_ren [0, 1] [0, 1, 4, 5, 23] (by decide) rfl (.cons (.cons .nil)) (Nat.le_of_ble_eq_true rfl)))
        · refine og rfl rfl rfl ?_
          iterate 4 refine og rfl rfl rfl ?_
          refine og (v := .c (.d (.lit (.int .i64 (s1.l.length : Int))))) rfl rfl len_c ?_
          refine og (v := .c (.d (.lit (.bool (decide (i9 < (s1.l.length : Int))))))) rfl rfl rfl ?_
          refine o1 rfl ?_
          exact o_join (by rcases s1 with _ | _ <;> first | (exact sub_ren [0, 9001] [0, 1, 4, 5, 23] (by decide) rfl (.cons (.skip .nil)) (Nat.le_of_ble_eq_true rfl)) | (exact sub_ren [0, 1] [0, 1, 4, 5, 23] (by decide) rfl (.cons (.cons .nil)) (Nat.le_of_ble_eq_true rfl)))
      · intro s hs17
        refine after_n ?_
        refine W.sub hs17 ?_
        refine w_cond (t := ((decide (i9 ≤ (wr .i64 ((wr .i64 (2 * i2)) + 2)))) && (decide (i9 < (s1.l.length : Int))))) rfl (fun hb18 => ?_) (fun hb18 => ?_)
        · have hr := cnd_t hb18 hr
          refine w_skip ?_
          refine after_n ?_
          refine w_seq ?_
          obtain ⟨i19, h20, hr⟩ := bnd hr
          refine W.mono (Q := Jn (fun (x : Int) o s => match x with | i19 => o = Out.normal ∧ Sub s ⟨[(0, .c (.op 0 0)), (1, .c (.d (.lit (.int .i64 i2)))), (4, .c (.d (.lit (.int .i64 i19)))), (5, .c (.d (.lit (.int .i64 i9))))], [(0, some (.box [slC 1 cI_i64 1 s1])), (1, slO 1 cI_i64 s1)], 2, [.op 0 0]⟩) i19) ?_ ?_
          · intro o s hs30
            obtain ⟨rfl, hs30⟩ := hs30
            refine after_n ?_
            refine W.sub hs30 ?_
            refine w_region ?_
            refine o1 rfl ?_
            refine o1 (v := .c (.d (.lit (.int .i64 (wr .i64 (i9 + 1)))))) rfl ?_
            refine o1 rfl ?_
            refine o_end (e' := [(0, .c (.op 0 0)), (1, .c (.d (.lit (.int .i64 i2)))), (4, .c (.d (.lit (.int .i64 i19)))), (5, .c (.d (.lit (.int .i64 (wr .i64 (i9 + 1))))))]) rfl rfl ?_
            obtain rfl := Option.some.inj hr
            exact And.intro rfl (by rcases s1 with _ | _ <;> first | (exact sub_ren [0, 9001] [0, 1, 4, 5] (by decide) rfl (.cons (.skip .nil)) (Nat.le_of_ble_eq_true rfl)) | (exact sub_ren [0, 1] [0, 1, 4, 5] (by decide) rfl (.cons (.cons .nil)) (Nat.le_of_ble_eq_true rfl)))
          · refine w_block ?_
            refine w_seq ?_
            obtain ⟨n22, h23, h20⟩ := bnd h20
            obtain ⟨n24, h25, h20⟩ := bnd h20
            obtain ⟨r26, h27, h20⟩ := bnd h20
            refine w_join (J := fun s => Sub s ⟨[(0, .c (.op 0 0)), (1, .c (.d (.lit (.int .i64 i2)))), (4, .c (.d (.lit (.int .i64 i8)))), (5, .c (.d (.lit (.int .i64 i9)))), (40, .c (.d (.lit (.bool r26))))], [(0, some (.box [slC 1 cI_i64 1 s1])), (1, slO 1 cI_i64 s1)], 2, [.op 0 0]⟩) ?_ ?_
            · rcases s1 with _ | s1'
              · try dsimp only [slC, slO]
                refine w_drawn ?_
                iterate 5 refine d1 rfl ?_
                exact ix_nil h23
              · try dsimp only [slC, slO]
                refine w_drawn ?_
                iterate 5 refine d1 rfl ?_
                refine d1 (ix_o h23) ?_
                refine d1 (ld_row rfl (ixI_some.1 h23).2 rfl) ?_
                iterate 5 refine d1 rfl ?_
                refine d1 (ix_o h25) ?_
                refine d1 (ld_row rfl (ixI_some.1 h25).2 rfl) ?_
                refine dc (rs := [.c (.d (.lit (.bool r26)))]) (outs := []) rfl (cmp_Less_int_ok h27) rfl (Nat.le_of_ble_eq_true rfl) ?_
                exact d_join rfl (sub_ren [0, 1] [0, 1, 4, 5, 40] (by decide) rfl (.cons (.cons .nil)) (Nat.le_of_ble_eq_true rfl))
            · intro s hs28
              refine after_n ?_
              refine W.sub hs28 ?_
              refine w_cond (t := r26) rfl (fun hb29 => ?_) (fun hb29 => ?_)
              · have h20 := cnd_t hb29 h20
                refine w_region ?_
                iterate 2 refine o1 rfl ?_
                refine o_end (e' := [(0, .c (.op 0 0)), (1, .c (.d (.lit (.int .i64 i2)))), (4, .c (.d (.lit (.int .i64 i9)))), (5, .c (.d (.lit (.int .i64 i9))))]) rfl rfl ?_
                refine out_n ?_
                obtain rfl := Option.some.inj h20
                exact And.intro rfl (by rcases s1 with _ | _ <;> first | (exact sub_ren [0, 9001] [0, 1, 4, 5] (by decide) rfl (.cons (.skip .nil)) (Nat.le_of_ble_eq_true rfl)) | (exact sub_ren [0, 1] [0, 1, 4, 5] (by decide) rfl (.cons (.cons .nil)) (Nat.le_of_ble_eq_true rfl)))
              · have h20 := cnd_f hb29 h20
                refine w_skip ?_
                refine out_n ?_
                obtain rfl := Option.some.inj h20
                exact And.intro rfl (by rcases s1 with _ | _ <;> first | (exact sub_ren [0, 9001] [0, 1, 4, 5] (by decide) rfl (.cons (.skip .nil)) (Nat.le_of_ble_eq_true rfl)) | (exact sub_ren [0, 1] [0, 1, 4, 5] (by decide) rfl (.cons (.cons .nil)) (Nat.le_of_ble_eq_true rfl)))
        · have hr := cnd_f hb18 hr
          refine w_exit ?_
          refine after_e ?_
          obtain rfl := Option.some.inj hr
          exact And.intro nofun (And.intro rfl (by rcases s1 with _ | _ <;> first | (exact sub_ren [0, 9001] [0, 1, 4] (by decide) rfl (.cons (.skip .nil)) (Nat.le_of_ble_eq_true rfl)) | (exact sub_ren [0, 1] [0, 1, 4] (by decide) rfl (.cons (.cons .nil)) (Nat.le_of_ble_eq_true rfl))))

/- (*turnout/heap.Queue[int]).take -/
def k26 : CC :=
  (.seq
  (.region [
    ⟨some 5, .mv, [(.tmp 0)], none⟩,
    ⟨some 6, .nilCheck, [(.tmp 5)], none⟩,
    ⟨some 7, (.fieldAddr 0), [(.tmp 6)], none⟩,
    ⟨some 8, (.load false 1), [(.tmp 7)], none⟩,
    ⟨some 9, (.len false), [(.tmp 8)], none⟩,
    ⟨some 10, (.bin .sub), [(.tmp 9), (.const (.int .i64 1))], none⟩,
    ⟨some 4, .mv, [(.tmp 10)], none⟩] [0, 1, 4])
  (.seq
  (.drawn [
    ⟨some 11, .mv, [(.tmp 0)], none⟩,
    ⟨some 12, .nilCheck, [(.tmp 11)], none⟩,
    ⟨some 13, (.fieldAddr 0), [(.tmp 12)], none⟩,
    ⟨some 14, (.load false 1), [(.tmp 13)], none⟩,
    ⟨some 15, .mv, [(.tmp 1)], none⟩,
    ⟨some 16, .mv, [(.tmp 0)], none⟩,
    ⟨some 17, .nilCheck, [(.tmp 16)], none⟩,
    ⟨some 18, (.fieldAddr 0), [(.tmp 17)], none⟩,
    ⟨some 19, (.load false 1), [(.tmp 18)], none⟩,
    ⟨some 20, .mv, [(.tmp 4)], none⟩,
    ⟨some 21, (.indexAddr none 1), [(.tmp 19), (.tmp 20)], none⟩,
    ⟨some 22, (.load false 1), [(.tmp 21)], none⟩,
    ⟨some 23, (.indexAddr none 1), [(.tmp 14), (.tmp 15)], none⟩,
    ⟨none, (.store 1), [(.tmp 23), (.tmp 22)], none⟩] [] [0, 1, 4])
  (.seq
  (.region [
    ⟨some 24, .mv, [(.tmp 0)], none⟩,
    ⟨some 25, .mv, [(.tmp 0)], none⟩,
    ⟨some 26, .nilCheck, [(.tmp 25)], none⟩,
    ⟨some 27, (.fieldAddr 0), [(.tmp 26)], none⟩,
    ⟨some 28, (.load false 1), [(.tmp 27)], none⟩,
    ⟨some 29, .mv, [(.tmp 4)], none⟩,
    ⟨some 30, (.slice false 1 false true), [(.tmp 28), (.tmp 29)], none⟩,
    ⟨some 31, .nilCheck, [(.tmp 24)], none⟩,
    ⟨some 32, (.fieldAddr 0), [(.tmp 31)], none⟩,
    ⟨none, (.store 1), [(.tmp 32), (.tmp 30)], none⟩] [0, 1, 4])
  (.seq
  (.region [
    ⟨some 33, .mv, [(.tmp 1)], none⟩,
    ⟨some 34, .mv, [(.tmp 4)], none⟩,
    ⟨some 35, (.bin .lss), [(.tmp 33), (.tmp 34)], none⟩] [0, 1, 35])
  (.cond (.tmp 35)
    (.seq
    (.region [
      ⟨some 36, .mv, [(.tmp 0)], none⟩,
      ⟨some 37, .mv, [(.tmp 1)], none⟩,
      ⟨some 38, (.call false [true, false]), [(.func 25), (.tmp 36), (.tmp 37)], none⟩] [0, 1])
    (.region [
      ⟨some 39, .mv, [(.tmp 0)], none⟩,
      ⟨some 40, .mv, [(.tmp 1)], none⟩,
      ⟨some 41, (.call false [true, false]), [(.func 34), (.tmp 39), (.tmp 40)], none⟩] []))
    .skip)))))
def f26 : Ev.Fn := ⟨2, 42, [], k26⟩
set_option maxRecDepth 100000 in
theorem e26 : compFn prog sig 26 2 [[0, 1, 4], [0, 1, 4], [0, 1, 4], [0, 1, 35], [0, 1], []] = some f26 := by kernel_rfl
noncomputable def heap_Queue_int_take (q0 : heap_Queue_int) (i1 : Int) : Option (heap_Queue_int) :=
  match q0 with | ⟨q0_l⟩ => ((ixI (wr .i64 ((q0_l.l.length : Int) - 1)) q0_l.l.length).bind fun n1 =>
  (ixI i1 q0_l.l.length).bind fun n3 =>
  (cutI (q0_l.l.set n3 (gt q0_l.l n1)) 0 (wr .i64 ((q0_l.l.length : Int) - 1))).bind fun l6 =>
  bif decide (i1 < (wr .i64 ((q0_l.l.length : Int) - 1))) then ((heap_Queue_int_up (⟨(Sl.mk l6)⟩ : heap_Queue_int) i1).bind fun ⟨q9_l⟩ =>
  (heap_Queue_int_down (⟨q9_l⟩ : heap_Queue_int) i1).bind fun ⟨q12_l⟩ =>
  some (⟨q12_l⟩ : heap_Queue_int)) else
  (some (⟨(Sl.mk l6)⟩ : heap_Queue_int)))
theorem heap_Queue_int_take_ok {q0 : heap_Queue_int} {i1 : Int} {z : heap_Queue_int} (hp : heap_Queue_int_take q0 i1 = some z) : Good prog 26 [.mt (.pt [slT 1 cI_i64 q0.l]), .d (.lit (.int .i64 i1))] [] [.pt [slT 1 cI_i64 z.l]] := by
  obtain ⟨q0_l⟩ := q0
  unfold heap_Queue_int_take at hp
  refine fn_good mixed e26 (fnS (m := []) (s := ⟨[(0, .c (.op 0 0)), (1, .c (.d (.lit (.int .i64 i1))))], [(0, some (.box [slC 1 cI_i64 1 q0_l])), (1, slO 1 cI_i64 q0_l)], 2, [.op 0 0]⟩) (len := 1) (c := k26) rfl (by rcases q0_l with _ | _ <;> first | (exact sub_ren [0, 9001] [0, 1] (by decide) rfl (.cons (.skip .nil)) (Nat.le_of_ble_eq_true rfl)) | (exact sub_ren [0, 1] [0, 1] (by decide) rfl (.cons (.cons .nil)) (Nat.le_of_ble_eq_true rfl))) rfl rfl ?_)
  refine w_seq ?_
  refine w_region ?_
  iterate 4 refine o1 rfl ?_
  refine o1 (v := .c (.d (.lit (.int .i64 (q0_l.l.length : Int))))) len_c ?_
  refine o1 (v := .c (.d (.lit (.int .i64 (wr .i64 ((q0_l.l.length : Int) - 1)))))) rfl ?_
  refine o1 rfl ?_
  refine o_end (e' := [(0, .c (.op 0 0)), (1, .c (.d (.lit (.int .i64 i1)))), (4, .c (.d (.lit (.int .i64 (wr .i64 ((q0_l.l.length : Int) - 1))))))]) rfl rfl ?_
  refine after_n ?_
  refine w_seq ?_
  obtain ⟨n1, h2, hp⟩ := bnd hp
  obtain ⟨n3, h4, hp⟩ := bnd hp
  refine w_join (J := fun s => Sub s ⟨[(0, .c (.op 0 0)), (1, .c (.d (.lit (.int .i64 i1)))), (4, .c (.d (.lit (.int .i64 (wr .i64 ((q0_l.l.length : Int) - 1))))))], [(0, some (.box [slC 1 cI_i64 1 (Sl.mk (q0_l.l.set n3 (gt q0_l.l n1)))])), (1, slO 1 cI_i64 (Sl.mk (q0_l.l.set n3 (gt q0_l.l n1))))], 2, [.op 0 0]⟩) ?_ ?_
  · rcases q0_l with _ | q0_l'
    · try dsimp only [slC, slO]
      refine w_drawn ?_
      iterate 10 refine d1 rfl ?_
      exact ix_nil h2
    · try dsimp only [slC, slO]
      refine w_drawn ?_
      iterate 10 refine d1 rfl ?_
      refine d1 (ix_o h2) ?_
      refine d1 (ld_row rfl (ixI_some.1 h2).2 rfl) ?_
      refine d1 (ix_o h4) ?_
      refine d0 (st_row (y := gt q0_l' n1) rfl (ixI_some.1 h4).2 rfl rfl rfl (Nat.le_of_ble_eq_true rfl) rfl) (Nat.le_of_ble_eq_true rfl) ?_
      rw [len_set q0_l' cI_i64 n3 (gt q0_l' n1)]
      exact d_join rfl (sub_ren [0, 1] [0, 1, 4] (by decide) rfl (.cons (.cons .nil)) (Nat.le_of_ble_eq_true rfl))
  · intro s hs5
    refine after_n ?_
    refine W.sub hs5 ?_
    refine w_seq ?_
    obtain ⟨l6, h7, hp⟩ := bnd hp
    refine w_region ?_
    iterate 6 refine o1 rfl ?_
    refine o1 (cut_oft h7) ?_
    iterate 2 refine o1 rfl ?_
    refine o0 rfl ?_
    refine o_end (e' := [(0, .c (.op 0 0)), (1, .c (.d (.lit (.int .i64 i1)))), (4, .c (.d (.lit (.int .i64 (wr .i64 ((q0_l.l.length : Int) - 1))))))]) rfl rfl ?_
    refine after_n ?_
    refine w_seq ?_
    refine w_region ?_
    iterate 2 refine o1 rfl ?_
    refine o1 (v := .c (.d (.lit (.bool (decide (i1 < (wr .i64 ((q0_l.l.length : Int) - 1)))))))) rfl ?_
    refine o_end (e' := [(0, .c (.op 0 0)), (1, .c (.d (.lit (.int .i64 i1)))), (35, .c (.d (.lit (.bool (decide (i1 < (wr .i64 ((q0_l.l.length : Int) - 1))))))))]) rfl rfl ?_
    refine after_n ?_
    refine w_cond (t := decide (i1 < (wr .i64 ((q0_l.l.length : Int) - 1)))) rfl (fun hb8 => ?_) (fun hb8 => ?_)
    · have hp := cnd_t hb8 hp
      refine w_seq ?_
      obtain ⟨⟨q9_l⟩, h10, hp⟩ := bnd hp
      refine w_join (J := fun s => Sub s ⟨[(0, .c (.op 0 0)), (1, .c (.d (.lit (.int .i64 i1))))], [(0, some (.box [slC 1 cI_i64 1 q9_l])), (1, slO 1 cI_i64 q9_l)], 2, [.op 0 0]⟩) ?_ ?_
      · rcases q9_l with _ | q9_l'
        · try dsimp only [slC, slO]
          refine w_region ?_
          iterate 2 refine o1 rfl ?_
          refine oc' (rs := []) (outs := [.pt [.d (.lit (.slice none 0 0))]]) (call_at rfl rfl (ea_mt (p_op rfl (pl_cons (p_s rfl h7) pl_nil)) rfl (ea_c rfl rfl ea_nil)) (wh_op wh_nil) rfl rfl) (heap_Queue_int_up_ok h10) ?_
          exact o_join (sub_ren [0, 9001] [0, 1] (by decide) rfl (.cons (.skip .nil)) (Nat.le_of_ble_eq_true rfl))
        · try dsimp only [slC, slO]
          refine w_region ?_
          iterate 2 refine o1 rfl ?_
          refine oc' (rs := []) (outs := [.pt [slT 1 cI_i64 (Sl.mk q9_l')]]) (call_at rfl rfl (ea_mt (p_op rfl (pl_cons (p_s rfl h7) pl_nil)) rfl (ea_c rfl rfl ea_nil)) (wh_op wh_nil) rfl rfl) (heap_Queue_int_up_ok h10) ?_
          exact o_join (sub_ren [0, 2] [0, 1] (by decide) rfl (.cons (.cons .nil)) (Nat.le_of_ble_eq_true rfl))
      · intro s hs11
        refine after_n ?_
        refine W.sub hs11 ?_
        obtain ⟨⟨q12_l⟩, h13, hp⟩ := bnd hp
        refine w_join (J := fun s => Sub s ⟨[], [(0, some (.box [slC 1 cI_i64 1 q12_l])), (1, slO 1 cI_i64 q12_l)], 2, [.op 0 0]⟩) ?_ ?_
        · rcases q12_l with _ | q12_l' <;> rcases q9_l with _ | q9_l'
          · try dsimp only [slC, slO]
            refine w_region ?_
            iterate 2 refine o1 rfl ?_
            refine oc (rs := []) (outs := [.pt [.d (.lit (.slice none 0 0))]]) rfl (heap_Queue_int_down_ok h13) rfl ?_
            exact o_join (sub_ren [0, 9001] [] (by decide) rfl (.cons (.skip .nil)) (Nat.le_of_ble_eq_true rfl))
          · try dsimp only [slC, slO]
            refine w_region ?_
            iterate 2 refine o1 rfl ?_
            refine oc' (rs := []) (outs := [.pt [.d (.lit (.slice none 0 0))]]) (call_at rfl rfl (ea_mt (p_op rfl (pl_cons (p_o rfl) pl_nil)) rfl (ea_c rfl rfl ea_nil)) (wh_op wh_nil) rfl rfl) (heap_Queue_int_down_ok h13) ?_
            exact o_join (sub_ren [0, 9001] [] (by decide) rfl (.cons (.skip .nil)) (Nat.le_of_ble_eq_true rfl))
          · try dsimp only [slC, slO]
            refine w_region ?_
            iterate 2 refine o1 rfl ?_
            refine oc (rs := []) (outs := [.pt [slT 1 cI_i64 (Sl.mk q12_l')]]) rfl (heap_Queue_int_down_ok h13) rfl ?_
            exact o_join (sub_ren [0, 2] [] (by decide) rfl (.cons (.cons .nil)) (Nat.le_of_ble_eq_true rfl))
          · try dsimp only [slC, slO]
            refine w_region ?_
            iterate 2 refine o1 rfl ?_
            refine oc' (rs := []) (outs := [.pt [slT 1 cI_i64 (Sl.mk q12_l')]]) (call_at rfl rfl (ea_mt (p_op rfl (pl_cons (p_o rfl) pl_nil)) rfl (ea_c rfl rfl ea_nil)) (wh_op wh_nil) rfl rfl) (heap_Queue_int_down_ok h13) ?_
            exact o_join (sub_ren [0, 2] [] (by decide) rfl (.cons (.cons .nil)) (Nat.le_of_ble_eq_true rfl))
        · intro s hs14
          obtain rfl := Option.some.inj hp
          refine wk.sub hs14 ?_
          rcases q12_l with _ | q12_l'
          · exact leave_at rfl rfl pr_nil (pc_cons (p_op rfl (pl_cons p_d pl_nil)) pc_nil) rfl rfl
          · exact leave_at rfl rfl pr_nil (pc_cons (p_op rfl (pl_cons (p_o rfl) pl_nil)) pc_nil) rfl rfl
    · have hp := cnd_f hb8 hp
      refine w_skip ?_
      obtain rfl := Option.some.inj hp
      exact leave_at rfl rfl pr_nil (pc_cons (p_op rfl (pl_cons (p_s rfl h7) pl_nil)) pc_nil) rfl rfl

/- (*turnout/heap.Queue[int]).Pop -/
def k9 : CC :=
  (.seq
  (.region [
    ⟨some 2, .mv, [(.const (.int .i64 0))], none⟩,
    ⟨some 3, .mv, [(.const (.bool false))], none⟩] [0])
  (.seq
  (.region [
    ⟨some 7, .mv, [(.tmp 0)], none⟩,
    ⟨some 8, (.call true []), [(.func 17), (.tmp 7)], none⟩,
    ⟨some 6, .mv, [(.tmp 8)], none⟩,
    ⟨some 9, (.extract 0), [(.tmp 6)], none⟩,
    ⟨some 10, (.extract 1), [(.tmp 6)], none⟩,
    ⟨some 4, .mv, [(.tmp 9)], none⟩,
    ⟨some 5, .mv, [(.tmp 10)], none⟩] [0, 4, 5])
  (.seq
  (.seq
  (.region [
    ⟨some 11, .mv, [(.tmp 5)], none⟩] [0, 4, 5, 11])
  (.cond (.tmp 11)
    (.region [
      ⟨some 12, .mv, [(.tmp 0)], none⟩,
      ⟨some 13, (.call false [true, false]), [(.func 26), (.tmp 12), (.const (.int .i64 0))], none⟩] [4, 5])
    .skip))
  (.seq
  (.region [
    ⟨some 14, .mv, [(.tmp 4)], none⟩,
    ⟨some 15, .mv, [(.tmp 5)], none⟩,
    ⟨some 2, .mv, [(.tmp 14)], none⟩,
    ⟨some 3, .mv, [(.tmp 15)], none⟩] [2, 3])
  .ret))))
def f9 : Ev.Fn := ⟨1, 16, [.tmp 2, .tmp 3], k9⟩
set_option maxRecDepth 100000 in
theorem e9 : compFn prog sig 9 1 [[0], [0, 4, 5], [0, 4, 5, 11], [4, 5], [2, 3]] = some f9 := by kernel_rfl
noncomputable def heap_Queue_int_Pop (q0 : heap_Queue_int) : Option ((Int × Bool × heap_Queue_int)) :=
  match q0 with | ⟨q0_l⟩ => ((heap_Queue_int_Peek (⟨q0_l⟩ : heap_Queue_int)).bind fun (r1, r2) =>
  (bif r2 then ((heap_Queue_int_take (⟨q0_l⟩ : heap_Queue_int) 0).bind fun ⟨q9_l⟩ =>
  some q9_l) else
  (some q0_l) : Option (Sl Int)).bind fun s5 =>
  some (r1, r2, (⟨s5⟩ : heap_Queue_int)))
theorem heap_Queue_int_Pop_ok {q0 : heap_Queue_int} {z : (Int × Bool × heap_Queue_int)} (hp : heap_Queue_int_Pop q0 = some z) : Good prog 9 [.mt (.pt [slT 1 cI_i64 q0.l])] [.c (.d (.lit (.int .i64 z.1))), .c (.d (.lit (.bool z.2.1)))] [.pt [slT 1 cI_i64 z.2.2.l]] := by
  obtain ⟨q0_l⟩ := q0
  unfold heap_Queue_int_Pop at hp
  refine fn_good mixed e9 (fnS (m := [false, false]) (s := ⟨[(0, .c (.op 0 0))], [(0, some (.box [slC 1 cI_i64 1 q0_l])), (1, slO 1 cI_i64 q0_l)], 2, [.op 0 0]⟩) (len := 1) (c := k9) rfl (by rcases q0_l with _ | _ <;> first | (exact sub_ren [0, 9001] [0] (by decide) rfl (.cons (.skip .nil)) (Nat.le_of_ble_eq_true rfl)) | (exact sub_ren [0, 1] [0] (by decide) rfl (.cons (.cons .nil)) (Nat.le_of_ble_eq_true rfl))) rfl rfl ?_)
  refine w_seq ?_
  refine w_region ?_
  iterate 2 refine o1 rfl ?_
  refine o_end (e' := [(0, .c (.op 0 0))]) rfl rfl ?_
  refine after_n ?_
  refine w_seq ?_
  obtain ⟨⟨r1, r2⟩, h3, hp⟩ := bnd hp
  refine w_join (J := fun s => Sub s ⟨[(0, .c (.op 0 0)), (4, .c (.d (.lit (.int .i64 r1)))), (5, .c (.d (.lit (.bool r2))))], [(0, some (.box [slC 1 cI_i64 1 q0_l])), (1, slO 1 cI_i64 q0_l)], 2, [.op 0 0]⟩) ?_ ?_
  · rcases q0_l with _ | q0_l'
    · try dsimp only [slC, slO]
      refine w_region ?_
      refine o1 rfl ?_
      refine oc (rs := [.c (.d (.lit (.int .i64 r1))), .c (.d (.lit (.bool r2)))]) (outs := []) rfl (heap_Queue_int_Peek_ok h3) rfl ?_
      iterate 5 refine o1 rfl ?_
      exact o_join (sub_ren [0, 9001] [0, 4, 5] (by decide) rfl (.cons (.skip .nil)) (Nat.le_of_ble_eq_true rfl))
    · try dsimp only [slC, slO]
      refine w_region ?_
      refine o1 rfl ?_
      refine oc' (rs := [.c (.d (.lit (.int .i64 r1))), .c (.d (.lit (.bool r2)))]) (outs := []) (call_at rfl rfl (ea_c (v_op rfl (vl_cons (v_o rfl) vl_nil)) rfl ea_nil) wh_nil rfl rfl) (heap_Queue_int_Peek_ok h3) ?_
      iterate 5 refine o1 rfl ?_
      exact o_join (sub_ren [0, 1] [0, 4, 5] (by decide) rfl (.cons (.cons .nil)) (Nat.le_of_ble_eq_true rfl))
  · intro s hs4
    refine after_n ?_
    refine W.sub hs4 ?_
    refine w_seq ?_
    obtain ⟨s5, h6, hp⟩ := bnd hp
    refine W.mono (Q := Jn (fun (x : Sl Int) o s => match x with | s5 => o = Out.normal ∧ Sub s ⟨[(4, .c (.d (.lit (.int .i64 r1)))), (5, .c (.d (.lit (.bool r2))))], [(0, some (.box [slC 1 cI_i64 1 s5])), (1, slO 1 cI_i64 s5)], 2, [.op 0 0]⟩) s5) ?_ ?_
    · intro o s hs12
      obtain ⟨rfl, hs12⟩ := hs12
      refine after_n ?_
      refine W.sub hs12 ?_
      refine w_seq ?_
      refine w_region ?_
      iterate 4 refine o1 rfl ?_
      refine o_end (e' := [(2, .c (.d (.lit (.int .i64 r1)))), (3, .c (.d (.lit (.bool r2))))]) rfl rfl ?_
      refine after_n ?_
      refine w_ret ?_
      obtain rfl := Option.some.inj hp
      rcases s5 with _ | s5'
      · exact leave_at rfl rfl (pr_c p_d (pr_c p_d pr_nil)) (pc_cons (p_op rfl (pl_cons p_d pl_nil)) pc_nil) rfl rfl
      · exact leave_at rfl rfl (pr_c p_d (pr_c p_d pr_nil)) (pc_cons (p_op rfl (pl_cons (p_o rfl) pl_nil)) pc_nil) rfl rfl
    · refine w_seq ?_
      refine w_region ?_
      refine o1 rfl ?_
      refine o_end (e' := [(0, .c (.op 0 0)), (4, .c (.d (.lit (.int .i64 r1)))), (5, .c (.d (.lit (.bool r2)))), (11, .c (.d (.lit (.bool r2))))]) rfl rfl ?_
      refine after_n ?_
      refine w_cond (t := r2) rfl (fun hb8 => ?_) (fun hb8 => ?_)
      · have h6 := cnd_t hb8 h6
        obtain ⟨⟨q9_l⟩, h10, h6⟩ := bnd h6
        refine w_join (J := fun s => Sub s ⟨[(4, .c (.d (.lit (.int .i64 r1)))), (5, .c (.d (.lit (.bool r2))))], [(0, some (.box [slC 1 cI_i64 1 q9_l])), (1, slO 1 cI_i64 q9_l)], 2, [.op 0 0]⟩) ?_ ?_
        · rcases q0_l with _ | q0_l' <;> rcases q9_l with _ | q9_l'
          · try dsimp only [slC, slO]
            refine w_region ?_
            refine o1 rfl ?_
            refine oc (rs := []) (outs := [.pt [.d (.lit (.slice none 0 0))]]) rfl (heap_Queue_int_take_ok h10) rfl ?_
            exact o_join (sub_ren [0, 9001] [4, 5] (by decide) rfl (.cons (.skip .nil)) (Nat.le_of_ble_eq_true rfl))
          · try dsimp only [slC, slO]
            refine w_region ?_
            refine o1 rfl ?_
            refine oc (rs := []) (outs := [.pt [slT 1 cI_i64 (Sl.mk q9_l')]]) rfl (heap_Queue_int_take_ok h10) rfl ?_
            exact o_join (sub_ren [0, 2] [4, 5] (by decide) rfl (.cons (.cons .nil)) (Nat.le_of_ble_eq_true rfl))
          · try dsimp only [slC, slO]
            refine w_region ?_
            refine o1 rfl ?_
            refine oc' (rs := []) (outs := [.pt [.d (.lit (.slice none 0 0))]]) (call_at rfl rfl (ea_mt (p_op rfl (pl_cons (p_o rfl) pl_nil)) rfl (ea_c rfl rfl ea_nil)) (wh_op wh_nil) rfl rfl) (heap_Queue_int_take_ok h10) ?_
            exact o_join (sub_ren [0, 9001] [4, 5] (by decide) rfl (.cons (.skip .nil)) (Nat.le_of_ble_eq_true rfl))
          · try dsimp only [slC, slO]
            refine w_region ?_
            refine o1 rfl ?_
            refine oc' (rs := []) (outs := [.pt [slT 1 cI_i64 (Sl.mk q9_l')]]) (call_at rfl rfl (ea_mt (p_op rfl (pl_cons (p_o rfl) pl_nil)) rfl (ea_c rfl rfl ea_nil)) (wh_op wh_nil) rfl rfl) (heap_Queue_int_take_ok h10) ?_
            exact o_join (sub_ren [0, 2] [4, 5] (by decide) rfl (.cons (.cons .nil)) (Nat.le_of_ble_eq_true rfl))
        · intro s hs11
          obtain rfl := Option.some.inj h6
          exact And.intro rfl (Sub.trans hs11 (by rcases q9_l with _ | _ <;> first | (exact sub_ren [0, 9001] [4, 5] (by decide) rfl (.cons (.skip .nil)) (Nat.le_of_ble_eq_true rfl)) | (exact sub_ren [0, 1] [4, 5] (by decide) rfl (.cons (.cons .nil)) (Nat.le_of_ble_eq_true rfl))))
      · have h6 := cnd_f hb8 h6
        refine w_skip ?_
        obtain rfl := Option.some.inj h6
        exact And.intro rfl (by rcases q0_l with _ | _ <;> first | (exact sub_ren [0, 9001] [4, 5] (by decide) rfl (.cons (.skip .nil)) (Nat.le_of_ble_eq_true rfl)) | (exact sub_ren [0, 1] [4, 5] (by decide) rfl (.cons (.cons .nil)) (Nat.le_of_ble_eq_true rfl)))

/- (*turnout/heap.Queue[int]).Drain -/
def k14 : CC :=
  (.seq
  (.region [
    ⟨some 4, .mv, [(.const (.slice none 0 0))], none⟩] [0, 1])
  (.seq
  (.region [
    ⟨some 5, .mv, [(.const (.slice none 0 0))], none⟩] [0, 1, 5])
  (.block 0
    (.loop [0, 1, 5]
      (.block 1
        (.seq
        (.region [
          ⟨some 9, .mv, [(.tmp 0)], none⟩,
          ⟨some 10, (.call true []), [(.func 17), (.tmp 9)], none⟩,
          ⟨some 8, .mv, [(.tmp 10)], none⟩,
          ⟨some 11, (.extract 0), [(.tmp 8)], none⟩,
          ⟨some 12, (.extract 1), [(.tmp 8)], none⟩,
          ⟨some 6, .mv, [(.tmp 11)], none⟩,
          ⟨some 7, .mv, [(.tmp 12)], none⟩] [0, 1, 5, 6, 7])
        (.seq
        (.seq
        (.region [
          ⟨some 13, .mv, [(.tmp 7)], none⟩,
          ⟨some 14, (.un .not), [(.tmp 13)], none⟩,
          ⟨some 15, .mv, [(.tmp 14)], none⟩,
          ⟨some 16, .mv, [(.tmp 1)], (some (15, false))⟩,
          ⟨some 17, .mv, [(.tmp 6)], (some (15, false))⟩,
          ⟨some 18, (.call true []), [(.func 27), (.tmp 16), (.tmp 17)], (some (15, false))⟩,
          ⟨some 19, .pick, [(.tmp 15), (.const (.bool true)), (.tmp 18)], none⟩] [0, 1, 5, 6, 19])
        (.cond (.tmp 19)
          (.seq
          (.region [
            ⟨some 20, .mv, [(.tmp 5)], none⟩,
            ⟨some 4, .mv, [(.tmp 20)], none⟩] [4])
          .ret)
          .skip))
        (.seq
        (.region [
          ⟨some 21, .mv, [(.tmp 0)], none⟩,
          ⟨some 22, (.call false [true, false]), [(.func 26), (.tmp 21), (.const (.int .i64 0))], none⟩] [0, 1, 5, 6])
        (.region [
          ⟨some 23, .mv, [(.tmp 5)], none⟩,
          ⟨some 24, .mv, [(.tmp 6)], none⟩,
          ⟨some 25, (.buildSlice 1 1 [(.int .i64 0)] [0]), [(.tmp 24)], none⟩,
          ⟨some 26, (.append 1), [(.tmp 23), (.tmp 25)], none⟩,
          ⟨some 5, .mv, [(.tmp 26)], none⟩] [0, 1, 5])))))))))
def f14 : Ev.Fn := ⟨2, 27, [.tmp 4], k14⟩
set_option maxRecDepth 100000 in
theorem e14 : compFn prog sig 14 2 [[0, 1], [0, 1, 5], [0, 1, 5], [0, 1, 5, 6, 7], [0, 1, 5, 6, 19], [4], [0, 1, 5, 6], [0, 1, 5]] = some f14 := by kernel_rfl
noncomputable def heap_Queue_int_Drain_L1 (most1 : Int) : (Sl Int × Sl Int) → Option (Sum ((Sl Int × Sl Int)) ((Sl Int × Sl Int))) := fun (s1, s2) =>
  (heap_Queue_int_Peek (⟨s1⟩ : heap_Queue_int)).bind fun (r9, r10) =>
  (bif (!r10) then (some true) else ((cmp_Less_int most1 r9).bind fun r13 =>
  some r13)).bind fun b15 =>
  bif b15 then (some (.inr (s1, s2))) else
  ((heap_Queue_int_take (⟨s1⟩ : heap_Queue_int) 0).bind fun ⟨q20_l⟩ =>
  (capI (s2.l ++ [r9])).bind fun l23 =>
  some (.inl (q20_l, (Sl.mk l23))))

noncomputable def heap_Queue_int_Drain (q0 : heap_Queue_int) (most1 : Int) : Option ((Sl Int × heap_Queue_int)) :=
  match q0 with | ⟨q0_l⟩ => ((loopO (heap_Queue_int_Drain_L1 most1) (q0_l, Sl.nil)).bind fun (s5, s6) =>
  some (s6, (⟨s5⟩ : heap_Queue_int)))
theorem heap_Queue_int_Drain_ok {q0 : heap_Queue_int} {most1 : Int} {z : (Sl Int × heap_Queue_int)} (hp : heap_Queue_int_Drain q0 most1 = some z) : Good prog 14 [.mt (.pt [slT 1 cI_i64 q0.l]), .d (.lit (.int .i64 most1))] [.c (.d (slD 1 cI_i64 z.1))] [.pt [slT 1 cI_i64 z.2.l]] := by
  obtain ⟨q0_l⟩ := q0
  unfold heap_Queue_int_Drain at hp
  refine fn_good mixed e14 (fnS (m := [true]) (s := ⟨[(0, .c (.op 0 0)), (1, .c (.d (.lit (.int .i64 most1))))], [(0, some (.box [slC 1 cI_i64 1 q0_l])), (1, slO 1 cI_i64 q0_l)], 2, [.op 0 0]⟩) (len := 1) (c := k14) rfl (by rcases q0_l with _ | _ <;> first | (exact sub_ren [0, 9001] [0, 1] (by decide) rfl (.cons (.skip .nil)) (Nat.le_of_ble_eq_true rfl)) | (exact sub_ren [0, 1] [0, 1] (by decide) rfl (.cons (.cons .nil)) (Nat.le_of_ble_eq_true rfl))) rfl rfl ?_)
  refine w_seq ?_
  refine w_region ?_
  refine o1 rfl ?_
  refine o_end (e' := [(0, .c (.op 0 0)), (1, .c (.d (.lit (.int .i64 most1))))]) rfl rfl ?_
  refine after_n ?_
  refine w_seq ?_
  refine w_region ?_
  refine o1 rfl ?_
  refine o_end (e' := [(0, .c (.op 0 0)), (1, .c (.d (.lit (.int .i64 most1)))), (5, .c (.d (.lit (.slice none 0 0))))]) rfl rfl ?_
  refine after_n ?_
  refine w_block ?_
  obtain ⟨x7, h8, hp⟩ := bnd hp
  refine W.mono ?_ (w_loopS (st := fun (v : (Sl Int × Sl Int)) => match v with | (s1, s2) => ⟨[(0, .c (.op 0 0)), (1, .c (.d (.lit (.int .i64 most1)))), (5, .c (slC 1 cI_i64 2 s2))], [(0, some (.box [slC 1 cI_i64 1 s1])), (1, slO 1 cI_i64 s1), (2, slO 1 cI_i64 s2)], 3, [.op 0 0]⟩) (a := (q0_l, Sl.nil)) (Q := Jn (fun (x : (Sl Int × Sl Int)) o s => match x with | (s5, s6) => o = Out.ret ∧ Sub s ⟨[(4, .c (slC 1 cI_i64 2 s6))], [(0, some (.box [slC 1 cI_i64 1 s5])), (1, slO 1 cI_i64 s5), (2, slO 1 cI_i64 s6)], 3, [.op 0 0]⟩)) ?_ h8 ?_)
  · intro o s hs26
    obtain ⟨s5, s6⟩ := x7
    obtain ⟨rfl, hs26⟩ := hs26
    refine out_r ?_
    obtain rfl := Option.some.inj hp
    refine wk.sub hs26 ?_
    rcases s6 with _ | s6' <;> rcases s5 with _ | s5'
    · exact leave_at rfl rfl (pr_c p_d pr_nil) (pc_cons (p_op rfl (pl_cons p_d pl_nil)) pc_nil) rfl rfl
    · exact leave_at rfl rfl (pr_c p_d pr_nil) (pc_cons (p_op rfl (pl_cons (p_o rfl) pl_nil)) pc_nil) rfl rfl
    · exact leave_at rfl rfl (pr_c (p_o rfl) pr_nil) (pc_cons (p_op rfl (pl_cons p_d pl_nil)) pc_nil) rfl rfl
    · exact leave_at rfl rfl (pr_c (p_o rfl) pr_nil) (pc_cons (p_op rfl (pl_cons (p_o rfl) pl_nil)) pc_nil) rfl rfl
  · exact (by rcases q0_l with _ | _ <;> first | (exact sub_ren [0, 9001, 9002] [0, 1, 5] (by decide) rfl (.cons (.skip (.skip .nil))) (Nat.le_of_ble_eq_true rfl)) | (exact sub_ren [0, 1, 9002] [0, 1, 5] (by decide) rfl (.cons (.cons (.skip .nil))) (Nat.le_of_ble_eq_true rfl)))
  · rintro ⟨s1, s2⟩ r hr
    unfold heap_Queue_int_Drain_L1 at hr
    refine w_block ?_
    refine w_seq ?_
    obtain ⟨⟨r9, r10⟩, h11, hr⟩ := bnd hr
    refine w_join (J := fun s => Sub s ⟨[(0, .c (.op 0 0)), (1, .c (.d (.lit (.int .i64 most1)))), (5, .c (slC 1 cI_i64 2 s2)), (6, .c (.d (.lit (.int .i64 r9)))), (7, .c (.d (.lit (.bool r10))))], [(0, some (.box [slC 1 cI_i64 1 s1])), (1, slO 1 cI_i64 s1), (2, slO 1 cI_i64 s2)], 3, [.op 0 0]⟩) ?_ ?_
    · rcases s1 with _ | s1'
      · try dsimp only [slC, slO]
        refine w_region ?_
        refine o1 rfl ?_
        refine oc (rs := [.c (.d (.lit (.int .i64 r9))), .c (.d (.lit (.bool r10)))]) (outs := []) rfl (heap_Queue_int_Peek_ok h11) rfl ?_
        iterate 5 refine o1 rfl ?_
        exact o_join (by rcases s2 with _ | _ <;> first | (exact sub_ren [0, 9001, 9002] [0, 1, 5, 6, 7] (by decide) rfl (.cons (.skip (.skip .nil))) (Nat.le_of_ble_eq_true rfl)) | (exact sub_ren [0, 9001, 2] [0, 1, 5, 6, 7] (by decide) rfl (.cons (.skip (.cons .nil))) (Nat.le_of_ble_eq_true rfl)))
      · try dsimp only [slC, slO]
        refine w_region ?_
        refine o1 rfl ?_
        refine oc' (rs := [.c (.d (.lit (.int .i64 r9))), .c (.d (.lit (.bool r10)))]) (outs := []) (call_at rfl rfl (ea_c (v_op rfl (vl_cons (v_o rfl) vl_nil)) rfl ea_nil) wh_nil rfl rfl) (heap_Queue_int_Peek_ok h11) ?_
        iterate 5 refine o1 rfl ?_
        exact o_join (by rcases s2 with _ | _ <;> first | (exact sub_ren [0, 1, 9002] [0, 1, 5, 6, 7] (by decide) rfl (.cons (.cons (.skip .nil))) (Nat.le_of_ble_eq_true rfl)) | (exact sub_ren [0, 1, 2] [0, 1, 5, 6, 7] (by decide) rfl (.cons (.cons (.cons .nil))) (Nat.le_of_ble_eq_true rfl)))
    · intro s hs12
      refine after_n ?_
      refine W.sub hs12 ?_
      refine w_seq ?_
      refine w_seq ?_
      obtain ⟨b15, h16, hr⟩ := bnd hr
      refine w_join (J := fun s => Sub s ⟨[(0, .c (.op 0 0)), (1, .c (.d (.lit (.int .i64 most1)))), (5, .c (slC 1 cI_i64 2 s2)), (6, .c (.d (.lit (.int .i64 r9)))), (19, .c (.d (.lit (.bool b15))))], [(0, some (.box [slC 1 cI_i64 1 s1])), (1, slO 1 cI_i64 s1), (2, slO 1 cI_i64 s2)], 3, [.op 0 0]⟩) ?_ ?_
      · refine w_region ?_
        refine o1 rfl ?_
        refine o1 (v := .c (.d (.lit (.bool (!r10))))) rfl ?_
        refine o1 rfl ?_
        cases hb17 : ((!r10) : Bool)
        · have h16 := cnd_f hb17 h16
          obtain ⟨r13, h14, h16⟩ := bnd h16
          iterate 2 refine og rfl rfl rfl ?_
          refine ocg (rs := [.c (.d (.lit (.bool r13)))]) (outs := []) rfl rfl rfl (cmp_Less_int_ok h14) rfl ?_
          refine o1 rfl ?_
          cases h16
          exact o_join (by rcases s1 with _ | _ <;> rcases s2 with _ | _ <;> first | (exact sub_ren [0, 9001, 9002] [0, 1, 5, 6, 19] (by decide) rfl (.cons (.skip (.skip .nil))) (Nat.le_of_ble_eq_true rfl)) | (exact sub_ren [0, 9001, 2] [0, 1, 5, 6, 19] (by decide) rfl (.cons (.skip (.cons .nil))) (Nat.le_of_ble_eq_true rfl)) | (exact sub_ren [0, 1, 9002] [0, 1, 5, 6, 19] (by decide) rfl (.cons (.cons (.skip .nil))) (Nat.le_of_ble_eq_true rfl)) | (exact sub_ren [0, 1, 2] [0, 1, 5, 6, 19] (by decide) rfl (.cons (.cons (.cons .nil))) (Nat.le_of_ble_eq_true rfl)))
        · have h16 := cnd_t hb17 h16
          iterate 3 refine onot rfl rfl ?_
          refine o1 rfl ?_
          cases h16
          exact o_join (by rcases s1 with _ | _ <;> rcases s2 with _ | _ <;> first | (exact sub_ren [0, 9001, 9002] [0, 1, 5, 6, 19] (by decide) rfl (.cons (.skip (.skip .nil))) (Nat.le_of_ble_eq_true rfl)) | (exact sub_ren [0, 9001, 2] [0, 1, 5, 6, 19] (by decide) rfl (.cons (.skip (.cons .nil))) (Nat.le_of_ble_eq_true rfl)) | (exact sub_ren [0, 1, 9002] [0, 1, 5, 6, 19] (by decide) rfl (.cons (.cons (.skip .nil))) (Nat.le_of_ble_eq_true rfl)) | (exact sub_ren [0, 1, 2] [0, 1, 5, 6, 19] (by decide) rfl (.cons (.cons (.cons .nil))) (Nat.le_of_ble_eq_true rfl)))
      · intro s hs18
        refine after_n ?_
        refine W.sub hs18 ?_
        refine w_cond (t := b15) rfl (fun hb19 => ?_) (fun hb19 => ?_)
        · have hr := cnd_t hb19 hr
          refine w_seq ?_
          refine w_region ?_
          iterate 2 refine o1 rfl ?_
          refine o_end (e' := [(4, .c (slC 1 cI_i64 2 s2))]) rfl rfl ?_
          refine after_n ?_
          refine w_ret ?_
          refine after_r ?_
          refine out_r ?_
          obtain rfl := Option.some.inj hr
          exact And.intro nofun (And.intro rfl (by rcases s1 with _ | _ <;> rcases s2 with _ | _ <;> first | (exact sub_ren [0, 9001, 9002] [4] (by decide) rfl (.cons (.skip (.skip .nil))) (Nat.le_of_ble_eq_true rfl)) | (exact sub_ren [0, 9001, 2] [4] (by decide) rfl (.cons (.skip (.cons .nil))) (Nat.le_of_ble_eq_true rfl)) | (exact sub_ren [0, 1, 9002] [4] (by decide) rfl (.cons (.cons (.skip .nil))) (Nat.le_of_ble_eq_true rfl)) | (exact sub_ren [0, 1, 2] [4] (by decide) rfl (.cons (.cons (.cons .nil))) (Nat.le_of_ble_eq_true rfl))))
        · have hr := cnd_f hb19 hr
          refine w_skip ?_
          refine after_n ?_
          refine w_seq ?_
          obtain ⟨⟨q20_l⟩, h21, hr⟩ := bnd hr
          refine w_join (J := fun s => Sub s ⟨[(0, .c (.op 0 0)), (1, .c (.d (.lit (.int .i64 most1)))), (5, .c (slC 1 cI_i64 2 s2)), (6, .c (.d (.lit (.int .i64 r9))))], [(0, some (.box [slC 1 cI_i64 1 q20_l])), (1, slO 1 cI_i64 q20_l), (2, slO 1 cI_i64 s2)], 3, [.op 0 0]⟩) ?_ ?_
          · rcases q20_l with _ | q20_l' <;> rcases s1 with _ | s1'
            · try dsimp only [slC, slO]
              refine w_region ?_
              refine o1 rfl ?_
              refine oc (rs := []) (outs := [.pt [.d (.lit (.slice none 0 0))]]) rfl (heap_Queue_int_take_ok h21) rfl ?_
              exact o_join (by rcases s2 with _ | _ <;> first | (exact sub_ren [0, 9001, 9002] [0, 1, 5, 6] (by decide) rfl (.cons (.skip (.skip .nil))) (Nat.le_of_ble_eq_true rfl)) | (exact sub_ren [0, 9001, 2] [0, 1, 5, 6] (by decide) rfl (.cons (.skip (.cons .nil))) (Nat.le_of_ble_eq_true rfl)))
            · try dsimp only [slC, slO]
              refine w_region ?_
              refine o1 rfl ?_
              refine oc' (rs := []) (outs := [.pt [.d (.lit (.slice none 0 0))]]) (call_at rfl rfl (ea_mt (p_op rfl (pl_cons (p_o rfl) pl_nil)) rfl (ea_c rfl rfl ea_nil)) (wh_op wh_nil) rfl rfl) (heap_Queue_int_take_ok h21) ?_
              exact o_join (by rcases s2 with _ | _ <;> first | (exact sub_ren [0, 9001, 9002] [0, 1, 5, 6] (by decide) rfl (.cons (.skip (.skip .nil))) (Nat.le_of_ble_eq_true rfl)) | (exact sub_ren [0, 9001, 2] [0, 1, 5, 6] (by decide) rfl (.cons (.skip (.cons .nil))) (Nat.le_of_ble_eq_true rfl)))
            · try dsimp only [slC, slO]
              refine w_region ?_
              refine o1 rfl ?_
              refine oc (rs := []) (outs := [.pt [slT 1 cI_i64 (Sl.mk q20_l')]]) rfl (heap_Queue_int_take_ok h21) rfl ?_
              exact o_join (by rcases s2 with _ | _ <;> first | (exact sub_ren [0, 3, 9002] [0, 1, 5, 6] (by decide) rfl (.cons (.cons (.skip .nil))) (Nat.le_of_ble_eq_true rfl)) | (exact sub_ren [0, 3, 2] [0, 1, 5, 6] (by decide) rfl (.cons (.cons (.cons .nil))) (Nat.le_of_ble_eq_true rfl)))
            · try dsimp only [slC, slO]
              refine w_region ?_
              refine o1 rfl ?_
              refine oc' (rs := []) (outs := [.pt [slT 1 cI_i64 (Sl.mk q20_l')]]) (call_at rfl rfl (ea_mt (p_op rfl (pl_cons (p_o rfl) pl_nil)) rfl (ea_c rfl rfl ea_nil)) (wh_op wh_nil) rfl rfl) (heap_Queue_int_take_ok h21) ?_
              exact o_join (by rcases s2 with _ | _ <;> first | (exact sub_ren [0, 3, 9002] [0, 1, 5, 6] (by decide) rfl (.cons (.cons (.skip .nil))) (Nat.le_of_ble_eq_true rfl)) | (exact sub_ren [0, 3, 2] [0, 1, 5, 6] (by decide) rfl (.cons (.cons (.cons .nil))) (Nat.le_of_ble_eq_true rfl)))
          · intro s hs22
            refine after_n ?_
            refine W.sub hs22 ?_
            obtain ⟨l23, h24, hr⟩ := bnd hr
            refine w_join (J := fun s => Sub s ⟨[(0, .c (.op 0 0)), (1, .c (.d (.lit (.int .i64 most1)))), (5, .c (slC 1 cI_i64 2 (Sl.mk l23)))], [(0, some (.box [slC 1 cI_i64 1 q20_l])), (1, slO 1 cI_i64 q20_l), (2, slO 1 cI_i64 (Sl.mk l23))], 3, [.op 0 0]⟩) ?_ ?_
            · rcases s2 with _ | s2'
              · try dsimp only [slC, slO]
                refine w_region ?_
                iterate 2 refine o1 rfl ?_
                refine o2 rfl ?_
                refine o2 (app_nil (enc := cI_i64) rfl h24) ?_
                refine o1 rfl ?_
                exact o_join (by rcases q20_l with _ | _ <;> first | (exact sub_ren [0, 9001, 4] [0, 1, 5] (by decide) rfl (.cons (.skip (.cons .nil))) (Nat.le_of_ble_eq_true rfl)) | (exact sub_ren [0, 1, 4] [0, 1, 5] (by decide) rfl (.cons (.cons (.cons .nil))) (Nat.le_of_ble_eq_true rfl)))
              · try dsimp only [slC, slO]
                refine w_region ?_
                iterate 2 refine o1 rfl ?_
                refine o2 rfl ?_
                refine o2 (app_o rfl rfl h24) ?_
                refine o1 rfl ?_
                exact o_join (by rcases q20_l with _ | _ <;> first | (exact sub_ren [0, 9001, 4] [0, 1, 5] (by decide) rfl (.cons (.skip (.cons .nil))) (Nat.le_of_ble_eq_true rfl)) | (exact sub_ren [0, 1, 4] [0, 1, 5] (by decide) rfl (.cons (.cons (.cons .nil))) (Nat.le_of_ble_eq_true rfl)))
            · intro s hs25
              refine out_n ?_
              obtain rfl := Option.some.inj hr
              exact And.intro rfl (Sub.trans hs25 (by rcases q20_l with _ | _ <;> first | (exact sub_ren [0, 9001, 2] [0, 1, 5] (by decide) rfl (.cons (.skip (.cons .nil))) (Nat.le_of_ble_eq_true rfl)) | (exact sub_ren [0, 1, 2] [0, 1, 5] (by decide) rfl (.cons (.cons (.cons .nil))) (Nat.le_of_ble_eq_true rfl))))

/- turnout/turnoutref13.Same -/
def k13 : CC :=
  (.seq
  (.region [
    ⟨some 4, .mv, [(.const (.bool false))], none⟩] [0, 1])
  (.seq
  (.seq
  (.region [
    ⟨some 6, .mv, [(.tmp 0)], none⟩,
    ⟨some 7, (.len false), [(.tmp 6)], none⟩,
    ⟨some 8, .mv, [(.tmp 1)], none⟩,
    ⟨some 9, (.len false), [(.tmp 8)], none⟩,
    ⟨some 10, (.bin .neq), [(.tmp 7), (.tmp 9)], none⟩] [0, 1, 10])
  (.cond (.tmp 10)
    (.seq
    (.region [
      ⟨some 4, .mv, [(.const (.bool false))], none⟩] [4])
    .ret)
    .skip))
  (.seq
  (.seq
  (.region [
    ⟨some 5, .mv, [(.const (.int .i64 0))], none⟩] [0, 1, 5])
  (.block 0
    (.loop [0, 1, 5]
      (.seq
      (.seq
      (.region [
        ⟨some 11, .mv, [(.tmp 5)], none⟩,
        ⟨some 12, .mv, [(.tmp 0)], none⟩,
        ⟨some 13, (.len false), [(.tmp 12)], none⟩,
        ⟨some 14, (.bin .lss), [(.tmp 11), (.tmp 13)], none⟩] [0, 1, 5, 14])
      (.cond (.tmp 14)
        .skip
        (.exit 0)))
      (.seq
      (.block 1
        (.seq
        (.drawn [
          ⟨some 17, .mv, [(.tmp 0)], none⟩,
          ⟨some 18, .mv, [(.tmp 5)], none⟩,
          ⟨some 19, (.indexAddr none 1), [(.tmp 17), (.tmp 18)], none⟩,
          ⟨some 20, (.load false 1), [(.tmp 19)], none⟩,
          ⟨some 21, .mv, [(.tmp 1)], none⟩,
          ⟨some 22, .mv, [(.tmp 5)], none⟩,
          ⟨some 23, (.indexAddr none 1), [(.tmp 21), (.tmp 22)], none⟩,
          ⟨some 24, (.load false 1), [(.tmp 23)], none⟩,
          ⟨some 25, (.bin .neq), [(.tmp 20), (.tmp 24)], none⟩] [] [0, 1, 5, 25])
        (.cond (.tmp 25)
          (.seq
          (.region [
            ⟨some 4, .mv, [(.const (.bool false))], none⟩] [4])
          .ret)
          .skip)))
      (.region [
        ⟨some 15, .mv, [(.tmp 5)], none⟩,
        ⟨some 16, (.bin .add), [(.tmp 15), (.const (.int .i64 1))], none⟩,
        ⟨some 5, .mv, [(.tmp 16)], none⟩] [0, 1, 5]))))))
  (.seq
  (.region [
    ⟨some 4, .mv, [(.const (.bool true))], none⟩] [4])
  .ret))))
def f13 : Ev.Fn := ⟨2, 26, [.tmp 4], k13⟩
set_option maxRecDepth 100000 in
theorem e13 : compFn prog sig 13 2 [[0, 1], [0, 1, 10], [4], [0, 1, 5], [0, 1, 5], [0, 1, 5, 14], [0, 1, 5, 25], [4], [0, 1, 5], [4]] = some f13 := by kernel_rfl
noncomputable def ref13_Same_L1 (a0 : Sl Int) (b1 : Sl Int) : Int → Option (Sum (Int) (Sum (Unit) (Unit))) := fun i2 =>
  bif decide (i2 < (a0.l.length : Int)) then ((ixI i2 a0.l.length).bind fun n7 =>
  (ixI i2 b1.l.length).bind fun n9 =>
  bif ((gt a0.l n7) != (gt b1.l n9)) then (some (.inr (.inl ()))) else
  (some (.inl (wr .i64 (i2 + 1))))) else
  (some (.inr (.inr ())))

noncomputable def ref13_Same (a0 : Sl Int) (b1 : Sl Int) : Option (Bool) :=
  bif ((a0.l.length : Int) != (b1.l.length : Int)) then (some false) else
  ((loopO (ref13_Same_L1 a0 b1) 0).bind fun
  | .inl _ => (some false)
  | .inr (_) => (some true))
theorem ref13_Same_ok {a0 : Sl Int} {b1 : Sl Int} {z : Bool} (hp : ref13_Same a0 b1 = some z) : Good prog 13 [.d (slD 1 cI_i64 a0), .d (slD 1 cI_i64 b1)] [.c (.d (.lit (.bool z)))] [] := by
  unfold ref13_Same at hp
  refine fn_good mixed e13 (fnS (m := [false]) (s := ⟨[(0, .c (.d (slD 1 cI_i64 a0))), (1, .c (.d (slD 1 cI_i64 b1)))], [], 0, []⟩) (len := 0) (c := k13) rfl (Sub.of_eq rfl) rfl rfl ?_)
  refine w_seq ?_
  refine w_region ?_
  refine o1 rfl ?_
  refine o_end (e' := [(0, .c (.d (slD 1 cI_i64 a0))), (1, .c (.d (slD 1 cI_i64 b1)))]) rfl rfl ?_
  refine after_n ?_
  refine w_seq ?_
  refine w_seq ?_
  refine w_region ?_
  refine o1 rfl ?_
  refine o1 (v := .c (.d (.lit (.int .i64 (a0.l.length : Int))))) len_sd ?_
  refine o1 rfl ?_
  refine o1 (v := .c (.d (.lit (.int .i64 (b1.l.length : Int))))) len_sd ?_
  refine o1 (v := .c (.d (.lit (.bool ((a0.l.length : Int) != (b1.l.length : Int)))))) rfl ?_
  refine o_end (e' := [(0, .c (.d (slD 1 cI_i64 a0))), (1, .c (.d (slD 1 cI_i64 b1))), (10, .c (.d (.lit (.bool ((a0.l.length : Int) != (b1.l.length : Int))))))]) rfl rfl ?_
  refine after_n ?_
  refine w_cond (t := ((a0.l.length : Int) != (b1.l.length : Int))) rfl (fun hb1 => ?_) (fun hb1 => ?_)
  · have hp := cnd_t hb1 hp
    refine w_seq ?_
    refine w_region ?_
    refine o1 rfl ?_
    refine o_end (e' := [(4, .c (.d (.lit (.bool false))))]) rfl rfl ?_
    refine after_n ?_
    refine w_ret ?_
    refine after_r ?_
    obtain rfl := Option.some.inj hp
    exact leave_at rfl rfl (pr_c p_d pr_nil) pc_nil rfl rfl
  · have hp := cnd_f hb1 hp
    refine w_skip ?_
    refine after_n ?_
    refine w_seq ?_
    refine w_seq ?_
    refine w_region ?_
    refine o1 rfl ?_
    refine o_end (e' := [(0, .c (.d (slD 1 cI_i64 a0))), (1, .c (.d (slD 1 cI_i64 b1))), (5, .c (.d (.lit (.int .i64 0))))]) rfl rfl ?_
    refine after_n ?_
    refine w_block ?_
    obtain ⟨x4, h5, hp⟩ := bnd hp
    refine W.mono ?_ (w_loopS (st := fun (v : Int) => match v with | i2 => ⟨[(0, .c (.d (slD 1 cI_i64 a0))), (1, .c (.d (slD 1 cI_i64 b1))), (5, .c (.d (.lit (.int .i64 i2))))], [], 0, []⟩) (a := 0) (Q := Jn (fun (x : Sum (Unit) (Unit)) o s => match x with | .inl _ => o = Out.ret ∧ Sub s ⟨[(4, .c (.d (.lit (.bool false))))], [], 0, []⟩ | .inr (_) => o = Out.exit 0 ∧ Sub s ⟨[], [], 0, []⟩)) ?_ h5 ?_)
    · intro o s hs12
      rcases x4 with (_ | _)
      · obtain ⟨rfl, hs12⟩ := hs12
        refine out_r ?_
        refine after_r ?_
        obtain rfl := Option.some.inj hp
        refine wk.sub hs12 ?_
        exact leave_at rfl rfl (pr_c p_d pr_nil) pc_nil rfl rfl
      · obtain ⟨rfl, hs12⟩ := hs12
        refine out_e ?_
        refine after_n ?_
        refine W.sub hs12 ?_
        refine w_seq ?_
        refine w_region ?_
        refine o1 rfl ?_
        refine o_end (e' := [(4, .c (.d (.lit (.bool true))))]) rfl rfl ?_
        refine after_n ?_
        refine w_ret ?_
        obtain rfl := Option.some.inj hp
        exact leave_at rfl rfl (pr_c p_d pr_nil) pc_nil rfl rfl
    · exact (sub_ren [] [0, 1, 5] (by decide) rfl .nil (Nat.le_of_ble_eq_true rfl))
    · rintro i2 r hr
      unfold ref13_Same_L1 at hr
      refine w_seq ?_
      refine w_seq ?_
      refine w_region ?_
      iterate 2 refine o1 rfl ?_
      refine o1 (v := .c (.d (.lit (.int .i64 (a0.l.length : Int))))) len_sd ?_
      refine o1 (v := .c (.d (.lit (.bool (decide (i2 < (a0.l.length : Int))))))) rfl ?_
      refine o_end (e' := [(0, .c (.d (slD 1 cI_i64 a0))), (1, .c (.d (slD 1 cI_i64 b1))), (5, .c (.d (.lit (.int .i64 i2)))), (14, .c (.d (.lit (.bool (decide (i2 < (a0.l.length : Int)))))))]) rfl rfl ?_
      refine after_n ?_
      refine w_cond (t := decide (i2 < (a0.l.length : Int))) rfl (fun hb6 => ?_) (fun hb6 => ?_)
      · have hr := cnd_t hb6 hr
        refine w_skip ?_
        refine after_n ?_
        refine w_seq ?_
        refine w_block ?_
        refine w_seq ?_
        obtain ⟨n7, h8, hr⟩ := bnd hr
        obtain ⟨n9, h10, hr⟩ := bnd hr
        refine w_drawn ?_
        iterate 2 refine d1 rfl ?_
        refine d1 (ix_sd h8) ?_
        iterate 3 refine d1 rfl ?_
        refine d1 (ix_sd h10) ?_
        refine d1 rfl ?_
        refine d1 (v := .c (.d (.lit (.bool ((gt a0.l n7) != (gt b1.l n9)))))) rfl ?_
        refine d_fin (e' := [(0, .c (.d (slD 1 cI_i64 a0))), (1, .c (.d (slD 1 cI_i64 b1))), (5, .c (.d (.lit (.int .i64 i2)))), (25, .c (.d (.lit (.bool ((gt a0.l n7) != (gt b1.l n9))))))]) (n' := 576) rfl rfl rfl rfl ?_
        refine after_n ?_
        refine w_cond (t := ((gt a0.l n7) != (gt b1.l n9))) rfl (fun hb11 => ?_) (fun hb11 => ?_)
        · have hr := cnd_t hb11 hr
          refine w_seq ?_
          refine w_region ?_
          refine o1 rfl ?_
          refine o_end (e' := [(4, .c (.d (.lit (.bool false))))]) rfl rfl ?_
          refine after_n ?_
          refine w_ret ?_
          refine out_r ?_
          refine after_r ?_
          obtain rfl := Option.some.inj hr
          exact And.intro nofun (And.intro rfl (sub_ren [] [4] (by decide) rfl .nil (Nat.le_of_ble_eq_true rfl)))
        · have hr := cnd_f hb11 hr
          refine w_skip ?_
          refine out_n ?_
          refine after_n ?_
          refine w_region ?_
          refine o1 rfl ?_
          refine o1 (v := .c (.d (.lit (.int .i64 (wr .i64 (i2 + 1)))))) rfl ?_
          refine o1 rfl ?_
          refine o_end (e' := [(0, .c (.d (slD 1 cI_i64 a0))), (1, .c (.d (slD 1 cI_i64 b1))), (5, .c (.d (.lit (.int .i64 (wr .i64 (i2 + 1))))))]) rfl rfl ?_
          obtain rfl := Option.some.inj hr
          exact And.intro rfl (sub_ren [] [0, 1, 5] (by decide) rfl .nil (Nat.le_of_ble_eq_true rfl))
      · have hr := cnd_f hb6 hr
        refine w_exit ?_
        refine after_e ?_
        obtain rfl := Option.some.inj hr
        exact And.intro nofun (And.intro rfl (sub_ren [] [] (by decide) rfl .nil (Nat.le_of_ble_eq_true rfl)))

/- turnout/turnoutlaw13.awake -/
def k6 : CC :=
  (.seq
  (.region [
    ⟨some 0, .mv, [(.const (.bool false))], none⟩] [])
  (.seq
  (.region [
    ⟨some 6, (.call false []), [(.func 7)], none⟩,
    ⟨some 1, .mv, [(.tmp 6)], none⟩] [1])
  (.seq
  (.region [
    ⟨some 7, .mv, [(.tmp 1)], none⟩,
    ⟨some 8, (.call false [true, false]), [(.func 8), (.tmp 7), (.const (.int .i64 3))], none⟩] [1])
  (.seq
  (.region [
    ⟨some 9, .mv, [(.tmp 1)], none⟩,
    ⟨some 10, (.call false [true, false]), [(.func 8), (.tmp 9), (.const (.int .i64 1))], none⟩] [1])
  (.seq
  (.region [
    ⟨some 11, .mv, [(.tmp 1)], none⟩,
    ⟨some 12, (.call false [true, false]), [(.func 8), (.tmp 11), (.const (.int .i64 2))], none⟩] [1])
  (.seq
  (.region [
    ⟨some 14, .mv, [(.tmp 1)], none⟩,
    ⟨some 15, (.call false [true]), [(.func 9), (.tmp 14)], none⟩,
    ⟨some 13, .mv, [(.tmp 15)], none⟩,
    ⟨some 16, (.extract 0), [(.tmp 13)], none⟩,
    ⟨some 17, (.extract 1), [(.tmp 13)], none⟩,
    ⟨some 2, .mv, [(.tmp 16)], none⟩,
    ⟨some 3, .mv, [(.tmp 17)], none⟩] [1, 2, 3])
  (.seq
  (.region [
    ⟨some 19, .mv, [(.tmp 1)], none⟩,
    ⟨some 20, (.call false [true]), [(.func 9), (.tmp 19)], none⟩,
    ⟨some 18, .mv, [(.tmp 20)], none⟩,
    ⟨some 21, (.extract 0), [(.tmp 18)], none⟩,
    ⟨some 22, (.extract 1), [(.tmp 18)], none⟩,
    ⟨some 4, .mv, [(.tmp 21)], none⟩,
    ⟨some 5, .mv, [(.tmp 22)], none⟩] [1, 2, 3, 4, 5])
  (.seq
  (.region [
    ⟨some 23, .mv, [(.tmp 1)], none⟩,
    ⟨some 24, (.call true []), [(.func 18), (.tmp 23)], none⟩,
    ⟨some 25, (.bin .eql), [(.tmp 24), (.const (.int .i64 1))], none⟩,
    ⟨some 26, .mv, [(.tmp 25)], none⟩,
    ⟨some 27, .mv, [(.tmp 2)], (some (26, true))⟩,
    ⟨some 28, (.bin .eql), [(.tmp 27), (.const (.int .i64 1))], (some (26, true))⟩,
    ⟨some 29, .pick, [(.tmp 26), (.tmp 28), (.const (.bool false))], none⟩,
    ⟨some 30, .mv, [(.tmp 29)], none⟩,
    ⟨some 31, .mv, [(.tmp 4)], (some (30, true))⟩,
    ⟨some 32, (.bin .eql), [(.tmp 31), (.const (.int .i64 2))], (some (30, true))⟩,
    ⟨some 33, .pick, [(.tmp 30), (.tmp 32), (.const (.bool false))], none⟩,
    ⟨some 34, .mv, [(.tmp 33)], none⟩,
    ⟨some 35, .mv, [(.tmp 3)], (some (34, true))⟩,
    ⟨some 36, .pick, [(.tmp 34), (.tmp 35), (.const (.bool false))], none⟩,
    ⟨some 37, .mv, [(.tmp 36)], none⟩,
    ⟨some 38, .mv, [(.tmp 5)], (some (37, true))⟩,
    ⟨some 39, .pick, [(.tmp 37), (.tmp 38), (.const (.bool false))], none⟩,
    ⟨some 40, .mv, [(.tmp 39)], none⟩,
    ⟨some 41, .mv, [(.tmp 1)], (some (40, true))⟩,
    ⟨some 42, (.call false [true, false]), [(.func 14), (.tmp 41), (.const (.int .i64 9))], (some (40, true))⟩,
    ⟨some 43, (.buildSlice 1 1 [(.int .i64 0)] [0]), [(.const (.int .i64 3))], (some (40, true))⟩,
    ⟨some 44, (.call true []), [(.func 13), (.tmp 42), (.tmp 43)], (some (40, true))⟩,
    ⟨some 45, .pick, [(.tmp 40), (.tmp 44), (.const (.bool false))], none⟩,
    ⟨some 0, .mv, [(.tmp 45)], none⟩] [0])
  .ret))))))))
def f6 : Ev.Fn := ⟨0, 46, [.tmp 0], k6⟩
set_option maxRecDepth 100000 in
theorem e6 : compFn prog sig 6 0 [[], [1], [1], [1], [1], [1, 2, 3], [1, 2, 3, 4, 5], [0]] = some f6 := by kernel_rfl
noncomputable def law13_awake : Option (Bool) :=
  (heap_New_int).bind fun ⟨r1_l⟩ =>
  (heap_Queue_int_Push (⟨r1_l⟩ : heap_Queue_int) 3).bind fun ⟨q4_l⟩ =>
  (heap_Queue_int_Push (⟨q4_l⟩ : heap_Queue_int) 1).bind fun ⟨q7_l⟩ =>
  (heap_Queue_int_Push (⟨q7_l⟩ : heap_Queue_int) 2).bind fun ⟨q10_l⟩ =>
  (heap_Queue_int_Pop (⟨q10_l⟩ : heap_Queue_int)).bind fun (r14, r15, ⟨q13_l⟩) =>
  (heap_Queue_int_Pop (⟨q13_l⟩ : heap_Queue_int)).bind fun (r19, r20, ⟨q18_l⟩) =>
  (heap_Queue_int_Len (⟨q18_l⟩ : heap_Queue_int)).bind fun r23 =>
  (bif (r23 == 1) then (bif (r14 == 1) then (bif (r19 == 2) then (bif r15 then (bif r20 then ((heap_Queue_int_Drain (⟨q18_l⟩ : heap_Queue_int) 9).bind fun (r26, ⟨q25_l⟩) =>
  (ref13_Same r26 (Sl.mk [3])).bind fun r28 =>
  some r28) else (some false)) else (some false)) else (some false)) else (some false)) else (some false)).bind fun b30 =>
  some b30
theorem law13_awake_ok {z : Bool} (hp : law13_awake = some z) : Good prog 6 [] [.c (.d (.lit (.bool z)))] [] := by
  unfold law13_awake at hp
  refine fn_good mixed e6 (fnS (m := [false]) (s := ⟨[], [], 0, []⟩) (len := 0) (c := k6) rfl (Sub.of_eq rfl) rfl rfl ?_)
  refine w_seq ?_
  refine w_region ?_
  refine o1 rfl ?_
  refine o_end (e' := []) rfl rfl ?_
  refine after_n ?_
  refine w_seq ?_
  obtain ⟨⟨r1_l⟩, h2, hp⟩ := bnd hp
  refine w_join (J := fun s => Sub s ⟨[(1, .c (.op 0 0))], [(0, some (.box [slC 1 cI_i64 1 r1_l])), (1, slO 1 cI_i64 r1_l)], 2, []⟩) ?_ ?_
  · rcases r1_l with _ | r1_l'
    · try dsimp only [slC, slO]
      refine w_region ?_
      refine oc (rs := [.c (.pt [.d (.lit (.slice none 0 0))])]) (outs := []) rfl (heap_New_int_ok h2) rfl ?_
      refine o1 rfl ?_
      exact o_join (sub_ren [0, 9001] [1] (by decide) rfl (.cons (.skip .nil)) (Nat.le_of_ble_eq_true rfl))
    · try dsimp only [slC, slO]
      refine w_region ?_
      refine oc (rs := [.c (.pt [slT 1 cI_i64 (Sl.mk r1_l')])]) (outs := []) rfl (heap_New_int_ok h2) rfl ?_
      refine o1 rfl ?_
      exact o_join (sub_ren [0, 1] [1] (by decide) rfl (.cons (.cons .nil)) (Nat.le_of_ble_eq_true rfl))
  · intro s hs3
    refine after_n ?_
    refine W.sub hs3 ?_
    refine w_seq ?_
    obtain ⟨⟨q4_l⟩, h5, hp⟩ := bnd hp
    refine w_join (J := fun s => Sub s ⟨[(1, .c (.op 0 0))], [(0, some (.box [slC 1 cI_i64 1 q4_l])), (1, slO 1 cI_i64 q4_l)], 2, []⟩) ?_ ?_
    · rcases q4_l with _ | q4_l' <;> rcases r1_l with _ | r1_l'
      · try dsimp only [slC, slO]
        refine w_region ?_
        refine o1 rfl ?_
        refine oc (rs := []) (outs := [.pt [.d (.lit (.slice none 0 0))]]) rfl (heap_Queue_int_Push_ok h5) rfl ?_
        exact o_join (sub_ren [0, 9001] [1] (by decide) rfl (.cons (.skip .nil)) (Nat.le_of_ble_eq_true rfl))
      · try dsimp only [slC, slO]
        refine w_region ?_
        refine o1 rfl ?_
        refine oc' (rs := []) (outs := [.pt [.d (.lit (.slice none 0 0))]]) (call_at rfl rfl (ea_mt (p_op rfl (pl_cons (p_o rfl) pl_nil)) rfl (ea_c rfl rfl ea_nil)) (wh_op wh_nil) rfl rfl) (heap_Queue_int_Push_ok h5) ?_
        exact o_join (sub_ren [0, 9001] [1] (by decide) rfl (.cons (.skip .nil)) (Nat.le_of_ble_eq_true rfl))
      · try dsimp only [slC, slO]
        refine w_region ?_
        refine o1 rfl ?_
        refine oc (rs := []) (outs := [.pt [slT 1 cI_i64 (Sl.mk q4_l')]]) rfl (heap_Queue_int_Push_ok h5) rfl ?_
        exact o_join (sub_ren [0, 2] [1] (by decide) rfl (.cons (.cons .nil)) (Nat.le_of_ble_eq_true rfl))
      · try dsimp only [slC, slO]
        refine w_region ?_
        refine o1 rfl ?_
        refine oc' (rs := []) (outs := [.pt [slT 1 cI_i64 (Sl.mk q4_l')]]) (call_at rfl rfl (ea_mt (p_op rfl (pl_cons (p_o rfl) pl_nil)) rfl (ea_c rfl rfl ea_nil)) (wh_op wh_nil) rfl rfl) (heap_Queue_int_Push_ok h5) ?_
        exact o_join (sub_ren [0, 2] [1] (by decide) rfl (.cons (.cons .nil)) (Nat.le_of_ble_eq_true rfl))
    · intro s hs6
      refine after_n ?_
      refine W.sub hs6 ?_
      refine w_seq ?_
      obtain ⟨⟨q7_l⟩, h8, hp⟩ := bnd hp
      refine w_join (J := fun s => Sub s ⟨[(1, .c (.op 0 0))], [(0, some (.box [slC 1 cI_i64 1 q7_l])), (1, slO 1 cI_i64 q7_l)], 2, []⟩) ?_ ?_
      · rcases q4_l with _ | q4_l' <;> rcases q7_l with _ | q7_l'
        · try dsimp only [slC, slO]
          refine w_region ?_
          refine o1 rfl ?_
          refine oc (rs := []) (outs := [.pt [.d (.lit (.slice none 0 0))]]) rfl (heap_Queue_int_Push_ok h8) rfl ?_
          exact o_join (sub_ren [0, 9001] [1] (by decide) rfl (.cons (.skip .nil)) (Nat.le_of_ble_eq_true rfl))
        · try dsimp only [slC, slO]
          refine w_region ?_
          refine o1 rfl ?_
          refine oc (rs := []) (outs := [.pt [slT 1 cI_i64 (Sl.mk q7_l')]]) rfl (heap_Queue_int_Push_ok h8) rfl ?_
          exact o_join (sub_ren [0, 2] [1] (by decide) rfl (.cons (.cons .nil)) (Nat.le_of_ble_eq_true rfl))
        · try dsimp only [slC, slO]
          refine w_region ?_
          refine o1 rfl ?_
          refine oc' (rs := []) (outs := [.pt [.d (.lit (.slice none 0 0))]]) (call_at rfl rfl (ea_mt (p_op rfl (pl_cons (p_o rfl) pl_nil)) rfl (ea_c rfl rfl ea_nil)) (wh_op wh_nil) rfl rfl) (heap_Queue_int_Push_ok h8) ?_
          exact o_join (sub_ren [0, 9001] [1] (by decide) rfl (.cons (.skip .nil)) (Nat.le_of_ble_eq_true rfl))
        · try dsimp only [slC, slO]
          refine w_region ?_
          refine o1 rfl ?_
          refine oc' (rs := []) (outs := [.pt [slT 1 cI_i64 (Sl.mk q7_l')]]) (call_at rfl rfl (ea_mt (p_op rfl (pl_cons (p_o rfl) pl_nil)) rfl (ea_c rfl rfl ea_nil)) (wh_op wh_nil) rfl rfl) (heap_Queue_int_Push_ok h8) ?_
          exact o_join (sub_ren [0, 2] [1] (by decide) rfl (.cons (.cons .nil)) (Nat.le_of_ble_eq_true rfl))
      · intro s hs9
        refine after_n ?_
        refine W.sub hs9 ?_
        refine w_seq ?_
        obtain ⟨⟨q10_l⟩, h11, hp⟩ := bnd hp
        refine w_join (J := fun s => Sub s ⟨[(1, .c (.op 0 0))], [(0, some (.box [slC 1 cI_i64 1 q10_l])), (1, slO 1 cI_i64 q10_l)], 2, []⟩) ?_ ?_
        · rcases q10_l with _ | q10_l' <;> rcases q7_l with _ | q7_l'
          · try dsimp only [slC, slO]
            refine w_region ?_
            refine o1 rfl ?_
            refine oc (rs := []) (outs := [.pt [.d (.lit (.slice none 0 0))]]) rfl (heap_Queue_int_Push_ok h11) rfl ?_
            exact o_join (sub_ren [0, 9001] [1] (by decide) rfl (.cons (.skip .nil)) (Nat.le_of_ble_eq_true rfl))
          · try dsimp only [slC, slO]
            refine w_region ?_
            refine o1 rfl ?_
            refine oc' (rs := []) (outs := [.pt [.d (.lit (.slice none 0 0))]]) (call_at rfl rfl (ea_mt (p_op rfl (pl_cons (p_o rfl) pl_nil)) rfl (ea_c rfl rfl ea_nil)) (wh_op wh_nil) rfl rfl) (heap_Queue_int_Push_ok h11) ?_
            exact o_join (sub_ren [0, 9001] [1] (by decide) rfl (.cons (.skip .nil)) (Nat.le_of_ble_eq_true rfl))
          · try dsimp only [slC, slO]
            refine w_region ?_
            refine o1 rfl ?_
            refine oc (rs := []) (outs := [.pt [slT 1 cI_i64 (Sl.mk q10_l')]]) rfl (heap_Queue_int_Push_ok h11) rfl ?_
            exact o_join (sub_ren [0, 2] [1] (by decide) rfl (.cons (.cons .nil)) (Nat.le_of_ble_eq_true rfl))
          · try dsimp only [slC, slO]
            refine w_region ?_
            refine o1 rfl ?_
            refine oc' (rs := []) (outs := [.pt [slT 1 cI_i64 (Sl.mk q10_l')]]) (call_at rfl rfl (ea_mt (p_op rfl (pl_cons (p_o rfl) pl_nil)) rfl (ea_c rfl rfl ea_nil)) (wh_op wh_nil) rfl rfl) (heap_Queue_int_Push_ok h11) ?_
            exact o_join (sub_ren [0, 2] [1] (by decide) rfl (.cons (.cons .nil)) (Nat.le_of_ble_eq_true rfl))
        · intro s hs12
          refine after_n ?_
          refine W.sub hs12 ?_
          refine w_seq ?_
          obtain ⟨⟨r14, r15, ⟨q13_l⟩⟩, h16, hp⟩ := bnd hp
          refine w_join (J := fun s => Sub s ⟨[(1, .c (.op 0 0)), (2, .c (.d (.lit (.int .i64 r14)))), (3, .c (.d (.lit (.bool r15))))], [(0, some (.box [slC 1 cI_i64 1 q13_l])), (1, slO 1 cI_i64 q13_l)], 2, []⟩) ?_ ?_
          · rcases q10_l with _ | q10_l' <;> rcases q13_l with _ | q13_l'
            · try dsimp only [slC, slO]
              refine w_region ?_
              refine o1 rfl ?_
              refine oc (rs := [.c (.d (.lit (.int .i64 r14))), .c (.d (.lit (.bool r15)))]) (outs := [.pt [.d (.lit (.slice none 0 0))]]) rfl (heap_Queue_int_Pop_ok h16) rfl ?_
              iterate 5 refine o1 rfl ?_
              exact o_join (sub_ren [0, 9001] [1, 2, 3] (by decide) rfl (.cons (.skip .nil)) (Nat.le_of_ble_eq_true rfl))
            · try dsimp only [slC, slO]
              refine w_region ?_
              refine o1 rfl ?_
              refine oc (rs := [.c (.d (.lit (.int .i64 r14))), .c (.d (.lit (.bool r15)))]) (outs := [.pt [slT 1 cI_i64 (Sl.mk q13_l')]]) rfl (heap_Queue_int_Pop_ok h16) rfl ?_
              iterate 5 refine o1 rfl ?_
              exact o_join (sub_ren [0, 2] [1, 2, 3] (by decide) rfl (.cons (.cons .nil)) (Nat.le_of_ble_eq_true rfl))
            · try dsimp only [slC, slO]
              refine w_region ?_
              refine o1 rfl ?_
              refine oc' (rs := [.c (.d (.lit (.int .i64 r14))), .c (.d (.lit (.bool r15)))]) (outs := [.pt [.d (.lit (.slice none 0 0))]]) (call_at rfl rfl (ea_mt (p_op rfl (pl_cons (p_o rfl) pl_nil)) rfl ea_nil) (wh_op wh_nil) rfl rfl) (heap_Queue_int_Pop_ok h16) ?_
              iterate 5 refine o1 rfl ?_
              exact o_join (sub_ren [0, 9001] [1, 2, 3] (by decide) rfl (.cons (.skip .nil)) (Nat.le_of_ble_eq_true rfl))
            · try dsimp only [slC, slO]
              refine w_region ?_
              refine o1 rfl ?_
              refine oc' (rs := [.c (.d (.lit (.int .i64 r14))), .c (.d (.lit (.bool r15)))]) (outs := [.pt [slT 1 cI_i64 (Sl.mk q13_l')]]) (call_at rfl rfl (ea_mt (p_op rfl (pl_cons (p_o rfl) pl_nil)) rfl ea_nil) (wh_op wh_nil) rfl rfl) (heap_Queue_int_Pop_ok h16) ?_
              iterate 5 refine o1 rfl ?_
              exact o_join (sub_ren [0, 2] [1, 2, 3] (by decide) rfl (.cons (.cons .nil)) (Nat.le_of_ble_eq_true rfl))
          · intro s hs17
            refine after_n ?_
            refine W.sub hs17 ?_
            refine w_seq ?_
            obtain ⟨⟨r19, r20, ⟨q18_l⟩⟩, h21, hp⟩ := bnd hp
            refine w_join (J := fun s => Sub s ⟨[(1, .c (.op 0 0)), (2, .c (.d (.lit (.int .i64 r14)))), (3, .c (.d (.lit (.bool r15)))), (4, .c (.d (.lit (.int .i64 r19)))), (5, .c (.d (.lit (.bool r20))))], [(0, some (.box [slC 1 cI_i64 1 q18_l])), (1, slO 1 cI_i64 q18_l)], 2, []⟩) ?_ ?_
            · rcases q13_l with _ | q13_l' <;> rcases q18_l with _ | q18_l'
              · try dsimp only [slC, slO]
                refine w_region ?_
                refine o1 rfl ?_
                refine oc (rs := [.c (.d (.lit (.int .i64 r19))), .c (.d (.lit (.bool r20)))]) (outs := [.pt [.d (.lit (.slice none 0 0))]]) rfl (heap_Queue_int_Pop_ok h21) rfl ?_
                iterate 5 refine o1 rfl ?_
                exact o_join (sub_ren [0, 9001] [1, 2, 3, 4, 5] (by decide) rfl (.cons (.skip .nil)) (Nat.le_of_ble_eq_true rfl))
              · try dsimp only [slC, slO]
                refine w_region ?_
                refine o1 rfl ?_
                refine oc (rs := [.c (.d (.lit (.int .i64 r19))), .c (.d (.lit (.bool r20)))]) (outs := [.pt [slT 1 cI_i64 (Sl.mk q18_l')]]) rfl (heap_Queue_int_Pop_ok h21) rfl ?_
                iterate 5 refine o1 rfl ?_
                exact o_join (sub_ren [0, 2] [1, 2, 3, 4, 5] (by decide) rfl (.cons (.cons .nil)) (Nat.le_of_ble_eq_true rfl))
              · try dsimp only [slC, slO]
                refine w_region ?_
                refine o1 rfl ?_
                refine oc' (rs := [.c (.d (.lit (.int .i64 r19))), .c (.d (.lit (.bool r20)))]) (outs := [.pt [.d (.lit (.slice none 0 0))]]) (call_at rfl rfl (ea_mt (p_op rfl (pl_cons (p_o rfl) pl_nil)) rfl ea_nil) (wh_op wh_nil) rfl rfl) (heap_Queue_int_Pop_ok h21) ?_
                iterate 5 refine o1 rfl ?_
                exact o_join (sub_ren [0, 9001] [1, 2, 3, 4, 5] (by decide) rfl (.cons (.skip .nil)) (Nat.le_of_ble_eq_true rfl))
              · try dsimp only [slC, slO]
                refine w_region ?_
                refine o1 rfl ?_
                refine oc' (rs := [.c (.d (.lit (.int .i64 r19))), .c (.d (.lit (.bool r20)))]) (outs := [.pt [slT 1 cI_i64 (Sl.mk q18_l')]]) (call_at rfl rfl (ea_mt (p_op rfl (pl_cons (p_o rfl) pl_nil)) rfl ea_nil) (wh_op wh_nil) rfl rfl) (heap_Queue_int_Pop_ok h21) ?_
                iterate 5 refine o1 rfl ?_
                exact o_join (sub_ren [0, 2] [1, 2, 3, 4, 5] (by decide) rfl (.cons (.cons .nil)) (Nat.le_of_ble_eq_true rfl))
            · intro s hs22
              refine after_n ?_
              refine W.sub hs22 ?_
              refine w_seq ?_
              obtain ⟨r23, h24, hp⟩ := bnd hp
              obtain ⟨b30, h31, hp⟩ := bnd hp
              refine w_join (J := fun s => Sub s ⟨[(0, .c (.d (.lit (.bool b30))))], [], 0, []⟩) ?_ ?_
              · rcases q18_l with _ | q18_l'
                · try dsimp only [slC, slO]
                  refine w_region ?_
                  refine o1 rfl ?_
                  refine oc (rs := [.c (.d (.lit (.int .i64 r23)))]) (outs := []) rfl (heap_Queue_int_Len_ok h24) rfl ?_
                  refine o1 (v := .c (.d (.lit (.bool (r23 == 1))))) rfl ?_
                  refine o1 rfl ?_
                  cases hb32 : ((r23 == 1) : Bool)
                  · have h31 := cnd_f hb32 h31
                    iterate 2 refine onot rfl rfl ?_
                    iterate 2 refine o1 rfl ?_
                    iterate 2 refine onot rfl rfl ?_
                    iterate 2 refine o1 rfl ?_
                    refine onot rfl rfl ?_
                    iterate 2 refine o1 rfl ?_
                    refine onot rfl rfl ?_
                    iterate 2 refine o1 rfl ?_
                    iterate 4 refine onot rfl rfl ?_
                    iterate 2 refine o1 rfl ?_
                    cases h31
                    exact o_join (sub_ren [] [0] (by decide) rfl .nil (Nat.le_of_ble_eq_true rfl))
                  · have h31 := cnd_t hb32 h31
                    refine og rfl rfl rfl ?_
                    refine og (v := .c (.d (.lit (.bool (r14 == 1))))) rfl rfl rfl ?_
                    iterate 2 refine o1 rfl ?_
                    cases hb33 : ((r14 == 1) : Bool)
                    · have h31 := cnd_f hb33 h31
                      iterate 2 refine onot rfl rfl ?_
                      iterate 2 refine o1 rfl ?_
                      refine onot rfl rfl ?_
                      iterate 2 refine o1 rfl ?_
                      refine onot rfl rfl ?_
                      iterate 2 refine o1 rfl ?_
                      iterate 4 refine onot rfl rfl ?_
                      iterate 2 refine o1 rfl ?_
                      cases h31
                      exact o_join (sub_ren [] [0] (by decide) rfl .nil (Nat.le_of_ble_eq_true rfl))
                    · have h31 := cnd_t hb33 h31
                      refine og rfl rfl rfl ?_
                      refine og (v := .c (.d (.lit (.bool (r19 == 2))))) rfl rfl rfl ?_
                      iterate 2 refine o1 rfl ?_
                      cases hb34 : ((r19 == 2) : Bool)
                      · have h31 := cnd_f hb34 h31
                        refine onot rfl rfl ?_
                        iterate 2 refine o1 rfl ?_
                        refine onot rfl rfl ?_
                        iterate 2 refine o1 rfl ?_
                        iterate 4 refine onot rfl rfl ?_
                        iterate 2 refine o1 rfl ?_
                        cases h31
                        exact o_join (sub_ren [] [0] (by decide) rfl .nil (Nat.le_of_ble_eq_true rfl))
                      · have h31 := cnd_t hb34 h31
                        refine og rfl rfl rfl ?_
                        iterate 2 refine o1 rfl ?_
                        cases hb35 : (r15 : Bool)
                        · have h31 := cnd_f hb35 h31
                          refine onot rfl rfl ?_
                          iterate 2 refine o1 rfl ?_
                          iterate 4 refine onot rfl rfl ?_
                          iterate 2 refine o1 rfl ?_
                          cases h31
                          exact o_join (sub_ren [] [0] (by decide) rfl .nil (Nat.le_of_ble_eq_true rfl))
                        · have h31 := cnd_t hb35 h31
                          refine og rfl rfl rfl ?_
                          iterate 2 refine o1 rfl ?_
                          cases hb36 : (r20 : Bool)
                          · have h31 := cnd_f hb36 h31
                            iterate 4 refine onot rfl rfl ?_
                            iterate 2 refine o1 rfl ?_
                            cases h31
                            exact o_join (sub_ren [] [0] (by decide) rfl .nil (Nat.le_of_ble_eq_true rfl))
                          · have h31 := cnd_t hb36 h31
                            obtain ⟨⟨r26, ⟨q25_l⟩⟩, h27, h31⟩ := bnd h31
                            refine og rfl rfl rfl ?_
                            rcases q25_l with _ | q25_l'
                            · try dsimp only [slC, slO]
                              obtain ⟨r28, h29, h31⟩ := bnd h31
                              refine ocg (rs := [.c (.d (slD 1 cI_i64 r26))]) (outs := [.pt [.d (.lit (.slice none 0 0))]]) rfl rfl rfl (heap_Queue_int_Drain_ok h27) rfl ?_
                              refine og2 rfl rfl rfl ?_
                              refine ocg' (rs := [.c (.d (.lit (.bool r28)))]) (outs := []) rfl rfl (call_at rfl rfl (ea_c rfl rfl (ea_c rfl rfl ea_nil)) wh_nil rfl rfl) (ref13_Same_ok h29) ?_
                              iterate 2 refine o1 rfl ?_
                              cases h31
                              exact o_join (sub_ren [] [0] (by decide) rfl .nil (Nat.le_of_ble_eq_true rfl))
                            · try dsimp only [slC, slO]
                              obtain ⟨r28, h29, h31⟩ := bnd h31
                              refine ocg (rs := [.c (.d (slD 1 cI_i64 r26))]) (outs := [.pt [slT 1 cI_i64 (Sl.mk q25_l')]]) rfl rfl rfl (heap_Queue_int_Drain_ok h27) rfl ?_
                              refine og2 rfl rfl rfl ?_
                              refine ocg' (rs := [.c (.d (.lit (.bool r28)))]) (outs := []) rfl rfl (call_at rfl rfl (ea_c rfl rfl (ea_c rfl rfl ea_nil)) wh_nil rfl rfl) (ref13_Same_ok h29) ?_
                              iterate 2 refine o1 rfl ?_
                              cases h31
                              exact o_join (sub_ren [] [0] (by decide) rfl .nil (Nat.le_of_ble_eq_true rfl))
                · try dsimp only [slC, slO]
                  refine w_region ?_
                  refine o1 rfl ?_
                  refine oc' (rs := [.c (.d (.lit (.int .i64 r23)))]) (outs := []) (call_at rfl rfl (ea_c (v_op rfl (vl_cons (v_o rfl) vl_nil)) rfl ea_nil) wh_nil rfl rfl) (heap_Queue_int_Len_ok h24) ?_
                  refine o1 (v := .c (.d (.lit (.bool (r23 == 1))))) rfl ?_
                  refine o1 rfl ?_
                  cases hb37 : ((r23 == 1) : Bool)
                  · have h31 := cnd_f hb37 h31
                    iterate 2 refine onot rfl rfl ?_
                    iterate 2 refine o1 rfl ?_
                    iterate 2 refine onot rfl rfl ?_
                    iterate 2 refine o1 rfl ?_
                    refine onot rfl rfl ?_
                    iterate 2 refine o1 rfl ?_
                    refine onot rfl rfl ?_
                    iterate 2 refine o1 rfl ?_
                    iterate 4 refine onot rfl rfl ?_
                    iterate 2 refine o1 rfl ?_
                    cases h31
                    exact o_join (sub_ren [] [0] (by decide) rfl .nil (Nat.le_of_ble_eq_true rfl))
                  · have h31 := cnd_t hb37 h31
                    refine og rfl rfl rfl ?_
                    refine og (v := .c (.d (.lit (.bool (r14 == 1))))) rfl rfl rfl ?_
                    iterate 2 refine o1 rfl ?_
                    cases hb38 : ((r14 == 1) : Bool)
                    · have h31 := cnd_f hb38 h31
                      iterate 2 refine onot rfl rfl ?_
                      iterate 2 refine o1 rfl ?_
                      refine onot rfl rfl ?_
                      iterate 2 refine o1 rfl ?_
                      refine onot rfl rfl ?_
                      iterate 2 refine o1 rfl ?_
                      iterate 4 refine onot rfl rfl ?_
                      iterate 2 refine o1 rfl ?_
                      cases h31
                      exact o_join (sub_ren [] [0] (by decide) rfl .nil (Nat.le_of_ble_eq_true rfl))
                    · have h31 := cnd_t hb38 h31
                      refine og rfl rfl rfl ?_
                      refine og (v := .c (.d (.lit (.bool (r19 == 2))))) rfl rfl rfl ?_
                      iterate 2 refine o1 rfl ?_
                      cases hb39 : ((r19 == 2) : Bool)
                      · have h31 := cnd_f hb39 h31
                        refine onot rfl rfl ?_
                        iterate 2 refine o1 rfl ?_
                        refine onot rfl rfl ?_
                        iterate 2 refine o1 rfl ?_
                        iterate 4 refine onot rfl rfl ?_
                        iterate 2 refine o1 rfl ?_
                        cases h31
                        exact o_join (sub_ren [] [0] (by decide) rfl .nil (Nat.le_of_ble_eq_true rfl))
                      · have h31 := cnd_t hb39 h31
                        refine og rfl rfl rfl ?_
                        iterate 2 refine o1 rfl ?_
                        cases hb40 : (r15 : Bool)
                        · have h31 := cnd_f hb40 h31
                          refine onot rfl rfl ?_
                          iterate 2 refine o1 rfl ?_
                          iterate 4 refine onot rfl rfl ?_
                          iterate 2 refine o1 rfl ?_
                          cases h31
                          exact o_join (sub_ren [] [0] (by decide) rfl .nil (Nat.le_of_ble_eq_true rfl))
                        · have h31 := cnd_t hb40 h31
                          refine og rfl rfl rfl ?_
                          iterate 2 refine o1 rfl ?_
                          cases hb41 : (r20 : Bool)
                          · have h31 := cnd_f hb41 h31
                            iterate 4 refine onot rfl rfl ?_
                            iterate 2 refine o1 rfl ?_
                            cases h31
                            exact o_join (sub_ren [] [0] (by decide) rfl .nil (Nat.le_of_ble_eq_true rfl))
                          · have h31 := cnd_t hb41 h31
                            obtain ⟨⟨r26, ⟨q25_l⟩⟩, h27, h31⟩ := bnd h31
                            refine og rfl rfl rfl ?_
                            rcases q25_l with _ | q25_l'
                            · try dsimp only [slC, slO]
                              obtain ⟨r28, h29, h31⟩ := bnd h31
                              refine ocg' (rs := [.c (.d (slD 1 cI_i64 r26))]) (outs := [.pt [.d (.lit (.slice none 0 0))]]) rfl rfl (call_at rfl rfl (ea_mt (p_op rfl (pl_cons (p_o rfl) pl_nil)) rfl (ea_c rfl rfl ea_nil)) (wh_op wh_nil) rfl rfl) (heap_Queue_int_Drain_ok h27) ?_
                              refine og2 rfl rfl rfl ?_
                              refine ocg' (rs := [.c (.d (.lit (.bool r28)))]) (outs := []) rfl rfl (call_at rfl rfl (ea_c rfl rfl (ea_c rfl rfl ea_nil)) wh_nil rfl rfl) (ref13_Same_ok h29) ?_
                              iterate 2 refine o1 rfl ?_
                              cases h31
                              exact o_join (sub_ren [] [0] (by decide) rfl .nil (Nat.le_of_ble_eq_true rfl))
                            · try dsimp only [slC, slO]
                              obtain ⟨r28, h29, h31⟩ := bnd h31
                              refine ocg' (rs := [.c (.d (slD 1 cI_i64 r26))]) (outs := [.pt [slT 1 cI_i64 (Sl.mk q25_l')]]) rfl rfl (call_at rfl rfl (ea_mt (p_op rfl (pl_cons (p_o rfl) pl_nil)) rfl (ea_c rfl rfl ea_nil)) (wh_op wh_nil) rfl rfl) (heap_Queue_int_Drain_ok h27) ?_
                              refine og2 rfl rfl rfl ?_
                              refine ocg' (rs := [.c (.d (.lit (.bool r28)))]) (outs := []) rfl rfl (call_at rfl rfl (ea_c rfl rfl (ea_c rfl rfl ea_nil)) wh_nil rfl rfl) (ref13_Same_ok h29) ?_
                              iterate 2 refine o1 rfl ?_
                              cases h31
                              exact o_join (sub_ren [] [0] (by decide) rfl .nil (Nat.le_of_ble_eq_true rfl))
              · intro s hs42
                refine after_n ?_
                refine W.sub hs42 ?_
                refine w_ret ?_
                obtain rfl := Option.some.inj hp
                exact leave_at rfl rfl (pr_c p_d pr_nil) pc_nil rfl rfl

/- turnout/heap.New[string] -/
def k19 : CC :=
  (.seq
  (.region [
    ⟨some 0, .mv, [(.const (.pointer none))], none⟩] [])
  (.seq
  (.region [
    ⟨some 1, (.build [(.slice none 0 0)] []), [], none⟩,
    ⟨some 2, .box, [(.tmp 1)], none⟩,
    ⟨some 0, .mv, [(.tmp 2)], none⟩] [0])
  .ret))
def f19 : Ev.Fn := ⟨0, 3, [.tmp 0], k19⟩
set_option maxRecDepth 100000 in
theorem e19 : compFn prog sig 19 0 [[], [0]] = some f19 := by kernel_rfl
noncomputable def heap_New_string : Option (heap_Queue_string) :=
  some (⟨Sl.nil⟩ : heap_Queue_string)
theorem heap_New_string_ok {z : heap_Queue_string} (hp : heap_New_string = some z) : Good prog 19 [] [.c (.pt [slT 1 cS z.l])] [] := by
  unfold heap_New_string at hp
  refine fn_good mixed e19 (fnS (m := [false]) (s := ⟨[], [], 0, []⟩) (len := 0) (c := k19) rfl (Sub.of_eq rfl) rfl rfl ?_)
  refine w_seq ?_
  refine w_region ?_
  refine o1 rfl ?_
  refine o_end (e' := []) rfl rfl ?_
  refine after_n ?_
  refine w_seq ?_
  refine w_region ?_
  refine o1 rfl ?_
  refine o2 rfl ?_
  refine o1 rfl ?_
  refine o_end (e' := [(0, .c (.op 0 0))]) rfl rfl ?_
  refine after_n ?_
  refine w_ret ?_
  obtain rfl := Option.some.inj hp
  exact leave_at rfl rfl (pr_c (p_op rfl (pl_cons p_d pl_nil)) pr_nil) pc_nil rfl rfl

/- cmp.isNaN[string] -/
def k36 : CC :=
  (.seq
  (.region [
    ⟨some 2, .mv, [(.const (.bool false))], none⟩] [0])
  (.seq
  (.region [
    ⟨some 3, .mv, [(.tmp 0)], none⟩,
    ⟨some 4, .mv, [(.tmp 0)], none⟩,
    ⟨some 5, (.bin .neq), [(.tmp 3), (.tmp 4)], none⟩,
    ⟨some 2, .mv, [(.tmp 5)], none⟩] [2])
  .ret))
def f36 : Ev.Fn := ⟨1, 6, [.tmp 2], k36⟩
set_option maxRecDepth 100000 in
theorem e36 : compFn prog sig 36 1 [[0], [2]] = some f36 := by kernel_rfl
noncomputable def cmp_isNaN_string (x0 : ByteArray) : Option (Bool) :=
  some (!(x0.toList == x0.toList))
theorem cmp_isNaN_string_ok {x0 : ByteArray} {z : Bool} (hp : cmp_isNaN_string x0 = some z) : Good prog 36 [.d (.lit (.string x0))] [.c (.d (.lit (.bool z)))] [] := by
  unfold cmp_isNaN_string at hp
  refine fn_good mixed e36 (fnS (m := [false]) (s := ⟨[(0, .c (.d (.lit (.string x0))))], [], 0, []⟩) (len := 0) (c := k36) rfl (Sub.of_eq rfl) rfl rfl ?_)
  refine w_seq ?_
  refine w_region ?_
  refine o1 rfl ?_
  refine o_end (e' := [(0, .c (.d (.lit (.string x0))))]) rfl rfl ?_
  refine after_n ?_
  refine w_seq ?_
  refine w_region ?_
  iterate 2 refine o1 rfl ?_
  refine o1 (v := .c (.d (.lit (.bool (!(x0.toList == x0.toList)))))) rfl ?_
  refine o1 rfl ?_
  refine o_end (e' := [(2, .c (.d (.lit (.bool (!(x0.toList == x0.toList))))))]) rfl rfl ?_
  refine after_n ?_
  refine w_ret ?_
  obtain rfl := Option.some.inj hp
  exact leave_at rfl rfl (pr_c p_d pr_nil) pc_nil rfl rfl

/- cmp.Less[string] -/
def k31 : CC :=
  (.seq
  (.region [
    ⟨some 4, .mv, [(.const (.bool false))], none⟩] [0, 1])
  (.seq
  (.region [
    ⟨some 5, .mv, [(.tmp 0)], none⟩,
    ⟨some 6, (.call true []), [(.func 36), (.tmp 5)], none⟩,
    ⟨some 7, .mv, [(.tmp 6)], none⟩,
    ⟨some 8, .mv, [(.tmp 1)], (some (7, true))⟩,
    ⟨some 9, (.call true []), [(.func 36), (.tmp 8)], (some (7, true))⟩,
    ⟨some 10, (.un .not), [(.tmp 9)], (some (7, true))⟩,
    ⟨some 11, .pick, [(.tmp 7), (.tmp 10), (.const (.bool false))], none⟩,
    ⟨some 12, .mv, [(.tmp 11)], none⟩,
    ⟨some 13, .mv, [(.tmp 0)], (some (12, false))⟩,
    ⟨some 14, .mv, [(.tmp 1)], (some (12, false))⟩,
    ⟨some 15, (.bin .lss), [(.tmp 13), (.tmp 14)], (some (12, false))⟩,
    ⟨some 16, .pick, [(.tmp 12), (.const (.bool true)), (.tmp 15)], none⟩,
    ⟨some 4, .mv, [(.tmp 16)], none⟩] [4])
  .ret))
def f31 : Ev.Fn := ⟨2, 17, [.tmp 4], k31⟩
set_option maxRecDepth 100000 in
theorem e31 : compFn prog sig 31 2 [[0, 1], [4]] = some f31 := by kernel_rfl
noncomputable def cmp_Less_string (x0 : ByteArray) (y1 : ByteArray) : Option (Bool) :=
  (cmp_isNaN_string x0).bind fun r1 =>
  (bif r1 then ((cmp_isNaN_string y1).bind fun r3 =>
  bif (!r3) then (some true) else (some (Op.bytesLess x0.toList y1.toList))) else (some (Op.bytesLess x0.toList y1.toList))).bind fun b5 =>
  some b5
theorem cmp_Less_string_ok {x0 : ByteArray} {y1 : ByteArray} {z : Bool} (hp : cmp_Less_string x0 y1 = some z) : Good prog 31 [.d (.lit (.string x0)), .d (.lit (.string y1))] [.c (.d (.lit (.bool z)))] [] := by
  unfold cmp_Less_string at hp
  refine fn_good mixed e31 (fnS (m := [false]) (s := ⟨[(0, .c (.d (.lit (.string x0)))), (1, .c (.d (.lit (.string y1))))], [], 0, []⟩) (len := 0) (c := k31) rfl (Sub.of_eq rfl) rfl rfl ?_)
  refine w_seq ?_
  refine w_region ?_
  refine o1 rfl ?_
  refine o_end (e' := [(0, .c (.d (.lit (.string x0)))), (1, .c (.d (.lit (.string y1))))]) rfl rfl ?_
  refine after_n ?_
  refine w_seq ?_
  obtain ⟨r1, h2, hp⟩ := bnd hp
  obtain ⟨b5, h6, hp⟩ := bnd hp
  refine w_join (J := fun s => Sub s ⟨[(4, .c (.d (.lit (.bool b5))))], [], 0, []⟩) ?_ ?_
  · refine w_region ?_
    refine o1 rfl ?_
    refine oc (rs := [.c (.d (.lit (.bool r1)))]) (outs := []) rfl (cmp_isNaN_string_ok h2) rfl ?_
    refine o1 rfl ?_
    cases hb7 : (r1 : Bool)
    · have h6 := cnd_f hb7 h6
      iterate 3 refine onot rfl rfl ?_
      iterate 2 refine o1 rfl ?_
      iterate 2 refine og rfl rfl rfl ?_
      refine og (v := .c (.d (.lit (.bool (Op.bytesLess x0.toList y1.toList))))) rfl rfl rfl ?_
      iterate 2 refine o1 rfl ?_
      cases h6
      exact o_join (sub_ren [] [4] (by decide) rfl .nil (Nat.le_of_ble_eq_true rfl))
    · have h6 := cnd_t hb7 h6
      obtain ⟨r3, h4, h6⟩ := bnd h6
      refine og rfl rfl rfl ?_
      refine ocg (rs := [.c (.d (.lit (.bool r3)))]) (outs := []) rfl rfl rfl (cmp_isNaN_string_ok h4) rfl ?_
      refine og (v := .c (.d (.lit (.bool (!r3))))) rfl rfl rfl ?_
      iterate 2 refine o1 rfl ?_
      cases hb8 : ((!r3) : Bool)
      · have h6 := cnd_f hb8 h6
        iterate 2 refine og rfl rfl rfl ?_
        refine og (v := .c (.d (.lit (.bool (Op.bytesLess x0.toList y1.toList))))) rfl rfl rfl ?_
        iterate 2 refine o1 rfl ?_
        cases h6
        exact o_join (sub_ren [] [4] (by decide) rfl .nil (Nat.le_of_ble_eq_true rfl))
      · have h6 := cnd_t hb8 h6
        iterate 3 refine onot rfl rfl ?_
        iterate 2 refine o1 rfl ?_
        cases h6
        exact o_join (sub_ren [] [4] (by decide) rfl .nil (Nat.le_of_ble_eq_true rfl))
  · intro s hs9
    refine after_n ?_
    refine W.sub hs9 ?_
    refine w_ret ?_
    obtain rfl := Option.some.inj hp
    exact leave_at rfl rfl (pr_c p_d pr_nil) pc_nil rfl rfl

/- (*turnout/heap.Queue[string]).up -/
def k29 : CC :=
  (.block 0
    (.loop [0, 1]
      (.seq
      (.seq
      (.drawn [
        ⟨some 4, .mv, [(.tmp 1)], none⟩,
        ⟨some 5, (.bin .gtr), [(.tmp 4), (.const (.int .i64 0))], none⟩,
        ⟨some 6, .mv, [(.tmp 5)], none⟩,
        ⟨some 7, .mv, [(.tmp 0)], (some (6, true))⟩,
        ⟨some 8, .nilCheck, [(.tmp 7)], (some (6, true))⟩,
        ⟨some 9, (.fieldAddr 0), [(.tmp 8)], (some (6, true))⟩,
        ⟨some 10, (.load false 1), [(.tmp 9)], (some (6, true))⟩,
        ⟨some 11, .mv, [(.tmp 1)], (some (6, true))⟩,
        ⟨some 12, (.indexAddr none 1), [(.tmp 10), (.tmp 11)], (some (6, true))⟩,
        ⟨some 13, (.load false 1), [(.tmp 12)], (some (6, true))⟩,
        ⟨some 14, .mv, [(.tmp 0)], (some (6, true))⟩,
        ⟨some 15, .nilCheck, [(.tmp 14)], (some (6, true))⟩,
        ⟨some 16, (.fieldAddr 0), [(.tmp 15)], (some (6, true))⟩,
        ⟨some 17, (.load false 1), [(.tmp 16)], (some (6, true))⟩,
        ⟨some 18, .mv, [(.tmp 1)], (some (6, true))⟩,
        ⟨some 19, (.bin .sub), [(.tmp 18), (.const (.int .i64 1))], (some (6, true))⟩,
        ⟨some 20, (.bin .quo), [(.tmp 19), (.const (.int .i64 2))], (some (6, true))⟩,
        ⟨some 21, (.indexAddr none 1), [(.tmp 17), (.tmp 20)], (some (6, true))⟩,
        ⟨some 22, (.load false 1), [(.tmp 21)], (some (6, true))⟩,
        ⟨some 23, (.call true []), [(.func 31), (.tmp 13), (.tmp 22)], (some (6, true))⟩,
        ⟨some 24, .pick, [(.tmp 6), (.tmp 23), (.const (.bool false))], none⟩] [] [0, 1, 24])
      (.cond (.tmp 24)
        .skip
        (.exit 0)))
      (.block 1
        (.seq
        (.drawn [
          ⟨some 25, .mv, [(.tmp 0)], none⟩,
          ⟨some 26, .nilCheck, [(.tmp 25)], none⟩,
          ⟨some 27, (.fieldAddr 0), [(.tmp 26)], none⟩,
          ⟨some 28, (.load false 1), [(.tmp 27)], none⟩,
          ⟨some 29, .mv, [(.tmp 1)], none⟩,
          ⟨some 30, .mv, [(.tmp 0)], none⟩,
          ⟨some 31, .nilCheck, [(.tmp 30)], none⟩,
          ⟨some 32, (.fieldAddr 0), [(.tmp 31)], none⟩,
          ⟨some 33, (.load false 1), [(.tmp 32)], none⟩,
          ⟨some 34, .mv, [(.tmp 1)], none⟩,
          ⟨some 35, (.bin .sub), [(.tmp 34), (.const (.int .i64 1))], none⟩,
          ⟨some 36, (.bin .quo), [(.tmp 35), (.const (.int .i64 2))], none⟩,
          ⟨some 37, .mv, [(.tmp 0)], none⟩,
          ⟨some 38, .nilCheck, [(.tmp 37)], none⟩,
          ⟨some 39, (.fieldAddr 0), [(.tmp 38)], none⟩,
          ⟨some 40, (.load false 1), [(.tmp 39)], none⟩,
          ⟨some 41, .mv, [(.tmp 1)], none⟩,
          ⟨some 42, (.bin .sub), [(.tmp 41), (.const (.int .i64 1))], none⟩,
          ⟨some 43, (.bin .quo), [(.tmp 42), (.const (.int .i64 2))], none⟩,
          ⟨some 44, (.indexAddr none 1), [(.tmp 40), (.tmp 43)], none⟩,
          ⟨some 45, (.load false 1), [(.tmp 44)], none⟩,
          ⟨some 46, .mv, [(.tmp 0)], none⟩,
          ⟨some 47, .nilCheck, [(.tmp 46)], none⟩,
          ⟨some 48, (.fieldAddr 0), [(.tmp 47)], none⟩,
          ⟨some 49, (.load false 1), [(.tmp 48)], none⟩,
          ⟨some 50, .mv, [(.tmp 1)], none⟩,
          ⟨some 51, (.indexAddr none 1), [(.tmp 49), (.tmp 50)], none⟩,
          ⟨some 52, (.load false 1), [(.tmp 51)], none⟩,
          ⟨some 53, (.indexAddr none 1), [(.tmp 28), (.tmp 29)], none⟩,
          ⟨none, (.store 1), [(.tmp 53), (.tmp 45)], none⟩,
          ⟨some 54, (.indexAddr none 1), [(.tmp 33), (.tmp 36)], none⟩,
          ⟨none, (.store 1), [(.tmp 54), (.tmp 52)], none⟩] [] [0, 1])
        (.region [
          ⟨some 55, .mv, [(.tmp 1)], none⟩,
          ⟨some 56, (.bin .sub), [(.tmp 55), (.const (.int .i64 1))], none⟩,
          ⟨some 57, (.bin .quo), [(.tmp 56), (.const (.int .i64 2))], none⟩,
          ⟨some 1, .mv, [(.tmp 57)], none⟩] [0, 1]))))))
def f29 : Ev.Fn := ⟨2, 58, [], k29⟩
set_option maxRecDepth 100000 in
theorem e29 : compFn prog sig 29 2 [[0, 1], [0, 1, 24], [0, 1], [0, 1]] = some f29 := by kernel_rfl
noncomputable def heap_Queue_string_up_L1 : (Sl ByteArray × Int) → Option (Sum ((Sl ByteArray × Int)) (Sl ByteArray)) := fun (s1, i2) =>
  (bif decide (i2 > 0) then ((ixI i2 s1.l.length).bind fun n8 =>
  (ixI (wr .i64 ((wr .i64 (i2 - 1)).tdiv 2)) s1.l.length).bind fun n10 =>
  (cmp_Less_string (gt s1.l n8) (gt s1.l n10)).bind fun r12 =>
  some r12) else (some false)).bind fun b14 =>
  bif b14 then ((ixI (wr .i64 ((wr .i64 (i2 - 1)).tdiv 2)) s1.l.length).bind fun n20 =>
  (ixI i2 s1.l.length).bind fun n22 =>
  (ixI (wr .i64 ((wr .i64 (i2 - 1)).tdiv 2)) (s1.l.set n22 (gt s1.l n20)).length).bind fun n24 =>
  some (.inl ((Sl.mk ((s1.l.set n22 (gt s1.l n20)).set n24 (gt s1.l n22))), wr .i64 ((wr .i64 (i2 - 1)).tdiv 2)))) else
  (some (.inr s1))

noncomputable def heap_Queue_string_up (q0 : heap_Queue_string) (i1 : Int) : Option (heap_Queue_string) :=
  match q0 with | ⟨q0_l⟩ => ((loopO (heap_Queue_string_up_L1) (q0_l, i1)).bind fun s5 =>
  some (⟨s5⟩ : heap_Queue_string))
theorem heap_Queue_string_up_ok {q0 : heap_Queue_string} {i1 : Int} {z : heap_Queue_string} (hp : heap_Queue_string_up q0 i1 = some z) : Good prog 29 [.mt (.pt [slT 1 cS q0.l]), .d (.lit (.int .i64 i1))] [] [.pt [slT 1 cS z.l]] := by
  obtain ⟨q0_l⟩ := q0
  unfold heap_Queue_string_up at hp
  refine fn_good mixed e29 (fnS (m := []) (s := ⟨[(0, .c (.op 0 0)), (1, .c (.d (.lit (.int .i64 i1))))], [(0, some (.box [slC 1 cS 1 q0_l])), (1, slO 1 cS q0_l)], 2, [.op 0 0]⟩) (len := 1) (c := k29) rfl (by rcases q0_l with _ | _ <;> first | (exact sub_ren [0, 9001] [0, 1] (by decide) rfl (.cons (.skip .nil)) (Nat.le_of_ble_eq_true rfl)) | (exact sub_ren [0, 1] [0, 1] (by decide) rfl (.cons (.cons .nil)) (Nat.le_of_ble_eq_true rfl))) rfl rfl ?_)
  refine w_block ?_
  obtain ⟨s5, h7, hp⟩ := bnd hp
  refine W.mono ?_ (w_loopS (st := fun (v : (Sl ByteArray × Int)) => match v with | (s1, i2) => ⟨[(0, .c (.op 0 0)), (1, .c (.d (.lit (.int .i64 i2))))], [(0, some (.box [slC 1 cS 1 s1])), (1, slO 1 cS s1)], 2, [.op 0 0]⟩) (a := (q0_l, i1)) (Q := Jn (fun (x : Sl ByteArray) o s => match x with | s5 => o = Out.exit 0 ∧ Sub s ⟨[], [(0, some (.box [slC 1 cS 1 s5])), (1, slO 1 cS s5)], 2, [.op 0 0]⟩)) ?_ h7 ?_)
  · intro o s hs27
    obtain ⟨rfl, hs27⟩ := hs27
    refine out_e ?_
    obtain rfl := Option.some.inj hp
    refine wk.sub hs27 ?_
    rcases s5 with _ | s5'
    · exact leave_at rfl rfl pr_nil (pc_cons (p_op rfl (pl_cons p_d pl_nil)) pc_nil) rfl rfl
    · exact leave_at rfl rfl pr_nil (pc_cons (p_op rfl (pl_cons (p_o rfl) pl_nil)) pc_nil) rfl rfl
  · exact (by rcases q0_l with _ | _ <;> first | (exact sub_ren [0, 9001] [0, 1] (by decide) rfl (.cons (.skip .nil)) (Nat.le_of_ble_eq_true rfl)) | (exact sub_ren [0, 1] [0, 1] (by decide) rfl (.cons (.cons .nil)) (Nat.le_of_ble_eq_true rfl)))
  · rintro ⟨s1, i2⟩ r hr
    unfold heap_Queue_string_up_L1 at hr
    refine w_seq ?_
    refine w_seq ?_
    obtain ⟨b14, h15, hr⟩ := bnd hr
    refine w_join (J := fun s => Sub s ⟨[(0, .c (.op 0 0)), (1, .c (.d (.lit (.int .i64 i2)))), (24, .c (.d (.lit (.bool b14))))], [(0, some (.box [slC 1 cS 1 s1])), (1, slO 1 cS s1)], 2, [.op 0 0]⟩) ?_ ?_
    · rcases s1 with _ | s1'
      · try dsimp only [slC, slO]
        refine w_drawn ?_
        refine d1 rfl ?_
        refine d1 (v := .c (.d (.lit (.bool (decide (i2 > 0)))))) rfl ?_
        refine d1 rfl ?_
        cases hb16 : (decide (i2 > 0) : Bool)
        · have h15 := cnd_f hb16 h15
          iterate 17 refine dnot rfl rfl ?_
          refine d1 rfl ?_
          cases h15
          exact d_join rfl (sub_ren [0, 9001] [0, 1, 24] (by decide) rfl (.cons (.skip .nil)) (Nat.le_of_ble_eq_true rfl))
        · have h15 := cnd_t hb16 h15
          obtain ⟨n8, h9, h15⟩ := bnd h15
          iterate 5 refine dg rfl rfl rfl ?_
          exact ix_nil h9
      · try dsimp only [slC, slO]
        refine w_drawn ?_
        refine d1 rfl ?_
        refine d1 (v := .c (.d (.lit (.bool (decide (i2 > 0)))))) rfl ?_
        refine d1 rfl ?_
        cases hb17 : (decide (i2 > 0) : Bool)
        · have h15 := cnd_f hb17 h15
          iterate 17 refine dnot rfl rfl ?_
          refine d1 rfl ?_
          cases h15
          exact d_join rfl (sub_ren [0, 1] [0, 1, 24] (by decide) rfl (.cons (.cons .nil)) (Nat.le_of_ble_eq_true rfl))
        · have h15 := cnd_t hb17 h15
          obtain ⟨n8, h9, h15⟩ := bnd h15
          obtain ⟨n10, h11, h15⟩ := bnd h15
          obtain ⟨r12, h13, h15⟩ := bnd h15
          iterate 5 refine dg rfl rfl rfl ?_
          refine dg rfl rfl (ix_o h9) ?_
          refine dg rfl rfl (ld_row rfl (ixI_some.1 h9).2 rfl) ?_
          iterate 5 refine dg rfl rfl rfl ?_
          refine dg (v := .c (.d (.lit (.int .i64 (wr .i64 (i2 - 1)))))) rfl rfl rfl ?_
          refine dg (v := .c (.d (.lit (.int .i64 (wr .i64 ((wr .i64 (i2 - 1)).tdiv 2)))))) rfl rfl rfl ?_
          refine dg rfl rfl (ix_o h11) ?_
          refine dg rfl rfl (ld_row rfl (ixI_some.1 h11).2 rfl) ?_
          refine dcg (rs := [.c (.d (.lit (.bool r12)))]) (outs := []) rfl rfl rfl (cmp_Less_string_ok h13) rfl (Nat.le_of_ble_eq_true rfl) ?_
          refine d1 rfl ?_
          cases h15
          exact d_join rfl (sub_ren [0, 1] [0, 1, 24] (by decide) rfl (.cons (.cons .nil)) (Nat.le_of_ble_eq_true rfl))
    · intro s hs18
      refine after_n ?_
      refine W.sub hs18 ?_
      refine w_cond (t := b14) rfl (fun hb19 => ?_) (fun hb19 => ?_)
      · have hr := cnd_t hb19 hr
        refine w_skip ?_
        refine after_n ?_
        refine w_block ?_
        refine w_seq ?_
        obtain ⟨n20, h21, hr⟩ := bnd hr
        obtain ⟨n22, h23, hr⟩ := bnd hr
        obtain ⟨n24, h25, hr⟩ := bnd hr
        refine w_join (J := fun s => Sub s ⟨[(0, .c (.op 0 0)), (1, .c (.d (.lit (.int .i64 i2))))], [(0, some (.box [slC 1 cS 1 (Sl.mk ((s1.l.set n22 (gt s1.l n20)).set n24 (gt s1.l n22)))])), (1, slO 1 cS (Sl.mk ((s1.l.set n22 (gt s1.l n20)).set n24 (gt s1.l n22))))], 2, [.op 0 0]⟩) ?_ ?_
        · rcases s1 with _ | s1'
          · try dsimp only [slC, slO]
            refine w_drawn ?_
            iterate 10 refine d1 rfl ?_
            refine d1 (v := .c (.d (.lit (.int .i64 (wr .i64 (i2 - 1)))))) rfl ?_
            refine d1 (v := .c (.d (.lit (.int .i64 (wr .i64 ((wr .i64 (i2 - 1)).tdiv 2)))))) rfl ?_
            iterate 5 refine d1 rfl ?_
            refine d1 (v := .c (.d (.lit (.int .i64 (wr .i64 (i2 - 1)))))) rfl ?_
            refine d1 (v := .c (.d (.lit (.int .i64 (wr .i64 ((wr .i64 (i2 - 1)).tdiv 2)))))) rfl ?_
            exact ix_nil h21
          · try dsimp only [slC, slO]
            refine w_drawn ?_
            iterate 10 refine d1 rfl ?_
            refine d1 (v := .c (.d (.lit (.int .i64 (wr .i64 (i2 - 1)))))) rfl ?_
            refine d1 (v := .c (.d (.lit (.int .i64 (wr .i64 ((wr .i64 (i2 - 1)).tdiv 2)))))) rfl ?_
            iterate 5 refine d1 rfl ?_
            refine d1 (v := .c (.d (.lit (.int .i64 (wr .i64 (i2 - 1)))))) rfl ?_
            refine d1 (v := .c (.d (.lit (.int .i64 (wr .i64 ((wr .i64 (i2 - 1)).tdiv 2)))))) rfl ?_
            refine d1 (ix_o h21) ?_
            refine d1 (ld_row rfl (ixI_some.1 h21).2 rfl) ?_
            iterate 5 refine d1 rfl ?_
            refine d1 (ix_o h23) ?_
            refine d1 (ld_row rfl (ixI_some.1 h23).2 rfl) ?_
            refine d1 (ix_o h23) ?_
            refine d0 (st_row (y := gt s1' n20) rfl (ixI_some.1 h23).2 rfl rfl rfl (Nat.le_of_ble_eq_true rfl) rfl) (Nat.le_of_ble_eq_true rfl) ?_
            rw [len_set s1' cS n22 (gt s1' n20)]
            refine d1 (ix_o h25) ?_
            refine d0 (st_row (y := gt s1' n22) rfl (ixI_some.1 h25).2 rfl rfl rfl (Nat.le_of_ble_eq_true rfl) rfl) (Nat.le_of_ble_eq_true rfl) ?_
            rw [len_set (s1'.set n22 (gt s1' n20)) cS n24 (gt s1' n22)]
            exact d_join rfl (sub_ren [0, 1] [0, 1] (by decide) rfl (.cons (.cons .nil)) (Nat.le_of_ble_eq_true rfl))
        · intro s hs26
          refine after_n ?_
          refine W.sub hs26 ?_
          refine w_region ?_
          refine o1 rfl ?_
          refine o1 (v := .c (.d (.lit (.int .i64 (wr .i64 (i2 - 1)))))) rfl ?_
          refine o1 (v := .c (.d (.lit (.int .i64 (wr .i64 ((wr .i64 (i2 - 1)).tdiv 2)))))) rfl ?_
          refine o1 rfl ?_
          refine o_end (e' := [(0, .c (.op 0 0)), (1, .c (.d (.lit (.int .i64 (wr .i64 ((wr .i64 (i2 - 1)).tdiv 2))))))]) rfl rfl ?_
          refine out_n ?_
          obtain rfl := Option.some.inj hr
          exact And.intro rfl (sub_ren [0, 1] [0, 1] (by decide) rfl (.cons (.cons .nil)) (Nat.le_of_ble_eq_true rfl))
      · have hr := cnd_f hb19 hr
        refine w_exit ?_
        refine after_e ?_
        obtain rfl := Option.some.inj hr
        exact And.intro nofun (And.intro rfl (by rcases s1 with _ | _ <;> first | (exact sub_ren [0, 9001] [] (by decide) rfl (.cons (.skip .nil)) (Nat.le_of_ble_eq_true rfl)) | (exact sub_ren [0, 1] [] (by decide) rfl (.cons (.cons .nil)) (Nat.le_of_ble_eq_true rfl))))

/- (*turnout/heap.Queue[string]).Push -/
def k20 : CC :=
  (.seq
  (.seq
  (.region [
    ⟨some 4, .mv, [(.tmp 0)], none⟩,
    ⟨some 5, (.eqNil 1 false), [(.tmp 4)], none⟩] [0, 1, 5])
  (.cond (.tmp 5)
    .ret
    .skip))
  (.seq
  (.region [
    ⟨some 6, .mv, [(.tmp 0)], none⟩,
    ⟨some 7, .mv, [(.tmp 0)], none⟩,
    ⟨some 8, .nilCheck, [(.tmp 7)], none⟩,
    ⟨some 9, (.fieldAddr 0), [(.tmp 8)], none⟩,
    ⟨some 10, (.load false 1), [(.tmp 9)], none⟩,
    ⟨some 11, .mv, [(.tmp 1)], none⟩,
    ⟨some 12, (.buildSlice 1 1 [(.string ⟨#[]⟩)] [0]), [(.tmp 11)], none⟩,
    ⟨some 13, (.append 1), [(.tmp 10), (.tmp 12)], none⟩,
    ⟨some 14, .nilCheck, [(.tmp 6)], none⟩,
    ⟨some 15, (.fieldAddr 0), [(.tmp 14)], none⟩,
    ⟨none, (.store 1), [(.tmp 15), (.tmp 13)], none⟩] [0])
  (.region [
    ⟨some 16, .mv, [(.tmp 0)], none⟩,
    ⟨some 17, .mv, [(.tmp 0)], none⟩,
    ⟨some 18, .nilCheck, [(.tmp 17)], none⟩,
    ⟨some 19, (.fieldAddr 0), [(.tmp 18)], none⟩,
    ⟨some 20, (.load false 1), [(.tmp 19)], none⟩,
    ⟨some 21, (.len false), [(.tmp 20)], none⟩,
    ⟨some 22, (.bin .sub), [(.tmp 21), (.const (.int .i64 1))], none⟩,
    ⟨some 23, (.call false [true, false]), [(.func 29), (.tmp 16), (.tmp 22)], none⟩] [])))
def f20 : Ev.Fn := ⟨2, 24, [], k20⟩
set_option maxRecDepth 100000 in
theorem e20 : compFn prog sig 20 2 [[0, 1, 5], [0], []] = some f20 := by kernel_rfl
noncomputable def heap_Queue_string_Push (q0 : heap_Queue_string) (x1 : ByteArray) : Option (heap_Queue_string) :=
  match q0 with | ⟨q0_l⟩ => ((capI (q0_l.l ++ [x1])).bind fun l1 =>
  (heap_Queue_string_up (⟨(Sl.mk l1)⟩ : heap_Queue_string) (wr .i64 ((l1.length : Int) - 1))).bind fun ⟨q4_l⟩ =>
  some (⟨q4_l⟩ : heap_Queue_string))
theorem heap_Queue_string_Push_ok {q0 : heap_Queue_string} {x1 : ByteArray} {z : heap_Queue_string} (hp : heap_Queue_string_Push q0 x1 = some z) : Good prog 20 [.mt (.pt [slT 1 cS q0.l]), .d (.lit (.string x1))] [] [.pt [slT 1 cS z.l]] := by
  obtain ⟨q0_l⟩ := q0
  unfold heap_Queue_string_Push at hp
  refine fn_good mixed e20 (fnS (m := []) (s := ⟨[(0, .c (.op 0 0)), (1, .c (.d (.lit (.string x1))))], [(0, some (.box [slC 1 cS 1 q0_l])), (1, slO 1 cS q0_l)], 2, [.op 0 0]⟩) (len := 1) (c := k20) rfl (by rcases q0_l with _ | _ <;> first | (exact sub_ren [0, 9001] [0, 1] (by decide) rfl (.cons (.skip .nil)) (Nat.le_of_ble_eq_true rfl)) | (exact sub_ren [0, 1] [0, 1] (by decide) rfl (.cons (.cons .nil)) (Nat.le_of_ble_eq_true rfl))) rfl rfl ?_)
  refine w_seq ?_
  refine w_seq ?_
  refine w_region ?_
  refine o1 rfl ?_
  refine o1 (v := .c (.d (.lit (.bool false)))) rfl ?_
  refine o_end (e' := [(0, .c (.op 0 0)), (1, .c (.d (.lit (.string x1)))), (5, .c (.d (.lit (.bool false))))]) rfl rfl ?_
  refine after_n ?_
  refine w_false rfl rfl ?_
  refine w_skip ?_
  refine after_n ?_
  refine w_seq ?_
  obtain ⟨l1, h2, hp⟩ := bnd hp
  refine w_join (J := fun s => Sub s ⟨[(0, .c (.op 0 0))], [(0, some (.box [slC 1 cS 1 (Sl.mk l1)])), (1, slO 1 cS (Sl.mk l1))], 2, [.op 0 0]⟩) ?_ ?_
  · rcases q0_l with _ | q0_l'
    · try dsimp only [slC, slO]
      refine w_region ?_
      iterate 6 refine o1 rfl ?_
      refine o2 rfl ?_
      refine o2 (app_nil (enc := cS) rfl h2) ?_
      iterate 2 refine o1 rfl ?_
      refine o0 rfl ?_
      exact o_join (sub_ren [0, 3] [0] (by decide) rfl (.cons (.cons .nil)) (Nat.le_of_ble_eq_true rfl))
    · try dsimp only [slC, slO]
      refine w_region ?_
      iterate 6 refine o1 rfl ?_
      refine o2 rfl ?_
      refine o2 (app_o rfl rfl h2) ?_
      iterate 2 refine o1 rfl ?_
      refine o0 rfl ?_
      exact o_join (sub_ren [0, 3] [0] (by decide) rfl (.cons (.cons .nil)) (Nat.le_of_ble_eq_true rfl))
  · intro s hs3
    refine after_n ?_
    refine W.sub hs3 ?_
    obtain ⟨⟨q4_l⟩, h5, hp⟩ := bnd hp
    refine w_join (J := fun s => Sub s ⟨[], [(0, some (.box [slC 1 cS 1 q4_l])), (1, slO 1 cS q4_l)], 2, [.op 0 0]⟩) ?_ ?_
    · rcases q4_l with _ | q4_l'
      · try dsimp only [slC, slO]
        refine w_region ?_
        iterate 5 refine o1 rfl ?_
        refine o1 (v := .c (.d (.lit (.int .i64 (l1.length : Int))))) len_o ?_
        refine o1 (v := .c (.d (.lit (.int .i64 (wr .i64 ((l1.length : Int) - 1)))))) rfl ?_
        refine oc' (rs := []) (outs := [.pt [.d (.lit (.slice none 0 0))]]) (call_at rfl rfl (ea_mt (p_op rfl (pl_cons (p_o rfl) pl_nil)) rfl (ea_c rfl rfl ea_nil)) (wh_op wh_nil) rfl rfl) (heap_Queue_string_up_ok h5) ?_
        exact o_join (sub_ren [0, 9001] [] (by decide) rfl (.cons (.skip .nil)) (Nat.le_of_ble_eq_true rfl))
      · try dsimp only [slC, slO]
        refine w_region ?_
        iterate 5 refine o1 rfl ?_
        refine o1 (v := .c (.d (.lit (.int .i64 (l1.length : Int))))) len_o ?_
        refine o1 (v := .c (.d (.lit (.int .i64 (wr .i64 ((l1.length : Int) - 1)))))) rfl ?_
        refine oc' (rs := []) (outs := [.pt [slT 1 cS (Sl.mk q4_l')]]) (call_at rfl rfl (ea_mt (p_op rfl (pl_cons (p_o rfl) pl_nil)) rfl (ea_c rfl rfl ea_nil)) (wh_op wh_nil) rfl rfl) (heap_Queue_string_up_ok h5) ?_
        exact o_join (sub_ren [0, 2] [] (by decide) rfl (.cons (.cons .nil)) (Nat.le_of_ble_eq_true rfl))
    · intro s hs6
      obtain rfl := Option.some.inj hp
      refine wk.sub hs6 ?_
      rcases q4_l with _ | q4_l'
      · exact leave_at rfl rfl pr_nil (pc_cons (p_op rfl (pl_cons p_d pl_nil)) pc_nil) rfl rfl
      · exact leave_at rfl rfl pr_nil (pc_cons (p_op rfl (pl_cons (p_o rfl) pl_nil)) pc_nil) rfl rfl

/- (*turnout/heap.Queue[string]).Len -/
def k23 : CC :=
  (.seq
  (.region [
    ⟨some 2, .mv, [(.const (.int .i64 0))], none⟩] [0])
  (.seq
  (.seq
  (.region [
    ⟨some 3, .mv, [(.tmp 0)], none⟩,
    ⟨some 4, (.eqNil 1 false), [(.tmp 3)], none⟩] [0, 4])
  (.cond (.tmp 4)
    (.seq
    (.region [
      ⟨some 2, .mv, [(.const (.int .i64 0))], none⟩] [2])
    .ret)
    .skip))
  (.seq
  (.region [
    ⟨some 5, .mv, [(.tmp 0)], none⟩,
    ⟨some 6, .nilCheck, [(.tmp 5)], none⟩,
    ⟨some 7, (.fieldAddr 0), [(.tmp 6)], none⟩,
    ⟨some 8, (.load false 1), [(.tmp 7)], none⟩,
    ⟨some 9, (.len false), [(.tmp 8)], none⟩,
    ⟨some 2, .mv, [(.tmp 9)], none⟩] [2])
  .ret)))
def f23 : Ev.Fn := ⟨1, 10, [.tmp 2], k23⟩
set_option maxRecDepth 100000 in
theorem e23 : compFn prog sig 23 1 [[0], [0, 4], [2], [2]] = some f23 := by kernel_rfl
noncomputable def heap_Queue_string_Len (q0 : heap_Queue_string) : Option (Int) :=
  some (q0.l.l.length : Int)
theorem heap_Queue_string_Len_ok {q0 : heap_Queue_string} {z : Int} (hp : heap_Queue_string_Len q0 = some z) : Good prog 23 [.d (.pt (c_heap_Queue_string q0))] [.c (.d (.lit (.int .i64 z)))] [] := by
  unfold heap_Queue_string_Len at hp
  refine fn_good mixed e23 (fnS (m := [false]) (s := ⟨[(0, .c (.d (.pt (c_heap_Queue_string q0))))], [], 0, []⟩) (len := 0) (c := k23) rfl (Sub.of_eq rfl) rfl rfl ?_)
  refine w_seq ?_
  refine w_region ?_
  refine o1 rfl ?_
  refine o_end (e' := [(0, .c (.d (.pt (c_heap_Queue_string q0))))]) rfl rfl ?_
  refine after_n ?_
  refine w_seq ?_
  refine w_seq ?_
  refine w_region ?_
  refine o1 rfl ?_
  refine o1 (v := .c (.d (.lit (.bool false)))) rfl ?_
  refine o_end (e' := [(0, .c (.d (.pt (c_heap_Queue_string q0)))), (4, .c (.d (.lit (.bool false))))]) rfl rfl ?_
  refine after_n ?_
  refine w_false rfl rfl ?_
  refine w_skip ?_
  refine after_n ?_
  refine w_seq ?_
  refine w_region ?_
  iterate 4 refine o1 rfl ?_
  refine o1 (v := .c (.d (.lit (.int .i64 (q0.l.l.length : Int))))) len_sd ?_
  refine o1 rfl ?_
  refine o_end (e' := [(2, .c (.d (.lit (.int .i64 (q0.l.l.length : Int)))))]) rfl rfl ?_
  refine after_n ?_
  refine w_ret ?_
  obtain rfl := Option.some.inj hp
  exact leave_at rfl rfl (pr_c p_d pr_nil) pc_nil rfl rfl

/- (*turnout/heap.Queue[string]).Peek -/
def k30 : CC :=
  (.seq
  (.region [
    ⟨some 2, .mv, [(.const (.string ⟨#[]⟩))], none⟩,
    ⟨some 3, .mv, [(.const (.bool false))], none⟩] [0])
  (.seq
  (.seq
  (.region [
    ⟨some 5, .mv, [(.tmp 0)], none⟩,
    ⟨some 6, (.call true []), [(.func 23), (.tmp 5)], none⟩,
    ⟨some 7, (.bin .eql), [(.tmp 6), (.const (.int .i64 0))], none⟩] [0, 7])
  (.cond (.tmp 7)
    (.seq
    (.region [
      ⟨some 4, .mv, [(.const (.string ⟨#[]⟩))], none⟩] [4])
    (.seq
    (.region [
      ⟨some 8, .mv, [(.tmp 4)], none⟩,
      ⟨some 2, .mv, [(.tmp 8)], none⟩,
      ⟨some 3, .mv, [(.const (.bool false))], none⟩] [2, 3])
    .ret))
    .skip))
  (.seq
  (.region [
    ⟨some 9, .mv, [(.tmp 0)], none⟩,
    ⟨some 10, .nilCheck, [(.tmp 9)], none⟩,
    ⟨some 11, (.fieldAddr 0), [(.tmp 10)], none⟩,
    ⟨some 12, (.load false 1), [(.tmp 11)], none⟩,
    ⟨some 13, (.indexAddr none 1), [(.tmp 12), (.const (.int .i64 0))], none⟩,
    ⟨some 14, (.load false 1), [(.tmp 13)], none⟩,
    ⟨some 2, .mv, [(.tmp 14)], none⟩,
    ⟨some 3, .mv, [(.const (.bool true))], none⟩] [2, 3])
  .ret)))
def f30 : Ev.Fn := ⟨1, 15, [.tmp 2, .tmp 3], k30⟩
set_option maxRecDepth 100000 in
theorem e30 : compFn prog sig 30 1 [[0], [0, 7], [4], [2, 3], [2, 3]] = some f30 := by kernel_rfl
noncomputable def heap_Queue_string_Peek (q0 : heap_Queue_string) : Option ((ByteArray × Bool)) :=
  (heap_Queue_string_Len q0).bind fun r1 =>
  bif (r1 == 0) then (some ((⟨#[]⟩ : ByteArray), false)) else
  ((ixI 0 q0.l.l.length).bind fun n4 =>
  some (gt q0.l.l n4, true))
theorem heap_Queue_string_Peek_ok {q0 : heap_Queue_string} {z : (ByteArray × Bool)} (hp : heap_Queue_string_Peek q0 = some z) : Good prog 30 [.d (.pt (c_heap_Queue_string q0))] [.c (.d (.lit (.string z.1))), .c (.d (.lit (.bool z.2)))] [] := by
  unfold heap_Queue_string_Peek at hp
  refine fn_good mixed e30 (fnS (m := [false, false]) (s := ⟨[(0, .c (.d (.pt (c_heap_Queue_string q0))))], [], 0, []⟩) (len := 0) (c := k30) rfl (Sub.of_eq rfl) rfl rfl ?_)
  refine w_seq ?_
  refine w_region ?_
  iterate 2 refine o1 rfl ?_
  refine o_end (e' := [(0, .c (.d (.pt (c_heap_Queue_string q0))))]) rfl rfl ?_
  refine after_n ?_
  refine w_seq ?_
  refine w_seq ?_
  obtain ⟨r1, h2, hp⟩ := bnd hp
  refine w_region ?_
  refine o1 rfl ?_
  refine oc (rs := [.c (.d (.lit (.int .i64 r1)))]) (outs := []) rfl (heap_Queue_string_Len_ok h2) rfl ?_
  refine o1 (v := .c (.d (.lit (.bool (r1 == 0))))) rfl ?_
  refine o_end (e' := [(0, .c (.d (.pt (c_heap_Queue_string q0)))), (7, .c (.d (.lit (.bool (r1 == 0)))))]) rfl rfl ?_
  refine after_n ?_
  refine w_cond (t := (r1 == 0)) rfl (fun hb3 => ?_) (fun hb3 => ?_)
  · have hp := cnd_t hb3 hp
    refine w_seq ?_
    refine w_region ?_
    refine o1 rfl ?_
    refine o_end (e' := [(4, .c (.d (.lit (.string (⟨#[]⟩ : ByteArray)))))]) rfl rfl ?_
    refine after_n ?_
    refine w_seq ?_
    refine w_region ?_
    iterate 3 refine o1 rfl ?_
    refine o_end (e' := [(2, .c (.d (.lit (.string (⟨#[]⟩ : ByteArray))))), (3, .c (.d (.lit (.bool false))))]) rfl rfl ?_
    refine after_n ?_
    refine w_ret ?_
    refine after_r ?_
    obtain rfl := Option.some.inj hp
    exact leave_at rfl rfl (pr_c p_d (pr_c p_d pr_nil)) pc_nil rfl rfl
  · have hp := cnd_f hb3 hp
    refine w_skip ?_
    refine after_n ?_
    refine w_seq ?_
    obtain ⟨n4, h5, hp⟩ := bnd hp
    refine w_region ?_
    iterate 4 refine o1 rfl ?_
    refine o1 (ix_sd h5) ?_
    iterate 3 refine o1 rfl ?_
    refine o_end (e' := [(2, .c (.d (.lit (.string (gt q0.l.l n4))))), (3, .c (.d (.lit (.bool true))))]) rfl rfl ?_
    refine after_n ?_
    refine w_ret ?_
    obtain rfl := Option.some.inj hp
    exact leave_at rfl rfl (pr_c p_d (pr_c p_d pr_nil)) pc_nil rfl rfl

/- (*turnout/heap.Queue[string]).down -/
def k37 : CC :=
  (.block 0
    (.loop [0, 1]
      (.block 1
        (.seq
        (.region [
          ⟨some 6, .mv, [(.tmp 1)], none⟩,
          ⟨some 4, .mv, [(.tmp 6)], none⟩] [0, 1, 4])
        (.seq
        (.seq
        (.region [
          ⟨some 7, .mv, [(.tmp 1)], none⟩,
          ⟨some 8, (.bin .mul), [(.const (.int .i64 2)), (.tmp 7)], none⟩,
          ⟨some 9, (.bin .add), [(.tmp 8), (.const (.int .i64 1))], none⟩,
          ⟨some 5, .mv, [(.tmp 9)], none⟩] [0, 1, 4, 5])
        (.block 2
          (.loop [0, 1, 4, 5]
            (.seq
            (.seq
            (.region [
              ⟨some 10, .mv, [(.tmp 5)], none⟩,
              ⟨some 11, .mv, [(.tmp 1)], none⟩,
              ⟨some 12, (.bin .mul), [(.const (.int .i64 2)), (.tmp 11)], none⟩,
              ⟨some 13, (.bin .add), [(.tmp 12), (.const (.int .i64 2))], none⟩,
              ⟨some 14, (.bin .leq), [(.tmp 10), (.tmp 13)], none⟩,
              ⟨some 15, .mv, [(.tmp 14)], none⟩,
              ⟨some 16, .mv, [(.tmp 5)], (some (15, true))⟩,
              ⟨some 17, .mv, [(.tmp 0)], (some (15, true))⟩,
              ⟨some 18, .nilCheck, [(.tmp 17)], (some (15, true))⟩,
              ⟨some 19, (.fieldAddr 0), [(.tmp 18)], (some (15, true))⟩,
              ⟨some 20, (.load false 1), [(.tmp 19)], (some (15, true))⟩,
              ⟨some 21, (.len false), [(.tmp 20)], (some (15, true))⟩,
              ⟨some 22, (.bin .lss), [(.tmp 16), (.tmp 21)], (some (15, true))⟩,
              ⟨some 23, .pick, [(.tmp 15), (.tmp 22), (.const (.bool false))], none⟩] [0, 1, 4, 5, 23])
            (.cond (.tmp 23)
              .skip
              (.exit 2)))
            (.seq
            (.block 3
              (.seq
              (.drawn [
                ⟨some 26, .mv, [(.tmp 0)], none⟩,
                ⟨some 27, .nilCheck, [(.tmp 26)], none⟩,
                ⟨some 28, (.fieldAddr 0), [(.tmp 27)], none⟩,
                ⟨some 29, (.load false 1), [(.tmp 28)], none⟩,
                ⟨some 30, .mv, [(.tmp 5)], none⟩,
                ⟨some 31, (.indexAddr none 1), [(.tmp 29), (.tmp 30)], none⟩,
                ⟨some 32, (.load false 1), [(.tmp 31)], none⟩,
                ⟨some 33, .mv, [(.tmp 0)], none⟩,
                ⟨some 34, .nilCheck, [(.tmp 33)], none⟩,
                ⟨some 35, (.fieldAddr 0), [(.tmp 34)], none⟩,
                ⟨some 36, (.load false 1), [(.tmp 35)], none⟩,
                ⟨some 37, .mv, [(.tmp 4)], none⟩,
                ⟨some 38, (.indexAddr none 1), [(.tmp 36), (.tmp 37)], none⟩,
                ⟨some 39, (.load false 1), [(.tmp 38)], none⟩,
                ⟨some 40, (.call true []), [(.func 31), (.tmp 32), (.tmp 39)], none⟩] [] [0, 1, 4, 5, 40])
              (.cond (.tmp 40)
                (.region [
                  ⟨some 41, .mv, [(.tmp 5)], none⟩,
                  ⟨some 4, .mv, [(.tmp 41)], none⟩] [0, 1, 4, 5])
                .skip)))
            (.region [
              ⟨some 24, .mv, [(.tmp 5)], none⟩,
              ⟨some 25, (.bin .add), [(.tmp 24), (.const (.int .i64 1))], none⟩,
              ⟨some 5, .mv, [(.tmp 25)], none⟩] [0, 1, 4, 5]))))))
        (.seq
        (.seq
        (.region [
          ⟨some 42, .mv, [(.tmp 4)], none⟩,
          ⟨some 43, .mv, [(.tmp 1)], none⟩,
          ⟨some 44, (.bin .eql), [(.tmp 42), (.tmp 43)], none⟩] [0, 1, 4, 44])
        (.cond (.tmp 44)
          .ret
          .skip))
        (.seq
        (.drawn [
          ⟨some 45, .mv, [(.tmp 0)], none⟩,
          ⟨some 46, .nilCheck, [(.tmp 45)], none⟩,
          ⟨some 47, (.fieldAddr 0), [(.tmp 46)], none⟩,
          ⟨some 48, (.load false 1), [(.tmp 47)], none⟩,
          ⟨some 49, .mv, [(.tmp 1)], none⟩,
          ⟨some 50, .mv, [(.tmp 0)], none⟩,
          ⟨some 51, .nilCheck, [(.tmp 50)], none⟩,
          ⟨some 52, (.fieldAddr 0), [(.tmp 51)], none⟩,
          ⟨some 53, (.load false 1), [(.tmp 52)], none⟩,
          ⟨some 54, .mv, [(.tmp 4)], none⟩,
          ⟨some 55, .mv, [(.tmp 0)], none⟩,
          ⟨some 56, .nilCheck, [(.tmp 55)], none⟩,
          ⟨some 57, (.fieldAddr 0), [(.tmp 56)], none⟩,
          ⟨some 58, (.load false 1), [(.tmp 57)], none⟩,
          ⟨some 59, .mv, [(.tmp 4)], none⟩,
          ⟨some 60, (.indexAddr none 1), [(.tmp 58), (.tmp 59)], none⟩,
          ⟨some 61, (.load false 1), [(.tmp 60)], none⟩,
          ⟨some 62, .mv, [(.tmp 0)], none⟩,
          ⟨some 63, .nilCheck, [(.tmp 62)], none⟩,
          ⟨some 64, (.fieldAddr 0), [(.tmp 63)], none⟩,
          ⟨some 65, (.load false 1), [(.tmp 64)], none⟩,
          ⟨some 66, .mv, [(.tmp 1)], none⟩,
          ⟨some 67, (.indexAddr none 1), [(.tmp 65), (.tmp 66)], none⟩,
          ⟨some 68, (.load false 1), [(.tmp 67)], none⟩,
          ⟨some 69, (.indexAddr none 1), [(.tmp 48), (.tmp 49)], none⟩,
          ⟨none, (.store 1), [(.tmp 69), (.tmp 61)], none⟩,
          ⟨some 70, (.indexAddr none 1), [(.tmp 53), (.tmp 54)], none⟩,
          ⟨none, (.store 1), [(.tmp 70), (.tmp 68)], none⟩] [] [0, 4])
        (.region [
          ⟨some 71, .mv, [(.tmp 4)], none⟩,
          ⟨some 1, .mv, [(.tmp 71)], none⟩] [0, 1]))))))))
def f37 : Ev.Fn := ⟨2, 72, [], k37⟩
set_option maxRecDepth 100000 in
theorem e37 : compFn prog sig 37 2 [[0, 1], [0, 1, 4], [0, 1, 4, 5], [0, 1, 4, 5], [0, 1, 4, 5, 23], [0, 1, 4, 5, 40], [0, 1, 4, 5], [0, 1, 4, 5], [0, 1, 4, 44], [0, 4], [0, 1]] = some f37 := by kernel_rfl
noncomputable def heap_Queue_string_down_L2 (s1 : Sl ByteArray) (i2 : Int) : (Int × Int) → Option (Sum ((Int × Int)) (Int)) := fun (i8, i9) =>
  bif ((decide (i9 ≤ (wr .i64 ((wr .i64 (2 * i2)) + 2)))) && (decide (i9 < (s1.l.length : Int)))) then (((ixI i9 s1.l.length).bind fun n22 =>
  (ixI i8 s1.l.length).bind fun n24 =>
  (cmp_Less_string (gt s1.l n22) (gt s1.l n24)).bind fun r26 =>
  bif r26 then (some i9) else
  (some i8) : Option (Int)).bind fun i19 =>
  some (.inl (i19, wr .i64 (i9 + 1)))) else
  (some (.inr i8))

noncomputable def heap_Queue_string_down_L1 : (Sl ByteArray × Int) → Option (Sum ((Sl ByteArray × Int)) (Sl ByteArray)) := fun (s1, i2) =>
  (loopO (heap_Queue_string_down_L2 s1 i2) (i2, wr .i64 ((wr .i64 (2 * i2)) + 1))).bind fun i12 =>
  bif (i12 == i2) then (some (.inr s1)) else
  ((ixI i12 s1.l.length).bind fun n33 =>
  (ixI i2 s1.l.length).bind fun n35 =>
  (ixI i12 (s1.l.set n35 (gt s1.l n33)).length).bind fun n37 =>
  some (.inl ((Sl.mk ((s1.l.set n35 (gt s1.l n33)).set n37 (gt s1.l n35))), i12)))

noncomputable def heap_Queue_string_down (q0 : heap_Queue_string) (i1 : Int) : Option (heap_Queue_string) :=
  match q0 with | ⟨q0_l⟩ => ((loopO (heap_Queue_string_down_L1) (q0_l, i1)).bind fun s5 =>
  some (⟨s5⟩ : heap_Queue_string))
theorem heap_Queue_string_down_ok {q0 : heap_Queue_string} {i1 : Int} {z : heap_Queue_string} (hp : heap_Queue_string_down q0 i1 = some z) : Good prog 37 [.mt (.pt [slT 1 cS q0.l]), .d (.lit (.int .i64 i1))] [] [.pt [slT 1 cS z.l]] := by
  obtain ⟨q0_l⟩ := q0
  unfold heap_Queue_string_down at hp
  refine fn_good mixed e37 (fnS (m := []) (s := ⟨[(0, .c (.op 0 0)), (1, .c (.d (.lit (.int .i64 i1))))], [(0, some (.box [slC 1 cS 1 q0_l])), (1, slO 1 cS q0_l)], 2, [.op 0 0]⟩) (len := 1) (c := k37) rfl (by rcases q0_l with _ | _ <;> first | (exact sub_ren [0, 9001] [0, 1] (by decide) rfl (.cons (.skip .nil)) (Nat.le_of_ble_eq_true rfl)) | (exact sub_ren [0, 1] [0, 1] (by decide) rfl (.cons (.cons .nil)) (Nat.le_of_ble_eq_true rfl))) rfl rfl ?_)
  refine w_block ?_
  obtain ⟨s5, h7, hp⟩ := bnd hp
  refine W.mono ?_ (w_loopS (st := fun (v : (Sl ByteArray × Int)) => match v with | (s1, i2) => ⟨[(0, .c (.op 0 0)), (1, .c (.d (.lit (.int .i64 i2))))], [(0, some (.box [slC 1 cS 1 s1])), (1, slO 1 cS s1)], 2, [.op 0 0]⟩) (a := (q0_l, i1)) (Q := Jn (fun (x : Sl ByteArray) o s => match x with | s5 => o = Out.ret ∧ Sub s ⟨[], [(0, some (.box [slC 1 cS 1 s5])), (1, slO 1 cS s5)], 2, [.op 0 0]⟩)) ?_ h7 ?_)
  · intro o s hs40
    obtain ⟨rfl, hs40⟩ := hs40
    refine out_r ?_
    obtain rfl := Option.some.inj hp
    refine wk.sub hs40 ?_
    rcases s5 with _ | s5'
    · exact leave_at rfl rfl pr_nil (pc_cons (p_op rfl (pl_cons p_d pl_nil)) pc_nil) rfl rfl
    · exact leave_at rfl rfl pr_nil (pc_cons (p_op rfl (pl_cons (p_o rfl) pl_nil)) pc_nil) rfl rfl
  · exact (by rcases q0_l with _ | _ <;> first | (exact sub_ren [0, 9001] [0, 1] (by decide) rfl (.cons (.skip .nil)) (Nat.le_of_ble_eq_true rfl)) | (exact sub_ren [0, 1] [0, 1] (by decide) rfl (.cons (.cons .nil)) (Nat.le_of_ble_eq_true rfl)))
  · rintro ⟨s1, i2⟩ r hr
    unfold heap_Queue_string_down_L1 at hr
    refine w_block ?_
    refine w_seq ?_
    refine w_region ?_
    iterate 2 refine o1 rfl ?_
    refine o_end (e' := [(0, .c (.op 0 0)), (1, .c (.d (.lit (.int .i64 i2)))), (4, .c (.d (.lit (.int .i64 i2))))]) rfl rfl ?_
    refine after_n ?_
    refine w_seq ?_
    refine w_seq ?_
    refine w_region ?_
    refine o1 rfl ?_
    refine o1 (v := .c (.d (.lit (.int .i64 (wr .i64 (2 * i2)))))) rfl ?_
    refine o1 (v := .c (.d (.lit (.int .i64 (wr .i64 ((wr .i64 (2 * i2)) + 1)))))) rfl ?_
    refine o1 rfl ?_
    refine o_end (e' := [(0, .c (.op 0 0)), (1, .c (.d (.lit (.int .i64 i2)))), (4, .c (.d (.lit (.int .i64 i2)))), (5, .c (.d (.lit (.int .i64 (wr .i64 ((wr .i64 (2 * i2)) + 1))))))]) rfl rfl ?_
    refine after_n ?_
    refine w_block ?_
    obtain ⟨i12, h14, hr⟩ := bnd hr
    refine W.mono ?_ (w_loopS (st := fun (v : (Int × Int)) => match v with | (i8, i9) => ⟨[(0, .c (.op 0 0)), (1, .c (.d (.lit (.int .i64 i2)))), (4, .c (.d (.lit (.int .i64 i8)))), (5, .c (.d (.lit (.int .i64 i9))))], [(0, some (.box [slC 1 cS 1 s1])), (1, slO 1 cS s1)], 2, [.op 0 0]⟩) (a := (i2, wr .i64 ((wr .i64 (2 * i2)) + 1))) (Q := Jn (fun (x : Int) o s => match x with | i12 => o = Out.exit 2 ∧ Sub s ⟨[(0, .c (.op 0 0)), (1, .c (.d (.lit (.int .i64 i2)))), (4, .c (.d (.lit (.int .i64 i12))))], [(0, some (.box [slC 1 cS 1 s1])), (1, slO 1 cS s1)], 2, [.op 0 0]⟩)) ?_ h14 ?_)
    · intro o s hs31
      obtain ⟨rfl, hs31⟩ := hs31
      refine out_e ?_
      refine after_n ?_
      refine W.sub hs31 ?_
      refine w_seq ?_
      refine w_seq ?_
      refine w_region ?_
      iterate 2 refine o1 rfl ?_
      refine o1 (v := .c (.d (.lit (.bool (i12 == i2))))) rfl ?_
      refine o_end (e' := [(0, .c (.op 0 0)), (1, .c (.d (.lit (.int .i64 i2)))), (4, .c (.d (.lit (.int .i64 i12)))), (44, .c (.d (.lit (.bool (i12 == i2)))))]) rfl rfl ?_
      refine after_n ?_
      refine w_cond (t := (i12 == i2)) rfl (fun hb32 => ?_) (fun hb32 => ?_)
      · have hr := cnd_t hb32 hr
        refine w_ret ?_
        refine after_r ?_
        refine out_r ?_
        obtain rfl := Option.some.inj hr
        exact And.intro nofun (And.intro rfl (by rcases s1 with _ | _ <;> first | (exact sub_ren [0, 9001] [] (by decide) rfl (.cons (.skip .nil)) (Nat.le_of_ble_eq_true rfl)) | (exact sub_ren [0, 1] [] (by decide) rfl (.cons (.cons .nil)) (Nat.le_of_ble_eq_true rfl))))
      · have hr := cnd_f hb32 hr
        refine w_skip ?_
        refine after_n ?_
        refine w_seq ?_
        obtain ⟨n33, h34, hr⟩ := bnd hr
        obtain ⟨n35, h36, hr⟩ := bnd hr
        obtain ⟨n37, h38, hr⟩ := bnd hr
        refine w_join (J := fun s => Sub s ⟨[(0, .c (.op 0 0)), (4, .c (.d (.lit (.int .i64 i12))))], [(0, some (.box [slC 1 cS 1 (Sl.mk ((s1.l.set n35 (gt s1.l n33)).set n37 (gt s1.l n35)))])), (1, slO 1 cS (Sl.mk ((s1.l.set n35 (gt s1.l n33)).set n37 (gt s1.l n35))))], 2, [.op 0 0]⟩) ?_ ?_
        · rcases s1 with _ | s1'
          · try dsimp only [slC, slO]
            refine w_drawn ?_
            iterate 15 refine d1 rfl ?_
            exact ix_nil h34
          · try dsimp only [slC, slO]
            refine w_drawn ?_
            iterate 15 refine d1 rfl ?_
            refine d1 (ix_o h34) ?_
            refine d1 (ld_row rfl (ixI_some.1 h34).2 rfl) ?_
            iterate 5 refine d1 rfl ?_
            refine d1 (ix_o h36) ?_
            refine d1 (ld_row rfl (ixI_some.1 h36).2 rfl) ?_
            refine d1 (ix_o h36) ?_
            refine d0 (st_row (y := gt s1' n33) rfl (ixI_some.1 h36).2 rfl rfl rfl (Nat.le_of_ble_eq_true rfl) rfl) (Nat.le_of_ble_eq_true rfl) ?_
            rw [len_set s1' cS n35 (gt s1' n33)]
            refine d1 (ix_o h38) ?_
            refine d0 (st_row (y := gt s1' n35) rfl (ixI_some.1 h38).2 rfl rfl rfl (Nat.le_of_ble_eq_true rfl) rfl) (Nat.le_of_ble_eq_true rfl) ?_
            rw [len_set (s1'.set n35 (gt s1' n33)) cS n37 (gt s1' n35)]
            exact d_join rfl (sub_ren [0, 1] [0, 4] (by decide) rfl (.cons (.cons .nil)) (Nat.le_of_ble_eq_true rfl))
        · intro s hs39
          refine after_n ?_
          refine W.sub hs39 ?_
          refine w_region ?_
          iterate 2 refine o1 rfl ?_
          refine o_end (e' := [(0, .c (.op 0 0)), (1, .c (.d (.lit (.int .i64 i12))))]) rfl rfl ?_
          refine out_n ?_
          obtain rfl := Option.some.inj hr
          exact And.intro rfl (sub_ren [0, 1] [0, 1] (by decide) rfl (.cons (.cons .nil)) (Nat.le_of_ble_eq_true rfl))
    · exact (by rcases s1 with _ | _ <;> first | (exact sub_ren [0, 9001] [0, 1, 4, 5] (by decide) rfl (.cons (.skip .nil)) (Nat.le_of_ble_eq_true rfl)) | (exact sub_ren [0, 1] [0, 1, 4, 5] (by decide) rfl (.cons (.cons .nil)) (Nat.le_of_ble_eq_true rfl)))
    · rintro ⟨i8, i9⟩ r hr
      unfold heap_Queue_string_down_L2 at hr
      refine w_seq ?_
      refine w_seq ?_
      refine w_join (J := fun s => Sub s ⟨[(0, .c (.op 0 0)), (1, .c (.d (.lit (.int .i64 i2)))), (4, .c (.d (.lit (.int .i64 i8)))), (5, .c (.d (.lit (.int .i64 i9)))), (23, .c (.d (.lit (.bool ((decide (i9 ≤ (wr .i64 ((wr .i64 (2 * i2)) + 2)))) && (decide (i9 < (s1.l.length : Int))))))))], [(0, some (.box [slC 1 cS 1 s1])), (1, slO 1 cS s1)], 2, [.op 0 0]⟩) ?_ ?_
      · refine w_region ?_
        iterate 2 refine o1 rfl ?_
        refine o1 (v := .c (.d (.lit (.int .i64 (wr .i64 (2 * i2)))))) rfl ?_
        refine o1 (v := .c (.d (.lit (.int .i64 (wr .i64 ((wr .i64 (2 * i2)) + 2)))))) rfl ?_
        refine o1 (v := .c (.d (.lit (.bool (decide (i9 ≤ (wr .i64 ((wr .i64 (2 * i2)) + 2)))))))) rfl ?_
        refine o1 rfl ?_
        cases hb16 : (decide (i9 ≤ (wr .i64 ((wr .i64 (2 * i2)) + 2))) : Bool)
        · refine onot rfl rfl ?_
          iterate 6 refine onot rfl rfl ?_
          refine o1 rfl ?_
          exact o_join (by rcases s1 with _ | _ <;> first | (exact sub_ren [0, 9001] [0, 1, 4, 5, 23] (by decide) rfl (.cons (.skip .nil)) (Nat.le_of_ble_eq_true rfl)) | (exact sub_ren [0, 1] [0, 1, 4, 5, 23] (by decide) rfl (.cons (.cons .nil)) (Nat.le_of_ble_eq_true rfl)))
        · refine og rfl rfl rfl ?_
          iterate 4 refine og rfl rfl rfl ?_
          refine og (v := .c (.d (.lit (.int .i64 (s1.l.length : Int))))) rfl rfl len_c ?_
          refine og (v := .c (.d (.lit (.bool (decide (i9 < (s1.l.length : Int))))))) rfl rfl rfl ?_
          refine o1 rfl ?_
          exact o_join (by rcases s1 with _ | _ <;> first | (exact sub_ren [0, 9001] [0, 1, 4, 5, 23] (by decide) rfl (.cons (.skip .nil)) (Nat.le_of_ble_eq_true rfl)) | (exact sub_ren [0, 1] [0, 1, 4, 5, 23] (by decide) rfl (.cons (.cons .nil)) (Nat.le_of_ble_eq_true rfl)))
      · intro s hs17
        refine after_n ?_
        refine W.sub hs17 ?_
        refine w_cond (t := ((decide (i9 ≤ (wr .i64 ((wr .i64 (2 * i2)) + 2)))) && (decide (i9 < (s1.l.length : Int))))) rfl (fun hb18 => ?_) (fun hb18 => ?_)
        · have hr := cnd_t hb18 hr
          refine w_skip ?_
          refine after_n ?_
          refine w_seq ?_
          obtain ⟨i19, h20, hr⟩ := bnd hr
          refine W.mono (Q := Jn (fun (x : Int) o s => match x with | i19 => o = Out.normal ∧ Sub s ⟨[(0, .c (.op 0 0)), (1, .c (.d (.lit (.int .i64 i2)))), (4, .c (.d (.lit (.int .i64 i19)))), (5, .c (.d (.lit (.int .i64 i9))))], [(0, some (.box [slC 1 cS 1 s1])), (1, slO 1 cS s1)], 2, [.op 0 0]⟩) i19) ?_ ?_
          · intro o s hs30
            obtain ⟨rfl, hs30⟩ := hs30
            refine after_n ?_
            refine W.sub hs30 ?_
            refine w_region ?_
            refine o1 rfl ?_
            refine o1 (v := .c (.d (.lit (.int .i64 (wr .i64 (i9 + 1)))))) rfl ?_
            refine o1 rfl ?_
            refine o_end (e' := [(0, .c (.op 0 0)), (1, .c (.d (.lit (.int .i64 i2)))), (4, .c (.d (.lit (.int .i64 i19)))), (5, .c (.d (.lit (.int .i64 (wr .i64 (i9 + 1))))))]) rfl rfl ?_
            obtain rfl := Option.some.inj hr
            exact And.intro rfl (by rcases s1 with _ | _ <;> first | (exact sub_ren [0, 9001] [0, 1, 4, 5] (by decide) rfl (.cons (.skip .nil)) (Nat.le_of_ble_eq_true rfl)) | (exact sub_ren [0, 1] [0, 1, 4, 5] (by decide) rfl (.cons (.cons .nil)) (Nat.le_of_ble_eq_true rfl)))
          · refine w_block ?_
            refine w_seq ?_
            obtain ⟨n22, h23, h20⟩ := bnd h20
            obtain ⟨n24, h25, h20⟩ := bnd h20
            obtain ⟨r26, h27, h20⟩ := bnd h20
            refine w_join (J := fun s => Sub s ⟨[(0, .c (.op 0 0)), (1, .c (.d (.lit (.int .i64 i2)))), (4, .c (.d (.lit (.int .i64 i8)))), (5, .c (.d (.lit (.int .i64 i9)))), (40, .c (.d (.lit (.bool r26))))], [(0, some (.box [slC 1 cS 1 s1])), (1, slO 1 cS s1)], 2, [.op 0 0]⟩) ?_ ?_
            · rcases s1 with _ | s1'
              · try dsimp only [slC, slO]
                refine w_drawn ?_
                iterate 5 refine d1 rfl ?_
                exact ix_nil h23
              · try dsimp only [slC, slO]
                refine w_drawn ?_
                iterate 5 refine d1 rfl ?_
                refine d1 (ix_o h23) ?_
                refine d1 (ld_row rfl (ixI_some.1 h23).2 rfl) ?_
                iterate 5 refine d1 rfl ?_
                refine d1 (ix_o h25) ?_
                refine d1 (ld_row rfl (ixI_some.1 h25).2 rfl) ?_
                refine dc (rs := [.c (.d (.lit (.bool r26)))]) (outs := []) rfl (cmp_Less_string_ok h27) rfl (Nat.le_of_ble_eq_true rfl) ?_
                exact d_join rfl (sub_ren [0, 1] [0, 1, 4, 5, 40] (by decide) rfl (.cons (.cons .nil)) (Nat.le_of_ble_eq_true rfl))
            · intro s hs28
              refine after_n ?_
              refine W.sub hs28 ?_
              refine w_cond (t := r26) rfl (fun hb29 => ?_) (fun hb29 => ?_)
              · have h20 := cnd_t hb29 h20
                refine w_region ?_
                iterate 2 refine o1 rfl ?_
                refine o_end (e' := [(0, .c (.op 0 0)), (1, .c (.d (.lit (.int .i64 i2)))), (4, .c (.d (.lit (.int .i64 i9)))), (5, .c (.d (.lit (.int .i64 i9))))]) rfl rfl ?_
                refine out_n ?_
                obtain rfl := Option.some.inj h20
                exact And.intro rfl (by rcases s1 with _ | _ <;> first | (exact sub_ren [0, 9001] [0, 1, 4, 5] (by decide) rfl (.cons (.skip .nil)) (Nat.le_of_ble_eq_true rfl)) | (exact sub_ren [0, 1] [0, 1, 4, 5] (by decide) rfl (.cons (.cons .nil)) (Nat.le_of_ble_eq_true rfl)))
              · have h20 := cnd_f hb29 h20
                refine w_skip ?_
                refine out_n ?_
                obtain rfl := Option.some.inj h20
                exact And.intro rfl (by rcases s1 with _ | _ <;> first | (exact sub_ren [0, 9001] [0, 1, 4, 5] (by decide) rfl (.cons (.skip .nil)) (Nat.le_of_ble_eq_true rfl)) | (exact sub_ren [0, 1] [0, 1, 4, 5] (by decide) rfl (.cons (.cons .nil)) (Nat.le_of_ble_eq_true rfl)))
        · have hr := cnd_f hb18 hr
          refine w_exit ?_
          refine after_e ?_
          obtain rfl := Option.some.inj hr
          exact And.intro nofun (And.intro rfl (by rcases s1 with _ | _ <;> first | (exact sub_ren [0, 9001] [0, 1, 4] (by decide) rfl (.cons (.skip .nil)) (Nat.le_of_ble_eq_true rfl)) | (exact sub_ren [0, 1] [0, 1, 4] (by decide) rfl (.cons (.cons .nil)) (Nat.le_of_ble_eq_true rfl))))

/- (*turnout/heap.Queue[string]).take -/
def k32 : CC :=
  (.seq
  (.region [
    ⟨some 5, .mv, [(.tmp 0)], none⟩,
    ⟨some 6, .nilCheck, [(.tmp 5)], none⟩,
    ⟨some 7, (.fieldAddr 0), [(.tmp 6)], none⟩,
    ⟨some 8, (.load false 1), [(.tmp 7)], none⟩,
    ⟨some 9, (.len false), [(.tmp 8)], none⟩,
    ⟨some 10, (.bin .sub), [(.tmp 9), (.const (.int .i64 1))], none⟩,
    ⟨some 4, .mv, [(.tmp 10)], none⟩] [0, 1, 4])
  (.seq
  (.drawn [
    ⟨some 11, .mv, [(.tmp 0)], none⟩,
    ⟨some 12, .nilCheck, [(.tmp 11)], none⟩,
    ⟨some 13, (.fieldAddr 0), [(.tmp 12)], none⟩,
    ⟨some 14, (.load false 1), [(.tmp 13)], none⟩,
    ⟨some 15, .mv, [(.tmp 1)], none⟩,
    ⟨some 16, .mv, [(.tmp 0)], none⟩,
    ⟨some 17, .nilCheck, [(.tmp 16)], none⟩,
    ⟨some 18, (.fieldAddr 0), [(.tmp 17)], none⟩,
    ⟨some 19, (.load false 1), [(.tmp 18)], none⟩,
    ⟨some 20, .mv, [(.tmp 4)], none⟩,
    ⟨some 21, (.indexAddr none 1), [(.tmp 19), (.tmp 20)], none⟩,
    ⟨some 22, (.load false 1), [(.tmp 21)], none⟩,
    ⟨some 23, (.indexAddr none 1), [(.tmp 14), (.tmp 15)], none⟩,
    ⟨none, (.store 1), [(.tmp 23), (.tmp 22)], none⟩] [] [0, 1, 4])
  (.seq
  (.region [
    ⟨some 24, .mv, [(.tmp 0)], none⟩,
    ⟨some 25, .mv, [(.tmp 0)], none⟩,
    ⟨some 26, .nilCheck, [(.tmp 25)], none⟩,
    ⟨some 27, (.fieldAddr 0), [(.tmp 26)], none⟩,
    ⟨some 28, (.load false 1), [(.tmp 27)], none⟩,
    ⟨some 29, .mv, [(.tmp 4)], none⟩,
    ⟨some 30, (.slice false 1 false true), [(.tmp 28), (.tmp 29)], none⟩,
    ⟨some 31, .nilCheck, [(.tmp 24)], none⟩,
    ⟨some 32, (.fieldAddr 0), [(.tmp 31)], none⟩,
    ⟨none, (.store 1), [(.tmp 32), (.tmp 30)], none⟩] [0, 1, 4])
  (.seq
  (.region [
    ⟨some 33, .mv, [(.tmp 1)], none⟩,
    ⟨some 34, .mv, [(.tmp 4)], none⟩,
    ⟨some 35, (.bin .lss), [(.tmp 33), (.tmp 34)], none⟩] [0, 1, 35])
  (.cond (.tmp 35)
    (.seq
    (.region [
      ⟨some 36, .mv, [(.tmp 0)], none⟩,
      ⟨some 37, .mv, [(.tmp 1)], none⟩,
      ⟨some 38, (.call false [true, false]), [(.func 29), (.tmp 36), (.tmp 37)], none⟩] [0, 1])
    (.region [
      ⟨some 39, .mv, [(.tmp 0)], none⟩,
      ⟨some 40, .mv, [(.tmp 1)], none⟩,
      ⟨some 41, (.call false [true, false]), [(.func 37), (.tmp 39), (.tmp 40)], none⟩] []))
    .skip)))))
def f32 : Ev.Fn := ⟨2, 42, [], k32⟩
set_option maxRecDepth 100000 in
theorem e32 : compFn prog sig 32 2 [[0, 1, 4], [0, 1, 4], [0, 1, 4], [0, 1, 35], [0, 1], []] = some f32 := by kernel_rfl
noncomputable def heap_Queue_string_take (q0 : heap_Queue_string) (i1 : Int) : Option (heap_Queue_string) :=
  match q0 with | ⟨q0_l⟩ => ((ixI (wr .i64 ((q0_l.l.length : Int) - 1)) q0_l.l.length).bind fun n1 =>
  (ixI i1 q0_l.l.length).bind fun n3 =>
  (cutI (q0_l.l.set n3 (gt q0_l.l n1)) 0 (wr .i64 ((q0_l.l.length : Int) - 1))).bind fun l6 =>
  bif decide (i1 < (wr .i64 ((q0_l.l.length : Int) - 1))) then ((heap_Queue_string_up (⟨(Sl.mk l6)⟩ : heap_Queue_string) i1).bind fun ⟨q9_l⟩ =>
  (heap_Queue_string_down (⟨q9_l⟩ : heap_Queue_string) i1).bind fun ⟨q12_l⟩ =>
  some (⟨q12_l⟩ : heap_Queue_string)) else
  (some (⟨(Sl.mk l6)⟩ : heap_Queue_string)))
theorem heap_Queue_string_take_ok {q0 : heap_Queue_string} {i1 : Int} {z : heap_Queue_string} (hp : heap_Queue_string_take q0 i1 = some z) : Good prog 32 [.mt (.pt [slT 1 cS q0.l]), .d (.lit (.int .i64 i1))] [] [.pt [slT 1 cS z.l]] := by
  obtain ⟨q0_l⟩ := q0
  unfold heap_Queue_string_take at hp
  refine fn_good mixed e32 (fnS (m := []) (s := ⟨[(0, .c (.op 0 0)), (1, .c (.d (.lit (.int .i64 i1))))], [(0, some (.box [slC 1 cS 1 q0_l])), (1, slO 1 cS q0_l)], 2, [.op 0 0]⟩) (len := 1) (c := k32) rfl (by rcases q0_l with _ | _ <;> first | (exact sub_ren [0, 9001] [0, 1] (by decide) rfl (.cons (.skip .nil)) (Nat.le_of_ble_eq_true rfl)) | (exact sub_ren [0, 1] [0, 1] (by decide) rfl (.cons (.cons .nil)) (Nat.le_of_ble_eq_true rfl))) rfl rfl ?_)
  refine w_seq ?_
  refine w_region ?_
  iterate 4 refine o1 rfl ?_
  refine o1 (v := .c (.d (.lit (.int .i64 (q0_l.l.length : Int))))) len_c ?_
  refine o1 (v := .c (.d (.lit (.int .i64 (wr .i64 ((q0_l.l.length : Int) - 1)))))) rfl ?_
  refine o1 rfl ?_
  refine o_end (e' := [(0, .c (.op 0 0)), (1, .c (.d (.lit (.int .i64 i1)))), (4, .c (.d (.lit (.int .i64 (wr .i64 ((q0_l.l.length : Int) - 1))))))]) rfl rfl ?_
  refine after_n ?_
  refine w_seq ?_
  obtain ⟨n1, h2, hp⟩ := bnd hp
  obtain ⟨n3, h4, hp⟩ := bnd hp
  refine w_join (J := fun s => Sub s ⟨[(0, .c (.op 0 0)), (1, .c (.d (.lit (.int .i64 i1)))), (4, .c (.d (.lit (.int .i64 (wr .i64 ((q0_l.l.length : Int) - 1))))))], [(0, some (.box [slC 1 cS 1 (Sl.mk (q0_l.l.set n3 (gt q0_l.l n1)))])), (1, slO 1 cS (Sl.mk (q0_l.l.set n3 (gt q0_l.l n1))))], 2, [.op 0 0]⟩) ?_ ?_
  · rcases q0_l with _ | q0_l'
    · try dsimp only [slC, slO]
      refine w_drawn ?_
      iterate 10 refine d1 rfl ?_
      exact ix_nil h2
    · try dsimp only [slC, slO]
      refine w_drawn ?_
      iterate 10 refine d1 rfl ?_
      refine d1 (ix_o h2) ?_
      refine d1 (ld_row rfl (ixI_some.1 h2).2 rfl) ?_
      refine d1 (ix_o h4) ?_
      refine d0 (st_row (y := gt q0_l' n1) rfl (ixI_some.1 h4).2 rfl rfl rfl (Nat.le_of_ble_eq_true rfl) rfl) (Nat.le_of_ble_eq_true rfl) ?_
      rw [len_set q0_l' cS n3 (gt q0_l' n1)]
      exact d_join rfl (sub_ren [0, 1] [0, 1, 4] (by decide) rfl (.cons (.cons .nil)) (Nat.le_of_ble_eq_true rfl))
  · intro s hs5
    refine after_n ?_
    refine W.sub hs5 ?_
    refine w_seq ?_
    obtain ⟨l6, h7, hp⟩ := bnd hp
    refine w_region ?_
    iterate 6 refine o1 rfl ?_
    refine o1 (cut_oft h7) ?_
    iterate 2 refine o1 rfl ?_
    refine o0 rfl ?_
    refine o_end (e' := [(0, .c (.op 0 0)), (1, .c (.d (.lit (.int .i64 i1)))), (4, .c (.d (.lit (.int .i64 (wr .i64 ((q0_l.l.length : Int) - 1))))))]) rfl rfl ?_
    refine after_n ?_
    refine w_seq ?_
    refine w_region ?_
    iterate 2 refine o1 rfl ?_
    refine o1 (v := .c (.d (.lit (.bool (decide (i1 < (wr .i64 ((q0_l.l.length : Int) - 1)))))))) rfl ?_
    refine o_end (e' := [(0, .c (.op 0 0)), (1, .c (.d (.lit (.int .i64 i1)))), (35, .c (.d (.lit (.bool (decide (i1 < (wr .i64 ((q0_l.l.length : Int) - 1))))))))]) rfl rfl ?_
    refine after_n ?_
    refine w_cond (t := decide (i1 < (wr .i64 ((q0_l.l.length : Int) - 1)))) rfl (fun hb8 => ?_) (fun hb8 => ?_)
    · have hp := cnd_t hb8 hp
      refine w_seq ?_
      obtain ⟨⟨q9_l⟩, h10, hp⟩ := bnd hp
      refine w_join (J := fun s => Sub s ⟨[(0, .c (.op 0 0)), (1, .c (.d (.lit (.int .i64 i1))))], [(0, some (.box [slC 1 cS 1 q9_l])), (1, slO 1 cS q9_l)], 2, [.op 0 0]⟩) ?_ ?_
      · rcases q9_l with _ | q9_l'
        · try dsimp only [slC, slO]
          refine w_region ?_
          iterate 2 refine o1 rfl ?_
          refine oc' (rs := []) (outs := [.pt [.d (.lit (.slice none 0 0))]]) (call_at rfl rfl (ea_mt (p_op rfl (pl_cons (p_s rfl h7) pl_nil)) rfl (ea_c rfl rfl ea_nil)) (wh_op wh_nil) rfl rfl) (heap_Queue_string_up_ok h10) ?_
          exact o_join (sub_ren [0, 9001] [0, 1] (by decide) rfl (.cons (.skip .nil)) (Nat.le_of_ble_eq_true rfl))
        · try dsimp only [slC, slO]
          refine w_region ?_
          iterate 2 refine o1 rfl ?_
          refine oc' (rs := []) (outs := [.pt [slT 1 cS (Sl.mk q9_l')]]) (call_at rfl rfl (ea_mt (p_op rfl (pl_cons (p_s rfl h7) pl_nil)) rfl (ea_c rfl rfl ea_nil)) (wh_op wh_nil) rfl rfl) (heap_Queue_string_up_ok h10) ?_
          exact o_join (sub_ren [0, 2] [0, 1] (by decide) rfl (.cons (.cons .nil)) (Nat.le_of_ble_eq_true rfl))
      · intro s hs11
        refine after_n ?_
        refine W.sub hs11 ?_
        obtain ⟨⟨q12_l⟩, h13, hp⟩ := bnd hp
        refine w_join (J := fun s => Sub s ⟨[], [(0, some (.box [slC 1 cS 1 q12_l])), (1, slO 1 cS q12_l)], 2, [.op 0 0]⟩) ?_ ?_
        · rcases q12_l with _ | q12_l' <;> rcases q9_l with _ | q9_l'
          · try dsimp only [slC, slO]
            refine w_region ?_
            iterate 2 refine o1 rfl ?_
            refine oc (rs := []) (outs := [.pt [.d (.lit (.slice none 0 0))]]) rfl (heap_Queue_string_down_ok h13) rfl ?_
            exact o_join (sub_ren [0, 9001] [] (by decide) rfl (.cons (.skip .nil)) (Nat.le_of_ble_eq_true rfl))
          · try dsimp only [slC, slO]
            refine w_region ?_
            iterate 2 refine o1 rfl ?_
            refine oc' (rs := []) (outs := [.pt [.d (.lit (.slice none 0 0))]]) (call_at rfl rfl (ea_mt (p_op rfl (pl_cons (p_o rfl) pl_nil)) rfl (ea_c rfl rfl ea_nil)) (wh_op wh_nil) rfl rfl) (heap_Queue_string_down_ok h13) ?_
            exact o_join (sub_ren [0, 9001] [] (by decide) rfl (.cons (.skip .nil)) (Nat.le_of_ble_eq_true rfl))
          · try dsimp only [slC, slO]
            refine w_region ?_
            iterate 2 refine o1 rfl ?_
            refine oc (rs := []) (outs := [.pt [slT 1 cS (Sl.mk q12_l')]]) rfl (heap_Queue_string_down_ok h13) rfl ?_
            exact o_join (sub_ren [0, 2] [] (by decide) rfl (.cons (.cons .nil)) (Nat.le_of_ble_eq_true rfl))
          · try dsimp only [slC, slO]
            refine w_region ?_
            iterate 2 refine o1 rfl ?_
            refine oc' (rs := []) (outs := [.pt [slT 1 cS (Sl.mk q12_l')]]) (call_at rfl rfl (ea_mt (p_op rfl (pl_cons (p_o rfl) pl_nil)) rfl (ea_c rfl rfl ea_nil)) (wh_op wh_nil) rfl rfl) (heap_Queue_string_down_ok h13) ?_
            exact o_join (sub_ren [0, 2] [] (by decide) rfl (.cons (.cons .nil)) (Nat.le_of_ble_eq_true rfl))
        · intro s hs14
          obtain rfl := Option.some.inj hp
          refine wk.sub hs14 ?_
          rcases q12_l with _ | q12_l'
          · exact leave_at rfl rfl pr_nil (pc_cons (p_op rfl (pl_cons p_d pl_nil)) pc_nil) rfl rfl
          · exact leave_at rfl rfl pr_nil (pc_cons (p_op rfl (pl_cons (p_o rfl) pl_nil)) pc_nil) rfl rfl
    · have hp := cnd_f hb8 hp
      refine w_skip ?_
      obtain rfl := Option.some.inj hp
      exact leave_at rfl rfl pr_nil (pc_cons (p_op rfl (pl_cons (p_s rfl h7) pl_nil)) pc_nil) rfl rfl

/- (*turnout/heap.Queue[string]).Drain -/
def k21 : CC :=
  (.seq
  (.region [
    ⟨some 4, .mv, [(.const (.slice none 0 0))], none⟩] [0, 1])
  (.seq
  (.region [
    ⟨some 5, .mv, [(.const (.slice none 0 0))], none⟩] [0, 1, 5])
  (.block 0
    (.loop [0, 1, 5]
      (.block 1
        (.seq
        (.region [
          ⟨some 9, .mv, [(.tmp 0)], none⟩,
          ⟨some 10, (.call true []), [(.func 30), (.tmp 9)], none⟩,
          ⟨some 8, .mv, [(.tmp 10)], none⟩,
          ⟨some 11, (.extract 0), [(.tmp 8)], none⟩,
          ⟨some 12, (.extract 1), [(.tmp 8)], none⟩,
          ⟨some 6, .mv, [(.tmp 11)], none⟩,
          ⟨some 7, .mv, [(.tmp 12)], none⟩] [0, 1, 5, 6, 7])
        (.seq
        (.seq
        (.region [
          ⟨some 13, .mv, [(.tmp 7)], none⟩,
          ⟨some 14, (.un .not), [(.tmp 13)], none⟩,
          ⟨some 15, .mv, [(.tmp 14)], none⟩,
          ⟨some 16, .mv, [(.tmp 1)], (some (15, false))⟩,
          ⟨some 17, .mv, [(.tmp 6)], (some (15, false))⟩,
          ⟨some 18, (.call true []), [(.func 31), (.tmp 16), (.tmp 17)], (some (15, false))⟩,
          ⟨some 19, .pick, [(.tmp 15), (.const (.bool true)), (.tmp 18)], none⟩] [0, 1, 5, 6, 19])
        (.cond (.tmp 19)
          (.seq
          (.region [
            ⟨some 20, .mv, [(.tmp 5)], none⟩,
            ⟨some 4, .mv, [(.tmp 20)], none⟩] [4])
          .ret)
          .skip))
        (.seq
        (.region [
          ⟨some 21, .mv, [(.tmp 0)], none⟩,
          ⟨some 22, (.call false [true, false]), [(.func 32), (.tmp 21), (.const (.int .i64 0))], none⟩] [0, 1, 5, 6])
        (.region [
          ⟨some 23, .mv, [(.tmp 5)], none⟩,
          ⟨some 24, .mv, [(.tmp 6)], none⟩,
          ⟨some 25, (.buildSlice 1 1 [(.string ⟨#[]⟩)] [0]), [(.tmp 24)], none⟩,
          ⟨some 26, (.append 1), [(.tmp 23), (.tmp 25)], none⟩,
          ⟨some 5, .mv, [(.tmp 26)], none⟩] [0, 1, 5])))))))))
def f21 : Ev.Fn := ⟨2, 27, [.tmp 4], k21⟩
set_option maxRecDepth 100000 in
theorem e21 : compFn prog sig 21 2 [[0, 1], [0, 1, 5], [0, 1, 5], [0, 1, 5, 6, 7], [0, 1, 5, 6, 19], [4], [0, 1, 5, 6], [0, 1, 5]] = some f21 := by kernel_rfl
noncomputable def heap_Queue_string_Drain_L1 (most1 : ByteArray) : (Sl ByteArray × Sl ByteArray) → Option (Sum ((Sl ByteArray × Sl ByteArray)) ((Sl ByteArray × Sl ByteArray))) := fun (s1, s2) =>
  (heap_Queue_string_Peek (⟨s1⟩ : heap_Queue_string)).bind fun (r9, r10) =>
  (bif (!r10) then (some true) else ((cmp_Less_string most1 r9).bind fun r13 =>
  some r13)).bind fun b15 =>
  bif b15 then (some (.inr (s1, s2))) else
  ((heap_Queue_string_take (⟨s1⟩ : heap_Queue_string) 0).bind fun ⟨q20_l⟩ =>
  (capI (s2.l ++ [r9])).bind fun l23 =>
  some (.inl (q20_l, (Sl.mk l23))))

noncomputable def heap_Queue_string_Drain (q0 : heap_Queue_string) (most1 : ByteArray) : Option ((Sl ByteArray × heap_Queue_string)) :=
  match q0 with | ⟨q0_l⟩ => ((loopO (heap_Queue_string_Drain_L1 most1) (q0_l, Sl.nil)).bind fun (s5, s6) =>
  some (s6, (⟨s5⟩ : heap_Queue_string)))
theorem heap_Queue_string_Drain_ok {q0 : heap_Queue_string} {most1 : ByteArray} {z : (Sl ByteArray × heap_Queue_string)} (hp : heap_Queue_string_Drain q0 most1 = some z) : Good prog 21 [.mt (.pt [slT 1 cS q0.l]), .d (.lit (.string most1))] [.c (.d (slD 1 cS z.1))] [.pt [slT 1 cS z.2.l]] := by
  obtain ⟨q0_l⟩ := q0
  unfold heap_Queue_string_Drain at hp
  refine fn_good mixed e21 (fnS (m := [true]) (s := ⟨[(0, .c (.op 0 0)), (1, .c (.d (.lit (.string most1))))], [(0, some (.box [slC 1 cS 1 q0_l])), (1, slO 1 cS q0_l)], 2, [.op 0 0]⟩) (len := 1) (c := k21) rfl (by rcases q0_l with _ | _ <;> first | (exact sub_ren [0, 9001] [0, 1] (by decide) rfl (.cons (.skip .nil)) (Nat.le_of_ble_eq_true rfl)) | (exact sub_ren [0, 1] [0, 1] (by decide) rfl (.cons (.cons .nil)) (Nat.le_of_ble_eq_true rfl))) rfl rfl ?_)
  refine w_seq ?_
  refine w_region ?_
  refine o1 rfl ?_
  refine o_end (e' := [(0, .c (.op 0 0)), (1, .c (.d (.lit (.string most1))))]) rfl rfl ?_
  refine after_n ?_
  refine w_seq ?_
  refine w_region ?_
  refine o1 rfl ?_
  refine o_end (e' := [(0, .c (.op 0 0)), (1, .c (.d (.lit (.string most1)))), (5, .c (.d (.lit (.slice none 0 0))))]) rfl rfl ?_
  refine after_n ?_
  refine w_block ?_
  obtain ⟨x7, h8, hp⟩ := bnd hp
  refine W.mono ?_ (w_loopS (st := fun (v : (Sl ByteArray × Sl ByteArray)) => match v with | (s1, s2) => ⟨[(0, .c (.op 0 0)), (1, .c (.d (.lit (.string most1)))), (5, .c (slC 1 cS 2 s2))], [(0, some (.box [slC 1 cS 1 s1])), (1, slO 1 cS s1), (2, slO 1 cS s2)], 3, [.op 0 0]⟩) (a := (q0_l, Sl.nil)) (Q := Jn (fun (x : (Sl ByteArray × Sl ByteArray)) o s => match x with | (s5, s6) => o = Out.ret ∧ Sub s ⟨[(4, .c (slC 1 cS 2 s6))], [(0, some (.box [slC 1 cS 1 s5])), (1, slO 1 cS s5), (2, slO 1 cS s6)], 3, [.op 0 0]⟩)) ?_ h8 ?_)
  · intro o s hs26
    obtain ⟨s5, s6⟩ := x7
    obtain ⟨rfl, hs26⟩ := hs26
    refine out_r ?_
    obtain rfl := Option.some.inj hp
    refine wk.sub hs26 ?_
    rcases s6 with _ | s6' <;> rcases s5 with _ | s5'
    · exact leave_at rfl rfl (pr_c p_d pr_nil) (pc_cons (p_op rfl (pl_cons p_d pl_nil)) pc_nil) rfl rfl
    · exact leave_at rfl rfl (pr_c p_d pr_nil) (pc_cons (p_op rfl (pl_cons (p_o rfl) pl_nil)) pc_nil) rfl rfl
    · exact leave_at rfl rfl (pr_c (p_o rfl) pr_nil) (pc_cons (p_op rfl (pl_cons p_d pl_nil)) pc_nil) rfl rfl
    · exact leave_at rfl rfl (pr_c (p_o rfl) pr_nil) (pc_cons (p_op rfl (pl_cons (p_o rfl) pl_nil)) pc_nil) rfl rfl
  · exact (by rcases q0_l with _ | _ <;> first | (exact sub_ren [0, 9001, 9002] [0, 1, 5] (by decide) rfl (.cons (.skip (.skip .nil))) (Nat.le_of_ble_eq_true rfl)) | (exact sub_ren [0, 1, 9002] [0, 1, 5] (by decide) rfl (.cons (.cons (.skip .nil))) (Nat.le_of_ble_eq_true rfl)))
  · rintro ⟨s1, s2⟩ r hr
    unfold heap_Queue_string_Drain_L1 at hr
    refine w_block ?_
    refine w_seq ?_
    obtain ⟨⟨r9, r10⟩, h11, hr⟩ := bnd hr
    refine w_join (J := fun s => Sub s ⟨[(0, .c (.op 0 0)), (1, .c (.d (.lit (.string most1)))), (5, .c (slC 1 cS 2 s2)), (6, .c (.d (.lit (.string r9)))), (7, .c (.d (.lit (.bool r10))))], [(0, some (.box [slC 1 cS 1 s1])), (1, slO 1 cS s1), (2, slO 1 cS s2)], 3, [.op 0 0]⟩) ?_ ?_
    · rcases s1 with _ | s1'
      · try dsimp only [slC, slO]
        refine w_region ?_
        refine o1 rfl ?_
        refine oc (rs := [.c (.d (.lit (.string r9))), .c (.d (.lit (.bool r10)))]) (outs := []) rfl (heap_Queue_string_Peek_ok h11) rfl ?_
        iterate 5 refine o1 rfl ?_
        exact o_join (by rcases s2 with _ | _ <;> first | (exact sub_ren [0, 9001, 9002] [0, 1, 5, 6, 7] (by decide) rfl (.cons (.skip (.skip .nil))) (Nat.le_of_ble_eq_true rfl)) | (exact sub_ren [0, 9001, 2] [0, 1, 5, 6, 7] (by decide) rfl (.cons (.skip (.cons .nil))) (Nat.le_of_ble_eq_true rfl)))
      · try dsimp only [slC, slO]
        refine w_region ?_
        refine o1 rfl ?_
        refine oc' (rs := [.c (.d (.lit (.string r9))), .c (.d (.lit (.bool r10)))]) (outs := []) (call_at rfl rfl (ea_c (v_op rfl (vl_cons (v_o rfl) vl_nil)) rfl ea_nil) wh_nil rfl rfl) (heap_Queue_string_Peek_ok h11) ?_
        iterate 5 refine o1 rfl ?_
        exact o_join (by rcases s2 with _ | _ <;> first | (exact sub_ren [0, 1, 9002] [0, 1, 5, 6, 7] (by decide) rfl (.cons (.cons (.skip .nil))) (Nat.le_of_ble_eq_true rfl)) | (exact sub_ren [0, 1, 2] [0, 1, 5, 6, 7] (by decide) rfl (.cons (.cons (.cons .nil))) (Nat.le_of_ble_eq_true rfl)))
    · intro s hs12
      refine after_n ?_
      refine W.sub hs12 ?_
      refine w_seq ?_
      refine w_seq ?_
      obtain ⟨b15, h16, hr⟩ := bnd hr
      refine w_join (J := fun s => Sub s ⟨[(0, .c (.op 0 0)), (1, .c (.d (.lit (.string most1)))), (5, .c (slC 1 cS 2 s2)), (6, .c (.d (.lit (.string r9)))), (19, .c (.d (.lit (.bool b15))))], [(0, some (.box [slC 1 cS 1 s1])), (1, slO 1 cS s1), (2, slO 1 cS s2)], 3, [.op 0 0]⟩) ?_ ?_
      · refine w_region ?_
        refine o1 rfl ?_
        refine o1 (v := .c (.d (.lit (.bool (!r10))))) rfl ?_
        refine o1 rfl ?_
        cases hb17 : ((!r10) : Bool)
        · have h16 := cnd_f hb17 h16
          obtain ⟨r13, h14, h16⟩ := bnd h16
          iterate 2 refine og rfl rfl rfl ?_
          refine ocg (rs := [.c (.d (.lit (.bool r13)))]) (outs := []) rfl rfl rfl (cmp_Less_string_ok h14) rfl ?_
          refine o1 rfl ?_
          cases h16
          exact o_join (by rcases s1 with _ | _ <;> rcases s2 with _ | _ <;> first | (exact sub_ren [0, 9001, 9002] [0, 1, 5, 6, 19] (by decide) rfl (.cons (.skip (.skip .nil))) (Nat.le_of_ble_eq_true rfl)) | (exact sub_ren [0, 9001, 2] [0, 1, 5, 6, 19] (by decide) rfl (.cons (.skip (.cons .nil))) (Nat.le_of_ble_eq_true rfl)) | (exact sub_ren [0, 1, 9002] [0, 1, 5, 6, 19] (by decide) rfl (.cons (.cons (.skip .nil))) (Nat.le_of_ble_eq_true rfl)) | (exact sub_ren [0, 1, 2] [0, 1, 5, 6, 19] (by decide) rfl (.cons (.cons (.cons .nil))) (Nat.le_of_ble_eq_true rfl)))
        · have h16 := cnd_t hb17 h16
          iterate 3 refine onot rfl rfl ?_
          refine o1 rfl ?_
          cases h16
          exact o_join (by rcases s1 with _ | _ <;> rcases s2 with _ | _ <;> first | (exact sub_ren [0, 9001, 9002] [0, 1, 5, 6, 19] (by decide) rfl (.cons (.skip (.skip .nil))) (Nat.le_of_ble_eq_true rfl)) | (exact sub_ren [0, 9001, 2] [0, 1, 5, 6, 19] (by decide) rfl (.cons (.skip (.cons .nil))) (Nat.le_of_ble_eq_true rfl)) | (exact sub_ren [0, 1, 9002] [0, 1, 5, 6, 19] (by decide) rfl (.cons (.cons (.skip .nil))) (Nat.le_of_ble_eq_true rfl)) | (exact sub_ren [0, 1, 2] [0, 1, 5, 6, 19] (by decide) rfl (.cons (.cons (.cons .nil))) (Nat.le_of_ble_eq_true rfl)))
      · intro s hs18
        refine after_n ?_
        refine W.sub hs18 ?_
        refine w_cond (t := b15) rfl (fun hb19 => ?_) (fun hb19 => ?_)
        · have hr := cnd_t hb19 hr
          refine w_seq ?_
          refine w_region ?_
          iterate 2 refine o1 rfl ?_
          refine o_end (e' := [(4, .c (slC 1 cS 2 s2))]) rfl rfl ?_
          refine after_n ?_
          refine w_ret ?_
          refine after_r ?_
          refine out_r ?_
          obtain rfl := Option.some.inj hr
          exact And.intro nofun (And.intro rfl (by rcases s1 with _ | _ <;> rcases s2 with _ | _ <;> first | (exact sub_ren [0, 9001, 9002] [4] (by decide) rfl (.cons (.skip (.skip .nil))) (Nat.le_of_ble_eq_true rfl)) | (exact sub_ren [0, 9001, 2] [4] (by decide) rfl (.cons (.skip (.cons .nil))) (Nat.le_of_ble_eq_true rfl)) | (exact sub_ren [0, 1, 9002] [4] (by decide) rfl (.cons (.cons (.skip .nil))) (Nat.le_of_ble_eq_true rfl)) | (exact sub_ren [0, 1, 2] [4] (by decide) rfl (.cons (.cons (.cons .nil))) (Nat.le_of_ble_eq_true rfl))))
        · have hr := cnd_f hb19 hr
          refine w_skip ?_
          refine after_n ?_
          refine w_seq ?_
          obtain ⟨⟨q20_l⟩, h21, hr⟩ := bnd hr
          refine w_join (J := fun s => Sub s ⟨[(0, .c (.op 0 0)), (1, .c (.d (.lit (.string most1)))), (5, .c (slC 1 cS 2 s2)), (6, .c (.d (.lit (.string r9))))], [(0, some (.box [slC 1 cS 1 q20_l])), (1, slO 1 cS q20_l), (2, slO 1 cS s2)], 3, [.op 0 0]⟩) ?_ ?_
          · rcases q20_l with _ | q20_l' <;> rcases s1 with _ | s1'
            · try dsimp only [slC, slO]
              refine w_region ?_
              refine o1 rfl ?_
              refine oc (rs := []) (outs := [.pt [.d (.lit (.slice none 0 0))]]) rfl (heap_Queue_string_take_ok h21) rfl ?_
              exact o_join (by rcases s2 with _ | _ <;> first | (exact sub_ren [0, 9001, 9002] [0, 1, 5, 6] (by decide) rfl (.cons (.skip (.skip .nil))) (Nat.le_of_ble_eq_true rfl)) | (exact sub_ren [0, 9001, 2] [0, 1, 5, 6] (by decide) rfl (.cons (.skip (.cons .nil))) (Nat.le_of_ble_eq_true rfl)))
            · try dsimp only [slC, slO]
              refine w_region ?_
              refine o1 rfl ?_
              refine oc' (rs := []) (outs := [.pt [.d (.lit (.slice none 0 0))]]) (call_at rfl rfl (ea_mt (p_op rfl (pl_cons (p_o rfl) pl_nil)) rfl (ea_c rfl rfl ea_nil)) (wh_op wh_nil) rfl rfl) (heap_Queue_string_take_ok h21) ?_
              exact o_join (by rcases s2 with _ | _ <;> first | (exact sub_ren [0, 9001, 9002] [0, 1, 5, 6] (by decide) rfl (.cons (.skip (.skip .nil))) (Nat.le_of_ble_eq_true rfl)) | (exact sub_ren [0, 9001, 2] [0, 1, 5, 6] (by decide) rfl (.cons (.skip (.cons .nil))) (Nat.le_of_ble_eq_true rfl)))
            · try dsimp only [slC, slO]
              refine w_region ?_
              refine o1 rfl ?_
              refine oc (rs := []) (outs := [.pt [slT 1 cS (Sl.mk q20_l')]]) rfl (heap_Queue_string_take_ok h21) rfl ?_
              exact o_join (by rcases s2 with _ | _ <;> first | (exact sub_ren [0, 3, 9002] [0, 1, 5, 6] (by decide) rfl (.cons (.cons (.skip .nil))) (Nat.le_of_ble_eq_true rfl)) | (exact sub_ren [0, 3, 2] [0, 1, 5, 6] (by decide) rfl (.cons (.cons (.cons .nil))) (Nat.le_of_ble_eq_true rfl)))
            · try dsimp only [slC, slO]
              refine w_region ?_
              refine o1 rfl ?_
              refine oc' (rs := []) (outs := [.pt [slT 1 cS (Sl.mk q20_l')]]) (call_at rfl rfl (ea_mt (p_op rfl (pl_cons (p_o rfl) pl_nil)) rfl (ea_c rfl rfl ea_nil)) (wh_op wh_nil) rfl rfl) (heap_Queue_string_take_ok h21) ?_
              exact o_join (by rcases s2 with _ | _ <;> first | (exact sub_ren [0, 3, 9002] [0, 1, 5, 6] (by decide) rfl (.cons (.cons (.skip .nil))) (Nat.le_of_ble_eq_true rfl)) | (exact sub_ren [0, 3, 2] [0, 1, 5, 6] (by decide) rfl (.cons (.cons (.cons .nil))) (Nat.le_of_ble_eq_true rfl)))
          · intro s hs22
            refine after_n ?_
            refine W.sub hs22 ?_
            obtain ⟨l23, h24, hr⟩ := bnd hr
            refine w_join (J := fun s => Sub s ⟨[(0, .c (.op 0 0)), (1, .c (.d (.lit (.string most1)))), (5, .c (slC 1 cS 2 (Sl.mk l23)))], [(0, some (.box [slC 1 cS 1 q20_l])), (1, slO 1 cS q20_l), (2, slO 1 cS (Sl.mk l23))], 3, [.op 0 0]⟩) ?_ ?_
            · rcases s2 with _ | s2'
              · try dsimp only [slC, slO]
                refine w_region ?_
                iterate 2 refine o1 rfl ?_
                refine o2 rfl ?_
                refine o2 (app_nil (enc := cS) rfl h24) ?_
                refine o1 rfl ?_
                exact o_join (by rcases q20_l with _ | _ <;> first | (exact sub_ren [0, 9001, 4] [0, 1, 5] (by decide) rfl (.cons (.skip (.cons .nil))) (Nat.le_of_ble_eq_true rfl)) | (exact sub_ren [0, 1, 4] [0, 1, 5] (by decide) rfl (.cons (.cons (.cons .nil))) (Nat.le_of_ble_eq_true rfl)))
              · try dsimp only [slC, slO]
                refine w_region ?_
                iterate 2 refine o1 rfl ?_
                refine o2 rfl ?_
                refine o2 (app_o rfl rfl h24) ?_
                refine o1 rfl ?_
                exact o_join (by rcases q20_l with _ | _ <;> first | (exact sub_ren [0, 9001, 4] [0, 1, 5] (by decide) rfl (.cons (.skip (.cons .nil))) (Nat.le_of_ble_eq_true rfl)) | (exact sub_ren [0, 1, 4] [0, 1, 5] (by decide) rfl (.cons (.cons (.cons .nil))) (Nat.le_of_ble_eq_true rfl)))
            · intro s hs25
              refine out_n ?_
              obtain rfl := Option.some.inj hr
              exact And.intro rfl (Sub.trans hs25 (by rcases q20_l with _ | _ <;> first | (exact sub_ren [0, 9001, 2] [0, 1, 5] (by decide) rfl (.cons (.skip (.cons .nil))) (Nat.le_of_ble_eq_true rfl)) | (exact sub_ren [0, 1, 2] [0, 1, 5] (by decide) rfl (.cons (.cons (.cons .nil))) (Nat.le_of_ble_eq_true rfl))))

noncomputable def heap_Queue_string_Push_nil (x1 : ByteArray) : Option (Unit) :=
  some ()
theorem heap_Queue_string_Push_nil_ok {x1 : ByteArray} (hp : heap_Queue_string_Push_nil x1 = some ()) : Good prog 20 [.mt (.d (.lit (.pointer none))), .d (.lit (.string x1))] [] [.d (.lit (.pointer none))] := by
  unfold heap_Queue_string_Push_nil at hp
  refine fn_good mixed e20 (fnS (m := []) (s := ⟨[(0, .c (.d (.lit (.pointer none)))), (1, .c (.d (.lit (.string x1))))], [], 0, [.d (.lit (.pointer none))]⟩) (len := 1) (c := k20) rfl (Sub.of_eq rfl) rfl rfl ?_)
  refine w_seq ?_
  refine w_seq ?_
  refine w_region ?_
  refine o1 rfl ?_
  refine o1 (v := .c (.d (.lit (.bool true)))) rfl ?_
  refine o_end (e' := [(0, .c (.d (.lit (.pointer none)))), (1, .c (.d (.lit (.string x1)))), (5, .c (.d (.lit (.bool true))))]) rfl rfl ?_
  refine after_n ?_
  refine w_true rfl rfl ?_
  refine w_ret ?_
  refine after_r ?_
  exact leave_at rfl rfl pr_nil (pc_cons p_d pc_nil) rfl rfl

noncomputable def heap_Queue_string_Len_nil : Option (Int) :=
  some 0
theorem heap_Queue_string_Len_nil_ok {z : Int} (hp : heap_Queue_string_Len_nil = some z) : Good prog 23 [.d (.lit (.pointer none))] [.c (.d (.lit (.int .i64 z)))] [] := by
  unfold heap_Queue_string_Len_nil at hp
  refine fn_good mixed e23 (fnS (m := [false]) (s := ⟨[(0, .c (.d (.lit (.pointer none))))], [], 0, []⟩) (len := 0) (c := k23) rfl (Sub.of_eq rfl) rfl rfl ?_)
  refine w_seq ?_
  refine w_region ?_
  refine o1 rfl ?_
  refine o_end (e' := [(0, .c (.d (.lit (.pointer none))))]) rfl rfl ?_
  refine after_n ?_
  refine w_seq ?_
  refine w_seq ?_
  refine w_region ?_
  refine o1 rfl ?_
  refine o1 (v := .c (.d (.lit (.bool true)))) rfl ?_
  refine o_end (e' := [(0, .c (.d (.lit (.pointer none)))), (4, .c (.d (.lit (.bool true))))]) rfl rfl ?_
  refine after_n ?_
  refine w_true rfl rfl ?_
  refine w_seq ?_
  refine w_region ?_
  refine o1 rfl ?_
  refine o_end (e' := [(2, .c (.d (.lit (.int .i64 0))))]) rfl rfl ?_
  refine after_n ?_
  refine w_ret ?_
  refine after_r ?_
  obtain rfl := Option.some.inj hp
  exact leave_at rfl rfl (pr_c p_d pr_nil) pc_nil rfl rfl

noncomputable def heap_Queue_string_Peek_nil : Option ((ByteArray × Bool)) :=
  (heap_Queue_string_Len_nil).bind fun r1 =>
  bif (r1 == 0) then (some ((⟨#[]⟩ : ByteArray), false)) else
  (none)
theorem heap_Queue_string_Peek_nil_ok {z : (ByteArray × Bool)} (hp : heap_Queue_string_Peek_nil = some z) : Good prog 30 [.d (.lit (.pointer none))] [.c (.d (.lit (.string z.1))), .c (.d (.lit (.bool z.2)))] [] := by
  unfold heap_Queue_string_Peek_nil at hp
  refine fn_good mixed e30 (fnS (m := [false, false]) (s := ⟨[(0, .c (.d (.lit (.pointer none))))], [], 0, []⟩) (len := 0) (c := k30) rfl (Sub.of_eq rfl) rfl rfl ?_)
  refine w_seq ?_
  refine w_region ?_
  iterate 2 refine o1 rfl ?_
  refine o_end (e' := [(0, .c (.d (.lit (.pointer none))))]) rfl rfl ?_
  refine after_n ?_
  refine w_seq ?_
  refine w_seq ?_
  obtain ⟨r1, h2, hp⟩ := bnd hp
  refine w_region ?_
  refine o1 rfl ?_
  refine oc (rs := [.c (.d (.lit (.int .i64 r1)))]) (outs := []) rfl (heap_Queue_string_Len_nil_ok h2) rfl ?_
  refine o1 (v := .c (.d (.lit (.bool (r1 == 0))))) rfl ?_
  refine o_end (e' := [(0, .c (.d (.lit (.pointer none)))), (7, .c (.d (.lit (.bool (r1 == 0)))))]) rfl rfl ?_
  refine after_n ?_
  refine w_cond (t := (r1 == 0)) rfl (fun hb3 => ?_) (fun hb3 => ?_)
  · have hp := cnd_t hb3 hp
    refine w_seq ?_
    refine w_region ?_
    refine o1 rfl ?_
    refine o_end (e' := [(4, .c (.d (.lit (.string (⟨#[]⟩ : ByteArray)))))]) rfl rfl ?_
    refine after_n ?_
    refine w_seq ?_
    refine w_region ?_
    iterate 3 refine o1 rfl ?_
    refine o_end (e' := [(2, .c (.d (.lit (.string (⟨#[]⟩ : ByteArray))))), (3, .c (.d (.lit (.bool false))))]) rfl rfl ?_
    refine after_n ?_
    refine w_ret ?_
    refine after_r ?_
    obtain rfl := Option.some.inj hp
    exact leave_at rfl rfl (pr_c p_d (pr_c p_d pr_nil)) pc_nil rfl rfl
  · have hp := cnd_f hb3 hp
    refine w_skip ?_
    refine after_n ?_
    refine w_seq ?_
    cases hp

noncomputable def heap_Queue_string_take_nil (i1 : Int) : Option (Unit) :=
  none
theorem heap_Queue_string_take_nil_ok {i1 : Int} (hp : heap_Queue_string_take_nil i1 = some ()) : Good prog 32 [.mt (.d (.lit (.pointer none))), .d (.lit (.int .i64 i1))] [] [.d (.lit (.pointer none))] := by
  unfold heap_Queue_string_take_nil at hp
  refine fn_good mixed e32 (fnS (m := []) (s := ⟨[(0, .c (.d (.lit (.pointer none)))), (1, .c (.d (.lit (.int .i64 i1))))], [], 0, [.d (.lit (.pointer none))]⟩) (len := 1) (c := k32) rfl (Sub.of_eq rfl) rfl rfl ?_)
  refine w_seq ?_
  cases hp

/- (*turnout/heap.Queue[string]).Pop -/
def k22 : CC :=
  (.seq
  (.region [
    ⟨some 2, .mv, [(.const (.string ⟨#[]⟩))], none⟩,
    ⟨some 3, .mv, [(.const (.bool false))], none⟩] [0])
  (.seq
  (.region [
    ⟨some 7, .mv, [(.tmp 0)], none⟩,
    ⟨some 8, (.call true []), [(.func 30), (.tmp 7)], none⟩,
    ⟨some 6, .mv, [(.tmp 8)], none⟩,
    ⟨some 9, (.extract 0), [(.tmp 6)], none⟩,
    ⟨some 10, (.extract 1), [(.tmp 6)], none⟩,
    ⟨some 4, .mv, [(.tmp 9)], none⟩,
    ⟨some 5, .mv, [(.tmp 10)], none⟩] [0, 4, 5])
  (.seq
  (.seq
  (.region [
    ⟨some 11, .mv, [(.tmp 5)], none⟩] [0, 4, 5, 11])
  (.cond (.tmp 11)
    (.region [
      ⟨some 12, .mv, [(.tmp 0)], none⟩,
      ⟨some 13, (.call false [true, false]), [(.func 32), (.tmp 12), (.const (.int .i64 0))], none⟩] [4, 5])
    .skip))
  (.seq
  (.region [
    ⟨some 14, .mv, [(.tmp 4)], none⟩,
    ⟨some 15, .mv, [(.tmp 5)], none⟩,
    ⟨some 2, .mv, [(.tmp 14)], none⟩,
    ⟨some 3, .mv, [(.tmp 15)], none⟩] [2, 3])
  .ret))))
def f22 : Ev.Fn := ⟨1, 16, [.tmp 2, .tmp 3], k22⟩
set_option maxRecDepth 100000 in
theorem e22 : compFn prog sig 22 1 [[0], [0, 4, 5], [0, 4, 5, 11], [4, 5], [2, 3]] = some f22 := by kernel_rfl
noncomputable def heap_Queue_string_Pop_nil : Option ((ByteArray × Bool)) :=
  (heap_Queue_string_Peek_nil).bind fun (r1, r2) =>
  (bif r2 then ((heap_Queue_string_take_nil 0).bind fun _ =>
  some ()) else
  (some ()) : Option (Unit)).bind fun _ =>
  some (r1, r2)
theorem heap_Queue_string_Pop_nil_ok {z : (ByteArray × Bool)} (hp : heap_Queue_string_Pop_nil = some z) : Good prog 22 [.mt (.d (.lit (.pointer none)))] [.c (.d (.lit (.string z.1))), .c (.d (.lit (.bool z.2)))] [.d (.lit (.pointer none))] := by
  unfold heap_Queue_string_Pop_nil at hp
  refine fn_good mixed e22 (fnS (m := [false, false]) (s := ⟨[(0, .c (.d (.lit (.pointer none))))], [], 0, [.d (.lit (.pointer none))]⟩) (len := 1) (c := k22) rfl (Sub.of_eq rfl) rfl rfl ?_)
  refine w_seq ?_
  refine w_region ?_
  iterate 2 refine o1 rfl ?_
  refine o_end (e' := [(0, .c (.d (.lit (.pointer none))))]) rfl rfl ?_
  refine after_n ?_
  refine w_seq ?_
  obtain ⟨⟨r1, r2⟩, h3, hp⟩ := bnd hp
  refine w_region ?_
  refine o1 rfl ?_
  refine oc (rs := [.c (.d (.lit (.string r1))), .c (.d (.lit (.bool r2)))]) (outs := []) rfl (heap_Queue_string_Peek_nil_ok h3) rfl ?_
  iterate 5 refine o1 rfl ?_
  refine o_end (e' := [(0, .c (.d (.lit (.pointer none)))), (4, .c (.d (.lit (.string r1)))), (5, .c (.d (.lit (.bool r2))))]) rfl rfl ?_
  refine after_n ?_
  refine w_seq ?_
  obtain ⟨x5, h4, hp⟩ := bnd hp
  refine W.mono (Q := Jn (fun (x : Unit) o s => match x with | _ => o = Out.normal ∧ Sub s ⟨[(4, .c (.d (.lit (.string r1)))), (5, .c (.d (.lit (.bool r2))))], [], 0, [.d (.lit (.pointer none))]⟩) x5) ?_ ?_
  · intro o s hs8
    obtain _ := x5
    obtain ⟨rfl, hs8⟩ := hs8
    refine after_n ?_
    refine W.sub hs8 ?_
    refine w_seq ?_
    refine w_region ?_
    iterate 4 refine o1 rfl ?_
    refine o_end (e' := [(2, .c (.d (.lit (.string r1)))), (3, .c (.d (.lit (.bool r2))))]) rfl rfl ?_
    refine after_n ?_
    refine w_ret ?_
    obtain rfl := Option.some.inj hp
    exact leave_at rfl rfl (pr_c p_d (pr_c p_d pr_nil)) (pc_cons p_d pc_nil) rfl rfl
  · refine w_seq ?_
    refine w_region ?_
    refine o1 rfl ?_
    refine o_end (e' := [(0, .c (.d (.lit (.pointer none)))), (4, .c (.d (.lit (.string r1)))), (5, .c (.d (.lit (.bool r2)))), (11, .c (.d (.lit (.bool r2))))]) rfl rfl ?_
    refine after_n ?_
    refine w_cond (t := r2) rfl (fun hb6 => ?_) (fun hb6 => ?_)
    · have h4 := cnd_t hb6 h4
      obtain ⟨_, h7, h4⟩ := bnd h4
      refine w_region ?_
      refine o1 rfl ?_
      refine oc (rs := []) (outs := [.d (.lit (.pointer none))]) rfl (heap_Queue_string_take_nil_ok h7) rfl ?_
      refine o_end (e' := [(4, .c (.d (.lit (.string r1)))), (5, .c (.d (.lit (.bool r2))))]) rfl rfl ?_
      obtain rfl := Option.some.inj h4
      exact And.intro rfl (sub_ren [] [4, 5] (by decide) rfl .nil (Nat.le_of_ble_eq_true rfl))
    · have h4 := cnd_f hb6 h4
      refine w_skip ?_
      obtain rfl := Option.some.inj h4
      exact And.intro rfl (sub_ren [] [4, 5] (by decide) rfl .nil (Nat.le_of_ble_eq_true rfl))

/- (*turnout/heap.Queue[string]).Drop -/
def k24 : CC :=
  (.seq
  (.region [
    ⟨some 4, .mv, [(.const (.bool false))], none⟩] [0, 1])
  (.seq
  (.seq
  (.region [
    ⟨some 6, .mv, [(.tmp 0)], none⟩,
    ⟨some 7, (.eqNil 1 false), [(.tmp 6)], none⟩] [0, 1, 7])
  (.cond (.tmp 7)
    (.seq
    (.region [
      ⟨some 4, .mv, [(.const (.bool false))], none⟩] [4])
    .ret)
    .skip))
  (.seq
  (.region [
    ⟨some 8, .mv, [(.tmp 0)], none⟩,
    ⟨some 9, .nilCheck, [(.tmp 8)], none⟩,
    ⟨some 10, (.fieldAddr 0), [(.tmp 9)], none⟩,
    ⟨some 11, (.load false 1), [(.tmp 10)], none⟩,
    ⟨some 12, .mv, [(.tmp 1)], none⟩,
    ⟨some 13, (.call true []), [(.func 33), (.tmp 11), (.tmp 12)], none⟩,
    ⟨some 5, .mv, [(.tmp 13)], none⟩] [0, 5])
  (.seq
  (.seq
  (.region [
    ⟨some 14, .mv, [(.tmp 5)], none⟩,
    ⟨some 15, (.bin .lss), [(.tmp 14), (.const (.int .i64 0))], none⟩] [0, 5, 15])
  (.cond (.tmp 15)
    (.seq
    (.region [
      ⟨some 4, .mv, [(.const (.bool false))], none⟩] [4])
    .ret)
    .skip))
  (.seq
  (.region [
    ⟨some 16, .mv, [(.tmp 0)], none⟩,
    ⟨some 17, .mv, [(.tmp 5)], none⟩,
    ⟨some 18, (.call false [true, false]), [(.func 32), (.tmp 16), (.tmp 17)], none⟩] [])
  (.seq
  (.region [
    ⟨some 4, .mv, [(.const (.bool true))], none⟩] [4])
  .ret))))))
def f24 : Ev.Fn := ⟨2, 19, [.tmp 4], k24⟩
set_option maxRecDepth 100000 in
theorem e24 : compFn prog sig 24 2 [[0, 1], [0, 1, 7], [4], [0, 5], [0, 5, 15], [4], [], [4]] = some f24 := by kernel_rfl
noncomputable def heap_Queue_string_Drop_nil (x1 : ByteArray) : Option (Bool) :=
  some false
theorem heap_Queue_string_Drop_nil_ok {x1 : ByteArray} {z : Bool} (hp : heap_Queue_string_Drop_nil x1 = some z) : Good prog 24 [.mt (.d (.lit (.pointer none))), .d (.lit (.string x1))] [.c (.d (.lit (.bool z)))] [.d (.lit (.pointer none))] := by
  unfold heap_Queue_string_Drop_nil at hp
  refine fn_good mixed e24 (fnS (m := [false]) (s := ⟨[(0, .c (.d (.lit (.pointer none)))), (1, .c (.d (.lit (.string x1))))], [], 0, [.d (.lit (.pointer none))]⟩) (len := 1) (c := k24) rfl (Sub.of_eq rfl) rfl rfl ?_)
  refine w_seq ?_
  refine w_region ?_
  refine o1 rfl ?_
  refine o_end (e' := [(0, .c (.d (.lit (.pointer none)))), (1, .c (.d (.lit (.string x1))))]) rfl rfl ?_
  refine after_n ?_
  refine w_seq ?_
  refine w_seq ?_
  refine w_region ?_
  refine o1 rfl ?_
  refine o1 (v := .c (.d (.lit (.bool true)))) rfl ?_
  refine o_end (e' := [(0, .c (.d (.lit (.pointer none)))), (1, .c (.d (.lit (.string x1)))), (7, .c (.d (.lit (.bool true))))]) rfl rfl ?_
  refine after_n ?_
  refine w_true rfl rfl ?_
  refine w_seq ?_
  refine w_region ?_
  refine o1 rfl ?_
  refine o_end (e' := [(4, .c (.d (.lit (.bool false))))]) rfl rfl ?_
  refine after_n ?_
  refine w_ret ?_
  refine after_r ?_
  obtain rfl := Option.some.inj hp
  exact leave_at rfl rfl (pr_c p_d pr_nil) (pc_cons p_d pc_nil) rfl rfl

noncomputable def heap_Queue_string_Drain_nil_L1 (most1 : ByteArray) : (Sl ByteArray) → Option (Sum (Sl ByteArray) (Sl ByteArray)) := fun s1 =>
  (heap_Queue_string_Peek_nil).bind fun (r6, r7) =>
  (bif (!r7) then (some true) else ((cmp_Less_string most1 r6).bind fun r9 =>
  some r9)).bind fun b11 =>
  bif b11 then (some (.inr s1)) else
  ((heap_Queue_string_take_nil 0).bind fun _ =>
  (capI (s1.l ++ [r6])).bind fun l17 =>
  some (.inl (Sl.mk l17)))

noncomputable def heap_Queue_string_Drain_nil (most1 : ByteArray) : Option (Sl ByteArray) :=
  (loopO (heap_Queue_string_Drain_nil_L1 most1) Sl.nil).bind fun s3 =>
  some s3
theorem heap_Queue_string_Drain_nil_ok {most1 : ByteArray} {z : Sl ByteArray} (hp : heap_Queue_string_Drain_nil most1 = some z) : Good prog 21 [.mt (.d (.lit (.pointer none))), .d (.lit (.string most1))] [.c (.d (slD 1 cS z))] [.d (.lit (.pointer none))] := by
  unfold heap_Queue_string_Drain_nil at hp
  refine fn_good mixed e21 (fnS (m := [true]) (s := ⟨[(0, .c (.d (.lit (.pointer none)))), (1, .c (.d (.lit (.string most1))))], [], 0, [.d (.lit (.pointer none))]⟩) (len := 1) (c := k21) rfl (Sub.of_eq rfl) rfl rfl ?_)
  refine w_seq ?_
  refine w_region ?_
  refine o1 rfl ?_
  refine o_end (e' := [(0, .c (.d (.lit (.pointer none)))), (1, .c (.d (.lit (.string most1))))]) rfl rfl ?_
  refine after_n ?_
  refine w_seq ?_
  refine w_region ?_
  refine o1 rfl ?_
  refine o_end (e' := [(0, .c (.d (.lit (.pointer none)))), (1, .c (.d (.lit (.string most1)))), (5, .c (.d (.lit (.slice none 0 0))))]) rfl rfl ?_
  refine after_n ?_
  refine w_block ?_
  obtain ⟨s3, h5, hp⟩ := bnd hp
  refine W.mono ?_ (w_loopS (st := fun (v : Sl ByteArray) => match v with | s1 => ⟨[(0, .c (.d (.lit (.pointer none)))), (1, .c (.d (.lit (.string most1)))), (5, .c (slC 1 cS 0 s1))], [(0, slO 1 cS s1)], 1, [.d (.lit (.pointer none))]⟩) (a := Sl.nil) (Q := Jn (fun (x : Sl ByteArray) o s => match x with | s3 => o = Out.ret ∧ Sub s ⟨[(4, .c (slC 1 cS 0 s3))], [(0, slO 1 cS s3)], 1, [.d (.lit (.pointer none))]⟩)) ?_ h5 ?_)
  · intro o s hs20
    obtain ⟨rfl, hs20⟩ := hs20
    refine out_r ?_
    obtain rfl := Option.some.inj hp
    refine wk.sub hs20 ?_
    rcases s3 with _ | s3'
    · exact leave_at rfl rfl (pr_c p_d pr_nil) (pc_cons p_d pc_nil) rfl rfl
    · exact leave_at rfl rfl (pr_c (p_o rfl) pr_nil) (pc_cons p_d pc_nil) rfl rfl
  · exact (sub_ren [9000] [0, 1, 5] (by decide) rfl (.skip .nil) (Nat.le_of_ble_eq_true rfl))
  · rintro s1 r hr
    unfold heap_Queue_string_Drain_nil_L1 at hr
    refine w_block ?_
    refine w_seq ?_
    obtain ⟨⟨r6, r7⟩, h8, hr⟩ := bnd hr
    refine w_region ?_
    refine o1 rfl ?_
    refine oc (rs := [.c (.d (.lit (.string r6))), .c (.d (.lit (.bool r7)))]) (outs := []) rfl (heap_Queue_string_Peek_nil_ok h8) rfl ?_
    iterate 5 refine o1 rfl ?_
    refine o_end (e' := [(0, .c (.d (.lit (.pointer none)))), (1, .c (.d (.lit (.string most1)))), (5, .c (slC 1 cS 0 s1)), (6, .c (.d (.lit (.string r6)))), (7, .c (.d (.lit (.bool r7))))]) rfl rfl ?_
    refine after_n ?_
    refine w_seq ?_
    refine w_seq ?_
    obtain ⟨b11, h12, hr⟩ := bnd hr
    refine w_join (J := fun s => Sub s ⟨[(0, .c (.d (.lit (.pointer none)))), (1, .c (.d (.lit (.string most1)))), (5, .c (slC 1 cS 0 s1)), (6, .c (.d (.lit (.string r6)))), (19, .c (.d (.lit (.bool b11))))], [(0, slO 1 cS s1)], 1, [.d (.lit (.pointer none))]⟩) ?_ ?_
    · refine w_region ?_
      refine o1 rfl ?_
      refine o1 (v := .c (.d (.lit (.bool (!r7))))) rfl ?_
      refine o1 rfl ?_
      cases hb13 : ((!r7) : Bool)
      · have h12 := cnd_f hb13 h12
        obtain ⟨r9, h10, h12⟩ := bnd h12
        iterate 2 refine og rfl rfl rfl ?_
        refine ocg (rs := [.c (.d (.lit (.bool r9)))]) (outs := []) rfl rfl rfl (cmp_Less_string_ok h10) rfl ?_
        refine o1 rfl ?_
        cases h12
        exact o_join (by rcases s1 with _ | _ <;> first | (exact sub_ren [9000] [0, 1, 5, 6, 19] (by decide) rfl (.skip .nil) (Nat.le_of_ble_eq_true rfl)) | (exact sub_ren [0] [0, 1, 5, 6, 19] (by decide) rfl (.cons .nil) (Nat.le_of_ble_eq_true rfl)))
      · have h12 := cnd_t hb13 h12
        iterate 3 refine onot rfl rfl ?_
        refine o1 rfl ?_
        cases h12
        exact o_join (by rcases s1 with _ | _ <;> first | (exact sub_ren [9000] [0, 1, 5, 6, 19] (by decide) rfl (.skip .nil) (Nat.le_of_ble_eq_true rfl)) | (exact sub_ren [0] [0, 1, 5, 6, 19] (by decide) rfl (.cons .nil) (Nat.le_of_ble_eq_true rfl)))
    · intro s hs14
      refine after_n ?_
      refine W.sub hs14 ?_
      refine w_cond (t := b11) rfl (fun hb15 => ?_) (fun hb15 => ?_)
      · have hr := cnd_t hb15 hr
        refine w_seq ?_
        refine w_region ?_
        iterate 2 refine o1 rfl ?_
        refine o_end (e' := [(4, .c (slC 1 cS 0 s1))]) rfl rfl ?_
        refine after_n ?_
        refine w_ret ?_
        refine after_r ?_
        refine out_r ?_
        obtain rfl := Option.some.inj hr
        exact And.intro nofun (And.intro rfl (by rcases s1 with _ | _ <;> first | (exact sub_ren [9000] [4] (by decide) rfl (.skip .nil) (Nat.le_of_ble_eq_true rfl)) | (exact sub_ren [0] [4] (by decide) rfl (.cons .nil) (Nat.le_of_ble_eq_true rfl))))
      · have hr := cnd_f hb15 hr
        refine w_skip ?_
        refine after_n ?_
        refine w_seq ?_
        obtain ⟨_, h16, hr⟩ := bnd hr
        refine w_region ?_
        refine o1 rfl ?_
        refine oc (rs := []) (outs := [.d (.lit (.pointer none))]) rfl (heap_Queue_string_take_nil_ok h16) rfl ?_
        refine o_end (e' := [(0, .c (.d (.lit (.pointer none)))), (1, .c (.d (.lit (.string most1)))), (5, .c (slC 1 cS 0 s1)), (6, .c (.d (.lit (.string r6))))]) rfl rfl ?_
        refine after_n ?_
        obtain ⟨l17, h18, hr⟩ := bnd hr
        refine w_join (J := fun s => Sub s ⟨[(0, .c (.d (.lit (.pointer none)))), (1, .c (.d (.lit (.string most1)))), (5, .c (slC 1 cS 0 (Sl.mk l17)))], [(0, slO 1 cS (Sl.mk l17))], 1, [.d (.lit (.pointer none))]⟩) ?_ ?_
        · rcases s1 with _ | s1'
          · try dsimp only [slC, slO]
            refine w_region ?_
            iterate 2 refine o1 rfl ?_
            refine o2 rfl ?_
            refine o2 (app_nil (enc := cS) rfl h18) ?_
            refine o1 rfl ?_
            exact o_join (sub_ren [2] [0, 1, 5] (by decide) rfl (.cons .nil) (Nat.le_of_ble_eq_true rfl))
          · try dsimp only [slC, slO]
            refine w_region ?_
            iterate 2 refine o1 rfl ?_
            refine o2 rfl ?_
            refine o2 (app_o rfl rfl h18) ?_
            refine o1 rfl ?_
            exact o_join (sub_ren [2] [0, 1, 5] (by decide) rfl (.cons .nil) (Nat.le_of_ble_eq_true rfl))
        · intro s hs19
          refine out_n ?_
          obtain rfl := Option.some.inj hr
          exact And.intro rfl (Sub.trans hs19 (sub_ren [0] [0, 1, 5] (by decide) rfl (.cons .nil) (Nat.le_of_ble_eq_true rfl)))

/- turnout/turnoutlaw13.HeapTexts -/
def k5 : CC :=
  (.seq
  (.region [
    ⟨some 4, .mv, [(.const (.bool false))], none⟩] [0, 1])
  (.seq
  (.seq
  (.region [
    ⟨some 13, .mv, [(.tmp 0)], none⟩,
    ⟨some 14, (.len false), [(.tmp 13)], none⟩,
    ⟨some 15, (.bin .gtr), [(.tmp 14), (.const (.int .i64 40))], none⟩] [0, 1, 15])
  (.cond (.tmp 15)
    (.seq
    (.region [
      ⟨some 16, (.call true []), [(.func 6)], none⟩,
      ⟨some 4, .mv, [(.tmp 16)], none⟩] [4])
    .ret)
    .skip))
  (.seq
  (.region [
    ⟨some 17, (.call false []), [(.func 19)], none⟩,
    ⟨some 5, .mv, [(.tmp 17)], none⟩] [0, 1, 5])
  (.seq
  (.region [
    ⟨some 6, .mv, [(.const (.int .i64 0))], none⟩] [0, 1, 5, 6])
  (.seq
  (.seq
  (.region [
    ⟨some 7, .mv, [(.const (.int .i64 0))], none⟩] [0, 1, 5, 6, 7])
  (.block 0
    (.loop [0, 1, 5, 6, 7]
      (.seq
      (.seq
      (.region [
        ⟨some 18, .mv, [(.tmp 7)], none⟩,
        ⟨some 19, .mv, [(.tmp 0)], none⟩,
        ⟨some 20, (.len false), [(.tmp 19)], none⟩,
        ⟨some 21, (.bin .lss), [(.tmp 18), (.tmp 20)], none⟩] [0, 1, 5, 6, 7, 21])
      (.cond (.tmp 21)
        .skip
        (.exit 0)))
      (.seq
      (.block 1
        (.seq
        (.seq
        (.region [
          ⟨some 24, .mv, [(.tmp 0)], none⟩,
          ⟨some 25, .mv, [(.tmp 7)], none⟩,
          ⟨some 26, (.indexAddr none 1), [(.tmp 24), (.tmp 25)], none⟩,
          ⟨some 27, (.load false 1), [(.tmp 26)], none⟩,
          ⟨some 28, (.len true), [(.tmp 27)], none⟩,
          ⟨some 29, (.bin .gtr), [(.tmp 28), (.const (.int .i64 60))], none⟩] [0, 1, 5, 6, 7, 29])
        (.cond (.tmp 29)
          (.seq
          (.region [
            ⟨some 30, (.call true []), [(.func 6)], none⟩,
            ⟨some 4, .mv, [(.tmp 30)], none⟩] [4])
          .ret)
          .skip))
        (.seq
        (.region [
          ⟨some 31, .mv, [(.tmp 5)], none⟩,
          ⟨some 32, .mv, [(.tmp 0)], none⟩,
          ⟨some 33, .mv, [(.tmp 7)], none⟩,
          ⟨some 34, (.indexAddr none 1), [(.tmp 32), (.tmp 33)], none⟩,
          ⟨some 35, (.load false 1), [(.tmp 34)], none⟩,
          ⟨some 36, (.call false [true, false]), [(.func 20), (.tmp 31), (.tmp 35)], none⟩] [0, 1, 5, 6, 7])
        (.seq
        (.region [
          ⟨some 37, .mv, [(.tmp 0)], none⟩,
          ⟨some 38, .mv, [(.tmp 7)], none⟩,
          ⟨some 39, (.indexAddr none 1), [(.tmp 37), (.tmp 38)], none⟩,
          ⟨some 40, (.load false 1), [(.tmp 39)], none⟩,
          ⟨some 41, .mv, [(.tmp 1)], none⟩,
          ⟨some 42, (.bin .leq), [(.tmp 40), (.tmp 41)], none⟩] [0, 1, 5, 6, 7, 42])
        (.cond (.tmp 42)
          (.region [
            ⟨some 43, .mv, [(.tmp 6)], none⟩,
            ⟨some 44, (.bin .add), [(.tmp 43), (.const (.int .i64 1))], none⟩,
            ⟨some 6, .mv, [(.tmp 44)], none⟩] [0, 1, 5, 6, 7])
          .skip)))))
      (.region [
        ⟨some 22, .mv, [(.tmp 7)], none⟩,
        ⟨some 23, (.bin .add), [(.tmp 22), (.const (.int .i64 1))], none⟩,
        ⟨some 7, .mv, [(.tmp 23)], none⟩] [0, 1, 5, 6, 7]))))))
  (.seq
  (.region [
    ⟨some 45, .mv, [(.tmp 5)], none⟩,
    ⟨some 46, .mv, [(.tmp 1)], none⟩,
    ⟨some 47, (.call false [true, false]), [(.func 21), (.tmp 45), (.tmp 46)], none⟩,
    ⟨some 8, .mv, [(.tmp 47)], none⟩] [0, 1, 5, 6, 8])
  (.seq
  (.seq
  (.region [
    ⟨some 9, .mv, [(.const (.int .i64 0))], none⟩] [0, 1, 5, 6, 8, 9])
  (.block 2
    (.loop [0, 1, 5, 6, 8, 9]
      (.seq
      (.seq
      (.region [
        ⟨some 48, .mv, [(.tmp 9)], none⟩,
        ⟨some 49, .mv, [(.tmp 8)], none⟩,
        ⟨some 50, (.len false), [(.tmp 49)], none⟩,
        ⟨some 51, (.bin .lss), [(.tmp 48), (.tmp 50)], none⟩] [0, 1, 5, 6, 8, 9, 51])
      (.cond (.tmp 51)
        .skip
        (.exit 2)))
      (.seq
      (.block 3
        (.seq
        (.drawn [
          ⟨some 54, .mv, [(.tmp 8)], none⟩,
          ⟨some 55, .mv, [(.tmp 9)], none⟩,
          ⟨some 56, (.indexAddr none 1), [(.tmp 54), (.tmp 55)], none⟩,
          ⟨some 57, (.load false 1), [(.tmp 56)], none⟩,
          ⟨some 58, .mv, [(.tmp 1)], none⟩,
          ⟨some 59, (.bin .gtr), [(.tmp 57), (.tmp 58)], none⟩,
          ⟨some 60, .mv, [(.tmp 59)], none⟩,
          ⟨some 61, .mv, [(.tmp 9)], (some (60, false))⟩,
          ⟨some 62, (.bin .gtr), [(.tmp 61), (.const (.int .i64 0))], (some (60, false))⟩,
          ⟨some 63, .mv, [(.tmp 62)], (some (60, false))⟩,
          ⟨some 64, .mv, [(.tmp 8)], (some (63, true))⟩,
          ⟨some 65, .mv, [(.tmp 9)], (some (63, true))⟩,
          ⟨some 66, (.indexAddr none 1), [(.tmp 64), (.tmp 65)], (some (63, true))⟩,
          ⟨some 67, (.load false 1), [(.tmp 66)], (some (63, true))⟩,
          ⟨some 68, .mv, [(.tmp 8)], (some (63, true))⟩,
          ⟨some 69, .mv, [(.tmp 9)], (some (63, true))⟩,
          ⟨some 70, (.bin .sub), [(.tmp 69), (.const (.int .i64 1))], (some (63, true))⟩,
          ⟨some 71, (.indexAddr none 1), [(.tmp 68), (.tmp 70)], (some (63, true))⟩,
          ⟨some 72, (.load false 1), [(.tmp 71)], (some (63, true))⟩,
          ⟨some 73, (.bin .lss), [(.tmp 67), (.tmp 72)], (some (63, true))⟩,
          ⟨some 74, .pick, [(.tmp 63), (.tmp 73), (.const (.bool false))], (some (60, false))⟩,
          ⟨some 75, .pick, [(.tmp 60), (.const (.bool true)), (.tmp 74)], none⟩] [] [0, 1, 5, 6, 8, 9, 75])
        (.cond (.tmp 75)
          (.seq
          (.region [
            ⟨some 4, .mv, [(.const (.bool false))], none⟩] [4])
          .ret)
          .skip)))
      (.region [
        ⟨some 52, .mv, [(.tmp 9)], none⟩,
        ⟨some 53, (.bin .add), [(.tmp 52), (.const (.int .i64 1))], none⟩,
        ⟨some 9, .mv, [(.tmp 53)], none⟩] [0, 1, 5, 6, 8, 9]))))))
  (.seq
  (.region [
    ⟨some 10, .mv, [(.const (.pointer none))], none⟩] [0, 1, 5, 6, 8, 10])
  (.seq
  (.region [
    ⟨some 76, .mv, [(.tmp 10)], none⟩,
    ⟨some 77, .mv, [(.tmp 1)], none⟩,
    ⟨some 78, (.call false [true, false]), [(.func 20), (.tmp 76), (.tmp 77)], none⟩] [0, 1, 5, 6, 8, 10])
  (.seq
  (.region [
    ⟨some 80, .mv, [(.tmp 10)], none⟩,
    ⟨some 81, (.call false [true]), [(.func 22), (.tmp 80)], none⟩,
    ⟨some 79, .mv, [(.tmp 81)], none⟩,
    ⟨some 82, (.extract 0), [(.tmp 79)], none⟩,
    ⟨some 83, (.extract 1), [(.tmp 79)], none⟩,
    ⟨some 11, .mv, [(.tmp 82)], none⟩,
    ⟨some 12, .mv, [(.tmp 83)], none⟩] [0, 1, 5, 6, 8, 10, 11, 12])
  (.seq
  (.region [
    ⟨some 84, .mv, [(.tmp 8)], none⟩,
    ⟨some 85, (.len false), [(.tmp 84)], none⟩,
    ⟨some 86, .mv, [(.tmp 6)], none⟩,
    ⟨some 87, (.bin .eql), [(.tmp 85), (.tmp 86)], none⟩,
    ⟨some 88, .mv, [(.tmp 87)], none⟩,
    ⟨some 89, .mv, [(.tmp 5)], (some (88, true))⟩,
    ⟨some 90, (.call true []), [(.func 23), (.tmp 89)], (some (88, true))⟩,
    ⟨some 91, .mv, [(.tmp 0)], (some (88, true))⟩,
    ⟨some 92, (.len false), [(.tmp 91)], (some (88, true))⟩,
    ⟨some 93, .mv, [(.tmp 6)], (some (88, true))⟩,
    ⟨some 94, (.bin .sub), [(.tmp 92), (.tmp 93)], (some (88, true))⟩,
    ⟨some 95, (.bin .eql), [(.tmp 90), (.tmp 94)], (some (88, true))⟩,
    ⟨some 96, .pick, [(.tmp 88), (.tmp 95), (.const (.bool false))], none⟩,
    ⟨some 97, .mv, [(.tmp 96)], none⟩,
    ⟨some 98, .mv, [(.tmp 12)], (some (97, true))⟩,
    ⟨some 99, (.un .not), [(.tmp 98)], (some (97, true))⟩,
    ⟨some 100, .pick, [(.tmp 97), (.tmp 99), (.const (.bool false))], none⟩,
    ⟨some 101, .mv, [(.tmp 100)], none⟩,
    ⟨some 102, .mv, [(.tmp 11)], (some (101, true))⟩,
    ⟨some 103, (.bin .eql), [(.tmp 102), (.const (.string ⟨#[]⟩))], (some (101, true))⟩,
    ⟨some 104, .pick, [(.tmp 101), (.tmp 103), (.const (.bool false))], none⟩,
    ⟨some 105, .mv, [(.tmp 104)], none⟩,
    ⟨some 106, .mv, [(.tmp 10)], (some (105, true))⟩,
    ⟨some 107, (.call true []), [(.func 23), (.tmp 106)], (some (105, true))⟩,
    ⟨some 108, (.bin .eql), [(.tmp 107), (.const (.int .i64 0))], (some (105, true))⟩,
    ⟨some 109, .pick, [(.tmp 105), (.tmp 108), (.const (.bool false))], none⟩,
    ⟨some 110, .mv, [(.tmp 109)], none⟩,
    ⟨some 111, .mv, [(.tmp 10)], (some (110, true))⟩,
    ⟨some 112, .mv, [(.tmp 1)], (some (110, true))⟩,
    ⟨some 113, (.call false [true, false]), [(.func 24), (.tmp 111), (.tmp 112)], (some (110, true))⟩,
    ⟨some 114, (.un .not), [(.tmp 113)], (some (110, true))⟩,
    ⟨some 115, .pick, [(.tmp 110), (.tmp 114), (.const (.bool false))], none⟩,
    ⟨some 116, .mv, [(.tmp 115)], none⟩,
    ⟨some 117, .mv, [(.tmp 10)], (some (116, true))⟩,
    ⟨some 118, .mv, [(.tmp 1)], (some (116, true))⟩,
    ⟨some 119, (.call false [true, false]), [(.func 21), (.tmp 117), (.tmp 118)], (some (116, true))⟩,
    ⟨some 120, (.len false), [(.tmp 119)], (some (116, true))⟩,
    ⟨some 121, (.bin .eql), [(.tmp 120), (.const (.int .i64 0))], (some (116, true))⟩,
    ⟨some 122, .pick, [(.tmp 116), (.tmp 121), (.const (.bool false))], none⟩,
    ⟨some 123, .mv, [(.tmp 122)], none⟩,
    ⟨some 124, (.call true []), [(.func 6)], (some (123, true))⟩,
    ⟨some 125, .pick, [(.tmp 123), (.tmp 124), (.const (.bool false))], none⟩,
    ⟨some 4, .mv, [(.tmp 125)], none⟩] [4])
  .ret)))))))))))
def f5 : Ev.Fn := ⟨2, 126, [.tmp 4], k5⟩
set_option maxRecDepth 100000 in
theorem e5 : compFn prog sig 5 2 [[0, 1], [0, 1, 15], [4], [0, 1, 5], [0, 1, 5, 6], [0, 1, 5, 6, 7], [0, 1, 5, 6, 7], [0, 1, 5, 6, 7, 21], [0, 1, 5, 6, 7, 29], [4], [0, 1, 5, 6, 7], [0, 1, 5, 6, 7, 42], [0, 1, 5, 6, 7], [0, 1, 5, 6, 7], [0, 1, 5, 6, 8], [0, 1, 5, 6, 8, 9], [0, 1, 5, 6, 8, 9], [0, 1, 5, 6, 8, 9, 51], [0, 1, 5, 6, 8, 9, 75], [4], [0, 1, 5, 6, 8, 9], [0, 1, 5, 6, 8, 10], [0, 1, 5, 6, 8, 10], [0, 1, 5, 6, 8, 10, 11, 12], [4]] = some f5 := by kernel_rfl
noncomputable def law13_HeapTexts_L1 (l0 : Sl ByteArray) (most1 : ByteArray) : (Sl ByteArray × Int × Int) → Option (Sum ((Sl ByteArray × Int × Int)) (Sum (Bool) ((Sl ByteArray × Int)))) := fun (s7, i8, i9) =>
  bif decide (i9 < (l0.l.length : Int)) then (((ixI i9 l0.l.length).bind fun n24 =>
  bif decide (((gt l0.l n24).size : Int) > 60) then ((law13_awake).bind fun r27 =>
  some (.inr r27)) else
  ((heap_Queue_string_Push (⟨s7⟩ : heap_Queue_string) (gt l0.l n24)).bind fun ⟨q29_l⟩ =>
  bif (Op.bytesLess (gt l0.l n24).toList most1.toList || ((gt l0.l n24).toList == most1.toList)) then (some (.inl (q29_l, wr .i64 (i8 + 1)))) else
  (some (.inl (q29_l, i8)))) : Option (Sum ((Sl ByteArray × Int)) (Bool))).bind fun
  | .inl (s19, i20) => (some (.inl (s19, i20, wr .i64 (i9 + 1))))
  | .inr b21 => (some (.inr (.inl b21)))) else
  (some (.inr (.inr (s7, i8))))

noncomputable def law13_HeapTexts_L2 (most1 : ByteArray) (r36 : Sl ByteArray) : Int → Option (Sum (Int) (Sum (Unit) (Unit))) := fun i39 =>
  bif decide (i39 < (r36.l.length : Int)) then ((ixI i39 r36.l.length).bind fun n44 =>
  (bif (!(Op.bytesLess (gt r36.l n44).toList most1.toList || ((gt r36.l n44).toList == most1.toList))) then (some true) else (bif decide (i39 > 0) then ((ixI (wr .i64 (i39 - 1)) r36.l.length).bind fun n46 =>
  some (Op.bytesLess (gt r36.l n44).toList (gt r36.l n46).toList)) else (some false))).bind fun b48 =>
  bif b48 then (some (.inr (.inl ()))) else
  (some (.inl (wr .i64 (i39 + 1))))) else
  (some (.inr (.inr ())))

noncomputable def law13_HeapTexts (l0 : Sl ByteArray) (most1 : ByteArray) : Option (Bool) :=
  bif decide ((l0.l.length : Int) > 40) then ((law13_awake).bind fun r2 =>
  some r2) else
  ((heap_New_string).bind fun ⟨r4_l⟩ =>
  (loopO (law13_HeapTexts_L1 l0 most1) (r4_l, 0, 0)).bind fun
  | .inl b13 => (some b13)
  | .inr ((s14, i15)) => ((heap_Queue_string_Drain (⟨s14⟩ : heap_Queue_string) most1).bind fun (r36, ⟨q35_l⟩) =>
  (loopO (law13_HeapTexts_L2 most1 r36) 0).bind fun
  | .inl _ => (some false)
  | .inr (_) => ((heap_Queue_string_Push_nil most1).bind fun _ =>
  (heap_Queue_string_Pop_nil).bind fun (r56, r57) =>
  (bif ((r36.l.length : Int) == i15) then ((heap_Queue_string_Len (⟨q35_l⟩ : heap_Queue_string)).bind fun r59 =>
  bif (r59 == (wr .i64 ((l0.l.length : Int) - i15))) then (bif (!r57) then (bif (r56.toList == (⟨#[]⟩ : ByteArray).toList) then ((heap_Queue_string_Len_nil).bind fun r61 =>
  bif (r61 == 0) then ((heap_Queue_string_Drop_nil most1).bind fun r63 =>
  bif (!r63) then ((heap_Queue_string_Drain_nil most1).bind fun r65 =>
  bif ((r65.l.length : Int) == 0) then ((law13_awake).bind fun r67 =>
  some r67) else (some false)) else (some false)) else (some false)) else (some false)) else (some false)) else (some false)) else (some false)).bind fun b69 =>
  some b69)))
theorem law13_HeapTexts_ok {l0 : Sl ByteArray} {most1 : ByteArray} {z : Bool} (hp : law13_HeapTexts l0 most1 = some z) : Good prog 5 [.d (slD 1 cS l0), .d (.lit (.string most1))] [.c (.d (.lit (.bool z)))] [] := by
  unfold law13_HeapTexts at hp
  refine fn_good mixed e5 (fnS (m := [false]) (s := ⟨[(0, .c (.d (slD 1 cS l0))), (1, .c (.d (.lit (.string most1))))], [], 0, []⟩) (len := 0) (c := k5) rfl (Sub.of_eq rfl) rfl rfl ?_)
  refine w_seq ?_
  refine w_region ?_
  refine o1 rfl ?_
  refine o_end (e' := [(0, .c (.d (slD 1 cS l0))), (1, .c (.d (.lit (.string most1))))]) rfl rfl ?_
  refine after_n ?_
  refine w_seq ?_
  refine w_seq ?_
  refine w_region ?_
  refine o1 rfl ?_
  refine o1 (v := .c (.d (.lit (.int .i64 (l0.l.length : Int))))) len_sd ?_
  refine o1 (v := .c (.d (.lit (.bool (decide ((l0.l.length : Int) > 40)))))) rfl ?_
  refine o_end (e' := [(0, .c (.d (slD 1 cS l0))), (1, .c (.d (.lit (.string most1)))), (15, .c (.d (.lit (.bool (decide ((l0.l.length : Int) > 40))))))]) rfl rfl ?_
  refine after_n ?_
  refine w_cond (t := decide ((l0.l.length : Int) > 40)) rfl (fun hb1 => ?_) (fun hb1 => ?_)
  · have hp := cnd_t hb1 hp
    refine w_seq ?_
    obtain ⟨r2, h3, hp⟩ := bnd hp
    refine w_region ?_
    refine oc (rs := [.c (.d (.lit (.bool r2)))]) (outs := []) rfl (law13_awake_ok h3) rfl ?_
    refine o1 rfl ?_
    refine o_end (e' := [(4, .c (.d (.lit (.bool r2))))]) rfl rfl ?_
    refine after_n ?_
    refine w_ret ?_
    refine after_r ?_
    obtain rfl := Option.some.inj hp
    exact leave_at rfl rfl (pr_c p_d pr_nil) pc_nil rfl rfl
  · have hp := cnd_f hb1 hp
    refine w_skip ?_
    refine after_n ?_
    refine w_seq ?_
    obtain ⟨⟨r4_l⟩, h5, hp⟩ := bnd hp
    refine w_join (J := fun s => Sub s ⟨[(0, .c (.d (slD 1 cS l0))), (1, .c (.d (.lit (.string most1)))), (5, .c (.op 0 0))], [(0, some (.box [slC 1 cS 1 r4_l])), (1, slO 1 cS r4_l)], 2, []⟩) ?_ ?_
    · rcases r4_l with _ | r4_l'
      · try dsimp only [slC, slO]
        refine w_region ?_
        refine oc (rs := [.c (.pt [.d (.lit (.slice none 0 0))])]) (outs := []) rfl (heap_New_string_ok h5) rfl ?_
        refine o1 rfl ?_
        exact o_join (sub_ren [0, 9001] [0, 1, 5] (by decide) rfl (.cons (.skip .nil)) (Nat.le_of_ble_eq_true rfl))
      · try dsimp only [slC, slO]
        refine w_region ?_
        refine oc (rs := [.c (.pt [slT 1 cS (Sl.mk r4_l')])]) (outs := []) rfl (heap_New_string_ok h5) rfl ?_
        refine o1 rfl ?_
        exact o_join (sub_ren [0, 1] [0, 1, 5] (by decide) rfl (.cons (.cons .nil)) (Nat.le_of_ble_eq_true rfl))
    · intro s hs6
      refine after_n ?_
      refine W.sub hs6 ?_
      refine w_seq ?_
      refine w_region ?_
      refine o1 rfl ?_
      refine o_end (e' := [(0, .c (.d (slD 1 cS l0))), (1, .c (.d (.lit (.string most1)))), (5, .c (.op 0 0)), (6, .c (.d (.lit (.int .i64 0))))]) rfl rfl ?_
      refine after_n ?_
      refine w_seq ?_
      refine w_seq ?_
      refine w_region ?_
      refine o1 rfl ?_
      refine o_end (e' := [(0, .c (.d (slD 1 cS l0))), (1, .c (.d (.lit (.string most1)))), (5, .c (.op 0 0)), (6, .c (.d (.lit (.int .i64 0)))), (7, .c (.d (.lit (.int .i64 0))))]) rfl rfl ?_
      refine after_n ?_
      refine w_block ?_
      obtain ⟨x16, h17, hp⟩ := bnd hp
      refine W.mono ?_ (w_loopS (st := fun (v : (Sl ByteArray × Int × Int)) => match v with | (s7, i8, i9) => ⟨[(0, .c (.d (slD 1 cS l0))), (1, .c (.d (.lit (.string most1)))), (5, .c (.op 0 0)), (6, .c (.d (.lit (.int .i64 i8)))), (7, .c (.d (.lit (.int .i64 i9))))], [(0, some (.box [slC 1 cS 1 s7])), (1, slO 1 cS s7)], 2, []⟩) (a := (r4_l, 0, 0)) (Q := Jn (fun (x : Sum (Bool) ((Sl ByteArray × Int))) o s => match x with | .inl b13 => o = Out.ret ∧ Sub s ⟨[(4, .c (.d (.lit (.bool b13))))], [], 0, []⟩ | .inr ((s14, i15)) => o = Out.exit 0 ∧ Sub s ⟨[(0, .c (.d (slD 1 cS l0))), (1, .c (.d (.lit (.string most1)))), (5, .c (.op 0 0)), (6, .c (.d (.lit (.int .i64 i15))))], [(0, some (.box [slC 1 cS 1 s14])), (1, slO 1 cS s14)], 2, []⟩)) ?_ h17 ?_)
      · intro o s hs34
        rcases x16 with (b13 | ⟨s14, i15⟩)
        · obtain ⟨rfl, hs34⟩ := hs34
          refine out_r ?_
          refine after_r ?_
          obtain rfl := Option.some.inj hp
          refine wk.sub hs34 ?_
          exact leave_at rfl rfl (pr_c p_d pr_nil) pc_nil rfl rfl
        · obtain ⟨rfl, hs34⟩ := hs34
          refine out_e ?_
          refine after_n ?_
          refine W.sub hs34 ?_
          refine w_seq ?_
          obtain ⟨⟨r36, ⟨q35_l⟩⟩, h37, hp⟩ := bnd hp
          refine w_join (J := fun s => Sub s ⟨[(0, .c (.d (slD 1 cS l0))), (1, .c (.d (.lit (.string most1)))), (5, .c (.op 0 0)), (6, .c (.d (.lit (.int .i64 i15)))), (8, .c (.d (slD 1 cS r36)))], [(0, some (.box [slC 1 cS 1 q35_l])), (1, slO 1 cS q35_l)], 2, []⟩) ?_ ?_
          · rcases q35_l with _ | q35_l' <;> rcases s14 with _ | s14'
            · try dsimp only [slC, slO]
              refine w_region ?_
              iterate 2 refine o1 rfl ?_
              refine oc (rs := [.c (.d (slD 1 cS r36))]) (outs := [.pt [.d (.lit (.slice none 0 0))]]) rfl (heap_Queue_string_Drain_ok h37) rfl ?_
              refine o1 rfl ?_
              exact o_join (sub_ren [0, 9001] [0, 1, 5, 6, 8] (by decide) rfl (.cons (.skip .nil)) (Nat.le_of_ble_eq_true rfl))
            · try dsimp only [slC, slO]
              refine w_region ?_
              iterate 2 refine o1 rfl ?_
              refine oc' (rs := [.c (.d (slD 1 cS r36))]) (outs := [.pt [.d (.lit (.slice none 0 0))]]) (call_at rfl rfl (ea_mt (p_op rfl (pl_cons (p_o rfl) pl_nil)) rfl (ea_c rfl rfl ea_nil)) (wh_op wh_nil) rfl rfl) (heap_Queue_string_Drain_ok h37) ?_
              refine o1 rfl ?_
              exact o_join (sub_ren [0, 9001] [0, 1, 5, 6, 8] (by decide) rfl (.cons (.skip .nil)) (Nat.le_of_ble_eq_true rfl))
            · try dsimp only [slC, slO]
              refine w_region ?_
              iterate 2 refine o1 rfl ?_
              refine oc (rs := [.c (.d (slD 1 cS r36))]) (outs := [.pt [slT 1 cS (Sl.mk q35_l')]]) rfl (heap_Queue_string_Drain_ok h37) rfl ?_
              refine o1 rfl ?_
              exact o_join (sub_ren [0, 2] [0, 1, 5, 6, 8] (by decide) rfl (.cons (.cons .nil)) (Nat.le_of_ble_eq_true rfl))
            · try dsimp only [slC, slO]
              refine w_region ?_
              iterate 2 refine o1 rfl ?_
              refine oc' (rs := [.c (.d (slD 1 cS r36))]) (outs := [.pt [slT 1 cS (Sl.mk q35_l')]]) (call_at rfl rfl (ea_mt (p_op rfl (pl_cons (p_o rfl) pl_nil)) rfl (ea_c rfl rfl ea_nil)) (wh_op wh_nil) rfl rfl) (heap_Queue_string_Drain_ok h37) ?_
              refine o1 rfl ?_
              exact o_join (sub_ren [0, 2] [0, 1, 5, 6, 8] (by decide) rfl (.cons (.cons .nil)) (Nat.le_of_ble_eq_true rfl))
          · intro s hs38
            refine after_n ?_
            refine W.sub hs38 ?_
            refine w_seq ?_
            refine w_seq ?_
            refine w_region ?_
            refine o1 rfl ?_
            refine o_end (e' := [(0, .c (.d (slD 1 cS l0))), (1, .c (.d (.lit (.string most1)))), (5, .c (.op 0 0)), (6, .c (.d (.lit (.int .i64 i15)))), (8, .c (.d (slD 1 cS r36))), (9, .c (.d (.lit (.int .i64 0))))]) rfl rfl ?_
            refine after_n ?_
            refine w_block ?_
            obtain ⟨x41, h42, hp⟩ := bnd hp
            refine W.mono ?_ (w_loopS (st := fun (v : Int) => match v with | i39 => ⟨[(0, .c (.d (slD 1 cS l0))), (1, .c (.d (.lit (.string most1)))), (5, .c (.op 0 0)), (6, .c (.d (.lit (.int .i64 i15)))), (8, .c (.d (slD 1 cS r36))), (9, .c (.d (.lit (.int .i64 i39))))], [(0, some (.box [slC 1 cS 1 q35_l])), (1, slO 1 cS q35_l)], 2, []⟩) (a := 0) (Q := Jn (fun (x : Sum (Unit) (Unit)) o s => match x with | .inl _ => o = Out.ret ∧ Sub s ⟨[(4, .c (.d (.lit (.bool false))))], [], 0, []⟩ | .inr (_) => o = Out.exit 2 ∧ Sub s ⟨[(0, .c (.d (slD 1 cS l0))), (1, .c (.d (.lit (.string most1)))), (5, .c (.op 0 0)), (6, .c (.d (.lit (.int .i64 i15)))), (8, .c (.d (slD 1 cS r36)))], [(0, some (.box [slC 1 cS 1 q35_l])), (1, slO 1 cS q35_l)], 2, []⟩)) ?_ h42 ?_)
            · intro o s hs54
              rcases x41 with (_ | _)
              · obtain ⟨rfl, hs54⟩ := hs54
                refine out_r ?_
                refine after_r ?_
                obtain rfl := Option.some.inj hp
                refine wk.sub hs54 ?_
                exact leave_at rfl rfl (pr_c p_d pr_nil) pc_nil rfl rfl
              · obtain ⟨rfl, hs54⟩ := hs54
                refine out_e ?_
                refine after_n ?_
                refine W.sub hs54 ?_
                refine w_seq ?_
                refine w_region ?_
                refine o1 rfl ?_
                refine o_end (e' := [(0, .c (.d (slD 1 cS l0))), (1, .c (.d (.lit (.string most1)))), (5, .c (.op 0 0)), (6, .c (.d (.lit (.int .i64 i15)))), (8, .c (.d (slD 1 cS r36))), (10, .c (.d (.lit (.pointer none))))]) rfl rfl ?_
                refine after_n ?_
                refine w_seq ?_
                obtain ⟨_, h55, hp⟩ := bnd hp
                refine w_region ?_
                iterate 2 refine o1 rfl ?_
                refine oc (rs := []) (outs := [.d (.lit (.pointer none))]) rfl (heap_Queue_string_Push_nil_ok h55) rfl ?_
                refine o_end (e' := [(0, .c (.d (slD 1 cS l0))), (1, .c (.d (.lit (.string most1)))), (5, .c (.op 0 0)), (6, .c (.d (.lit (.int .i64 i15)))), (8, .c (.d (slD 1 cS r36))), (10, .c (.d (.lit (.pointer none))))]) rfl rfl ?_
                refine after_n ?_
                refine w_seq ?_
                obtain ⟨⟨r56, r57⟩, h58, hp⟩ := bnd hp
                refine w_region ?_
                refine o1 rfl ?_
                refine oc (rs := [.c (.d (.lit (.string r56))), .c (.d (.lit (.bool r57)))]) (outs := [.d (.lit (.pointer none))]) rfl (heap_Queue_string_Pop_nil_ok h58) rfl ?_
                iterate 5 refine o1 rfl ?_
                refine o_end (e' := [(0, .c (.d (slD 1 cS l0))), (1, .c (.d (.lit (.string most1)))), (5, .c (.op 0 0)), (6, .c (.d (.lit (.int .i64 i15)))), (8, .c (.d (slD 1 cS r36))), (10, .c (.d (.lit (.pointer none)))), (11, .c (.d (.lit (.string r56)))), (12, .c (.d (.lit (.bool r57))))]) rfl rfl ?_
                refine after_n ?_
                refine w_seq ?_
                obtain ⟨b69, h70, hp⟩ := bnd hp
                refine w_join (J := fun s => Sub s ⟨[(4, .c (.d (.lit (.bool b69))))], [], 0, []⟩) ?_ ?_
                · rcases q35_l with _ | q35_l'
                  · try dsimp only [slC, slO]
                    refine w_region ?_
                    refine o1 rfl ?_
                    refine o1 (v := .c (.d (.lit (.int .i64 (r36.l.length : Int))))) len_sd ?_
                    refine o1 rfl ?_
                    refine o1 (v := .c (.d (.lit (.bool ((r36.l.length : Int) == i15))))) rfl ?_
                    refine o1 rfl ?_
                    cases hb71 : (((r36.l.length : Int) == i15) : Bool)
                    · have h70 := cnd_f hb71 h70
                      iterate 7 refine onot rfl rfl ?_
                      iterate 2 refine o1 rfl ?_
                      iterate 2 refine onot rfl rfl ?_
                      iterate 2 refine o1 rfl ?_
                      iterate 2 refine onot rfl rfl ?_
                      iterate 2 refine o1 rfl ?_
                      iterate 3 refine onot rfl rfl ?_
                      iterate 2 refine o1 rfl ?_
                      iterate 4 refine onot rfl rfl ?_
                      iterate 2 refine o1 rfl ?_
                      iterate 5 refine onot rfl rfl ?_
                      iterate 2 refine o1 rfl ?_
                      refine onot rfl rfl ?_
                      iterate 2 refine o1 rfl ?_
                      cases h70
                      exact o_join (sub_ren [] [4] (by decide) rfl .nil (Nat.le_of_ble_eq_true rfl))
                    · have h70 := cnd_t hb71 h70
                      obtain ⟨r59, h60, h70⟩ := bnd h70
                      refine og rfl rfl rfl ?_
                      refine ocg (rs := [.c (.d (.lit (.int .i64 r59)))]) (outs := []) rfl rfl rfl (heap_Queue_string_Len_ok h60) rfl ?_
                      refine og rfl rfl rfl ?_
                      refine og (v := .c (.d (.lit (.int .i64 (l0.l.length : Int))))) rfl rfl len_sd ?_
                      refine og rfl rfl rfl ?_
                      refine og (v := .c (.d (.lit (.int .i64 (wr .i64 ((l0.l.length : Int) - i15)))))) rfl rfl rfl ?_
                      refine og (v := .c (.d (.lit (.bool (r59 == (wr .i64 ((l0.l.length : Int) - i15))))))) rfl rfl rfl ?_
                      iterate 2 refine o1 rfl ?_
                      cases hb72 : ((r59 == (wr .i64 ((l0.l.length : Int) - i15))) : Bool)
                      · have h70 := cnd_f hb72 h70
                        iterate 2 refine onot rfl rfl ?_
                        iterate 2 refine o1 rfl ?_
                        iterate 2 refine onot rfl rfl ?_
                        iterate 2 refine o1 rfl ?_
                        iterate 3 refine onot rfl rfl ?_
                        iterate 2 refine o1 rfl ?_
                        iterate 4 refine onot rfl rfl ?_
                        iterate 2 refine o1 rfl ?_
                        iterate 5 refine onot rfl rfl ?_
                        iterate 2 refine o1 rfl ?_
                        refine onot rfl rfl ?_
                        iterate 2 refine o1 rfl ?_
                        cases h70
                        exact o_join (sub_ren [] [4] (by decide) rfl .nil (Nat.le_of_ble_eq_true rfl))
                      · have h70 := cnd_t hb72 h70
                        refine og rfl rfl rfl ?_
                        refine og (v := .c (.d (.lit (.bool (!r57))))) rfl rfl rfl ?_
                        iterate 2 refine o1 rfl ?_
                        cases hb73 : ((!r57) : Bool)
                        · have h70 := cnd_f hb73 h70
                          iterate 2 refine onot rfl rfl ?_
                          iterate 2 refine o1 rfl ?_
                          iterate 3 refine onot rfl rfl ?_
                          iterate 2 refine o1 rfl ?_
                          iterate 4 refine onot rfl rfl ?_
                          iterate 2 refine o1 rfl ?_
                          iterate 5 refine onot rfl rfl ?_
                          iterate 2 refine o1 rfl ?_
                          refine onot rfl rfl ?_
                          iterate 2 refine o1 rfl ?_
                          cases h70
                          exact o_join (sub_ren [] [4] (by decide) rfl .nil (Nat.le_of_ble_eq_true rfl))
                        · have h70 := cnd_t hb73 h70
                          refine og rfl rfl rfl ?_
                          refine og (v := .c (.d (.lit (.bool (r56.toList == (⟨#[]⟩ : ByteArray).toList))))) rfl rfl rfl ?_
                          iterate 2 refine o1 rfl ?_
                          cases hb74 : ((r56.toList == (⟨#[]⟩ : ByteArray).toList) : Bool)
                          · have h70 := cnd_f hb74 h70
                            iterate 3 refine onot rfl rfl ?_
                            iterate 2 refine o1 rfl ?_
                            iterate 4 refine onot rfl rfl ?_
                            iterate 2 refine o1 rfl ?_
                            iterate 5 refine onot rfl rfl ?_
                            iterate 2 refine o1 rfl ?_
                            refine onot rfl rfl ?_
                            iterate 2 refine o1 rfl ?_
                            cases h70
                            exact o_join (sub_ren [] [4] (by decide) rfl .nil (Nat.le_of_ble_eq_true rfl))
                          · have h70 := cnd_t hb74 h70
                            obtain ⟨r61, h62, h70⟩ := bnd h70
                            refine og rfl rfl rfl ?_
                            refine ocg (rs := [.c (.d (.lit (.int .i64 r61)))]) (outs := []) rfl rfl rfl (heap_Queue_string_Len_nil_ok h62) rfl ?_
                            refine og (v := .c (.d (.lit (.bool (r61 == 0))))) rfl rfl rfl ?_
                            iterate 2 refine o1 rfl ?_
                            cases hb75 : ((r61 == 0) : Bool)
                            · have h70 := cnd_f hb75 h70
                              iterate 4 refine onot rfl rfl ?_
                              iterate 2 refine o1 rfl ?_
                              iterate 5 refine onot rfl rfl ?_
                              iterate 2 refine o1 rfl ?_
                              refine onot rfl rfl ?_
                              iterate 2 refine o1 rfl ?_
                              cases h70
                              exact o_join (sub_ren [] [4] (by decide) rfl .nil (Nat.le_of_ble_eq_true rfl))
                            · have h70 := cnd_t hb75 h70
                              obtain ⟨r63, h64, h70⟩ := bnd h70
                              iterate 2 refine og rfl rfl rfl ?_
                              refine ocg (rs := [.c (.d (.lit (.bool r63)))]) (outs := [.d (.lit (.pointer none))]) rfl rfl rfl (heap_Queue_string_Drop_nil_ok h64) rfl ?_
                              refine og (v := .c (.d (.lit (.bool (!r63))))) rfl rfl rfl ?_
                              iterate 2 refine o1 rfl ?_
                              cases hb76 : ((!r63) : Bool)
                              · have h70 := cnd_f hb76 h70
                                iterate 5 refine onot rfl rfl ?_
                                iterate 2 refine o1 rfl ?_
                                refine onot rfl rfl ?_
                                iterate 2 refine o1 rfl ?_
                                cases h70
                                exact o_join (sub_ren [] [4] (by decide) rfl .nil (Nat.le_of_ble_eq_true rfl))
                              · have h70 := cnd_t hb76 h70
                                obtain ⟨r65, h66, h70⟩ := bnd h70
                                iterate 2 refine og rfl rfl rfl ?_
                                refine ocg (rs := [.c (.d (slD 1 cS r65))]) (outs := [.d (.lit (.pointer none))]) rfl rfl rfl (heap_Queue_string_Drain_nil_ok h66) rfl ?_
                                refine og (v := .c (.d (.lit (.int .i64 (r65.l.length : Int))))) rfl rfl len_sd ?_
                                refine og (v := .c (.d (.lit (.bool ((r65.l.length : Int) == 0))))) rfl rfl rfl ?_
                                iterate 2 refine o1 rfl ?_
                                cases hb77 : (((r65.l.length : Int) == 0) : Bool)
                                · have h70 := cnd_f hb77 h70
                                  refine onot rfl rfl ?_
                                  iterate 2 refine o1 rfl ?_
                                  cases h70
                                  exact o_join (sub_ren [] [4] (by decide) rfl .nil (Nat.le_of_ble_eq_true rfl))
                                · have h70 := cnd_t hb77 h70
                                  obtain ⟨r67, h68, h70⟩ := bnd h70
                                  refine ocg (rs := [.c (.d (.lit (.bool r67)))]) (outs := []) rfl rfl rfl (law13_awake_ok h68) rfl ?_
                                  iterate 2 refine o1 rfl ?_
                                  cases h70
                                  exact o_join (sub_ren [] [4] (by decide) rfl .nil (Nat.le_of_ble_eq_true rfl))
                  · try dsimp only [slC, slO]
                    refine w_region ?_
                    refine o1 rfl ?_
                    refine o1 (v := .c (.d (.lit (.int .i64 (r36.l.length : Int))))) len_sd ?_
                    refine o1 rfl ?_
                    refine o1 (v := .c (.d (.lit (.bool ((r36.l.length : Int) == i15))))) rfl ?_
                    refine o1 rfl ?_
                    cases hb78 : (((r36.l.length : Int) == i15) : Bool)
                    · have h70 := cnd_f hb78 h70
                      iterate 7 refine onot rfl rfl ?_
                      iterate 2 refine o1 rfl ?_
                      iterate 2 refine onot rfl rfl ?_
                      iterate 2 refine o1 rfl ?_
                      iterate 2 refine onot rfl rfl ?_
                      iterate 2 refine o1 rfl ?_
                      iterate 3 refine onot rfl rfl ?_
                      iterate 2 refine o1 rfl ?_
                      iterate 4 refine onot rfl rfl ?_
                      iterate 2 refine o1 rfl ?_
                      iterate 5 refine onot rfl rfl ?_
                      iterate 2 refine o1 rfl ?_
                      refine onot rfl rfl ?_
                      iterate 2 refine o1 rfl ?_
                      cases h70
                      exact o_join (sub_ren [] [4] (by decide) rfl .nil (Nat.le_of_ble_eq_true rfl))
                    · have h70 := cnd_t hb78 h70
                      obtain ⟨r59, h60, h70⟩ := bnd h70
                      refine og rfl rfl rfl ?_
                      refine ocg' (rs := [.c (.d (.lit (.int .i64 r59)))]) (outs := []) rfl rfl (call_at rfl rfl (ea_c (v_op rfl (vl_cons (v_o rfl) vl_nil)) rfl ea_nil) wh_nil rfl rfl) (heap_Queue_string_Len_ok h60) ?_
                      refine og rfl rfl rfl ?_
                      refine og (v := .c (.d (.lit (.int .i64 (l0.l.length : Int))))) rfl rfl len_sd ?_
                      refine og rfl rfl rfl ?_
                      refine og (v := .c (.d (.lit (.int .i64 (wr .i64 ((l0.l.length : Int) - i15)))))) rfl rfl rfl ?_
                      refine og (v := .c (.d (.lit (.bool (r59 == (wr .i64 ((l0.l.length : Int) - i15))))))) rfl rfl rfl ?_
                      iterate 2 refine o1 rfl ?_
                      cases hb79 : ((r59 == (wr .i64 ((l0.l.length : Int) - i15))) : Bool)
                      · have h70 := cnd_f hb79 h70
                        iterate 2 refine onot rfl rfl ?_
                        iterate 2 refine o1 rfl ?_
                        iterate 2 refine onot rfl rfl ?_
                        iterate 2 refine o1 rfl ?_
                        iterate 3 refine onot rfl rfl ?_
                        iterate 2 refine o1 rfl ?_
                        iterate 4 refine onot rfl rfl ?_
                        iterate 2 refine o1 rfl ?_
                        iterate 5 refine onot rfl rfl ?_
                        iterate 2 refine o1 rfl ?_
                        refine onot rfl rfl ?_
                        iterate 2 refine o1 rfl ?_
                        cases h70
                        exact o_join (sub_ren [] [4] (by decide) rfl .nil (Nat.le_of_ble_eq_true rfl))
                      · have h70 := cnd_t hb79 h70
                        refine og rfl rfl rfl ?_
                        refine og (v := .c (.d (.lit (.bool (!r57))))) rfl rfl rfl ?_
                        iterate 2 refine o1 rfl ?_
                        cases hb80 : ((!r57) : Bool)
                        · have h70 := cnd_f hb80 h70
                          iterate 2 refine onot rfl rfl ?_
                          iterate 2 refine o1 rfl ?_
                          iterate 3 refine onot rfl rfl ?_
                          iterate 2 refine o1 rfl ?_
                          iterate 4 refine onot rfl rfl ?_
                          iterate 2 refine o1 rfl ?_
                          iterate 5 refine onot rfl rfl ?_
                          iterate 2 refine o1 rfl ?_
                          refine onot rfl rfl ?_
                          iterate 2 refine o1 rfl ?_
                          cases h70
                          exact o_join (sub_ren [] [4] (by decide) rfl .nil (Nat.le_of_ble_eq_true rfl))
                        · have h70 := cnd_t hb80 h70
                          refine og rfl rfl rfl ?_
                          refine og (v := .c (.d (.lit (.bool (r56.toList == (⟨#[]⟩ : ByteArray).toList))))) rfl rfl rfl ?_
                          iterate 2 refine o1 rfl ?_
                          cases hb81 : ((r56.toList == (⟨#[]⟩ : ByteArray).toList) : Bool)
                          · have h70 := cnd_f hb81 h70
                            iterate 3 refine onot rfl rfl ?_
                            iterate 2 refine o1 rfl ?_
                            iterate 4 refine onot rfl rfl ?_
                            iterate 2 refine o1 rfl ?_
                            iterate 5 refine onot rfl rfl ?_
                            iterate 2 refine o1 rfl ?_
                            refine onot rfl rfl ?_
                            iterate 2 refine o1 rfl ?_
                            cases h70
                            exact o_join (sub_ren [] [4] (by decide) rfl .nil (Nat.le_of_ble_eq_true rfl))
                          · have h70 := cnd_t hb81 h70
                            obtain ⟨r61, h62, h70⟩ := bnd h70
                            refine og rfl rfl rfl ?_
                            refine ocg (rs := [.c (.d (.lit (.int .i64 r61)))]) (outs := []) rfl rfl rfl (heap_Queue_string_Len_nil_ok h62) rfl ?_
                            refine og (v := .c (.d (.lit (.bool (r61 == 0))))) rfl rfl rfl ?_
                            iterate 2 refine o1 rfl ?_
                            cases hb82 : ((r61 == 0) : Bool)
                            · have h70 := cnd_f hb82 h70
                              iterate 4 refine onot rfl rfl ?_
                              iterate 2 refine o1 rfl ?_
                              iterate 5 refine onot rfl rfl ?_
                              iterate 2 refine o1 rfl ?_
                              refine onot rfl rfl ?_
                              iterate 2 refine o1 rfl ?_
                              cases h70
                              exact o_join (sub_ren [] [4] (by decide) rfl .nil (Nat.le_of_ble_eq_true rfl))
                            · have h70 := cnd_t hb82 h70
                              obtain ⟨r63, h64, h70⟩ := bnd h70
                              iterate 2 refine og rfl rfl rfl ?_
                              refine ocg (rs := [.c (.d (.lit (.bool r63)))]) (outs := [.d (.lit (.pointer none))]) rfl rfl rfl (heap_Queue_string_Drop_nil_ok h64) rfl ?_
                              refine og (v := .c (.d (.lit (.bool (!r63))))) rfl rfl rfl ?_
                              iterate 2 refine o1 rfl ?_
                              cases hb83 : ((!r63) : Bool)
                              · have h70 := cnd_f hb83 h70
                                iterate 5 refine onot rfl rfl ?_
                                iterate 2 refine o1 rfl ?_
                                refine onot rfl rfl ?_
                                iterate 2 refine o1 rfl ?_
                                cases h70
                                exact o_join (sub_ren [] [4] (by decide) rfl .nil (Nat.le_of_ble_eq_true rfl))
                              · have h70 := cnd_t hb83 h70
                                obtain ⟨r65, h66, h70⟩ := bnd h70
                                iterate 2 refine og rfl rfl rfl ?_
                                refine ocg (rs := [.c (.d (slD 1 cS r65))]) (outs := [.d (.lit (.pointer none))]) rfl rfl rfl (heap_Queue_string_Drain_nil_ok h66) rfl ?_
                                refine og (v := .c (.d (.lit (.int .i64 (r65.l.length : Int))))) rfl rfl len_sd ?_
                                refine og (v := .c (.d (.lit (.bool ((r65.l.length : Int) == 0))))) rfl rfl rfl ?_
                                iterate 2 refine o1 rfl ?_
                                cases hb84 : (((r65.l.length : Int) == 0) : Bool)
                                · have h70 := cnd_f hb84 h70
                                  refine onot rfl rfl ?_
                                  iterate 2 refine o1 rfl ?_
                                  cases h70
                                  exact o_join (sub_ren [] [4] (by decide) rfl .nil (Nat.le_of_ble_eq_true rfl))
                                · have h70 := cnd_t hb84 h70
                                  obtain ⟨r67, h68, h70⟩ := bnd h70
                                  refine ocg (rs := [.c (.d (.lit (.bool r67)))]) (outs := []) rfl rfl rfl (law13_awake_ok h68) rfl ?_
                                  iterate 2 refine o1 rfl ?_
                                  cases h70
                                  exact o_join (sub_ren [] [4] (by decide) rfl .nil (Nat.le_of_ble_eq_true rfl))
                · intro s hs85
                  refine after_n ?_
                  refine W.sub hs85 ?_
                  refine w_ret ?_
                  obtain rfl := Option.some.inj hp
                  exact leave_at rfl rfl (pr_c p_d pr_nil) pc_nil rfl rfl
            · exact (by rcases q35_l with _ | _ <;> first | (exact sub_ren [0, 9001] [0, 1, 5, 6, 8, 9] (by decide) rfl (.cons (.skip .nil)) (Nat.le_of_ble_eq_true rfl)) | (exact sub_ren [0, 1] [0, 1, 5, 6, 8, 9] (by decide) rfl (.cons (.cons .nil)) (Nat.le_of_ble_eq_true rfl)))
            · rintro i39 r hr
              unfold law13_HeapTexts_L2 at hr
              refine w_seq ?_
              refine w_seq ?_
              refine w_region ?_
              iterate 2 refine o1 rfl ?_
              refine o1 (v := .c (.d (.lit (.int .i64 (r36.l.length : Int))))) len_sd ?_
              refine o1 (v := .c (.d (.lit (.bool (decide (i39 < (r36.l.length : Int))))))) rfl ?_
              refine o_end (e' := [(0, .c (.d (slD 1 cS l0))), (1, .c (.d (.lit (.string most1)))), (5, .c (.op 0 0)), (6, .c (.d (.lit (.int .i64 i15)))), (8, .c (.d (slD 1 cS r36))), (9, .c (.d (.lit (.int .i64 i39)))), (51, .c (.d (.lit (.bool (decide (i39 < (r36.l.length : Int)))))))]) rfl rfl ?_
              refine after_n ?_
              refine w_cond (t := decide (i39 < (r36.l.length : Int))) rfl (fun hb43 => ?_) (fun hb43 => ?_)
              · have hr := cnd_t hb43 hr
                refine w_skip ?_
                refine after_n ?_
                refine w_seq ?_
                refine w_block ?_
                refine w_seq ?_
                obtain ⟨n44, h45, hr⟩ := bnd hr
                obtain ⟨b48, h49, hr⟩ := bnd hr
                refine w_join (J := fun s => Sub s ⟨[(0, .c (.d (slD 1 cS l0))), (1, .c (.d (.lit (.string most1)))), (5, .c (.op 0 0)), (6, .c (.d (.lit (.int .i64 i15)))), (8, .c (.d (slD 1 cS r36))), (9, .c (.d (.lit (.int .i64 i39)))), (75, .c (.d (.lit (.bool b48))))], [(0, some (.box [slC 1 cS 1 q35_l])), (1, slO 1 cS q35_l)], 2, []⟩) ?_ ?_
                · refine w_drawn ?_
                  iterate 2 refine d1 rfl ?_
                  refine d1 (ix_sd h45) ?_
                  iterate 2 refine d1 rfl ?_
                  refine d1 (v := .c (.d (.lit (.bool (!(Op.bytesLess (gt r36.l n44).toList most1.toList || ((gt r36.l n44).toList == most1.toList))))))) rfl ?_
                  refine d1 rfl ?_
                  cases hb50 : ((!(Op.bytesLess (gt r36.l n44).toList most1.toList || ((gt r36.l n44).toList == most1.toList))) : Bool)
                  · have h49 := cnd_f hb50 h49
                    refine dg rfl rfl rfl ?_
                    refine dg (v := .c (.d (.lit (.bool (decide (i39 > 0)))))) rfl rfl rfl ?_
                    refine dg rfl rfl rfl ?_
                    cases hb51 : (decide (i39 > 0) : Bool)
                    · have h49 := cnd_f hb51 h49
                      iterate 10 refine dnot rfl rfl ?_
                      refine dg rfl rfl rfl ?_
                      refine d1 rfl ?_
                      cases h49
                      exact d_join rfl (by rcases q35_l with _ | _ <;> first | (exact sub_ren [0, 9001] [0, 1, 5, 6, 8, 9, 75] (by decide) rfl (.cons (.skip .nil)) (Nat.le_of_ble_eq_true rfl)) | (exact sub_ren [0, 1] [0, 1, 5, 6, 8, 9, 75] (by decide) rfl (.cons (.cons .nil)) (Nat.le_of_ble_eq_true rfl)))
                    · have h49 := cnd_t hb51 h49
                      obtain ⟨n46, h47, h49⟩ := bnd h49
                      iterate 2 refine dg rfl rfl rfl ?_
                      refine dg rfl rfl (ix_sd h45) ?_
                      iterate 3 refine dg rfl rfl rfl ?_
                      refine dg (v := .c (.d (.lit (.int .i64 (wr .i64 (i39 - 1)))))) rfl rfl rfl ?_
                      refine dg rfl rfl (ix_sd h47) ?_
                      refine dg rfl rfl rfl ?_
                      refine dg (v := .c (.d (.lit (.bool (Op.bytesLess (gt r36.l n44).toList (gt r36.l n46).toList))))) rfl rfl rfl ?_
                      refine dg rfl rfl rfl ?_
                      refine d1 rfl ?_
                      cases h49
                      exact d_join rfl (by rcases q35_l with _ | _ <;> first | (exact sub_ren [0, 9001] [0, 1, 5, 6, 8, 9, 75] (by decide) rfl (.cons (.skip .nil)) (Nat.le_of_ble_eq_true rfl)) | (exact sub_ren [0, 1] [0, 1, 5, 6, 8, 9, 75] (by decide) rfl (.cons (.cons .nil)) (Nat.le_of_ble_eq_true rfl)))
                  · have h49 := cnd_t hb50 h49
                    iterate 3 refine dnot rfl rfl ?_
                    iterate 10 refine dnil rfl ?_
                    refine dnot rfl rfl ?_
                    refine d1 rfl ?_
                    cases h49
                    exact d_join rfl (by rcases q35_l with _ | _ <;> first | (exact sub_ren [0, 9001] [0, 1, 5, 6, 8, 9, 75] (by decide) rfl (.cons (.skip .nil)) (Nat.le_of_ble_eq_true rfl)) | (exact sub_ren [0, 1] [0, 1, 5, 6, 8, 9, 75] (by decide) rfl (.cons (.cons .nil)) (Nat.le_of_ble_eq_true rfl)))
                · intro s hs52
                  refine after_n ?_
                  refine W.sub hs52 ?_
                  refine w_cond (t := b48) rfl (fun hb53 => ?_) (fun hb53 => ?_)
                  · have hr := cnd_t hb53 hr
                    refine w_seq ?_
                    refine w_region ?_
                    refine o1 rfl ?_
                    refine o_end (e' := [(4, .c (.d (.lit (.bool false))))]) rfl rfl ?_
                    refine after_n ?_
                    refine w_ret ?_
                    refine out_r ?_
                    refine after_r ?_
                    obtain rfl := Option.some.inj hr
                    exact And.intro nofun (And.intro rfl (sub_ren [] [4] (by decide) rfl .nil (Nat.le_of_ble_eq_true rfl)))
                  · have hr := cnd_f hb53 hr
                    refine w_skip ?_
                    refine out_n ?_
                    refine after_n ?_
                    refine w_region ?_
                    refine o1 rfl ?_
                    refine o1 (v := .c (.d (.lit (.int .i64 (wr .i64 (i39 + 1)))))) rfl ?_
                    refine o1 rfl ?_
                    refine o_end (e' := [(0, .c (.d (slD 1 cS l0))), (1, .c (.d (.lit (.string most1)))), (5, .c (.op 0 0)), (6, .c (.d (.lit (.int .i64 i15)))), (8, .c (.d (slD 1 cS r36))), (9, .c (.d (.lit (.int .i64 (wr .i64 (i39 + 1))))))]) rfl rfl ?_
                    obtain rfl := Option.some.inj hr
                    exact And.intro rfl (by rcases q35_l with _ | _ <;> first | (exact sub_ren [0, 9001] [0, 1, 5, 6, 8, 9] (by decide) rfl (.cons (.skip .nil)) (Nat.le_of_ble_eq_true rfl)) | (exact sub_ren [0, 1] [0, 1, 5, 6, 8, 9] (by decide) rfl (.cons (.cons .nil)) (Nat.le_of_ble_eq_true rfl)))
              · have hr := cnd_f hb43 hr
                refine w_exit ?_
                refine after_e ?_
                obtain rfl := Option.some.inj hr
                exact And.intro nofun (And.intro rfl (by rcases q35_l with _ | _ <;> first | (exact sub_ren [0, 9001] [0, 1, 5, 6, 8] (by decide) rfl (.cons (.skip .nil)) (Nat.le_of_ble_eq_true rfl)) | (exact sub_ren [0, 1] [0, 1, 5, 6, 8] (by decide) rfl (.cons (.cons .nil)) (Nat.le_of_ble_eq_true rfl))))
      · exact (by rcases r4_l with _ | _ <;> first | (exact sub_ren [0, 9001] [0, 1, 5, 6, 7] (by decide) rfl (.cons (.skip .nil)) (Nat.le_of_ble_eq_true rfl)) | (exact sub_ren [0, 1] [0, 1, 5, 6, 7] (by decide) rfl (.cons (.cons .nil)) (Nat.le_of_ble_eq_true rfl)))
      · rintro ⟨s7, i8, i9⟩ r hr
        unfold law13_HeapTexts_L1 at hr
        refine w_seq ?_
        refine w_seq ?_
        refine w_region ?_
        iterate 2 refine o1 rfl ?_
        refine o1 (v := .c (.d (.lit (.int .i64 (l0.l.length : Int))))) len_sd ?_
        refine o1 (v := .c (.d (.lit (.bool (decide (i9 < (l0.l.length : Int))))))) rfl ?_
        refine o_end (e' := [(0, .c (.d (slD 1 cS l0))), (1, .c (.d (.lit (.string most1)))), (5, .c (.op 0 0)), (6, .c (.d (.lit (.int .i64 i8)))), (7, .c (.d (.lit (.int .i64 i9)))), (21, .c (.d (.lit (.bool (decide (i9 < (l0.l.length : Int)))))))]) rfl rfl ?_
        refine after_n ?_
        refine w_cond (t := decide (i9 < (l0.l.length : Int))) rfl (fun hb18 => ?_) (fun hb18 => ?_)
        · have hr := cnd_t hb18 hr
          refine w_skip ?_
          refine after_n ?_
          refine w_seq ?_
          obtain ⟨x23, h22, hr⟩ := bnd hr
          refine W.mono (Q := Jn (fun (x : Sum ((Sl ByteArray × Int)) (Bool)) o s => match x with | .inl (s19, i20) => o = Out.normal ∧ Sub s ⟨[(0, .c (.d (slD 1 cS l0))), (1, .c (.d (.lit (.string most1)))), (5, .c (.op 0 0)), (6, .c (.d (.lit (.int .i64 i20)))), (7, .c (.d (.lit (.int .i64 i9))))], [(0, some (.box [slC 1 cS 1 s19])), (1, slO 1 cS s19)], 2, []⟩ | .inr b21 => o = Out.ret ∧ Sub s ⟨[(4, .c (.d (.lit (.bool b21))))], [], 0, []⟩) x23) ?_ ?_
          · intro o s hs33
            rcases x23 with (⟨s19, i20⟩ | b21)
            · obtain ⟨rfl, hs33⟩ := hs33
              refine after_n ?_
              refine W.sub hs33 ?_
              refine w_region ?_
              refine o1 rfl ?_
              refine o1 (v := .c (.d (.lit (.int .i64 (wr .i64 (i9 + 1)))))) rfl ?_
              refine o1 rfl ?_
              refine o_end (e' := [(0, .c (.d (slD 1 cS l0))), (1, .c (.d (.lit (.string most1)))), (5, .c (.op 0 0)), (6, .c (.d (.lit (.int .i64 i20)))), (7, .c (.d (.lit (.int .i64 (wr .i64 (i9 + 1))))))]) rfl rfl ?_
              obtain rfl := Option.some.inj hr
              exact And.intro rfl (by rcases s19 with _ | _ <;> first | (exact sub_ren [0, 9001] [0, 1, 5, 6, 7] (by decide) rfl (.cons (.skip .nil)) (Nat.le_of_ble_eq_true rfl)) | (exact sub_ren [0, 1] [0, 1, 5, 6, 7] (by decide) rfl (.cons (.cons .nil)) (Nat.le_of_ble_eq_true rfl)))
            · obtain ⟨rfl, hs33⟩ := hs33
              refine after_r ?_
              obtain rfl := Option.some.inj hr
              exact And.intro nofun (And.intro rfl (Sub.trans hs33 (sub_ren [] [4] (by decide) rfl .nil (Nat.le_of_ble_eq_true rfl))))
          · refine w_block ?_
            refine w_seq ?_
            refine w_seq ?_
            obtain ⟨n24, h25, h22⟩ := bnd h22
            refine w_region ?_
            iterate 2 refine o1 rfl ?_
            refine o1 (ix_sd h25) ?_
            refine o1 rfl ?_
            refine o1 (v := .c (.d (.lit (.int .i64 ((gt l0.l n24).size : Int))))) rfl ?_
            refine o1 (v := .c (.d (.lit (.bool (decide (((gt l0.l n24).size : Int) > 60)))))) rfl ?_
            refine o_end (e' := [(0, .c (.d (slD 1 cS l0))), (1, .c (.d (.lit (.string most1)))), (5, .c (.op 0 0)), (6, .c (.d (.lit (.int .i64 i8)))), (7, .c (.d (.lit (.int .i64 i9)))), (29, .c (.d (.lit (.bool (decide (((gt l0.l n24).size : Int) > 60))))))]) rfl rfl ?_
            refine after_n ?_
            refine w_cond (t := decide (((gt l0.l n24).size : Int) > 60)) rfl (fun hb26 => ?_) (fun hb26 => ?_)
            · have h22 := cnd_t hb26 h22
              refine w_seq ?_
              obtain ⟨r27, h28, h22⟩ := bnd h22
              refine w_region ?_
              refine oc (rs := [.c (.d (.lit (.bool r27)))]) (outs := []) rfl (law13_awake_ok h28) rfl ?_
              refine o1 rfl ?_
              refine o_end (e' := [(4, .c (.d (.lit (.bool r27))))]) rfl rfl ?_
              refine after_n ?_
              refine w_ret ?_
              refine after_r ?_
              refine out_r ?_
              obtain rfl := Option.some.inj h22
              exact And.intro rfl (sub_ren [] [4] (by decide) rfl .nil (Nat.le_of_ble_eq_true rfl))
            · have h22 := cnd_f hb26 h22
              refine w_skip ?_
              refine after_n ?_
              refine w_seq ?_
              obtain ⟨⟨q29_l⟩, h30, h22⟩ := bnd h22
              refine w_join (J := fun s => Sub s ⟨[(0, .c (.d (slD 1 cS l0))), (1, .c (.d (.lit (.string most1)))), (5, .c (.op 0 0)), (6, .c (.d (.lit (.int .i64 i8)))), (7, .c (.d (.lit (.int .i64 i9))))], [(0, some (.box [slC 1 cS 1 q29_l])), (1, slO 1 cS q29_l)], 2, []⟩) ?_ ?_
              · rcases q29_l with _ | q29_l' <;> rcases s7 with _ | s7'
                · try dsimp only [slC, slO]
                  refine w_region ?_
                  iterate 3 refine o1 rfl ?_
                  refine o1 (ix_sd h25) ?_
                  refine o1 rfl ?_
                  refine oc (rs := []) (outs := [.pt [.d (.lit (.slice none 0 0))]]) rfl (heap_Queue_string_Push_ok h30) rfl ?_
                  exact o_join (sub_ren [0, 9001] [0, 1, 5, 6, 7] (by decide) rfl (.cons (.skip .nil)) (Nat.le_of_ble_eq_true rfl))
                · try dsimp only [slC, slO]
                  refine w_region ?_
                  iterate 3 refine o1 rfl ?_
                  refine o1 (ix_sd h25) ?_
                  refine o1 rfl ?_
                  refine oc' (rs := []) (outs := [.pt [.d (.lit (.slice none 0 0))]]) (call_at rfl rfl (ea_mt (p_op rfl (pl_cons (p_o rfl) pl_nil)) rfl (ea_c rfl rfl ea_nil)) (wh_op wh_nil) rfl rfl) (heap_Queue_string_Push_ok h30) ?_
                  exact o_join (sub_ren [0, 9001] [0, 1, 5, 6, 7] (by decide) rfl (.cons (.skip .nil)) (Nat.le_of_ble_eq_true rfl))
                · try dsimp only [slC, slO]
                  refine w_region ?_
                  iterate 3 refine o1 rfl ?_
                  refine o1 (ix_sd h25) ?_
                  refine o1 rfl ?_
                  refine oc (rs := []) (outs := [.pt [slT 1 cS (Sl.mk q29_l')]]) rfl (heap_Queue_string_Push_ok h30) rfl ?_
                  exact o_join (sub_ren [0, 2] [0, 1, 5, 6, 7] (by decide) rfl (.cons (.cons .nil)) (Nat.le_of_ble_eq_true rfl))
                · try dsimp only [slC, slO]
                  refine w_region ?_
                  iterate 3 refine o1 rfl ?_
                  refine o1 (ix_sd h25) ?_
                  refine o1 rfl ?_
                  refine oc' (rs := []) (outs := [.pt [slT 1 cS (Sl.mk q29_l')]]) (call_at rfl rfl (ea_mt (p_op rfl (pl_cons (p_o rfl) pl_nil)) rfl (ea_c rfl rfl ea_nil)) (wh_op wh_nil) rfl rfl) (heap_Queue_string_Push_ok h30) ?_
                  exact o_join (sub_ren [0, 2] [0, 1, 5, 6, 7] (by decide) rfl (.cons (.cons .nil)) (Nat.le_of_ble_eq_true rfl))
              · intro s hs31
                refine after_n ?_
                refine W.sub hs31 ?_
                refine w_seq ?_
                refine w_region ?_
                iterate 2 refine o1 rfl ?_
                refine o1 (ix_sd h25) ?_
                iterate 2 refine o1 rfl ?_
                refine o1 (v := .c (.d (.lit (.bool (Op.bytesLess (gt l0.l n24).toList most1.toList || ((gt l0.l n24).toList == most1.toList)))))) rfl ?_
                refine o_end (e' := [(0, .c (.d (slD 1 cS l0))), (1, .c (.d (.lit (.string most1)))), (5, .c (.op 0 0)), (6, .c (.d (.lit (.int .i64 i8)))), (7, .c (.d (.lit (.int .i64 i9)))), (42, .c (.d (.lit (.bool (Op.bytesLess (gt l0.l n24).toList most1.toList || ((gt l0.l n24).toList == most1.toList))))))]) rfl rfl ?_
                refine after_n ?_
                refine w_cond (t := (Op.bytesLess (gt l0.l n24).toList most1.toList || ((gt l0.l n24).toList == most1.toList))) rfl (fun hb32 => ?_) (fun hb32 => ?_)
                · have h22 := cnd_t hb32 h22
                  refine w_region ?_
                  refine o1 rfl ?_
                  refine o1 (v := .c (.d (.lit (.int .i64 (wr .i64 (i8 + 1)))))) rfl ?_
                  refine o1 rfl ?_
                  refine o_end (e' := [(0, .c (.d (slD 1 cS l0))), (1, .c (.d (.lit (.string most1)))), (5, .c (.op 0 0)), (6, .c (.d (.lit (.int .i64 (wr .i64 (i8 + 1)))))), (7, .c (.d (.lit (.int .i64 i9))))]) rfl rfl ?_
                  refine out_n ?_
                  obtain rfl := Option.some.inj h22
                  exact And.intro rfl (by rcases q29_l with _ | _ <;> first | (exact sub_ren [0, 9001] [0, 1, 5, 6, 7] (by decide) rfl (.cons (.skip .nil)) (Nat.le_of_ble_eq_true rfl)) | (exact sub_ren [0, 1] [0, 1, 5, 6, 7] (by decide) rfl (.cons (.cons .nil)) (Nat.le_of_ble_eq_true rfl)))
                · have h22 := cnd_f hb32 h22
                  refine w_skip ?_
                  refine out_n ?_
                  obtain rfl := Option.some.inj h22
                  exact And.intro rfl (by rcases q29_l with _ | _ <;> first | (exact sub_ren [0, 9001] [0, 1, 5, 6, 7] (by decide) rfl (.cons (.skip .nil)) (Nat.le_of_ble_eq_true rfl)) | (exact sub_ren [0, 1] [0, 1, 5, 6, 7] (by decide) rfl (.cons (.cons .nil)) (Nat.le_of_ble_eq_true rfl)))
        · have hr := cnd_f hb18 hr
          refine w_exit ?_
          refine after_e ?_
          obtain rfl := Option.some.inj hr
          exact And.intro nofun (And.intro rfl (by rcases s7 with _ | _ <;> first | (exact sub_ren [0, 9001] [0, 1, 5, 6] (by decide) rfl (.cons (.skip .nil)) (Nat.le_of_ble_eq_true rfl)) | (exact sub_ren [0, 1] [0, 1, 5, 6] (by decide) rfl (.cons (.cons .nil)) (Nat.le_of_ble_eq_true rfl))))

end Go.Proofs.Ytebcbdalaiefmaa.H
