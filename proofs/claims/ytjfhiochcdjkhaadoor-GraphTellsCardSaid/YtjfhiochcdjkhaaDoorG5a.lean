/- What functions of the program compute, and that the model's run computes it. Conditions: as stated. -/
import Derived.Test.YtjfhiochcdjkhaaDoorEvX
import Derived.Test.YtjfhiochcdjkhaaDoorChecked
import Derived.KernelRfl
open Go.Ev Go
namespace Go.Proofs.YtjfhiochcdjkhaaDoor.G

noncomputable abbrev prog : Program := Tryd.prog
theorem mixed : prog.follows .mixedOrders = true := by kernel_rfl
def sig : Sig := fun f =>
  if f = 2 then (true, []) else if f = 3 then (true, []) else if f = 4 then (true, []) else if f = 8 then (true, []) else if f = 9 then (true, []) else if f = 10 then (true, []) else if f = 18 then (true, []) else if f = 19 then (true, []) else if f = 20 then (true, []) else if f = 22 then (true, []) else if f = 23 then (true, []) else if f = 25 then (true, []) else if f = 45 then (true, []) else (false, [])

structure ref20_Edge where
  From : Int
  To : Int
  deriving Inhabited, DecidableEq

def c_ref20_Edge (x : ref20_Edge) : List D := [.lit (.int .i64 x.From), .lit (.int .i64 x.To)]

structure graph_Edge where
  From : Int
  To : Int
  deriving Inhabited, DecidableEq

def c_graph_Edge (x : graph_Edge) : List D := [.lit (.int .i64 x.From), .lit (.int .i64 x.To)]

def cI_u16 (x : Int) : List D := [.lit (.int .u16 x)]

def tab0 : List Int := [0, 1, 28, 2, 29, 14, 24, 3, 30, 22, 20, 15, 25, 17, 4, 8, 31, 27, 13, 23, 21, 19, 16, 7, 26, 12, 18, 6, 11, 5, 10, 9]

def eg0 (x : Int) : D := .lit (.int .u8 x)

def cI_i64 (x : Int) : List D := [.lit (.int .i64 x)]

/- turnout/graph.Right -/
def k8 : CC :=
  (.seq
  (.region [
    ⟨some 4, .mv, [(.const (.bool false))], none⟩] [0, 1])
  (.seq
  (.seq
  (.region [
    ⟨some 7, .mv, [(.tmp 0)], none⟩,
    ⟨some 8, (.bin .lss), [(.tmp 7), (.const (.int .i64 0))], none⟩,
    ⟨some 9, .mv, [(.tmp 8)], none⟩,
    ⟨some 10, .mv, [(.tmp 0)], (some (9, false))⟩,
    ⟨some 11, (.bin .gtr), [(.tmp 10), (.const (.int .i64 16))], (some (9, false))⟩,
    ⟨some 12, .pick, [(.tmp 9), (.const (.bool true)), (.tmp 11)], none⟩] [0, 1, 12])
  (.cond (.tmp 12)
    (.seq
    (.region [
      ⟨some 4, .mv, [(.const (.bool false))], none⟩] [4])
    .ret)
    .skip))
  (.seq
  (.seq
  (.region [
    ⟨some 13, .mv, [(.tmp 1)], none⟩,
    ⟨some 14, (.len false), [(.tmp 13)], none⟩,
    ⟨some 15, .mv, [(.const (.int .i64 0))], none⟩] [0, 13, 14, 15])
  (.block 0
    (.loop [0, 13, 14, 15]
      (.seq
      (.region [
        ⟨some 16, (.bin .lss), [(.tmp 15), (.tmp 14)], none⟩] [0, 13, 14, 15, 16])
      (.seq
      (.cond (.tmp 16)
        .skip
        (.exit 0))
      (.seq
      (.block 1
        (.seq
        (.region [
          ⟨some 17, (.indexAddr none 2), [(.tmp 13), (.tmp 15)], none⟩,
          ⟨some 18, (.load true 2), [(.tmp 17)], none⟩,
          ⟨some 6, (.alloc [(.int .i64 0), (.int .i64 0)]), [], none⟩,
          ⟨none, (.store 2), [(.tmp 6), (.tmp 18)], none⟩] [0, 6, 13, 14, 15])
        (.seq
        (.region [
          ⟨some 19, (.fieldAddr 0), [(.tmp 6)], none⟩,
          ⟨some 20, (.load false 1), [(.tmp 19)], none⟩,
          ⟨some 21, (.bin .lss), [(.tmp 20), (.const (.int .i64 0))], none⟩,
          ⟨some 22, .mv, [(.tmp 21)], none⟩,
          ⟨some 23, (.fieldAddr 0), [(.tmp 6)], (some (22, false))⟩,
          ⟨some 24, (.load false 1), [(.tmp 23)], (some (22, false))⟩,
          ⟨some 25, .mv, [(.tmp 0)], (some (22, false))⟩,
          ⟨some 26, (.bin .geq), [(.tmp 24), (.tmp 25)], (some (22, false))⟩,
          ⟨some 27, .pick, [(.tmp 22), (.const (.bool true)), (.tmp 26)], none⟩,
          ⟨some 28, .mv, [(.tmp 27)], none⟩,
          ⟨some 29, (.fieldAddr 1), [(.tmp 6)], (some (28, false))⟩,
          ⟨some 30, (.load false 1), [(.tmp 29)], (some (28, false))⟩,
          ⟨some 31, (.bin .lss), [(.tmp 30), (.const (.int .i64 0))], (some (28, false))⟩,
          ⟨some 32, .pick, [(.tmp 28), (.const (.bool true)), (.tmp 31)], none⟩,
          ⟨some 33, .mv, [(.tmp 32)], none⟩,
          ⟨some 34, (.fieldAddr 1), [(.tmp 6)], (some (33, false))⟩,
          ⟨some 35, (.load false 1), [(.tmp 34)], (some (33, false))⟩,
          ⟨some 36, .mv, [(.tmp 0)], (some (33, false))⟩,
          ⟨some 37, (.bin .geq), [(.tmp 35), (.tmp 36)], (some (33, false))⟩,
          ⟨some 38, .pick, [(.tmp 33), (.const (.bool true)), (.tmp 37)], none⟩] [0, 13, 14, 15, 38])
        (.cond (.tmp 38)
          (.seq
          (.region [
            ⟨some 4, .mv, [(.const (.bool false))], none⟩] [4])
          .ret)
          .skip))))
      (.region [
        ⟨some 39, (.bin .add), [(.tmp 15), (.const (.int .i64 1))], none⟩,
        ⟨some 15, .mv, [(.tmp 39)], none⟩] [0, 13, 14, 15])))))))
  (.seq
  (.region [
    ⟨some 4, .mv, [(.const (.bool true))], none⟩] [4])
  .ret))))
def f8 : Ev.Fn := ⟨2, 40, [.tmp 4], k8⟩
set_option maxRecDepth 100000 in
theorem e8 : compFn prog sig 8 2 [[0, 1], [0, 1, 12], [4], [0, 13, 14, 15], [0, 13, 14, 15], [0, 13, 14, 15, 16], [0, 6, 13, 14, 15], [0, 13, 14, 15, 38], [4], [0, 13, 14, 15], [4]] = some f8 := by kernel_rfl
noncomputable def graph_Right_L1 (n_0 : Int) (l_1 : Sl graph_Edge) : Int → Option (Sum (Int) (Sum (Unit) (Unit))) := fun i5 =>
  bif decide (i5 < (l_1.l.length : Int)) then ((ixI i5 l_1.l.length).bind fun n10 =>
  bif ((decide (((gt l_1.l n10).From) < 0)) || ((decide (((gt l_1.l n10).From) ≥ n_0)) || ((decide (((gt l_1.l n10).To) < 0)) || (decide (((gt l_1.l n10).To) ≥ n_0))))) then (some (.inr (.inl ()))) else
  (some (.inl (wr .i64 (i5 + 1))))) else
  (some (.inr (.inr ())))

noncomputable def graph_Right (n_0 : Int) (l_1 : Sl graph_Edge) : Option (Bool) :=
  bif ((decide (n_0 < 0)) || (decide (n_0 > 16))) then (some false) else
  ((loopO (graph_Right_L1 n_0 l_1) 0).bind fun
  | .inl _ => (some false)
  | .inr (_) => (some true))
theorem graph_Right_ok {n_0 : Int} {l_1 : Sl graph_Edge} {z : Bool} (hp : graph_Right n_0 l_1 = some z) : Good prog 8 [.d (.lit (.int .i64 n_0)), .d (slD 2 c_graph_Edge l_1)] [.c (.d (.lit (.bool z)))] [] := by
  unfold graph_Right at hp
  refine fn_good mixed e8 (fnS (m := [false]) (s := ⟨[(0, .c (.d (.lit (.int .i64 n_0)))), (1, .c (.d (slD 2 c_graph_Edge l_1)))], [], 0, []⟩) (len := 0) (c := k8) rfl (Sub.of_eq rfl) rfl rfl ?_)
  refine w_seq ?_
  refine w_region ?_
  refine o1 rfl ?_
  refine o_end (e' := [(0, .c (.d (.lit (.int .i64 n_0)))), (1, .c (.d (slD 2 c_graph_Edge l_1)))]) rfl rfl ?_
  refine after_n ?_
  refine w_seq ?_
  refine w_seq ?_
  refine w_join (J := fun s => Sub s ⟨[(0, .c (.d (.lit (.int .i64 n_0)))), (1, .c (.d (slD 2 c_graph_Edge l_1))), (12, .c (.d (.lit (.bool ((decide (n_0 < 0)) || (decide (n_0 > 16)))))))], [], 0, []⟩) ?_ ?_
  · refine w_region ?_
    refine o1 rfl ?_
    refine o1 (v := .c (.d (.lit (.bool (decide (n_0 < 0)))))) rfl ?_
    refine o1 rfl ?_
    cases hb2 : (decide (n_0 < 0) : Bool)
    · refine og rfl rfl rfl ?_
      refine og (v := .c (.d (.lit (.bool (decide (n_0 > 16)))))) rfl rfl rfl ?_
      refine o1 rfl ?_
      exact o_join (sub_ren [] [0, 1, 12] (by decide) rfl .nil (Nat.le_of_ble_eq_true rfl))
    · refine onot rfl rfl ?_
      refine onot rfl rfl ?_
      refine o1 rfl ?_
      exact o_join (sub_ren [] [0, 1, 12] (by decide) rfl .nil (Nat.le_of_ble_eq_true rfl))
  · intro s hs3
    refine after_n ?_
    refine W.sub hs3 ?_
    refine w_cond (t := ((decide (n_0 < 0)) || (decide (n_0 > 16)))) rfl (fun hb4 => ?_) (fun hb4 => ?_)
    · have hp := cnd_t hb4 hp
      refine w_seq ?_
      refine w_region ?_
      refine o1 rfl ?_
      refine o_end (e' := [(4, .c (.d (.lit (.bool false))))]) rfl rfl ?_
      refine after_n ?_
      refine w_ret ?_
      refine after_r ?_
      obtain rfl := Option.some.inj hp
      exact leave_at rfl rfl (pr_c p_d pr_nil) pc_nil rfl rfl
    · have hp := cnd_f hb4 hp
      refine w_skip ?_
      refine after_n ?_
      refine w_seq ?_
      refine w_seq ?_
      refine w_region ?_
      refine o1 rfl ?_
      refine o1 (v := .c (.d (.lit (.int .i64 (l_1.l.length : Int))))) len_sd ?_
      refine o1 rfl ?_
      refine o_end (e' := [(0, .c (.d (.lit (.int .i64 n_0)))), (13, .c (.d (slD 2 c_graph_Edge l_1))), (14, .c (.d (.lit (.int .i64 (l_1.l.length : Int))))), (15, .c (.d (.lit (.int .i64 0))))]) rfl rfl ?_
      refine after_n ?_
      refine w_block ?_
      obtain ⟨x7, h8, hp⟩ := bnd hp
      refine W.mono ?_ (w_loopS (st := fun (v : Int) => match v with | i5 => ⟨[(0, .c (.d (.lit (.int .i64 n_0)))), (13, .c (.d (slD 2 c_graph_Edge l_1))), (14, .c (.d (.lit (.int .i64 (l_1.l.length : Int))))), (15, .c (.d (.lit (.int .i64 i5))))], [], 0, []⟩) (a := 0) (Q := Jn (fun (x : Sum (Unit) (Unit)) o s => match x with | .inl _ => o = Out.ret ∧ Sub s ⟨[(4, .c (.d (.lit (.bool false))))], [], 0, []⟩ | .inr (_) => o = Out.exit 0 ∧ Sub s ⟨[], [], 0, []⟩)) ?_ h8 ?_)
      · intro o s hs18
        rcases x7 with (_ | _)
        · obtain ⟨rfl, hs18⟩ := hs18
          refine out_r ?_
          refine after_r ?_
          obtain rfl := Option.some.inj hp
          refine wk.sub hs18 ?_
          exact leave_at rfl rfl (pr_c p_d pr_nil) pc_nil rfl rfl
        · obtain ⟨rfl, hs18⟩ := hs18
          refine out_e ?_
          refine after_n ?_
          refine W.sub hs18 ?_
          refine w_seq ?_
          refine w_region ?_
          refine o1 rfl ?_
          refine o_end (e' := [(4, .c (.d (.lit (.bool true))))]) rfl rfl ?_
          refine after_n ?_
          refine w_ret ?_
          obtain rfl := Option.some.inj hp
          exact leave_at rfl rfl (pr_c p_d pr_nil) pc_nil rfl rfl
      · exact (sub_ren [] [0, 13, 14, 15] (by decide) rfl .nil (Nat.le_of_ble_eq_true rfl))
      · rintro i5 r hr
        unfold graph_Right_L1 at hr
        refine w_seq ?_
        refine w_region ?_
        refine o1 (v := .c (.d (.lit (.bool (decide (i5 < (l_1.l.length : Int))))))) rfl ?_
        refine o_end (e' := [(0, .c (.d (.lit (.int .i64 n_0)))), (13, .c (.d (slD 2 c_graph_Edge l_1))), (14, .c (.d (.lit (.int .i64 (l_1.l.length : Int))))), (15, .c (.d (.lit (.int .i64 i5)))), (16, .c (.d (.lit (.bool (decide (i5 < (l_1.l.length : Int)))))))]) rfl rfl ?_
        refine after_n ?_
        refine w_seq ?_
        refine w_cond (t := decide (i5 < (l_1.l.length : Int))) rfl (fun hb9 => ?_) (fun hb9 => ?_)
        · have hr := cnd_t hb9 hr
          refine w_skip ?_
          refine after_n ?_
          refine w_seq ?_
          refine w_block ?_
          refine w_seq ?_
          obtain ⟨n10, h11, hr⟩ := bnd hr
          refine w_region ?_
          refine o1 (ix_sd h11) ?_
          refine o1 rfl ?_
          refine o2 rfl ?_
          refine o0 rfl ?_
          refine o_end (e' := [(0, .c (.d (.lit (.int .i64 n_0)))), (6, .c (.op 0 0)), (13, .c (.d (slD 2 c_graph_Edge l_1))), (14, .c (.d (.lit (.int .i64 (l_1.l.length : Int))))), (15, .c (.d (.lit (.int .i64 i5))))]) rfl rfl ?_
          refine after_n ?_
          refine w_seq ?_
          refine w_join (J := fun s => Sub s ⟨[(0, .c (.d (.lit (.int .i64 n_0)))), (13, .c (.d (slD 2 c_graph_Edge l_1))), (14, .c (.d (.lit (.int .i64 (l_1.l.length : Int))))), (15, .c (.d (.lit (.int .i64 i5)))), (38, .c (.d (.lit (.bool ((decide (((gt l_1.l n10).From) < 0)) || ((decide (((gt l_1.l n10).From) ≥ n_0)) || ((decide (((gt l_1.l n10).To) < 0)) || (decide (((gt l_1.l n10).To) ≥ n_0)))))))))], [], 0, []⟩) ?_ ?_
          · refine w_region ?_
            iterate 2 refine o1 rfl ?_
            refine o1 (v := .c (.d (.lit (.bool (decide (((gt l_1.l n10).From) < 0)))))) rfl ?_
            refine o1 rfl ?_
            cases hb13 : (decide (((gt l_1.l n10).From) < 0) : Bool)
            · refine og rfl rfl rfl ?_
              iterate 2 refine og rfl rfl rfl ?_
              refine og (v := .c (.d (.lit (.bool (decide (((gt l_1.l n10).From) ≥ n_0)))))) rfl rfl rfl ?_
              iterate 2 refine o1 rfl ?_
              cases hb14 : (decide (((gt l_1.l n10).From) ≥ n_0) : Bool)
              · refine og rfl rfl rfl ?_
                refine og rfl rfl rfl ?_
                refine og (v := .c (.d (.lit (.bool (decide (((gt l_1.l n10).To) < 0)))))) rfl rfl rfl ?_
                iterate 2 refine o1 rfl ?_
                cases hb15 : (decide (((gt l_1.l n10).To) < 0) : Bool)
                · refine og rfl rfl rfl ?_
                  iterate 2 refine og rfl rfl rfl ?_
                  refine og (v := .c (.d (.lit (.bool (decide (((gt l_1.l n10).To) ≥ n_0)))))) rfl rfl rfl ?_
                  refine o1 rfl ?_
                  exact o_join (sub_ren [] [0, 13, 14, 15, 38] (by decide) rfl .nil (Nat.le_of_ble_eq_true rfl))
                · refine onot rfl rfl ?_
                  iterate 3 refine onot rfl rfl ?_
                  refine o1 rfl ?_
                  exact o_join (sub_ren [] [0, 13, 14, 15, 38] (by decide) rfl .nil (Nat.le_of_ble_eq_true rfl))
              · refine onot rfl rfl ?_
                iterate 2 refine onot rfl rfl ?_
                iterate 2 refine o1 rfl ?_
                iterate 4 refine onot rfl rfl ?_
                refine o1 rfl ?_
                exact o_join (sub_ren [] [0, 13, 14, 15, 38] (by decide) rfl .nil (Nat.le_of_ble_eq_true rfl))
            · refine onot rfl rfl ?_
              iterate 3 refine onot rfl rfl ?_
              iterate 2 refine o1 rfl ?_
              iterate 3 refine onot rfl rfl ?_
              iterate 2 refine o1 rfl ?_
              iterate 4 refine onot rfl rfl ?_
              refine o1 rfl ?_
              exact o_join (sub_ren [] [0, 13, 14, 15, 38] (by decide) rfl .nil (Nat.le_of_ble_eq_true rfl))
          · intro s hs16
            refine after_n ?_
            refine W.sub hs16 ?_
            refine w_cond (t := ((decide (((gt l_1.l n10).From) < 0)) || ((decide (((gt l_1.l n10).From) ≥ n_0)) || ((decide (((gt l_1.l n10).To) < 0)) || (decide (((gt l_1.l n10).To) ≥ n_0)))))) rfl (fun hb17 => ?_) (fun hb17 => ?_)
            · have hr := cnd_t hb17 hr
              refine w_seq ?_
              refine w_region ?_
              refine o1 rfl ?_
              refine o_end (e' := [(4, .c (.d (.lit (.bool false))))]) rfl rfl ?_
              refine after_n ?_
              refine w_ret ?_
              refine out_r ?_
              refine after_r ?_
              obtain rfl := Option.some.inj hr
              exact And.intro nofun (And.intro rfl (sub_ren [] [4] (by decide) rfl .nil (Nat.le_of_ble_eq_true rfl)))
            · have hr := cnd_f hb17 hr
              refine w_skip ?_
              refine out_n ?_
              refine after_n ?_
              refine w_region ?_
              refine o1 (v := .c (.d (.lit (.int .i64 (wr .i64 (i5 + 1)))))) rfl ?_
              refine o1 rfl ?_
              refine o_end (e' := [(0, .c (.d (.lit (.int .i64 n_0)))), (13, .c (.d (slD 2 c_graph_Edge l_1))), (14, .c (.d (.lit (.int .i64 (l_1.l.length : Int))))), (15, .c (.d (.lit (.int .i64 (wr .i64 (i5 + 1))))))]) rfl rfl ?_
              obtain rfl := Option.some.inj hr
              exact And.intro rfl (sub_ren [] [0, 13, 14, 15] (by decide) rfl .nil (Nat.le_of_ble_eq_true rfl))
        · have hr := cnd_f hb9 hr
          refine w_exit ?_
          refine after_e ?_
          obtain rfl := Option.some.inj hr
          exact And.intro nofun (And.intro rfl (sub_ren [] [] (by decide) rfl .nil (Nat.le_of_ble_eq_true rfl)))

/- turnout/graph.next -/
def k17 : CC :=
  (.seq
  (.region [
    ⟨some 4, .mv, [(.const (.slice none 0 0))], none⟩] [0, 1])
  (.seq
  (.region [
    ⟨some 8, .mv, [(.tmp 0)], none⟩,
    ⟨some 9, (.makeSlice [(.int .u16 0)]), [(.tmp 8), (.tmp 8)], none⟩,
    ⟨some 5, .mv, [(.tmp 9)], none⟩] [1, 5])
  (.seq
  (.seq
  (.region [
    ⟨some 10, .mv, [(.tmp 1)], none⟩,
    ⟨some 11, (.len false), [(.tmp 10)], none⟩,
    ⟨some 12, .mv, [(.const (.int .i64 0))], none⟩] [5, 10, 11, 12])
  (.block 0
    (.loop [5, 10, 11, 12]
      (.seq
      (.region [
        ⟨some 13, (.bin .lss), [(.tmp 12), (.tmp 11)], none⟩] [5, 10, 11, 12, 13])
      (.seq
      (.cond (.tmp 13)
        .skip
        (.exit 0))
      (.seq
      (.block 1
        (.seq
        (.region [
          ⟨some 14, (.indexAddr none 2), [(.tmp 10), (.tmp 12)], none⟩,
          ⟨some 15, (.load true 2), [(.tmp 14)], none⟩,
          ⟨some 7, (.alloc [(.int .i64 0), (.int .i64 0)]), [], none⟩,
          ⟨none, (.store 2), [(.tmp 7), (.tmp 15)], none⟩] [5, 7, 10, 11, 12])
        (.drawn [
          ⟨some 16, .mv, [(.tmp 5)], none⟩,
          ⟨some 17, (.fieldAddr 0), [(.tmp 7)], none⟩,
          ⟨some 18, (.load false 1), [(.tmp 17)], none⟩,
          ⟨some 19, (.indexAddr none 1), [(.tmp 16), (.tmp 18)], none⟩,
          ⟨some 20, (.load false 1), [(.tmp 19)], none⟩,
          ⟨some 21, (.fieldAddr 1), [(.tmp 7)], none⟩,
          ⟨some 22, (.load false 1), [(.tmp 21)], none⟩,
          ⟨some 23, (.bin .shl), [(.const (.int .u16 1)), (.tmp 22)], none⟩,
          ⟨some 24, (.bin .or), [(.tmp 20), (.tmp 23)], none⟩,
          ⟨some 25, (.indexAddr none 1), [(.tmp 16), (.tmp 18)], none⟩,
          ⟨none, (.store 1), [(.tmp 25), (.tmp 24)], none⟩] [] [5, 10, 11, 12])))
      (.region [
        ⟨some 26, (.bin .add), [(.tmp 12), (.const (.int .i64 1))], none⟩,
        ⟨some 12, .mv, [(.tmp 26)], none⟩] [5, 10, 11, 12])))))))
  (.seq
  (.region [
    ⟨some 27, .mv, [(.tmp 5)], none⟩,
    ⟨some 4, .mv, [(.tmp 27)], none⟩] [4])
  .ret))))
def f17 : Ev.Fn := ⟨2, 28, [.tmp 4], k17⟩
set_option maxRecDepth 100000 in
theorem e17 : compFn prog sig 17 2 [[0, 1], [1, 5], [5, 10, 11, 12], [5, 10, 11, 12], [5, 10, 11, 12, 13], [5, 7, 10, 11, 12], [5, 10, 11, 12], [5, 10, 11, 12], [4]] = some f17 := by kernel_rfl
noncomputable def graph_next_L1 (l_1 : Sl graph_Edge) : (List Int × Int) → Option (Sum ((List Int × Int)) (List Int)) := fun (l3, i4) =>
  bif decide (i4 < (l_1.l.length : Int)) then ((ixI i4 l_1.l.length).bind fun n11 =>
  (ixI ((gt l_1.l n11).From) l3.length).bind fun n13 =>
  (shlI .u16 1 ((gt l_1.l n11).To)).bind fun x15 =>
  some (.inl ((l3.set n13 (bOr .u16 (gt l3 n13) x15)), wr .i64 (i4 + 1)))) else
  (some (.inr l3))

noncomputable def graph_next (n_0 : Int) (l_1 : Sl graph_Edge) : Option (Sl Int) :=
  (mkI 0 n_0 n_0).bind fun l1 =>
  (loopO (graph_next_L1 l_1) (l1, 0)).bind fun l7 =>
  some (Sl.mk l7)
theorem graph_next_ok {n_0 : Int} {l_1 : Sl graph_Edge} {z : Sl Int} (hp : graph_next n_0 l_1 = some z) : Good prog 17 [.d (.lit (.int .i64 n_0)), .d (slD 2 c_graph_Edge l_1)] [.c (.d (slD 1 cI_u16 z))] [] := by
  unfold graph_next at hp
  refine fn_good mixed e17 (fnS (m := [true]) (s := ⟨[(0, .c (.d (.lit (.int .i64 n_0)))), (1, .c (.d (slD 2 c_graph_Edge l_1)))], [], 0, []⟩) (len := 0) (c := k17) rfl (Sub.of_eq rfl) rfl rfl ?_)
  refine w_seq ?_
  refine w_region ?_
  refine o1 rfl ?_
  refine o_end (e' := [(0, .c (.d (.lit (.int .i64 n_0)))), (1, .c (.d (slD 2 c_graph_Edge l_1)))]) rfl rfl ?_
  refine after_n ?_
  refine w_seq ?_
  obtain ⟨l1, h2, hp⟩ := bnd hp
  refine w_region ?_
  refine o1 rfl ?_
  refine o2 (ev_make (enc := cI_u16) (z := 0) rfl h2) ?_
  refine o1 rfl ?_
  refine o_end (e' := [(1, .c (.d (slD 2 c_graph_Edge l_1))), (5, .c (slC 1 cI_u16 0 (Sl.mk l1)))]) rfl rfl ?_
  refine after_n ?_
  refine w_seq ?_
  refine w_seq ?_
  refine w_region ?_
  refine o1 rfl ?_
  refine o1 (v := .c (.d (.lit (.int .i64 (l_1.l.length : Int))))) len_sd ?_
  refine o1 rfl ?_
  refine o_end (e' := [(5, .c (slC 1 cI_u16 0 (Sl.mk l1))), (10, .c (.d (slD 2 c_graph_Edge l_1))), (11, .c (.d (.lit (.int .i64 (l_1.l.length : Int))))), (12, .c (.d (.lit (.int .i64 0))))]) rfl rfl ?_
  refine after_n ?_
  refine w_block ?_
  obtain ⟨l7, h9, hp⟩ := bnd hp
  refine W.mono ?_ (w_loopS (st := fun (v : (List Int × Int)) => match v with | (l3, i4) => ⟨[(5, .c (slC 1 cI_u16 0 (Sl.mk l3))), (10, .c (.d (slD 2 c_graph_Edge l_1))), (11, .c (.d (.lit (.int .i64 (l_1.l.length : Int))))), (12, .c (.d (.lit (.int .i64 i4))))], [(0, slO 1 cI_u16 (Sl.mk l3))], 1, []⟩) (a := (l1, 0)) (Q := Jn (fun (x : List Int) o s => match x with | l7 => o = Out.exit 0 ∧ Sub s ⟨[(5, .c (slC 1 cI_u16 0 (Sl.mk l7)))], [(0, slO 1 cI_u16 (Sl.mk l7))], 1, []⟩)) ?_ h9 ?_)
  · intro o s hs17
    obtain ⟨rfl, hs17⟩ := hs17
    refine out_e ?_
    refine after_n ?_
    refine W.sub hs17 ?_
    refine w_seq ?_
    refine w_region ?_
    iterate 2 refine o1 rfl ?_
    refine o_end (e' := [(4, .c (slC 1 cI_u16 0 (Sl.mk l7)))]) rfl rfl ?_
    refine after_n ?_
    refine w_ret ?_
    obtain rfl := Option.some.inj hp
    exact leave_at rfl rfl (pr_c (p_o rfl) pr_nil) pc_nil rfl rfl
  · exact (sub_ren [0] [5, 10, 11, 12] (by decide) rfl (.cons .nil) (Nat.le_of_ble_eq_true rfl))
  · rintro ⟨l3, i4⟩ r hr
    unfold graph_next_L1 at hr
    refine w_seq ?_
    refine w_region ?_
    refine o1 (v := .c (.d (.lit (.bool (decide (i4 < (l_1.l.length : Int))))))) rfl ?_
    refine o_end (e' := [(5, .c (slC 1 cI_u16 0 (Sl.mk l3))), (10, .c (.d (slD 2 c_graph_Edge l_1))), (11, .c (.d (.lit (.int .i64 (l_1.l.length : Int))))), (12, .c (.d (.lit (.int .i64 i4)))), (13, .c (.d (.lit (.bool (decide (i4 < (l_1.l.length : Int)))))))]) rfl rfl ?_
    refine after_n ?_
    refine w_seq ?_
    refine w_cond (t := decide (i4 < (l_1.l.length : Int))) rfl (fun hb10 => ?_) (fun hb10 => ?_)
    · have hr := cnd_t hb10 hr
      refine w_skip ?_
      refine after_n ?_
      refine w_seq ?_
      refine w_block ?_
      refine w_seq ?_
      obtain ⟨n11, h12, hr⟩ := bnd hr
      refine w_region ?_
      refine o1 (ix_sd h12) ?_
      refine o1 rfl ?_
      refine o2 rfl ?_
      refine o0 rfl ?_
      refine o_end (e' := [(5, .c (slC 1 cI_u16 0 (Sl.mk l3))), (7, .c (.op 1 0)), (10, .c (.d (slD 2 c_graph_Edge l_1))), (11, .c (.d (.lit (.int .i64 (l_1.l.length : Int))))), (12, .c (.d (.lit (.int .i64 i4))))]) rfl rfl ?_
      refine after_n ?_
      obtain ⟨n13, h14, hr⟩ := bnd hr
      obtain ⟨x15, h16, hr⟩ := bnd hr
      try dsimp only [slC, slO]
      refine w_drawn ?_
      iterate 3 refine d1 rfl ?_
      refine d1 (ix_o h14) ?_
      refine d1 (ld_row rfl (ixI_some.1 h14).2 rfl) ?_
      iterate 2 refine d1 rfl ?_
      refine d1 (v := .c (.d (.lit (.int .u16 x15)))) (ev_shl h16) ?_
      refine d1 (v := .c (.d (.lit (.int .u16 (bOr .u16 (gt l3 n13) x15))))) rfl ?_
      refine d1 (ix_o h14) ?_
      refine d0 (st_row (y := bOr .u16 (gt l3 n13) x15) rfl (ixI_some.1 h14).2 rfl rfl rfl (Nat.le_of_ble_eq_true rfl) rfl) (Nat.le_of_ble_eq_true rfl) ?_
      rw [len_set l3 cI_u16 n13 (bOr .u16 (gt l3 n13) x15)]
      refine d_fin (e' := [(5, .c (slC 1 cI_u16 0 (Sl.mk (l3.set n13 (bOr .u16 (gt l3 n13) x15))))), (10, .c (.d (slD 2 c_graph_Edge l_1))), (11, .c (.d (.lit (.int .i64 (l_1.l.length : Int))))), (12, .c (.d (.lit (.int .i64 i4))))]) (n' := 706) rfl rfl rfl rfl ?_
      refine out_n ?_
      refine after_n ?_
      refine w_region ?_
      refine o1 (v := .c (.d (.lit (.int .i64 (wr .i64 (i4 + 1)))))) rfl ?_
      refine o1 rfl ?_
      refine o_end (e' := [(5, .c (slC 1 cI_u16 0 (Sl.mk (l3.set n13 (bOr .u16 (gt l3 n13) x15))))), (10, .c (.d (slD 2 c_graph_Edge l_1))), (11, .c (.d (.lit (.int .i64 (l_1.l.length : Int))))), (12, .c (.d (.lit (.int .i64 (wr .i64 (i4 + 1))))))]) rfl rfl ?_
      obtain rfl := Option.some.inj hr
      exact And.intro rfl (sub_ren [0] [5, 10, 11, 12] (by decide) rfl (.cons .nil) (Nat.le_of_ble_eq_true rfl))
    · have hr := cnd_f hb10 hr
      refine w_exit ?_
      refine after_e ?_
      obtain rfl := Option.some.inj hr
      exact And.intro nofun (And.intro rfl (sub_ren [0] [5] (by decide) rfl (.cons .nil) (Nat.le_of_ble_eq_true rfl)))

/- math/bits.TrailingZeros16 -/
def k19 : CC :=
  (.seq
  (.region [
    ⟨some 2, .mv, [(.const (.int .i64 0))], none⟩] [0])
  (.seq
  (.seq
  (.region [
    ⟨some 3, .mv, [(.tmp 0)], none⟩,
    ⟨some 4, (.bin .eql), [(.tmp 3), (.const (.int .u16 0))], none⟩] [0, 4])
  (.cond (.tmp 4)
    (.seq
    (.region [
      ⟨some 2, .mv, [(.const (.int .i64 16))], none⟩] [2])
    .ret)
    .skip))
  (.seq
  (.region [
    ⟨some 5, .mv, [(.tmp 0)], none⟩,
    ⟨some 6, .mv, [(.tmp 0)], none⟩,
    ⟨some 7, (.un .neg), [(.tmp 6)], none⟩,
    ⟨some 8, (.bin .and), [(.tmp 5), (.tmp 7)], none⟩,
    ⟨some 9, (.convInt .u32), [(.tmp 8)], none⟩,
    ⟨some 10, (.bin .mul), [(.tmp 9), (.const (.int .u32 125613361))], none⟩,
    ⟨some 11, (.bin .shr), [(.tmp 10), (.const (.int .u64 27))], none⟩,
    ⟨some 12, (.indexAddr (some 32) 1), [(.global 0), (.tmp 11)], none⟩,
    ⟨some 13, (.load false 1), [(.tmp 12)], none⟩,
    ⟨some 14, (.convInt .i64), [(.tmp 13)], none⟩,
    ⟨some 2, .mv, [(.tmp 14)], none⟩] [2])
  .ret)))
def f19 : Ev.Fn := ⟨1, 15, [.tmp 2], k19⟩
set_option maxRecDepth 100000 in
theorem e19 : compFn prog sig 19 1 [[0], [0, 4], [2], [2]] = some f19 := by kernel_rfl
noncomputable def math_bits_TrailingZeros16 (x_0 : Int) : Option (Int) :=
  bif (x_0 == 0) then (some 16) else
  ((ixI (bShr .u32 (wr .u32 ((wr .u32 (bAnd .u16 x_0 (wr .u16 (0 - x_0)))) * 125613361)) 27) tab0.length).bind fun n2 =>
  some (wr .i64 (gt tab0 n2)))
theorem math_bits_TrailingZeros16_ok {x_0 : Int} {z : Int} (hp : math_bits_TrailingZeros16 x_0 = some z) : Good prog 19 [.d (.lit (.int .u16 x_0))] [.c (.d (.lit (.int .i64 z)))] [] := by
  unfold math_bits_TrailingZeros16 at hp
  refine fn_good mixed e19 (fnS (m := [false]) (s := ⟨[(0, .c (.d (.lit (.int .u16 x_0))))], [], 0, []⟩) (len := 0) (c := k19) rfl (Sub.of_eq rfl) rfl rfl ?_)
  refine w_seq ?_
  refine w_region ?_
  refine o1 rfl ?_
  refine o_end (e' := [(0, .c (.d (.lit (.int .u16 x_0))))]) rfl rfl ?_
  refine after_n ?_
  refine w_seq ?_
  refine w_seq ?_
  refine w_region ?_
  refine o1 rfl ?_
  refine o1 (v := .c (.d (.lit (.bool (x_0 == 0))))) rfl ?_
  refine o_end (e' := [(0, .c (.d (.lit (.int .u16 x_0)))), (4, .c (.d (.lit (.bool (x_0 == 0)))))]) rfl rfl ?_
  refine after_n ?_
  refine w_cond (t := (x_0 == 0)) rfl (fun hb1 => ?_) (fun hb1 => ?_)
  · have hp := cnd_t hb1 hp
    refine w_seq ?_
    refine w_region ?_
    refine o1 rfl ?_
    refine o_end (e' := [(2, .c (.d (.lit (.int .i64 16))))]) rfl rfl ?_
    refine after_n ?_
    refine w_ret ?_
    refine after_r ?_
    obtain rfl := Option.some.inj hp
    exact leave_at rfl rfl (pr_c p_d pr_nil) pc_nil rfl rfl
  · have hp := cnd_f hb1 hp
    refine w_skip ?_
    refine after_n ?_
    refine w_seq ?_
    obtain ⟨n2, h3, hp⟩ := bnd hp
    refine w_region ?_
    iterate 2 refine o1 rfl ?_
    refine o1 (v := .c (.d (.lit (.int .u16 (wr .u16 (0 - x_0)))))) rfl ?_
    refine o1 (v := .c (.d (.lit (.int .u16 (bAnd .u16 x_0 (wr .u16 (0 - x_0))))))) rfl ?_
    refine o1 (v := .c (.d (.lit (.int .u32 (wr .u32 (bAnd .u16 x_0 (wr .u16 (0 - x_0)))))))) rfl ?_
    refine o1 (v := .c (.d (.lit (.int .u32 (wr .u32 ((wr .u32 (bAnd .u16 x_0 (wr .u16 (0 - x_0)))) * 125613361)))))) rfl ?_
    refine o1 (v := .c (.d (.lit (.int .u32 (bShr .u32 (wr .u32 ((wr .u32 (bAnd .u16 x_0 (wr .u16 (0 - x_0)))) * 125613361)) 27))))) rfl ?_
    refine o1 (ix_g (l := tab0) (f := eg0) rfl h3) ?_
    refine o1 rfl ?_
    refine o1 (v := .c (.d (.lit (.int .i64 (wr .i64 (gt tab0 n2)))))) rfl ?_
    refine o1 rfl ?_
    refine o_end (e' := [(2, .c (.d (.lit (.int .i64 (wr .i64 (gt tab0 n2))))))]) rfl rfl ?_
    refine after_n ?_
    refine w_ret ?_
    obtain rfl := Option.some.inj hp
    exact leave_at rfl rfl (pr_c p_d pr_nil) pc_nil rfl rfl

/- turnout/graph.list -/
def k21 : CC :=
  (.seq
  (.region [
    ⟨some 2, .mv, [(.const (.slice none 0 0))], none⟩] [0])
  (.seq
  (.region [
    ⟨some 3, .mv, [(.const (.slice none 0 0))], none⟩] [0, 3])
  (.seq
  (.block 0
    (.loop [0, 3]
      (.seq
      (.seq
      (.region [
        ⟨some 4, .mv, [(.tmp 0)], none⟩,
        ⟨some 5, (.bin .neq), [(.tmp 4), (.const (.int .u16 0))], none⟩] [0, 3, 5])
      (.cond (.tmp 5)
        .skip
        (.exit 0)))
      (.seq
      (.block 1
        (.region [
          ⟨some 10, .mv, [(.tmp 3)], none⟩,
          ⟨some 11, .mv, [(.tmp 0)], none⟩,
          ⟨some 12, (.call true []), [(.func 19), (.tmp 11)], none⟩,
          ⟨some 13, (.buildSlice 1 1 [(.int .i64 0)] [0]), [(.tmp 12)], none⟩,
          ⟨some 14, (.append 1), [(.tmp 10), (.tmp 13)], none⟩,
          ⟨some 3, .mv, [(.tmp 14)], none⟩] [0, 3]))
      (.region [
        ⟨some 6, .mv, [(.tmp 0)], none⟩,
        ⟨some 7, .mv, [(.tmp 0)], none⟩,
        ⟨some 8, (.bin .sub), [(.tmp 7), (.const (.int .u16 1))], none⟩,
        ⟨some 9, (.bin .and), [(.tmp 6), (.tmp 8)], none⟩,
        ⟨some 0, .mv, [(.tmp 9)], none⟩] [0, 3])))))
  (.seq
  (.region [
    ⟨some 15, .mv, [(.tmp 3)], none⟩,
    ⟨some 2, .mv, [(.tmp 15)], none⟩] [2])
  .ret))))
def f21 : Ev.Fn := ⟨1, 16, [.tmp 2], k21⟩
set_option maxRecDepth 100000 in
theorem e21 : compFn prog sig 21 1 [[0], [0, 3], [0, 3], [0, 3, 5], [0, 3], [0, 3], [2]] = some f21 := by kernel_rfl
noncomputable def graph_list_L1 : (Int × Sl Int) → Option (Sum ((Int × Sl Int)) (Sl Int)) := fun (i1, s2) =>
  bif (i1 != 0) then ((math_bits_TrailingZeros16 i1).bind fun r9 =>
  (capI (s2.l ++ [r9])).bind fun l11 =>
  some (.inl (bAnd .u16 i1 (wr .u16 (i1 - 1)), (Sl.mk l11)))) else
  (some (.inr s2))

noncomputable def graph_list (set_0 : Int) : Option (Sl Int) :=
  (loopO (graph_list_L1) (set_0, Sl.nil)).bind fun s5 =>
  some s5
theorem graph_list_ok {set_0 : Int} {z : Sl Int} (hp : graph_list set_0 = some z) : Good prog 21 [.d (.lit (.int .u16 set_0))] [.c (.d (slD 1 cI_i64 z))] [] := by
  unfold graph_list at hp
  refine fn_good mixed e21 (fnS (m := [true]) (s := ⟨[(0, .c (.d (.lit (.int .u16 set_0))))], [], 0, []⟩) (len := 0) (c := k21) rfl (Sub.of_eq rfl) rfl rfl ?_)
  refine w_seq ?_
  refine w_region ?_
  refine o1 rfl ?_
  refine o_end (e' := [(0, .c (.d (.lit (.int .u16 set_0))))]) rfl rfl ?_
  refine after_n ?_
  refine w_seq ?_
  refine w_region ?_
  refine o1 rfl ?_
  refine o_end (e' := [(0, .c (.d (.lit (.int .u16 set_0)))), (3, .c (.d (.lit (.slice none 0 0))))]) rfl rfl ?_
  refine after_n ?_
  refine w_seq ?_
  refine w_block ?_
  obtain ⟨s5, h7, hp⟩ := bnd hp
  refine W.mono ?_ (w_loopS (st := fun (v : (Int × Sl Int)) => match v with | (i1, s2) => ⟨[(0, .c (.d (.lit (.int .u16 i1)))), (3, .c (slC 1 cI_i64 0 s2))], [(0, slO 1 cI_i64 s2)], 1, []⟩) (a := (set_0, Sl.nil)) (Q := Jn (fun (x : Sl Int) o s => match x with | s5 => o = Out.exit 0 ∧ Sub s ⟨[(3, .c (slC 1 cI_i64 0 s5))], [(0, slO 1 cI_i64 s5)], 1, []⟩)) ?_ h7 ?_)
  · intro o s hs14
    obtain ⟨rfl, hs14⟩ := hs14
    refine out_e ?_
    refine after_n ?_
    refine W.sub hs14 ?_
    refine w_seq ?_
    refine w_region ?_
    iterate 2 refine o1 rfl ?_
    refine o_end (e' := [(2, .c (slC 1 cI_i64 0 s5))]) rfl rfl ?_
    refine after_n ?_
    refine w_ret ?_
    obtain rfl := Option.some.inj hp
    rcases s5 with _ | s5'
    · exact leave_at rfl rfl (pr_c p_d pr_nil) pc_nil rfl rfl
    · exact leave_at rfl rfl (pr_c (p_o rfl) pr_nil) pc_nil rfl rfl
  · exact (sub_ren [9000] [0, 3] (by decide) rfl (.skip .nil) (Nat.le_of_ble_eq_true rfl))
  · rintro ⟨i1, s2⟩ r hr
    unfold graph_list_L1 at hr
    refine w_seq ?_
    refine w_seq ?_
    refine w_region ?_
    refine o1 rfl ?_
    refine o1 (v := .c (.d (.lit (.bool (i1 != 0))))) rfl ?_
    refine o_end (e' := [(0, .c (.d (.lit (.int .u16 i1)))), (3, .c (slC 1 cI_i64 0 s2)), (5, .c (.d (.lit (.bool (i1 != 0)))))]) rfl rfl ?_
    refine after_n ?_
    refine w_cond (t := (i1 != 0)) rfl (fun hb8 => ?_) (fun hb8 => ?_)
    · have hr := cnd_t hb8 hr
      refine w_skip ?_
      refine after_n ?_
      refine w_seq ?_
      refine w_block ?_
      obtain ⟨r9, h10, hr⟩ := bnd hr
      obtain ⟨l11, h12, hr⟩ := bnd hr
      refine w_join (J := fun s => Sub s ⟨[(0, .c (.d (.lit (.int .u16 i1)))), (3, .c (slC 1 cI_i64 0 (Sl.mk l11)))], [(0, slO 1 cI_i64 (Sl.mk l11))], 1, []⟩) ?_ ?_
      · rcases s2 with _ | s2'
        · try dsimp only [slC, slO]
          refine w_region ?_
          iterate 2 refine o1 rfl ?_
          refine oc (rs := [.c (.d (.lit (.int .i64 r9)))]) (outs := []) rfl (math_bits_TrailingZeros16_ok h10) rfl ?_
          refine o2 rfl ?_
          refine o2 (app_nil (enc := cI_i64) rfl h12) ?_
          refine o1 rfl ?_
          exact o_join (sub_ren [2] [0, 3] (by decide) rfl (.cons .nil) (Nat.le_of_ble_eq_true rfl))
        · try dsimp only [slC, slO]
          refine w_region ?_
          iterate 2 refine o1 rfl ?_
          refine oc (rs := [.c (.d (.lit (.int .i64 r9)))]) (outs := []) rfl (math_bits_TrailingZeros16_ok h10) rfl ?_
          refine o2 rfl ?_
          refine o2 (app_o rfl rfl h12) ?_
          refine o1 rfl ?_
          exact o_join (sub_ren [2] [0, 3] (by decide) rfl (.cons .nil) (Nat.le_of_ble_eq_true rfl))
      · intro s hs13
        refine out_n ?_
        refine after_n ?_
        refine W.sub hs13 ?_
        refine w_region ?_
        iterate 2 refine o1 rfl ?_
        refine o1 (v := .c (.d (.lit (.int .u16 (wr .u16 (i1 - 1)))))) rfl ?_
        refine o1 (v := .c (.d (.lit (.int .u16 (bAnd .u16 i1 (wr .u16 (i1 - 1))))))) rfl ?_
        refine o1 rfl ?_
        refine o_end (e' := [(0, .c (.d (.lit (.int .u16 (bAnd .u16 i1 (wr .u16 (i1 - 1))))))), (3, .c (slC 1 cI_i64 0 (Sl.mk l11)))]) rfl rfl ?_
        obtain rfl := Option.some.inj hr
        exact And.intro rfl (sub_ren [0] [0, 3] (by decide) rfl (.cons .nil) (Nat.le_of_ble_eq_true rfl))
    · have hr := cnd_f hb8 hr
      refine w_exit ?_
      refine after_e ?_
      obtain rfl := Option.some.inj hr
      exact And.intro nofun (And.intro rfl (by rcases s2 with _ | _ <;> first | (exact sub_ren [9000] [3] (by decide) rfl (.skip .nil) (Nat.le_of_ble_eq_true rfl)) | (exact sub_ren [0] [3] (by decide) rfl (.cons .nil) (Nat.le_of_ble_eq_true rfl))))

/- turnout/graph.over -/
def k18 : CC :=
  (.seq
  (.region [
    ⟨some 4, .mv, [(.const (.int .u16 0))], none⟩] [0, 1])
  (.seq
  (.region [
    ⟨some 5, .mv, [(.const (.int .u16 0))], none⟩] [0, 1, 5])
  (.seq
  (.seq
  (.region [
    ⟨some 8, .mv, [(.tmp 1)], none⟩,
    ⟨some 9, (.call false []), [(.func 21), (.tmp 8)], none⟩,
    ⟨some 10, (.len false), [(.tmp 9)], none⟩,
    ⟨some 11, .mv, [(.const (.int .i64 0))], none⟩] [0, 5, 9, 10, 11])
  (.block 0
    (.loop [0, 5, 9, 10, 11]
      (.seq
      (.region [
        ⟨some 12, (.bin .lss), [(.tmp 11), (.tmp 10)], none⟩] [0, 5, 9, 10, 11, 12])
      (.seq
      (.cond (.tmp 12)
        .skip
        (.exit 0))
      (.seq
      (.block 1
        (.seq
        (.region [
          ⟨some 13, (.indexAddr none 1), [(.tmp 9), (.tmp 11)], none⟩,
          ⟨some 14, (.load false 1), [(.tmp 13)], none⟩,
          ⟨some 7, .mv, [(.tmp 14)], none⟩] [0, 5, 7, 9, 10, 11])
        (.region [
          ⟨some 15, .mv, [(.tmp 5)], none⟩,
          ⟨some 16, .mv, [(.tmp 0)], none⟩,
          ⟨some 17, .mv, [(.tmp 7)], none⟩,
          ⟨some 18, (.indexAddr none 1), [(.tmp 16), (.tmp 17)], none⟩,
          ⟨some 19, (.load false 1), [(.tmp 18)], none⟩,
          ⟨some 20, (.bin .or), [(.tmp 15), (.tmp 19)], none⟩,
          ⟨some 5, .mv, [(.tmp 20)], none⟩] [0, 5, 9, 10, 11])))
      (.region [
        ⟨some 21, (.bin .add), [(.tmp 11), (.const (.int .i64 1))], none⟩,
        ⟨some 11, .mv, [(.tmp 21)], none⟩] [0, 5, 9, 10, 11])))))))
  (.seq
  (.region [
    ⟨some 22, .mv, [(.tmp 5)], none⟩,
    ⟨some 4, .mv, [(.tmp 22)], none⟩] [4])
  .ret))))
def f18 : Ev.Fn := ⟨2, 23, [.tmp 4], k18⟩
set_option maxRecDepth 100000 in
theorem e18 : compFn prog sig 18 2 [[0, 1], [0, 1, 5], [0, 5, 9, 10, 11], [0, 5, 9, 10, 11], [0, 5, 9, 10, 11, 12], [0, 5, 7, 9, 10, 11], [0, 5, 9, 10, 11], [0, 5, 9, 10, 11], [4]] = some f18 := by kernel_rfl
noncomputable def graph_over_L1 (to_0 : Sl Int) (r1 : Sl Int) : (Int × Int) → Option (Sum ((Int × Int)) (Int)) := fun (i3, i4) =>
  bif decide (i4 < (r1.l.length : Int)) then ((ixI i4 r1.l.length).bind fun n11 =>
  (ixI (gt r1.l n11) to_0.l.length).bind fun n13 =>
  some (.inl (bOr .u16 i3 (gt to_0.l n13), wr .i64 (i4 + 1)))) else
  (some (.inr i3))

noncomputable def graph_over (to_0 : Sl Int) (set_1 : Int) : Option (Int) :=
  (graph_list set_1).bind fun r1 =>
  (loopO (graph_over_L1 to_0 r1) (0, 0)).bind fun i7 =>
  some i7
theorem graph_over_ok {to_0 : Sl Int} {set_1 : Int} {z : Int} (hp : graph_over to_0 set_1 = some z) : Good prog 18 [.d (slD 1 cI_u16 to_0), .d (.lit (.int .u16 set_1))] [.c (.d (.lit (.int .u16 z)))] [] := by
  unfold graph_over at hp
  refine fn_good mixed e18 (fnS (m := [false]) (s := ⟨[(0, .c (.d (slD 1 cI_u16 to_0))), (1, .c (.d (.lit (.int .u16 set_1))))], [], 0, []⟩) (len := 0) (c := k18) rfl (Sub.of_eq rfl) rfl rfl ?_)
  refine w_seq ?_
  refine w_region ?_
  refine o1 rfl ?_
  refine o_end (e' := [(0, .c (.d (slD 1 cI_u16 to_0))), (1, .c (.d (.lit (.int .u16 set_1))))]) rfl rfl ?_
  refine after_n ?_
  refine w_seq ?_
  refine w_region ?_
  refine o1 rfl ?_
  refine o_end (e' := [(0, .c (.d (slD 1 cI_u16 to_0))), (1, .c (.d (.lit (.int .u16 set_1)))), (5, .c (.d (.lit (.int .u16 0))))]) rfl rfl ?_
  refine after_n ?_
  refine w_seq ?_
  refine w_seq ?_
  obtain ⟨r1, h2, hp⟩ := bnd hp
  refine w_region ?_
  refine o1 rfl ?_
  refine oc (rs := [.c (.d (slD 1 cI_i64 r1))]) (outs := []) rfl (graph_list_ok h2) rfl ?_
  refine o1 (v := .c (.d (.lit (.int .i64 (r1.l.length : Int))))) len_sd ?_
  refine o1 rfl ?_
  refine o_end (e' := [(0, .c (.d (slD 1 cI_u16 to_0))), (5, .c (.d (.lit (.int .u16 0)))), (9, .c (.d (slD 1 cI_i64 r1))), (10, .c (.d (.lit (.int .i64 (r1.l.length : Int))))), (11, .c (.d (.lit (.int .i64 0))))]) rfl rfl ?_
  refine after_n ?_
  refine w_block ?_
  obtain ⟨i7, h9, hp⟩ := bnd hp
  refine W.mono ?_ (w_loopS (st := fun (v : (Int × Int)) => match v with | (i3, i4) => ⟨[(0, .c (.d (slD 1 cI_u16 to_0))), (5, .c (.d (.lit (.int .u16 i3)))), (9, .c (.d (slD 1 cI_i64 r1))), (10, .c (.d (.lit (.int .i64 (r1.l.length : Int))))), (11, .c (.d (.lit (.int .i64 i4))))], [], 0, []⟩) (a := (0, 0)) (Q := Jn (fun (x : Int) o s => match x with | i7 => o = Out.exit 0 ∧ Sub s ⟨[(5, .c (.d (.lit (.int .u16 i7))))], [], 0, []⟩)) ?_ h9 ?_)
  · intro o s hs15
    obtain ⟨rfl, hs15⟩ := hs15
    refine out_e ?_
    refine after_n ?_
    refine W.sub hs15 ?_
    refine w_seq ?_
    refine w_region ?_
    iterate 2 refine o1 rfl ?_
    refine o_end (e' := [(4, .c (.d (.lit (.int .u16 i7))))]) rfl rfl ?_
    refine after_n ?_
    refine w_ret ?_
    obtain rfl := Option.some.inj hp
    exact leave_at rfl rfl (pr_c p_d pr_nil) pc_nil rfl rfl
  · exact (sub_ren [] [0, 5, 9, 10, 11] (by decide) rfl .nil (Nat.le_of_ble_eq_true rfl))
  · rintro ⟨i3, i4⟩ r hr
    unfold graph_over_L1 at hr
    refine w_seq ?_
    refine w_region ?_
    refine o1 (v := .c (.d (.lit (.bool (decide (i4 < (r1.l.length : Int))))))) rfl ?_
    refine o_end (e' := [(0, .c (.d (slD 1 cI_u16 to_0))), (5, .c (.d (.lit (.int .u16 i3)))), (9, .c (.d (slD 1 cI_i64 r1))), (10, .c (.d (.lit (.int .i64 (r1.l.length : Int))))), (11, .c (.d (.lit (.int .i64 i4)))), (12, .c (.d (.lit (.bool (decide (i4 < (r1.l.length : Int)))))))]) rfl rfl ?_
    refine after_n ?_
    refine w_seq ?_
    refine w_cond (t := decide (i4 < (r1.l.length : Int))) rfl (fun hb10 => ?_) (fun hb10 => ?_)
    · have hr := cnd_t hb10 hr
      refine w_skip ?_
      refine after_n ?_
      refine w_seq ?_
      refine w_block ?_
      refine w_seq ?_
      obtain ⟨n11, h12, hr⟩ := bnd hr
      refine w_region ?_
      refine o1 (ix_sd h12) ?_
      iterate 2 refine o1 rfl ?_
      refine o_end (e' := [(0, .c (.d (slD 1 cI_u16 to_0))), (5, .c (.d (.lit (.int .u16 i3)))), (7, .c (.d (.lit (.int .i64 (gt r1.l n11))))), (9, .c (.d (slD 1 cI_i64 r1))), (10, .c (.d (.lit (.int .i64 (r1.l.length : Int))))), (11, .c (.d (.lit (.int .i64 i4))))]) rfl rfl ?_
      refine after_n ?_
      obtain ⟨n13, h14, hr⟩ := bnd hr
      refine w_region ?_
      iterate 3 refine o1 rfl ?_
      refine o1 (ix_sd h14) ?_
      refine o1 rfl ?_
      refine o1 (v := .c (.d (.lit (.int .u16 (bOr .u16 i3 (gt to_0.l n13)))))) rfl ?_
      refine o1 rfl ?_
      refine o_end (e' := [(0, .c (.d (slD 1 cI_u16 to_0))), (5, .c (.d (.lit (.int .u16 (bOr .u16 i3 (gt to_0.l n13)))))), (9, .c (.d (slD 1 cI_i64 r1))), (10, .c (.d (.lit (.int .i64 (r1.l.length : Int))))), (11, .c (.d (.lit (.int .i64 i4))))]) rfl rfl ?_
      refine out_n ?_
      refine after_n ?_
      refine w_region ?_
      refine o1 (v := .c (.d (.lit (.int .i64 (wr .i64 (i4 + 1)))))) rfl ?_
      refine o1 rfl ?_
      refine o_end (e' := [(0, .c (.d (slD 1 cI_u16 to_0))), (5, .c (.d (.lit (.int .u16 (bOr .u16 i3 (gt to_0.l n13)))))), (9, .c (.d (slD 1 cI_i64 r1))), (10, .c (.d (.lit (.int .i64 (r1.l.length : Int))))), (11, .c (.d (.lit (.int .i64 (wr .i64 (i4 + 1))))))]) rfl rfl ?_
      obtain rfl := Option.some.inj hr
      exact And.intro rfl (sub_ren [] [0, 5, 9, 10, 11] (by decide) rfl .nil (Nat.le_of_ble_eq_true rfl))
    · have hr := cnd_f hb10 hr
      refine w_exit ?_
      refine after_e ?_
      obtain rfl := Option.some.inj hr
      exact And.intro nofun (And.intro rfl (sub_ren [] [5] (by decide) rfl .nil (Nat.le_of_ble_eq_true rfl)))

/- turnout/graph.Order -/
def k6 : CC :=
  (.seq
  (.region [
    ⟨some 4, .mv, [(.const (.slice none 0 0))], none⟩,
    ⟨some 5, .mv, [(.const (.bool false))], none⟩] [0, 1])
  (.seq
  (.seq
  (.region [
    ⟨some 11, .mv, [(.tmp 0)], none⟩,
    ⟨some 12, .mv, [(.tmp 1)], none⟩,
    ⟨some 13, (.call true []), [(.func 8), (.tmp 11), (.tmp 12)], none⟩,
    ⟨some 14, (.un .not), [(.tmp 13)], none⟩] [0, 1, 14])
  (.cond (.tmp 14)
    (.seq
    (.region [
      ⟨some 4, .mv, [(.const (.slice none 0 0))], none⟩,
      ⟨some 5, .mv, [(.const (.bool false))], none⟩] [4, 5])
    .ret)
    .skip))
  (.seq
  (.region [
    ⟨some 15, .mv, [(.tmp 0)], none⟩,
    ⟨some 16, .mv, [(.tmp 1)], none⟩,
    ⟨some 17, (.call false []), [(.func 17), (.tmp 15), (.tmp 16)], none⟩,
    ⟨some 6, .mv, [(.tmp 17)], none⟩] [0, 6])
  (.seq
  (.region [
    ⟨some 18, .mv, [(.tmp 0)], none⟩,
    ⟨some 19, (.bin .shl), [(.const (.int .u16 1)), (.tmp 18)], none⟩,
    ⟨some 20, (.bin .sub), [(.tmp 19), (.const (.int .u16 1))], none⟩,
    ⟨some 7, .mv, [(.tmp 20)], none⟩] [6, 7])
  (.seq
  (.region [
    ⟨some 8, .mv, [(.const (.slice none 0 0))], none⟩] [6, 7, 8])
  (.seq
  (.block 0
    (.loop [6, 7, 8]
      (.seq
      (.seq
      (.region [
        ⟨some 21, .mv, [(.tmp 7)], none⟩,
        ⟨some 22, (.bin .neq), [(.tmp 21), (.const (.int .u16 0))], none⟩] [6, 7, 8, 22])
      (.cond (.tmp 22)
        .skip
        (.exit 0)))
      (.block 1
        (.seq
        (.region [
          ⟨some 23, .mv, [(.tmp 7)], none⟩,
          ⟨some 24, .mv, [(.tmp 6)], none⟩,
          ⟨some 25, .mv, [(.tmp 7)], none⟩,
          ⟨some 26, (.call true []), [(.func 18), (.tmp 24), (.tmp 25)], none⟩,
          ⟨some 27, (.bin .andNot), [(.tmp 23), (.tmp 26)], none⟩,
          ⟨some 9, .mv, [(.tmp 27)], none⟩] [6, 7, 8, 9])
        (.seq
        (.seq
        (.region [
          ⟨some 28, .mv, [(.tmp 9)], none⟩,
          ⟨some 29, (.bin .eql), [(.tmp 28), (.const (.int .u16 0))], none⟩] [6, 7, 8, 9, 29])
        (.cond (.tmp 29)
          (.seq
          (.region [
            ⟨some 4, .mv, [(.const (.slice none 0 0))], none⟩,
            ⟨some 5, .mv, [(.const (.bool false))], none⟩] [4, 5])
          .ret)
          .skip))
        (.seq
        (.region [
          ⟨some 30, .mv, [(.tmp 9)], none⟩,
          ⟨some 31, (.call true []), [(.func 19), (.tmp 30)], none⟩,
          ⟨some 10, .mv, [(.tmp 31)], none⟩] [6, 7, 8, 10])
        (.seq
        (.region [
          ⟨some 32, .mv, [(.tmp 8)], none⟩,
          ⟨some 33, .mv, [(.tmp 10)], none⟩,
          ⟨some 34, (.buildSlice 1 1 [(.int .i64 0)] [0]), [(.tmp 33)], none⟩,
          ⟨some 35, (.append 1), [(.tmp 32), (.tmp 34)], none⟩,
          ⟨some 8, .mv, [(.tmp 35)], none⟩] [6, 7, 8, 10])
        (.region [
          ⟨some 36, .mv, [(.tmp 7)], none⟩,
          ⟨some 37, .mv, [(.tmp 10)], none⟩,
          ⟨some 38, (.bin .shl), [(.const (.int .u16 1)), (.tmp 37)], none⟩,
          ⟨some 39, (.bin .andNot), [(.tmp 36), (.tmp 38)], none⟩,
          ⟨some 7, .mv, [(.tmp 39)], none⟩] [6, 7, 8])))))))))
  (.seq
  (.region [
    ⟨some 40, .mv, [(.tmp 8)], none⟩,
    ⟨some 4, .mv, [(.tmp 40)], none⟩,
    ⟨some 5, .mv, [(.const (.bool true))], none⟩] [4, 5])
  .ret)))))))
def f6 : Ev.Fn := ⟨2, 41, [.tmp 4, .tmp 5], k6⟩
set_option maxRecDepth 100000 in
theorem e6 : compFn prog sig 6 2 [[0, 1], [0, 1, 14], [4, 5], [0, 6], [6, 7], [6, 7, 8], [6, 7, 8], [6, 7, 8, 22], [6, 7, 8, 9], [6, 7, 8, 9, 29], [4, 5], [6, 7, 8, 10], [6, 7, 8, 10], [6, 7, 8], [4, 5]] = some f6 := by kernel_rfl
noncomputable def graph_Order_L1 (r4 : Sl Int) : (Int × Sl Int) → Option (Sum ((Int × Sl Int)) (Sum (Unit) (Sl Int))) := fun (i8, s9) =>
  bif (i8 != 0) then ((graph_over r4 i8).bind fun r16 =>
  bif ((bAndNot .u16 i8 r16) == 0) then (some (.inr (.inl ()))) else
  ((math_bits_TrailingZeros16 (bAndNot .u16 i8 r16)).bind fun r19 =>
  (capI (s9.l ++ [r19])).bind fun l21 =>
  (shlI .u16 1 r19).bind fun x24 =>
  some (.inl (bAndNot .u16 i8 x24, (Sl.mk l21))))) else
  (some (.inr (.inr s9)))

noncomputable def graph_Order (n_0 : Int) (l_1 : Sl graph_Edge) : Option ((Sl Int × Bool)) :=
  (graph_Right n_0 l_1).bind fun r1 =>
  bif (!r1) then (some (Sl.nil, false)) else
  ((graph_next n_0 l_1).bind fun r4 =>
  (shlI .u16 1 n_0).bind fun x6 =>
  (loopO (graph_Order_L1 r4) (wr .u16 (x6 - 1), Sl.nil)).bind fun
  | .inl _ => (some (Sl.nil, false))
  | .inr (s12) => (some (s12, true)))
theorem graph_Order_ok {n_0 : Int} {l_1 : Sl graph_Edge} {z : (Sl Int × Bool)} (hp : graph_Order n_0 l_1 = some z) : Good prog 6 [.d (.lit (.int .i64 n_0)), .d (slD 2 c_graph_Edge l_1)] [.c (.d (slD 1 cI_i64 z.1)), .c (.d (.lit (.bool z.2)))] [] := by
  unfold graph_Order at hp
  refine fn_good mixed e6 (fnS (m := [true, false]) (s := ⟨[(0, .c (.d (.lit (.int .i64 n_0)))), (1, .c (.d (slD 2 c_graph_Edge l_1)))], [], 0, []⟩) (len := 0) (c := k6) rfl (Sub.of_eq rfl) rfl rfl ?_)
  refine w_seq ?_
  refine w_region ?_
  iterate 2 refine o1 rfl ?_
  refine o_end (e' := [(0, .c (.d (.lit (.int .i64 n_0)))), (1, .c (.d (slD 2 c_graph_Edge l_1)))]) rfl rfl ?_
  refine after_n ?_
  refine w_seq ?_
  refine w_seq ?_
  obtain ⟨r1, h2, hp⟩ := bnd hp
  refine w_region ?_
  iterate 2 refine o1 rfl ?_
  refine oc (rs := [.c (.d (.lit (.bool r1)))]) (outs := []) rfl (graph_Right_ok h2) rfl ?_
  refine o1 (v := .c (.d (.lit (.bool (!r1))))) rfl ?_
  refine o_end (e' := [(0, .c (.d (.lit (.int .i64 n_0)))), (1, .c (.d (slD 2 c_graph_Edge l_1))), (14, .c (.d (.lit (.bool (!r1)))))]) rfl rfl ?_
  refine after_n ?_
  refine w_cond (t := (!r1)) rfl (fun hb3 => ?_) (fun hb3 => ?_)
  · have hp := cnd_t hb3 hp
    refine w_seq ?_
    refine w_region ?_
    iterate 2 refine o1 rfl ?_
    refine o_end (e' := [(4, .c (.d (.lit (.slice none 0 0)))), (5, .c (.d (.lit (.bool false))))]) rfl rfl ?_
    refine after_n ?_
    refine w_ret ?_
    refine after_r ?_
    obtain rfl := Option.some.inj hp
    exact leave_at rfl rfl (pr_c p_d (pr_c p_d pr_nil)) pc_nil rfl rfl
  · have hp := cnd_f hb3 hp
    refine w_skip ?_
    refine after_n ?_
    refine w_seq ?_
    obtain ⟨r4, h5, hp⟩ := bnd hp
    refine w_region ?_
    iterate 2 refine o1 rfl ?_
    refine oc (rs := [.c (.d (slD 1 cI_u16 r4))]) (outs := []) rfl (graph_next_ok h5) rfl ?_
    refine o1 rfl ?_
    refine o_end (e' := [(0, .c (.d (.lit (.int .i64 n_0)))), (6, .c (.d (slD 1 cI_u16 r4)))]) rfl rfl ?_
    refine after_n ?_
    refine w_seq ?_
    obtain ⟨x6, h7, hp⟩ := bnd hp
    refine w_region ?_
    refine o1 rfl ?_
    refine o1 (v := .c (.d (.lit (.int .u16 x6)))) (ev_shl h7) ?_
    refine o1 (v := .c (.d (.lit (.int .u16 (wr .u16 (x6 - 1)))))) rfl ?_
    refine o1 rfl ?_
    refine o_end (e' := [(6, .c (.d (slD 1 cI_u16 r4))), (7, .c (.d (.lit (.int .u16 (wr .u16 (x6 - 1))))))]) rfl rfl ?_
    refine after_n ?_
    refine w_seq ?_
    refine w_region ?_
    refine o1 rfl ?_
    refine o_end (e' := [(6, .c (.d (slD 1 cI_u16 r4))), (7, .c (.d (.lit (.int .u16 (wr .u16 (x6 - 1)))))), (8, .c (.d (.lit (.slice none 0 0))))]) rfl rfl ?_
    refine after_n ?_
    refine w_seq ?_
    refine w_block ?_
    obtain ⟨x13, h14, hp⟩ := bnd hp
    refine W.mono ?_ (w_loopS (st := fun (v : (Int × Sl Int)) => match v with | (i8, s9) => ⟨[(6, .c (.d (slD 1 cI_u16 r4))), (7, .c (.d (.lit (.int .u16 i8)))), (8, .c (slC 1 cI_i64 0 s9))], [(0, slO 1 cI_i64 s9)], 1, []⟩) (a := (wr .u16 (x6 - 1), Sl.nil)) (Q := Jn (fun (x : Sum (Unit) (Sl Int)) o s => match x with | .inl _ => o = Out.ret ∧ Sub s ⟨[(4, .c (.d (.lit (.slice none 0 0)))), (5, .c (.d (.lit (.bool false))))], [], 0, []⟩ | .inr (s12) => o = Out.exit 0 ∧ Sub s ⟨[(8, .c (slC 1 cI_i64 0 s12))], [(0, slO 1 cI_i64 s12)], 1, []⟩)) ?_ h14 ?_)
    · intro o s hs26
      rcases x13 with (_ | s12)
      · obtain ⟨rfl, hs26⟩ := hs26
        refine out_r ?_
        refine after_r ?_
        obtain rfl := Option.some.inj hp
        refine wk.sub hs26 ?_
        exact leave_at rfl rfl (pr_c p_d (pr_c p_d pr_nil)) pc_nil rfl rfl
      · obtain ⟨rfl, hs26⟩ := hs26
        refine out_e ?_
        refine after_n ?_
        refine W.sub hs26 ?_
        refine w_seq ?_
        refine w_region ?_
        iterate 3 refine o1 rfl ?_
        refine o_end (e' := [(4, .c (slC 1 cI_i64 0 s12)), (5, .c (.d (.lit (.bool true))))]) rfl rfl ?_
        refine after_n ?_
        refine w_ret ?_
        obtain rfl := Option.some.inj hp
        rcases s12 with _ | s12'
        · exact leave_at rfl rfl (pr_c p_d (pr_c p_d pr_nil)) pc_nil rfl rfl
        · exact leave_at rfl rfl (pr_c (p_o rfl) (pr_c p_d pr_nil)) pc_nil rfl rfl
    · exact (sub_ren [9000] [6, 7, 8] (by decide) rfl (.skip .nil) (Nat.le_of_ble_eq_true rfl))
    · rintro ⟨i8, s9⟩ r hr
      unfold graph_Order_L1 at hr
      refine w_seq ?_
      refine w_seq ?_
      refine w_region ?_
      refine o1 rfl ?_
      refine o1 (v := .c (.d (.lit (.bool (i8 != 0))))) rfl ?_
      refine o_end (e' := [(6, .c (.d (slD 1 cI_u16 r4))), (7, .c (.d (.lit (.int .u16 i8)))), (8, .c (slC 1 cI_i64 0 s9)), (22, .c (.d (.lit (.bool (i8 != 0)))))]) rfl rfl ?_
      refine after_n ?_
      refine w_cond (t := (i8 != 0)) rfl (fun hb15 => ?_) (fun hb15 => ?_)
      · have hr := cnd_t hb15 hr
        refine w_skip ?_
        refine after_n ?_
        refine w_block ?_
        refine w_seq ?_
        obtain ⟨r16, h17, hr⟩ := bnd hr
        refine w_region ?_
        iterate 3 refine o1 rfl ?_
        refine oc (rs := [.c (.d (.lit (.int .u16 r16)))]) (outs := []) rfl (graph_over_ok h17) rfl ?_
        refine o1 (v := .c (.d (.lit (.int .u16 (bAndNot .u16 i8 r16))))) rfl ?_
        refine o1 rfl ?_
        refine o_end (e' := [(6, .c (.d (slD 1 cI_u16 r4))), (7, .c (.d (.lit (.int .u16 i8)))), (8, .c (slC 1 cI_i64 0 s9)), (9, .c (.d (.lit (.int .u16 (bAndNot .u16 i8 r16)))))]) rfl rfl ?_
        refine after_n ?_
        refine w_seq ?_
        refine w_seq ?_
        refine w_region ?_
        refine o1 rfl ?_
        refine o1 (v := .c (.d (.lit (.bool ((bAndNot .u16 i8 r16) == 0))))) rfl ?_
        refine o_end (e' := [(6, .c (.d (slD 1 cI_u16 r4))), (7, .c (.d (.lit (.int .u16 i8)))), (8, .c (slC 1 cI_i64 0 s9)), (9, .c (.d (.lit (.int .u16 (bAndNot .u16 i8 r16))))), (29, .c (.d (.lit (.bool ((bAndNot .u16 i8 r16) == 0)))))]) rfl rfl ?_
        refine after_n ?_
        refine w_cond (t := ((bAndNot .u16 i8 r16) == 0)) rfl (fun hb18 => ?_) (fun hb18 => ?_)
        · have hr := cnd_t hb18 hr
          refine w_seq ?_
          refine w_region ?_
          iterate 2 refine o1 rfl ?_
          refine o_end (e' := [(4, .c (.d (.lit (.slice none 0 0)))), (5, .c (.d (.lit (.bool false))))]) rfl rfl ?_
          refine after_n ?_
          refine w_ret ?_
          refine after_r ?_
          refine out_r ?_
          obtain rfl := Option.some.inj hr
          exact And.intro nofun (And.intro rfl (sub_ren [] [4, 5] (by decide) rfl .nil (Nat.le_of_ble_eq_true rfl)))
        · have hr := cnd_f hb18 hr
          refine w_skip ?_
          refine after_n ?_
          refine w_seq ?_
          obtain ⟨r19, h20, hr⟩ := bnd hr
          refine w_region ?_
          refine o1 rfl ?_
          refine oc (rs := [.c (.d (.lit (.int .i64 r19)))]) (outs := []) rfl (math_bits_TrailingZeros16_ok h20) rfl ?_
          refine o1 rfl ?_
          refine o_end (e' := [(6, .c (.d (slD 1 cI_u16 r4))), (7, .c (.d (.lit (.int .u16 i8)))), (8, .c (slC 1 cI_i64 0 s9)), (10, .c (.d (.lit (.int .i64 r19))))]) rfl rfl ?_
          refine after_n ?_
          refine w_seq ?_
          obtain ⟨l21, h22, hr⟩ := bnd hr
          refine w_join (J := fun s => Sub s ⟨[(6, .c (.d (slD 1 cI_u16 r4))), (7, .c (.d (.lit (.int .u16 i8)))), (8, .c (slC 1 cI_i64 0 (Sl.mk l21))), (10, .c (.d (.lit (.int .i64 r19))))], [(0, slO 1 cI_i64 (Sl.mk l21))], 1, []⟩) ?_ ?_
          · rcases s9 with _ | s9'
            · try dsimp only [slC, slO]
              refine w_region ?_
              iterate 2 refine o1 rfl ?_
              refine o2 rfl ?_
              refine o2 (app_nil (enc := cI_i64) rfl h22) ?_
              refine o1 rfl ?_
              exact o_join (sub_ren [2] [6, 7, 8, 10] (by decide) rfl (.cons .nil) (Nat.le_of_ble_eq_true rfl))
            · try dsimp only [slC, slO]
              refine w_region ?_
              iterate 2 refine o1 rfl ?_
              refine o2 rfl ?_
              refine o2 (app_o rfl rfl h22) ?_
              refine o1 rfl ?_
              exact o_join (sub_ren [2] [6, 7, 8, 10] (by decide) rfl (.cons .nil) (Nat.le_of_ble_eq_true rfl))
          · intro s hs23
            refine after_n ?_
            refine W.sub hs23 ?_
            obtain ⟨x24, h25, hr⟩ := bnd hr
            refine w_region ?_
            iterate 2 refine o1 rfl ?_
            refine o1 (v := .c (.d (.lit (.int .u16 x24)))) (ev_shl h25) ?_
            refine o1 (v := .c (.d (.lit (.int .u16 (bAndNot .u16 i8 x24))))) rfl ?_
            refine o1 rfl ?_
            refine o_end (e' := [(6, .c (.d (slD 1 cI_u16 r4))), (7, .c (.d (.lit (.int .u16 (bAndNot .u16 i8 x24))))), (8, .c (slC 1 cI_i64 0 (Sl.mk l21)))]) rfl rfl ?_
            refine out_n ?_
            obtain rfl := Option.some.inj hr
            exact And.intro rfl (sub_ren [0] [6, 7, 8] (by decide) rfl (.cons .nil) (Nat.le_of_ble_eq_true rfl))
      · have hr := cnd_f hb15 hr
        refine w_exit ?_
        refine after_e ?_
        obtain rfl := Option.some.inj hr
        exact And.intro nofun (And.intro rfl (by rcases s9 with _ | _ <;> first | (exact sub_ren [9000] [8] (by decide) rfl (.skip .nil) (Nat.le_of_ble_eq_true rfl)) | (exact sub_ren [0] [8] (by decide) rfl (.cons .nil) (Nat.le_of_ble_eq_true rfl))))

/- turnout/turnoutref13.Same -/
def k10 : CC :=
  (.seq
  (.region [
    ⟨some 4, .mv, [(.const (.bool false))], none⟩] [0, 1])
  (.seq
  (.seq
  (.region [
    ⟨some 6, .mv, [(.tmp 0)], none⟩,
    ⟨some 7, (.len false), [(.tmp 6)], none⟩,
    ⟨some 8, .mv, [(.tmp 1)], none⟩,
    ⟨some 9, (.len false), [(.tmp 8)], none⟩,
    ⟨some 10, (.bin .neq), [(.tmp 7), (.tmp 9)], none⟩] [0, 1, 10])
  (.cond (.tmp 10)
    (.seq
    (.region [
      ⟨some 4, .mv, [(.const (.bool false))], none⟩] [4])
    .ret)
    .skip))
  (.seq
  (.seq
  (.region [
    ⟨some 5, .mv, [(.const (.int .i64 0))], none⟩] [0, 1, 5])
  (.block 0
    (.loop [0, 1, 5]
      (.seq
      (.seq
      (.region [
        ⟨some 11, .mv, [(.tmp 5)], none⟩,
        ⟨some 12, .mv, [(.tmp 0)], none⟩,
        ⟨some 13, (.len false), [(.tmp 12)], none⟩,
        ⟨some 14, (.bin .lss), [(.tmp 11), (.tmp 13)], none⟩] [0, 1, 5, 14])
      (.cond (.tmp 14)
        .skip
        (.exit 0)))
      (.seq
      (.block 1
        (.seq
        (.drawn [
          ⟨some 17, .mv, [(.tmp 0)], none⟩,
          ⟨some 18, .mv, [(.tmp 5)], none⟩,
          ⟨some 19, (.indexAddr none 1), [(.tmp 17), (.tmp 18)], none⟩,
          ⟨some 20, (.load false 1), [(.tmp 19)], none⟩,
          ⟨some 21, .mv, [(.tmp 1)], none⟩,
          ⟨some 22, .mv, [(.tmp 5)], none⟩,
          ⟨some 23, (.indexAddr none 1), [(.tmp 21), (.tmp 22)], none⟩,
          ⟨some 24, (.load false 1), [(.tmp 23)], none⟩,
          ⟨some 25, (.bin .neq), [(.tmp 20), (.tmp 24)], none⟩] [] [0, 1, 5, 25])
        (.cond (.tmp 25)
          (.seq
          (.region [
            ⟨some 4, .mv, [(.const (.bool false))], none⟩] [4])
          .ret)
          .skip)))
      (.region [
        ⟨some 15, .mv, [(.tmp 5)], none⟩,
        ⟨some 16, (.bin .add), [(.tmp 15), (.const (.int .i64 1))], none⟩,
        ⟨some 5, .mv, [(.tmp 16)], none⟩] [0, 1, 5]))))))
  (.seq
  (.region [
    ⟨some 4, .mv, [(.const (.bool true))], none⟩] [4])
  .ret))))
def f10 : Ev.Fn := ⟨2, 26, [.tmp 4], k10⟩
set_option maxRecDepth 100000 in
theorem e10 : compFn prog sig 10 2 [[0, 1], [0, 1, 10], [4], [0, 1, 5], [0, 1, 5], [0, 1, 5, 14], [0, 1, 5, 25], [4], [0, 1, 5], [4]] = some f10 := by kernel_rfl
noncomputable def ref13_Same_L1 (a_0 : Sl Int) (b_1 : Sl Int) : Int → Option (Sum (Int) (Sum (Unit) (Unit))) := fun i2 =>
  bif decide (i2 < (a_0.l.length : Int)) then ((ixI i2 a_0.l.length).bind fun n7 =>
  (ixI i2 b_1.l.length).bind fun n9 =>
  bif ((gt a_0.l n7) != (gt b_1.l n9)) then (some (.inr (.inl ()))) else
  (some (.inl (wr .i64 (i2 + 1))))) else
  (some (.inr (.inr ())))

noncomputable def ref13_Same (a_0 : Sl Int) (b_1 : Sl Int) : Option (Bool) :=
  bif ((a_0.l.length : Int) != (b_1.l.length : Int)) then (some false) else
  ((loopO (ref13_Same_L1 a_0 b_1) 0).bind fun
  | .inl _ => (some false)
  | .inr (_) => (some true))
theorem ref13_Same_ok {a_0 : Sl Int} {b_1 : Sl Int} {z : Bool} (hp : ref13_Same a_0 b_1 = some z) : Good prog 10 [.d (slD 1 cI_i64 a_0), .d (slD 1 cI_i64 b_1)] [.c (.d (.lit (.bool z)))] [] := by
  unfold ref13_Same at hp
  refine fn_good mixed e10 (fnS (m := [false]) (s := ⟨[(0, .c (.d (slD 1 cI_i64 a_0))), (1, .c (.d (slD 1 cI_i64 b_1)))], [], 0, []⟩) (len := 0) (c := k10) rfl (Sub.of_eq rfl) rfl rfl ?_)
  refine w_seq ?_
  refine w_region ?_
  refine o1 rfl ?_
  refine o_end (e' := [(0, .c (.d (slD 1 cI_i64 a_0))), (1, .c (.d (slD 1 cI_i64 b_1)))]) rfl rfl ?_
  refine after_n ?_
  refine w_seq ?_
  refine w_seq ?_
  refine w_region ?_
  refine o1 rfl ?_
  refine o1 (v := .c (.d (.lit (.int .i64 (a_0.l.length : Int))))) len_sd ?_
  refine o1 rfl ?_
  refine o1 (v := .c (.d (.lit (.int .i64 (b_1.l.length : Int))))) len_sd ?_
  refine o1 (v := .c (.d (.lit (.bool ((a_0.l.length : Int) != (b_1.l.length : Int)))))) rfl ?_
  refine o_end (e' := [(0, .c (.d (slD 1 cI_i64 a_0))), (1, .c (.d (slD 1 cI_i64 b_1))), (10, .c (.d (.lit (.bool ((a_0.l.length : Int) != (b_1.l.length : Int))))))]) rfl rfl ?_
  refine after_n ?_
  refine w_cond (t := ((a_0.l.length : Int) != (b_1.l.length : Int))) rfl (fun hb1 => ?_) (fun hb1 => ?_)
  · have hp := cnd_t hb1 hp
    refine w_seq ?_
    refine w_region ?_
    refine o1 rfl ?_
    refine o_end (e' := [(4, .c (.d (.lit (.bool false))))]) rfl rfl ?_
    refine after_n ?_
    refine w_ret ?_
    refine after_r ?_
    obtain rfl := Option.some.inj hp
    exact leave_at rfl rfl (pr_c p_d pr_nil) pc_nil rfl rfl
  · have hp := cnd_f hb1 hp
    refine w_skip ?_
    refine after_n ?_
    refine w_seq ?_
    refine w_seq ?_
    refine w_region ?_
    refine o1 rfl ?_
    refine o_end (e' := [(0, .c (.d (slD 1 cI_i64 a_0))), (1, .c (.d (slD 1 cI_i64 b_1))), (5, .c (.d (.lit (.int .i64 0))))]) rfl rfl ?_
    refine after_n ?_
    refine w_block ?_
    obtain ⟨x4, h5, hp⟩ := bnd hp
    refine W.mono ?_ (w_loopS (st := fun (v : Int) => match v with | i2 => ⟨[(0, .c (.d (slD 1 cI_i64 a_0))), (1, .c (.d (slD 1 cI_i64 b_1))), (5, .c (.d (.lit (.int .i64 i2))))], [], 0, []⟩) (a := 0) (Q := Jn (fun (x : Sum (Unit) (Unit)) o s => match x with | .inl _ => o = Out.ret ∧ Sub s ⟨[(4, .c (.d (.lit (.bool false))))], [], 0, []⟩ | .inr (_) => o = Out.exit 0 ∧ Sub s ⟨[], [], 0, []⟩)) ?_ h5 ?_)
    · intro o s hs12
      rcases x4 with (_ | _)
      · obtain ⟨rfl, hs12⟩ := hs12
        refine out_r ?_
        refine after_r ?_
        obtain rfl := Option.some.inj hp
        refine wk.sub hs12 ?_
        exact leave_at rfl rfl (pr_c p_d pr_nil) pc_nil rfl rfl
      · obtain ⟨rfl, hs12⟩ := hs12
        refine out_e ?_
        refine after_n ?_
        refine W.sub hs12 ?_
        refine w_seq ?_
        refine w_region ?_
        refine o1 rfl ?_
        refine o_end (e' := [(4, .c (.d (.lit (.bool true))))]) rfl rfl ?_
        refine after_n ?_
        refine w_ret ?_
        obtain rfl := Option.some.inj hp
        exact leave_at rfl rfl (pr_c p_d pr_nil) pc_nil rfl rfl
    · exact (sub_ren [] [0, 1, 5] (by decide) rfl .nil (Nat.le_of_ble_eq_true rfl))
    · rintro i2 r hr
      unfold ref13_Same_L1 at hr
      refine w_seq ?_
      refine w_seq ?_
      refine w_region ?_
      iterate 2 refine o1 rfl ?_
      refine o1 (v := .c (.d (.lit (.int .i64 (a_0.l.length : Int))))) len_sd ?_
      refine o1 (v := .c (.d (.lit (.bool (decide (i2 < (a_0.l.length : Int))))))) rfl ?_
      refine o_end (e' := [(0, .c (.d (slD 1 cI_i64 a_0))), (1, .c (.d (slD 1 cI_i64 b_1))), (5, .c (.d (.lit (.int .i64 i2)))), (14, .c (.d (.lit (.bool (decide (i2 < (a_0.l.length : Int)))))))]) rfl rfl ?_
      refine after_n ?_
      refine w_cond (t := decide (i2 < (a_0.l.length : Int))) rfl (fun hb6 => ?_) (fun hb6 => ?_)
      · have hr := cnd_t hb6 hr
        refine w_skip ?_
        refine after_n ?_
        refine w_seq ?_
        refine w_block ?_
        refine w_seq ?_
        obtain ⟨n7, h8, hr⟩ := bnd hr
        obtain ⟨n9, h10, hr⟩ := bnd hr
        refine w_drawn ?_
        iterate 2 refine d1 rfl ?_
        refine d1 (ix_sd h8) ?_
        iterate 3 refine d1 rfl ?_
        refine d1 (ix_sd h10) ?_
        refine d1 rfl ?_
        refine d1 (v := .c (.d (.lit (.bool ((gt a_0.l n7) != (gt b_1.l n9)))))) rfl ?_
        refine d_fin (e' := [(0, .c (.d (slD 1 cI_i64 a_0))), (1, .c (.d (slD 1 cI_i64 b_1))), (5, .c (.d (.lit (.int .i64 i2)))), (25, .c (.d (.lit (.bool ((gt a_0.l n7) != (gt b_1.l n9))))))]) (n' := 576) rfl rfl rfl rfl ?_
        refine after_n ?_
        refine w_cond (t := ((gt a_0.l n7) != (gt b_1.l n9))) rfl (fun hb11 => ?_) (fun hb11 => ?_)
        · have hr := cnd_t hb11 hr
          refine w_seq ?_
          refine w_region ?_
          refine o1 rfl ?_
          refine o_end (e' := [(4, .c (.d (.lit (.bool false))))]) rfl rfl ?_
          refine after_n ?_
          refine w_ret ?_
          refine out_r ?_
          refine after_r ?_
          obtain rfl := Option.some.inj hr
          exact And.intro nofun (And.intro rfl (sub_ren [] [4] (by decide) rfl .nil (Nat.le_of_ble_eq_true rfl)))
        · have hr := cnd_f hb11 hr
          refine w_skip ?_
          refine out_n ?_
          refine after_n ?_
          refine w_region ?_
          refine o1 rfl ?_
          refine o1 (v := .c (.d (.lit (.int .i64 (wr .i64 (i2 + 1)))))) rfl ?_
          refine o1 rfl ?_
          refine o_end (e' := [(0, .c (.d (slD 1 cI_i64 a_0))), (1, .c (.d (slD 1 cI_i64 b_1))), (5, .c (.d (.lit (.int .i64 (wr .i64 (i2 + 1))))))]) rfl rfl ?_
          obtain rfl := Option.some.inj hr
          exact And.intro rfl (sub_ren [] [0, 1, 5] (by decide) rfl .nil (Nat.le_of_ble_eq_true rfl))
      · have hr := cnd_f hb6 hr
        refine w_exit ?_
        refine after_e ?_
        obtain rfl := Option.some.inj hr
        exact And.intro nofun (And.intro rfl (sub_ren [] [] (by decide) rfl .nil (Nat.le_of_ble_eq_true rfl)))

/- turnout/graph.edges -/
def k24 : CC :=
  (.seq
  (.region [
    ⟨some 4, .mv, [(.const (.slice none 0 0))], none⟩] [0, 1])
  (.seq
  (.region [
    ⟨some 10, .mv, [(.tmp 0)], none⟩,
    ⟨some 11, (.len false), [(.tmp 10)], none⟩,
    ⟨some 12, (.makeSlice [(.int .i64 0)]), [(.tmp 11), (.tmp 11)], none⟩,
    ⟨some 5, .mv, [(.tmp 12)], none⟩] [0, 1, 5])
  (.seq
  (.seq
  (.region [
    ⟨some 13, .mv, [(.tmp 5)], none⟩,
    ⟨some 14, (.len false), [(.tmp 13)], none⟩,
    ⟨some 15, .mv, [(.const (.int .i64 0))], none⟩] [0, 1, 5, 14, 15])
  (.block 0
    (.loop [0, 1, 5, 14, 15]
      (.seq
      (.region [
        ⟨some 16, (.bin .lss), [(.tmp 15), (.tmp 14)], none⟩] [0, 1, 5, 14, 15, 16])
      (.seq
      (.cond (.tmp 16)
        .skip
        (.exit 0))
      (.seq
      (.block 1
        (.seq
        (.region [
          ⟨some 17, .mv, [(.tmp 15)], none⟩,
          ⟨some 6, .mv, [(.tmp 17)], none⟩] [0, 1, 5, 6, 14, 15])
        (.region [
          ⟨some 18, .mv, [(.tmp 5)], none⟩,
          ⟨some 19, .mv, [(.tmp 6)], none⟩,
          ⟨some 20, .mv, [(.tmp 0)], none⟩,
          ⟨some 21, (.len false), [(.tmp 20)], none⟩,
          ⟨some 22, (.indexAddr none 1), [(.tmp 18), (.tmp 19)], none⟩,
          ⟨none, (.store 1), [(.tmp 22), (.tmp 21)], none⟩] [0, 1, 5, 14, 15])))
      (.region [
        ⟨some 23, (.bin .add), [(.tmp 15), (.const (.int .i64 1))], none⟩,
        ⟨some 15, .mv, [(.tmp 23)], none⟩] [0, 1, 5, 14, 15])))))))
  (.seq
  (.region [
    ⟨some 24, .mv, [(.tmp 5)], none⟩,
    ⟨some 25, .mv, [(.tmp 1)], none⟩,
    ⟨some 26, (.indexAddr none 1), [(.tmp 24), (.tmp 25)], none⟩,
    ⟨none, (.store 1), [(.tmp 26), (.const (.int .i64 0))], none⟩] [0, 1, 5])
  (.seq
  (.seq
  (.region [
    ⟨some 27, .mv, [(.tmp 0)], none⟩,
    ⟨some 28, (.len false), [(.tmp 27)], none⟩,
    ⟨some 29, .mv, [(.const (.int .i64 0))], none⟩] [0, 1, 5, 28, 29])
  (.block 2
    (.loop [0, 1, 5, 28, 29]
      (.seq
      (.region [
        ⟨some 30, (.bin .lss), [(.tmp 29), (.tmp 28)], none⟩] [0, 1, 5, 28, 29, 30])
      (.seq
      (.cond (.tmp 30)
        .skip
        (.exit 2))
      (.seq
      (.block 3
        (.seq
        (.region [
          ⟨some 31, .mv, [(.tmp 0)], none⟩,
          ⟨some 32, (.len false), [(.tmp 31)], none⟩,
          ⟨some 33, .mv, [(.const (.int .i64 0))], none⟩] [0, 1, 5, 28, 29, 32, 33])
        (.block 4
          (.loop [0, 1, 5, 28, 29, 32, 33]
            (.seq
            (.region [
              ⟨some 34, (.bin .lss), [(.tmp 33), (.tmp 32)], none⟩] [0, 1, 5, 28, 29, 32, 33, 34])
            (.seq
            (.cond (.tmp 34)
              .skip
              (.exit 4))
            (.seq
            (.block 5
              (.seq
              (.region [
                ⟨some 35, .mv, [(.tmp 33)], none⟩,
                ⟨some 7, .mv, [(.tmp 35)], none⟩] [0, 1, 5, 7, 28, 29, 32, 33])
              (.seq
              (.region [
                ⟨some 36, .mv, [(.tmp 0)], none⟩,
                ⟨some 37, .mv, [(.tmp 7)], none⟩,
                ⟨some 38, (.indexAddr none 1), [(.tmp 36), (.tmp 37)], none⟩,
                ⟨some 39, (.load false 1), [(.tmp 38)], none⟩,
                ⟨some 40, (.call false []), [(.func 21), (.tmp 39)], none⟩,
                ⟨some 41, (.len false), [(.tmp 40)], none⟩,
                ⟨some 42, .mv, [(.const (.int .i64 0))], none⟩] [0, 1, 5, 7, 28, 29, 32, 33, 40, 41, 42])
              (.block 6
                (.loop [0, 1, 5, 7, 28, 29, 32, 33, 40, 41, 42]
                  (.seq
                  (.region [
                    ⟨some 43, (.bin .lss), [(.tmp 42), (.tmp 41)], none⟩] [0, 1, 5, 7, 28, 29, 32, 33, 40, 41, 42, 43])
                  (.seq
                  (.cond (.tmp 43)
                    .skip
                    (.exit 6))
                  (.seq
                  (.block 7
                    (.seq
                    (.region [
                      ⟨some 44, (.indexAddr none 1), [(.tmp 40), (.tmp 42)], none⟩,
                      ⟨some 45, (.load false 1), [(.tmp 44)], none⟩,
                      ⟨some 9, .mv, [(.tmp 45)], none⟩] [0, 1, 5, 7, 9, 28, 29, 32, 33, 40, 41, 42])
                    (.seq
                    (.region [
                      ⟨some 46, .mv, [(.tmp 7)], none⟩,
                      ⟨some 47, .mv, [(.tmp 1)], none⟩,
                      ⟨some 48, (.bin .neq), [(.tmp 46), (.tmp 47)], none⟩] [0, 1, 5, 7, 9, 28, 29, 32, 33, 40, 41, 42, 48])
                    (.cond (.tmp 48)
                      (.drawn [
                        ⟨some 49, .mv, [(.tmp 5)], none⟩,
                        ⟨some 50, .mv, [(.tmp 7)], none⟩,
                        ⟨some 51, .mv, [(.tmp 5)], none⟩,
                        ⟨some 52, .mv, [(.tmp 7)], none⟩,
                        ⟨some 53, (.indexAddr none 1), [(.tmp 51), (.tmp 52)], none⟩,
                        ⟨some 54, (.load false 1), [(.tmp 53)], none⟩,
                        ⟨some 55, .mv, [(.tmp 5)], none⟩,
                        ⟨some 56, .mv, [(.tmp 9)], none⟩,
                        ⟨some 57, (.indexAddr none 1), [(.tmp 55), (.tmp 56)], none⟩,
                        ⟨some 58, (.load false 1), [(.tmp 57)], none⟩,
                        ⟨some 59, (.bin .add), [(.tmp 58), (.const (.int .i64 1))], none⟩,
                        ⟨some 60, (.minmax false), [(.tmp 54), (.tmp 59)], none⟩,
                        ⟨some 61, (.indexAddr none 1), [(.tmp 49), (.tmp 50)], none⟩,
                        ⟨none, (.store 1), [(.tmp 61), (.tmp 60)], none⟩] [] [0, 1, 5, 7, 28, 29, 32, 33, 40, 41, 42])
                      .skip))))
                  (.region [
                    ⟨some 62, (.bin .add), [(.tmp 42), (.const (.int .i64 1))], none⟩,
                    ⟨some 42, .mv, [(.tmp 62)], none⟩] [0, 1, 5, 7, 28, 29, 32, 33, 40, 41, 42])))))))))
            (.region [
              ⟨some 63, (.bin .add), [(.tmp 33), (.const (.int .i64 1))], none⟩,
              ⟨some 33, .mv, [(.tmp 63)], none⟩] [0, 1, 5, 28, 29, 32, 33]))))))))
      (.region [
        ⟨some 64, (.bin .add), [(.tmp 29), (.const (.int .i64 1))], none⟩,
        ⟨some 29, .mv, [(.tmp 64)], none⟩] [0, 1, 5, 28, 29])))))))
  (.seq
  (.region [
    ⟨some 65, .mv, [(.tmp 5)], none⟩,
    ⟨some 4, .mv, [(.tmp 65)], none⟩] [4])
  .ret))))))
def f24 : Ev.Fn := ⟨2, 66, [.tmp 4], k24⟩
set_option maxRecDepth 100000 in
theorem e24 : compFn prog sig 24 2 [[0, 1], [0, 1, 5], [0, 1, 5, 14, 15], [0, 1, 5, 14, 15], [0, 1, 5, 14, 15, 16], [0, 1, 5, 6, 14, 15], [0, 1, 5, 14, 15], [0, 1, 5, 14, 15], [0, 1, 5], [0, 1, 5, 28, 29], [0, 1, 5, 28, 29], [0, 1, 5, 28, 29, 30], [0, 1, 5, 28, 29, 32, 33], [0, 1, 5, 28, 29, 32, 33], [0, 1, 5, 28, 29, 32, 33, 34], [0, 1, 5, 7, 28, 29, 32, 33], [0, 1, 5, 7, 28, 29, 32, 33, 40, 41, 42], [0, 1, 5, 7, 28, 29, 32, 33, 40, 41, 42], [0, 1, 5, 7, 28, 29, 32, 33, 40, 41, 42, 43], [0, 1, 5, 7, 9, 28, 29, 32, 33, 40, 41, 42], [0, 1, 5, 7, 9, 28, 29, 32, 33, 40, 41, 42, 48], [0, 1, 5, 7, 28, 29, 32, 33, 40, 41, 42], [0, 1, 5, 7, 28, 29, 32, 33, 40, 41, 42], [0, 1, 5, 28, 29, 32, 33], [0, 1, 5, 28, 29], [4]] = some f24 := by kernel_rfl
noncomputable def graph_edges_L1 (to_0 : Sl Int) (l1 : List Int) : (List Int × Int) → Option (Sum ((List Int × Int)) (List Int)) := fun (l3, i4) =>
  bif decide (i4 < (l1.length : Int)) then ((ixI i4 l3.length).bind fun n11 =>
  some (.inl ((l3.set n11 (to_0.l.length : Int)), wr .i64 (i4 + 1)))) else
  (some (.inr l3))

noncomputable def graph_edges_L4 (goal_1 : Int) (i25 : Int) (r34 : Sl Int) : (List Int × Int) → Option (Sum ((List Int × Int)) (List Int)) := fun (l36, i37) =>
  bif decide (i37 < (r34.l.length : Int)) then (((ixI i37 r34.l.length).bind fun n47 =>
  bif (i25 != goal_1) then ((ixI i25 l36.length).bind fun n50 =>
  (ixI (gt r34.l n47) l36.length).bind fun n52 =>
  some (l36.set n50 (if (wr .i64 ((gt l36 n52) + 1)) < (gt l36 n50) then (wr .i64 ((gt l36 n52) + 1)) else (gt l36 n50)))) else
  (some l36) : Option (List Int)).bind fun l44 =>
  some (.inl (l44, wr .i64 (i37 + 1)))) else
  (some (.inr l36))

noncomputable def graph_edges_L3 (to_0 : Sl Int) (goal_1 : Int) : (List Int × Int) → Option (Sum ((List Int × Int)) (List Int)) := fun (l24, i25) =>
  bif decide (i25 < (to_0.l.length : Int)) then ((ixI i25 to_0.l.length).bind fun n32 =>
  (graph_list (gt to_0.l n32)).bind fun r34 =>
  (loopO (graph_edges_L4 goal_1 i25 r34) (l24, 0)).bind fun l40 =>
  some (.inl (l40, wr .i64 (i25 + 1)))) else
  (some (.inr l24))

noncomputable def graph_edges_L2 (to_0 : Sl Int) (goal_1 : Int) : (List Int × Int) → Option (Sum ((List Int × Int)) (List Int)) := fun (l16, i17) =>
  bif decide (i17 < (to_0.l.length : Int)) then ((loopO (graph_edges_L3 to_0 goal_1) (l16, 0)).bind fun l28 =>
  some (.inl (l28, wr .i64 (i17 + 1)))) else
  (some (.inr l16))

noncomputable def graph_edges (to_0 : Sl Int) (goal_1 : Int) : Option (Sl Int) :=
  (mkI 0 (to_0.l.length : Int) (to_0.l.length : Int)).bind fun l1 =>
  (loopO (graph_edges_L1 to_0 l1) (l1, 0)).bind fun l7 =>
  (ixI goal_1 l7.length).bind fun n14 =>
  (loopO (graph_edges_L2 to_0 goal_1) ((l7.set n14 0), 0)).bind fun l20 =>
  some (Sl.mk l20)
theorem graph_edges_ok {to_0 : Sl Int} {goal_1 : Int} {z : Sl Int} (hp : graph_edges to_0 goal_1 = some z) : Good prog 24 [.d (slD 1 cI_u16 to_0), .d (.lit (.int .i64 goal_1))] [.c (.d (slD 1 cI_i64 z))] [] := by
  unfold graph_edges at hp
  refine fn_good mixed e24 (fnS (m := [true]) (s := ⟨[(0, .c (.d (slD 1 cI_u16 to_0))), (1, .c (.d (.lit (.int .i64 goal_1))))], [], 0, []⟩) (len := 0) (c := k24) rfl (Sub.of_eq rfl) rfl rfl ?_)
  refine w_seq ?_
  refine w_region ?_
  refine o1 rfl ?_
  refine o_end (e' := [(0, .c (.d (slD 1 cI_u16 to_0))), (1, .c (.d (.lit (.int .i64 goal_1))))]) rfl rfl ?_
  refine after_n ?_
  refine w_seq ?_
  obtain ⟨l1, h2, hp⟩ := bnd hp
  refine w_region ?_
  refine o1 rfl ?_
  refine o1 (v := .c (.d (.lit (.int .i64 (to_0.l.length : Int))))) len_sd ?_
  refine o2 (ev_make (enc := cI_i64) (z := 0) rfl h2) ?_
  refine o1 rfl ?_
  refine o_end (e' := [(0, .c (.d (slD 1 cI_u16 to_0))), (1, .c (.d (.lit (.int .i64 goal_1)))), (5, .c (slC 1 cI_i64 0 (Sl.mk l1)))]) rfl rfl ?_
  refine after_n ?_
  refine w_seq ?_
  refine w_seq ?_
  refine w_region ?_
  refine o1 rfl ?_
  refine o1 (v := .c (.d (.lit (.int .i64 (l1.length : Int))))) len_o ?_
  refine o1 rfl ?_
  refine o_end (e' := [(0, .c (.d (slD 1 cI_u16 to_0))), (1, .c (.d (.lit (.int .i64 goal_1)))), (5, .c (slC 1 cI_i64 0 (Sl.mk l1))), (14, .c (.d (.lit (.int .i64 (l1.length : Int))))), (15, .c (.d (.lit (.int .i64 0))))]) rfl rfl ?_
  refine after_n ?_
  refine w_block ?_
  obtain ⟨l7, h9, hp⟩ := bnd hp
  refine W.mono ?_ (w_loopS (st := fun (v : (List Int × Int)) => match v with | (l3, i4) => ⟨[(0, .c (.d (slD 1 cI_u16 to_0))), (1, .c (.d (.lit (.int .i64 goal_1)))), (5, .c (slC 1 cI_i64 0 (Sl.mk l3))), (14, .c (.d (.lit (.int .i64 (l1.length : Int))))), (15, .c (.d (.lit (.int .i64 i4))))], [(0, slO 1 cI_i64 (Sl.mk l3))], 1, []⟩) (a := (l1, 0)) (Q := Jn (fun (x : List Int) o s => match x with | l7 => o = Out.exit 0 ∧ Sub s ⟨[(0, .c (.d (slD 1 cI_u16 to_0))), (1, .c (.d (.lit (.int .i64 goal_1)))), (5, .c (slC 1 cI_i64 0 (Sl.mk l7)))], [(0, slO 1 cI_i64 (Sl.mk l7))], 1, []⟩)) ?_ h9 ?_)
  · intro o s hs13
    obtain ⟨rfl, hs13⟩ := hs13
    refine out_e ?_
    refine after_n ?_
    refine W.sub hs13 ?_
    refine w_seq ?_
    obtain ⟨n14, h15, hp⟩ := bnd hp
    try dsimp only [slC, slO]
    refine w_region ?_
    iterate 2 refine o1 rfl ?_
    refine o1 (ix_o h15) ?_
    refine o0 (st_row (y := 0) rfl (ixI_some.1 h15).2 rfl rfl rfl (Nat.le_of_ble_eq_true rfl) rfl) ?_
    rw [len_set l7 cI_i64 n14 0]
    refine o_end (e' := [(0, .c (.d (slD 1 cI_u16 to_0))), (1, .c (.d (.lit (.int .i64 goal_1)))), (5, .c (slC 1 cI_i64 0 (Sl.mk (l7.set n14 0))))]) rfl rfl ?_
    refine after_n ?_
    refine w_seq ?_
    refine w_seq ?_
    refine w_region ?_
    refine o1 rfl ?_
    refine o1 (v := .c (.d (.lit (.int .i64 (to_0.l.length : Int))))) len_sd ?_
    refine o1 rfl ?_
    refine o_end (e' := [(0, .c (.d (slD 1 cI_u16 to_0))), (1, .c (.d (.lit (.int .i64 goal_1)))), (5, .c (slC 1 cI_i64 0 (Sl.mk (l7.set n14 0)))), (28, .c (.d (.lit (.int .i64 (to_0.l.length : Int))))), (29, .c (.d (.lit (.int .i64 0))))]) rfl rfl ?_
    refine after_n ?_
    refine w_block ?_
    obtain ⟨l20, h22, hp⟩ := bnd hp
    refine W.mono ?_ (w_loopS (st := fun (v : (List Int × Int)) => match v with | (l16, i17) => ⟨[(0, .c (.d (slD 1 cI_u16 to_0))), (1, .c (.d (.lit (.int .i64 goal_1)))), (5, .c (slC 1 cI_i64 0 (Sl.mk l16))), (28, .c (.d (.lit (.int .i64 (to_0.l.length : Int))))), (29, .c (.d (.lit (.int .i64 i17))))], [(0, slO 1 cI_i64 (Sl.mk l16))], 1, []⟩) (a := ((l7.set n14 0), 0)) (Q := Jn (fun (x : List Int) o s => match x with | l20 => o = Out.exit 2 ∧ Sub s ⟨[(5, .c (slC 1 cI_i64 0 (Sl.mk l20)))], [(0, slO 1 cI_i64 (Sl.mk l20))], 1, []⟩)) ?_ h22 ?_)
    · intro o s hs57
      obtain ⟨rfl, hs57⟩ := hs57
      refine out_e ?_
      refine after_n ?_
      refine W.sub hs57 ?_
      refine w_seq ?_
      refine w_region ?_
      iterate 2 refine o1 rfl ?_
      refine o_end (e' := [(4, .c (slC 1 cI_i64 0 (Sl.mk l20)))]) rfl rfl ?_
      refine after_n ?_
      refine w_ret ?_
      obtain rfl := Option.some.inj hp
      exact leave_at rfl rfl (pr_c (p_o rfl) pr_nil) pc_nil rfl rfl
    · exact (sub_ren [0] [0, 1, 5, 28, 29] (by decide) rfl (.cons .nil) (Nat.le_of_ble_eq_true rfl))
    · rintro ⟨l16, i17⟩ r hr
      unfold graph_edges_L2 at hr
      refine w_seq ?_
      refine w_region ?_
      refine o1 (v := .c (.d (.lit (.bool (decide (i17 < (to_0.l.length : Int))))))) rfl ?_
      refine o_end (e' := [(0, .c (.d (slD 1 cI_u16 to_0))), (1, .c (.d (.lit (.int .i64 goal_1)))), (5, .c (slC 1 cI_i64 0 (Sl.mk l16))), (28, .c (.d (.lit (.int .i64 (to_0.l.length : Int))))), (29, .c (.d (.lit (.int .i64 i17)))), (30, .c (.d (.lit (.bool (decide (i17 < (to_0.l.length : Int)))))))]) rfl rfl ?_
      refine after_n ?_
      refine w_seq ?_
      refine w_cond (t := decide (i17 < (to_0.l.length : Int))) rfl (fun hb23 => ?_) (fun hb23 => ?_)
      · have hr := cnd_t hb23 hr
        refine w_skip ?_
        refine after_n ?_
        refine w_seq ?_
        refine w_block ?_
        refine w_seq ?_
        refine w_region ?_
        refine o1 rfl ?_
        refine o1 (v := .c (.d (.lit (.int .i64 (to_0.l.length : Int))))) len_sd ?_
        refine o1 rfl ?_
        refine o_end (e' := [(0, .c (.d (slD 1 cI_u16 to_0))), (1, .c (.d (.lit (.int .i64 goal_1)))), (5, .c (slC 1 cI_i64 0 (Sl.mk l16))), (28, .c (.d (.lit (.int .i64 (to_0.l.length : Int))))), (29, .c (.d (.lit (.int .i64 i17)))), (32, .c (.d (.lit (.int .i64 (to_0.l.length : Int))))), (33, .c (.d (.lit (.int .i64 0))))]) rfl rfl ?_
        refine after_n ?_
        refine w_block ?_
        obtain ⟨l28, h30, hr⟩ := bnd hr
        refine W.mono ?_ (w_loopS (st := fun (v : (List Int × Int)) => match v with | (l24, i25) => ⟨[(0, .c (.d (slD 1 cI_u16 to_0))), (1, .c (.d (.lit (.int .i64 goal_1)))), (5, .c (slC 1 cI_i64 0 (Sl.mk l24))), (28, .c (.d (.lit (.int .i64 (to_0.l.length : Int))))), (29, .c (.d (.lit (.int .i64 i17)))), (32, .c (.d (.lit (.int .i64 (to_0.l.length : Int))))), (33, .c (.d (.lit (.int .i64 i25))))], [(0, slO 1 cI_i64 (Sl.mk l24))], 1, []⟩) (a := (l16, 0)) (Q := Jn (fun (x : List Int) o s => match x with | l28 => o = Out.exit 4 ∧ Sub s ⟨[(0, .c (.d (slD 1 cI_u16 to_0))), (1, .c (.d (.lit (.int .i64 goal_1)))), (5, .c (slC 1 cI_i64 0 (Sl.mk l28))), (28, .c (.d (.lit (.int .i64 (to_0.l.length : Int))))), (29, .c (.d (.lit (.int .i64 i17))))], [(0, slO 1 cI_i64 (Sl.mk l28))], 1, []⟩)) ?_ h30 ?_)
        · intro o s hs56
          obtain ⟨rfl, hs56⟩ := hs56
          refine out_e ?_
          refine out_n ?_
          refine after_n ?_
          refine W.sub hs56 ?_
          refine w_region ?_
          refine o1 (v := .c (.d (.lit (.int .i64 (wr .i64 (i17 + 1)))))) rfl ?_
          refine o1 rfl ?_
          refine o_end (e' := [(0, .c (.d (slD 1 cI_u16 to_0))), (1, .c (.d (.lit (.int .i64 goal_1)))), (5, .c (slC 1 cI_i64 0 (Sl.mk l28))), (28, .c (.d (.lit (.int .i64 (to_0.l.length : Int))))), (29, .c (.d (.lit (.int .i64 (wr .i64 (i17 + 1))))))]) rfl rfl ?_
          obtain rfl := Option.some.inj hr
          exact And.intro rfl (sub_ren [0] [0, 1, 5, 28, 29] (by decide) rfl (.cons .nil) (Nat.le_of_ble_eq_true rfl))
        · exact (sub_ren [0] [0, 1, 5, 28, 29, 32, 33] (by decide) rfl (.cons .nil) (Nat.le_of_ble_eq_true rfl))
        · rintro ⟨l24, i25⟩ r hr
          unfold graph_edges_L3 at hr
          refine w_seq ?_
          refine w_region ?_
          refine o1 (v := .c (.d (.lit (.bool (decide (i25 < (to_0.l.length : Int))))))) rfl ?_
          refine o_end (e' := [(0, .c (.d (slD 1 cI_u16 to_0))), (1, .c (.d (.lit (.int .i64 goal_1)))), (5, .c (slC 1 cI_i64 0 (Sl.mk l24))), (28, .c (.d (.lit (.int .i64 (to_0.l.length : Int))))), (29, .c (.d (.lit (.int .i64 i17)))), (32, .c (.d (.lit (.int .i64 (to_0.l.length : Int))))), (33, .c (.d (.lit (.int .i64 i25)))), (34, .c (.d (.lit (.bool (decide (i25 < (to_0.l.length : Int)))))))]) rfl rfl ?_
          refine after_n ?_
          refine w_seq ?_
          refine w_cond (t := decide (i25 < (to_0.l.length : Int))) rfl (fun hb31 => ?_) (fun hb31 => ?_)
          · have hr := cnd_t hb31 hr
            refine w_skip ?_
            refine after_n ?_
            refine w_seq ?_
            refine w_block ?_
            refine w_seq ?_
            refine w_region ?_
            iterate 2 refine o1 rfl ?_
            refine o_end (e' := [(0, .c (.d (slD 1 cI_u16 to_0))), (1, .c (.d (.lit (.int .i64 goal_1)))), (5, .c (slC 1 cI_i64 0 (Sl.mk l24))), (7, .c (.d (.lit (.int .i64 i25)))), (28, .c (.d (.lit (.int .i64 (to_0.l.length : Int))))), (29, .c (.d (.lit (.int .i64 i17)))), (32, .c (.d (.lit (.int .i64 (to_0.l.length : Int))))), (33, .c (.d (.lit (.int .i64 i25))))]) rfl rfl ?_
            refine after_n ?_
            refine w_seq ?_
            obtain ⟨n32, h33, hr⟩ := bnd hr
            obtain ⟨r34, h35, hr⟩ := bnd hr
            refine w_region ?_
            iterate 2 refine o1 rfl ?_
            refine o1 (ix_sd h33) ?_
            refine o1 rfl ?_
            refine oc (rs := [.c (.d (slD 1 cI_i64 r34))]) (outs := []) rfl (graph_list_ok h35) rfl ?_
            refine o1 (v := .c (.d (.lit (.int .i64 (r34.l.length : Int))))) len_sd ?_
            refine o1 rfl ?_
            refine o_end (e' := [(0, .c (.d (slD 1 cI_u16 to_0))), (1, .c (.d (.lit (.int .i64 goal_1)))), (5, .c (slC 1 cI_i64 0 (Sl.mk l24))), (7, .c (.d (.lit (.int .i64 i25)))), (28, .c (.d (.lit (.int .i64 (to_0.l.length : Int))))), (29, .c (.d (.lit (.int .i64 i17)))), (32, .c (.d (.lit (.int .i64 (to_0.l.length : Int))))), (33, .c (.d (.lit (.int .i64 i25)))), (40, .c (.d (slD 1 cI_i64 r34))), (41, .c (.d (.lit (.int .i64 (r34.l.length : Int))))), (42, .c (.d (.lit (.int .i64 0))))]) rfl rfl ?_
            refine after_n ?_
            refine w_block ?_
            obtain ⟨l40, h42, hr⟩ := bnd hr
            refine W.mono ?_ (w_loopS (st := fun (v : (List Int × Int)) => match v with | (l36, i37) => ⟨[(0, .c (.d (slD 1 cI_u16 to_0))), (1, .c (.d (.lit (.int .i64 goal_1)))), (5, .c (slC 1 cI_i64 0 (Sl.mk l36))), (7, .c (.d (.lit (.int .i64 i25)))), (28, .c (.d (.lit (.int .i64 (to_0.l.length : Int))))), (29, .c (.d (.lit (.int .i64 i17)))), (32, .c (.d (.lit (.int .i64 (to_0.l.length : Int))))), (33, .c (.d (.lit (.int .i64 i25)))), (40, .c (.d (slD 1 cI_i64 r34))), (41, .c (.d (.lit (.int .i64 (r34.l.length : Int))))), (42, .c (.d (.lit (.int .i64 i37))))], [(0, slO 1 cI_i64 (Sl.mk l36))], 1, []⟩) (a := (l24, 0)) (Q := Jn (fun (x : List Int) o s => match x with | l40 => o = Out.exit 6 ∧ Sub s ⟨[(0, .c (.d (slD 1 cI_u16 to_0))), (1, .c (.d (.lit (.int .i64 goal_1)))), (5, .c (slC 1 cI_i64 0 (Sl.mk l40))), (28, .c (.d (.lit (.int .i64 (to_0.l.length : Int))))), (29, .c (.d (.lit (.int .i64 i17)))), (32, .c (.d (.lit (.int .i64 (to_0.l.length : Int))))), (33, .c (.d (.lit (.int .i64 i25))))], [(0, slO 1 cI_i64 (Sl.mk l40))], 1, []⟩)) ?_ h42 ?_)
            · intro o s hs55
              obtain ⟨rfl, hs55⟩ := hs55
              refine out_e ?_
              refine out_n ?_
              refine after_n ?_
              refine W.sub hs55 ?_
              refine w_region ?_
              refine o1 (v := .c (.d (.lit (.int .i64 (wr .i64 (i25 + 1)))))) rfl ?_
              refine o1 rfl ?_
              refine o_end (e' := [(0, .c (.d (slD 1 cI_u16 to_0))), (1, .c (.d (.lit (.int .i64 goal_1)))), (5, .c (slC 1 cI_i64 0 (Sl.mk l40))), (28, .c (.d (.lit (.int .i64 (to_0.l.length : Int))))), (29, .c (.d (.lit (.int .i64 i17)))), (32, .c (.d (.lit (.int .i64 (to_0.l.length : Int))))), (33, .c (.d (.lit (.int .i64 (wr .i64 (i25 + 1))))))]) rfl rfl ?_
              obtain rfl := Option.some.inj hr
              exact And.intro rfl (sub_ren [0] [0, 1, 5, 28, 29, 32, 33] (by decide) rfl (.cons .nil) (Nat.le_of_ble_eq_true rfl))
            · exact (sub_ren [0] [0, 1, 5, 7, 28, 29, 32, 33, 40, 41, 42] (by decide) rfl (.cons .nil) (Nat.le_of_ble_eq_true rfl))
            · rintro ⟨l36, i37⟩ r hr
              unfold graph_edges_L4 at hr
              refine w_seq ?_
              refine w_region ?_
              refine o1 (v := .c (.d (.lit (.bool (decide (i37 < (r34.l.length : Int))))))) rfl ?_
              refine o_end (e' := [(0, .c (.d (slD 1 cI_u16 to_0))), (1, .c (.d (.lit (.int .i64 goal_1)))), (5, .c (slC 1 cI_i64 0 (Sl.mk l36))), (7, .c (.d (.lit (.int .i64 i25)))), (28, .c (.d (.lit (.int .i64 (to_0.l.length : Int))))), (29, .c (.d (.lit (.int .i64 i17)))), (32, .c (.d (.lit (.int .i64 (to_0.l.length : Int))))), (33, .c (.d (.lit (.int .i64 i25)))), (40, .c (.d (slD 1 cI_i64 r34))), (41, .c (.d (.lit (.int .i64 (r34.l.length : Int))))), (42, .c (.d (.lit (.int .i64 i37)))), (43, .c (.d (.lit (.bool (decide (i37 < (r34.l.length : Int)))))))]) rfl rfl ?_
              refine after_n ?_
              refine w_seq ?_
              refine w_cond (t := decide (i37 < (r34.l.length : Int))) rfl (fun hb43 => ?_) (fun hb43 => ?_)
              · have hr := cnd_t hb43 hr
                refine w_skip ?_
                refine after_n ?_
                refine w_seq ?_
                obtain ⟨l44, h45, hr⟩ := bnd hr
                refine W.mono (Q := Jn (fun (x : List Int) o s => match x with | l44 => o = Out.normal ∧ Sub s ⟨[(0, .c (.d (slD 1 cI_u16 to_0))), (1, .c (.d (.lit (.int .i64 goal_1)))), (5, .c (slC 1 cI_i64 0 (Sl.mk l44))), (7, .c (.d (.lit (.int .i64 i25)))), (28, .c (.d (.lit (.int .i64 (to_0.l.length : Int))))), (29, .c (.d (.lit (.int .i64 i17)))), (32, .c (.d (.lit (.int .i64 (to_0.l.length : Int))))), (33, .c (.d (.lit (.int .i64 i25)))), (40, .c (.d (slD 1 cI_i64 r34))), (41, .c (.d (.lit (.int .i64 (r34.l.length : Int))))), (42, .c (.d (.lit (.int .i64 i37))))], [(0, slO 1 cI_i64 (Sl.mk l44))], 1, []⟩) l44) ?_ ?_
                · intro o s hs54
                  obtain ⟨rfl, hs54⟩ := hs54
                  refine after_n ?_
                  refine W.sub hs54 ?_
                  refine w_region ?_
                  refine o1 (v := .c (.d (.lit (.int .i64 (wr .i64 (i37 + 1)))))) rfl ?_
                  refine o1 rfl ?_
                  refine o_end (e' := [(0, .c (.d (slD 1 cI_u16 to_0))), (1, .c (.d (.lit (.int .i64 goal_1)))), (5, .c (slC 1 cI_i64 0 (Sl.mk l44))), (7, .c (.d (.lit (.int .i64 i25)))), (28, .c (.d (.lit (.int .i64 (to_0.l.length : Int))))), (29, .c (.d (.lit (.int .i64 i17)))), (32, .c (.d (.lit (.int .i64 (to_0.l.length : Int))))), (33, .c (.d (.lit (.int .i64 i25)))), (40, .c (.d (slD 1 cI_i64 r34))), (41, .c (.d (.lit (.int .i64 (r34.l.length : Int))))), (42, .c (.d (.lit (.int .i64 (wr .i64 (i37 + 1))))))]) rfl rfl ?_
                  obtain rfl := Option.some.inj hr
                  exact And.intro rfl (sub_ren [0] [0, 1, 5, 7, 28, 29, 32, 33, 40, 41, 42] (by decide) rfl (.cons .nil) (Nat.le_of_ble_eq_true rfl))
                · refine w_block ?_
                  refine w_seq ?_
                  obtain ⟨n47, h48, h45⟩ := bnd h45
                  refine w_region ?_
                  refine o1 (ix_sd h48) ?_
                  iterate 2 refine o1 rfl ?_
                  refine o_end (e' := [(0, .c (.d (slD 1 cI_u16 to_0))), (1, .c (.d (.lit (.int .i64 goal_1)))), (5, .c (slC 1 cI_i64 0 (Sl.mk l36))), (7, .c (.d (.lit (.int .i64 i25)))), (9, .c (.d (.lit (.int .i64 (gt r34.l n47))))), (28, .c (.d (.lit (.int .i64 (to_0.l.length : Int))))), (29, .c (.d (.lit (.int .i64 i17)))), (32, .c (.d (.lit (.int .i64 (to_0.l.length : Int))))), (33, .c (.d (.lit (.int .i64 i25)))), (40, .c (.d (slD 1 cI_i64 r34))), (41, .c (.d (.lit (.int .i64 (r34.l.length : Int))))), (42, .c (.d (.lit (.int .i64 i37))))]) rfl rfl ?_
                  refine after_n ?_
                  refine w_seq ?_
                  refine w_region ?_
                  iterate 2 refine o1 rfl ?_
                  refine o1 (v := .c (.d (.lit (.bool (i25 != goal_1))))) rfl ?_
                  refine o_end (e' := [(0, .c (.d (slD 1 cI_u16 to_0))), (1, .c (.d (.lit (.int .i64 goal_1)))), (5, .c (slC 1 cI_i64 0 (Sl.mk l36))), (7, .c (.d (.lit (.int .i64 i25)))), (9, .c (.d (.lit (.int .i64 (gt r34.l n47))))), (28, .c (.d (.lit (.int .i64 (to_0.l.length : Int))))), (29, .c (.d (.lit (.int .i64 i17)))), (32, .c (.d (.lit (.int .i64 (to_0.l.length : Int))))), (33, .c (.d (.lit (.int .i64 i25)))), (40, .c (.d (slD 1 cI_i64 r34))), (41, .c (.d (.lit (.int .i64 (r34.l.length : Int))))), (42, .c (.d (.lit (.int .i64 i37)))), (48, .c (.d (.lit (.bool (i25 != goal_1)))))]) rfl rfl ?_
                  refine after_n ?_
                  refine w_cond (t := (i25 != goal_1)) rfl (fun hb49 => ?_) (fun hb49 => ?_)
                  · have h45 := cnd_t hb49 h45
                    obtain ⟨n50, h51, h45⟩ := bnd h45
                    obtain ⟨n52, h53, h45⟩ := bnd h45
                    try dsimp only [slC, slO]
                    refine w_drawn ?_
                    iterate 4 refine d1 rfl ?_
                    refine d1 (ix_o h51) ?_
                    refine d1 (ld_row rfl (ixI_some.1 h51).2 rfl) ?_
                    iterate 2 refine d1 rfl ?_
                    refine d1 (ix_o h53) ?_
                    refine d1 (ld_row rfl (ixI_some.1 h53).2 rfl) ?_
                    refine d1 (v := .c (.d (.lit (.int .i64 (wr .i64 ((gt l36 n52) + 1)))))) rfl ?_
                    refine d1 (v := .c (.d (.lit (.int .i64 (if (wr .i64 ((gt l36 n52) + 1)) < (gt l36 n50) then (wr .i64 ((gt l36 n52) + 1)) else (gt l36 n50)))))) rfl ?_
                    refine d1 (ix_o h51) ?_
                    refine d0 (st_row (y := (if (wr .i64 ((gt l36 n52) + 1)) < (gt l36 n50) then (wr .i64 ((gt l36 n52) + 1)) else (gt l36 n50))) rfl (ixI_some.1 h51).2 rfl rfl rfl (Nat.le_of_ble_eq_true rfl) rfl) (Nat.le_of_ble_eq_true rfl) ?_
                    rw [len_set l36 cI_i64 n50 (if (wr .i64 ((gt l36 n52) + 1)) < (gt l36 n50) then (wr .i64 ((gt l36 n52) + 1)) else (gt l36 n50))]
                    refine d_fin (e' := [(0, .c (.d (slD 1 cI_u16 to_0))), (1, .c (.d (.lit (.int .i64 goal_1)))), (5, .c (slC 1 cI_i64 0 (Sl.mk (l36.set n50 (if (wr .i64 ((gt l36 n52) + 1)) < (gt l36 n50) then (wr .i64 ((gt l36 n52) + 1)) else (gt l36 n50)))))), (7, .c (.d (.lit (.int .i64 i25)))), (28, .c (.d (.lit (.int .i64 (to_0.l.length : Int))))), (29, .c (.d (.lit (.int .i64 i17)))), (32, .c (.d (.lit (.int .i64 (to_0.l.length : Int))))), (33, .c (.d (.lit (.int .i64 i25)))), (40, .c (.d (slD 1 cI_i64 r34))), (41, .c (.d (.lit (.int .i64 (r34.l.length : Int))))), (42, .c (.d (.lit (.int .i64 i37))))]) (n' := 897) rfl rfl rfl rfl ?_
                    refine out_n ?_
                    obtain rfl := Option.some.inj h45
                    exact And.intro rfl (sub_ren [0] [0, 1, 5, 7, 28, 29, 32, 33, 40, 41, 42] (by decide) rfl (.cons .nil) (Nat.le_of_ble_eq_true rfl))
                  · have h45 := cnd_f hb49 h45
                    refine w_skip ?_
                    refine out_n ?_
                    obtain rfl := Option.some.inj h45
                    exact And.intro rfl (sub_ren [0] [0, 1, 5, 7, 28, 29, 32, 33, 40, 41, 42] (by decide) rfl (.cons .nil) (Nat.le_of_ble_eq_true rfl))
              · have hr := cnd_f hb43 hr
                refine w_exit ?_
                refine after_e ?_
                obtain rfl := Option.some.inj hr
                exact And.intro nofun (And.intro rfl (sub_ren [0] [0, 1, 5, 28, 29, 32, 33] (by decide) rfl (.cons .nil) (Nat.le_of_ble_eq_true rfl)))
          · have hr := cnd_f hb31 hr
            refine w_exit ?_
            refine after_e ?_
            obtain rfl := Option.some.inj hr
            exact And.intro nofun (And.intro rfl (sub_ren [0] [0, 1, 5, 28, 29] (by decide) rfl (.cons .nil) (Nat.le_of_ble_eq_true rfl)))
      · have hr := cnd_f hb23 hr
        refine w_exit ?_
        refine after_e ?_
        obtain rfl := Option.some.inj hr
        exact And.intro nofun (And.intro rfl (sub_ren [0] [5] (by decide) rfl (.cons .nil) (Nat.le_of_ble_eq_true rfl)))
  · exact (sub_ren [0] [0, 1, 5, 14, 15] (by decide) rfl (.cons .nil) (Nat.le_of_ble_eq_true rfl))
  · rintro ⟨l3, i4⟩ r hr
    unfold graph_edges_L1 at hr
    refine w_seq ?_
    refine w_region ?_
    refine o1 (v := .c (.d (.lit (.bool (decide (i4 < (l1.length : Int))))))) rfl ?_
    refine o_end (e' := [(0, .c (.d (slD 1 cI_u16 to_0))), (1, .c (.d (.lit (.int .i64 goal_1)))), (5, .c (slC 1 cI_i64 0 (Sl.mk l3))), (14, .c (.d (.lit (.int .i64 (l1.length : Int))))), (15, .c (.d (.lit (.int .i64 i4)))), (16, .c (.d (.lit (.bool (decide (i4 < (l1.length : Int)))))))]) rfl rfl ?_
    refine after_n ?_
    refine w_seq ?_
    refine w_cond (t := decide (i4 < (l1.length : Int))) rfl (fun hb10 => ?_) (fun hb10 => ?_)
    · have hr := cnd_t hb10 hr
      refine w_skip ?_
      refine after_n ?_
      refine w_seq ?_
      refine w_block ?_
      refine w_seq ?_
      refine w_region ?_
      iterate 2 refine o1 rfl ?_
      refine o_end (e' := [(0, .c (.d (slD 1 cI_u16 to_0))), (1, .c (.d (.lit (.int .i64 goal_1)))), (5, .c (slC 1 cI_i64 0 (Sl.mk l3))), (6, .c (.d (.lit (.int .i64 i4)))), (14, .c (.d (.lit (.int .i64 (l1.length : Int))))), (15, .c (.d (.lit (.int .i64 i4))))]) rfl rfl ?_
      refine after_n ?_
      obtain ⟨n11, h12, hr⟩ := bnd hr
      try dsimp only [slC, slO]
      refine w_region ?_
      iterate 3 refine o1 rfl ?_
      refine o1 (v := .c (.d (.lit (.int .i64 (to_0.l.length : Int))))) len_sd ?_
      refine o1 (ix_o h12) ?_
      refine o0 (st_row (y := (to_0.l.length : Int)) rfl (ixI_some.1 h12).2 rfl rfl rfl (Nat.le_of_ble_eq_true rfl) rfl) ?_
      rw [len_set l3 cI_i64 n11 (to_0.l.length : Int)]
      refine o_end (e' := [(0, .c (.d (slD 1 cI_u16 to_0))), (1, .c (.d (.lit (.int .i64 goal_1)))), (5, .c (slC 1 cI_i64 0 (Sl.mk (l3.set n11 (to_0.l.length : Int))))), (14, .c (.d (.lit (.int .i64 (l1.length : Int))))), (15, .c (.d (.lit (.int .i64 i4))))]) rfl rfl ?_
      refine out_n ?_
      refine after_n ?_
      refine w_region ?_
      refine o1 (v := .c (.d (.lit (.int .i64 (wr .i64 (i4 + 1)))))) rfl ?_
      refine o1 rfl ?_
      refine o_end (e' := [(0, .c (.d (slD 1 cI_u16 to_0))), (1, .c (.d (.lit (.int .i64 goal_1)))), (5, .c (slC 1 cI_i64 0 (Sl.mk (l3.set n11 (to_0.l.length : Int))))), (14, .c (.d (.lit (.int .i64 (l1.length : Int))))), (15, .c (.d (.lit (.int .i64 (wr .i64 (i4 + 1))))))]) rfl rfl ?_
      obtain rfl := Option.some.inj hr
      exact And.intro rfl (sub_ren [0] [0, 1, 5, 14, 15] (by decide) rfl (.cons .nil) (Nat.le_of_ble_eq_true rfl))
    · have hr := cnd_f hb10 hr
      refine w_exit ?_
      refine after_e ?_
      obtain rfl := Option.some.inj hr
      exact And.intro nofun (And.intro rfl (sub_ren [0] [0, 1, 5] (by decide) rfl (.cons .nil) (Nat.le_of_ble_eq_true rfl)))

/- turnout/graph.Loop -/
def k15 : CC :=
  (.seq
  (.region [
    ⟨some 4, .mv, [(.const (.slice none 0 0))], none⟩] [0, 1])
  (.seq
  (.seq
  (.region [
    ⟨some 15, .mv, [(.tmp 0)], none⟩,
    ⟨some 16, .mv, [(.tmp 1)], none⟩,
    ⟨some 17, (.call true []), [(.func 8), (.tmp 15), (.tmp 16)], none⟩,
    ⟨some 18, (.un .not), [(.tmp 17)], none⟩] [0, 1, 18])
  (.cond (.tmp 18)
    (.seq
    (.region [
      ⟨some 4, .mv, [(.const (.slice none 0 0))], none⟩] [4])
    .ret)
    .skip))
  (.seq
  (.region [
    ⟨some 19, .mv, [(.tmp 0)], none⟩,
    ⟨some 20, .mv, [(.tmp 1)], none⟩,
    ⟨some 21, (.call false []), [(.func 17), (.tmp 19), (.tmp 20)], none⟩,
    ⟨some 5, .mv, [(.tmp 21)], none⟩] [0, 5])
  (.seq
  (.seq
  (.region [
    ⟨some 22, .mv, [(.tmp 0)], none⟩,
    ⟨some 23, .mv, [(.const (.int .i64 0))], none⟩] [0, 5, 22, 23])
  (.block 0
    (.loop [0, 5, 22, 23]
      (.seq
      (.region [
        ⟨some 24, (.bin .lss), [(.tmp 23), (.tmp 22)], none⟩] [0, 5, 22, 23, 24])
      (.seq
      (.cond (.tmp 24)
        .skip
        (.exit 0))
      (.seq
      (.block 1
        (.seq
        (.region [
          ⟨some 25, .mv, [(.tmp 23)], none⟩,
          ⟨some 6, .mv, [(.tmp 25)], none⟩] [0, 5, 6, 22, 23])
        (.seq
        (.region [
          ⟨some 26, .mv, [(.tmp 5)], none⟩,
          ⟨some 27, .mv, [(.tmp 6)], none⟩,
          ⟨some 28, (.call false []), [(.func 24), (.tmp 26), (.tmp 27)], none⟩,
          ⟨some 7, .mv, [(.tmp 28)], none⟩] [0, 5, 6, 7, 22, 23])
        (.seq
        (.region [
          ⟨some 29, .mv, [(.tmp 0)], none⟩,
          ⟨some 8, .mv, [(.const (.int .i64 (-1)))], none⟩,
          ⟨some 9, .mv, [(.tmp 29)], none⟩] [0, 5, 6, 7, 8, 9, 22, 23])
        (.seq
        (.seq
        (.region [
          ⟨some 30, .mv, [(.tmp 5)], none⟩,
          ⟨some 31, .mv, [(.tmp 6)], none⟩,
          ⟨some 32, (.indexAddr none 1), [(.tmp 30), (.tmp 31)], none⟩,
          ⟨some 33, (.load false 1), [(.tmp 32)], none⟩,
          ⟨some 34, (.call false []), [(.func 21), (.tmp 33)], none⟩,
          ⟨some 35, (.len false), [(.tmp 34)], none⟩,
          ⟨some 36, .mv, [(.const (.int .i64 0))], none⟩] [0, 5, 6, 7, 8, 9, 22, 23, 34, 35, 36])
        (.block 2
          (.loop [0, 5, 6, 7, 8, 9, 22, 23, 34, 35, 36]
            (.seq
            (.region [
              ⟨some 37, (.bin .lss), [(.tmp 36), (.tmp 35)], none⟩] [0, 5, 6, 7, 8, 9, 22, 23, 34, 35, 36, 37])
            (.seq
            (.cond (.tmp 37)
              .skip
              (.exit 2))
            (.seq
            (.block 3
              (.seq
              (.region [
                ⟨some 38, (.indexAddr none 1), [(.tmp 34), (.tmp 36)], none⟩,
                ⟨some 39, (.load false 1), [(.tmp 38)], none⟩,
                ⟨some 11, .mv, [(.tmp 39)], none⟩] [0, 5, 6, 7, 8, 9, 11, 22, 23, 34, 35, 36])
              (.seq
              (.region [
                ⟨some 40, .mv, [(.tmp 7)], none⟩,
                ⟨some 41, .mv, [(.tmp 11)], none⟩,
                ⟨some 42, (.indexAddr none 1), [(.tmp 40), (.tmp 41)], none⟩,
                ⟨some 43, (.load false 1), [(.tmp 42)], none⟩,
                ⟨some 44, .mv, [(.tmp 9)], none⟩,
                ⟨some 45, (.bin .lss), [(.tmp 43), (.tmp 44)], none⟩] [0, 5, 6, 7, 8, 9, 11, 22, 23, 34, 35, 36, 45])
              (.cond (.tmp 45)
                (.drawn [
                  ⟨some 46, .mv, [(.tmp 11)], none⟩,
                  ⟨some 47, .mv, [(.tmp 7)], none⟩,
                  ⟨some 48, .mv, [(.tmp 11)], none⟩,
                  ⟨some 49, (.indexAddr none 1), [(.tmp 47), (.tmp 48)], none⟩,
                  ⟨some 50, (.load false 1), [(.tmp 49)], none⟩,
                  ⟨some 8, .mv, [(.tmp 46)], none⟩,
                  ⟨some 9, .mv, [(.tmp 50)], none⟩] [] [0, 5, 6, 7, 8, 9, 22, 23, 34, 35, 36])
                .skip))))
            (.region [
              ⟨some 51, (.bin .add), [(.tmp 36), (.const (.int .i64 1))], none⟩,
              ⟨some 36, .mv, [(.tmp 51)], none⟩] [0, 5, 6, 7, 8, 9, 22, 23, 34, 35, 36])))))))
        (.seq
        (.seq
        (.region [
          ⟨some 52, .mv, [(.tmp 8)], none⟩,
          ⟨some 53, (.bin .lss), [(.tmp 52), (.const (.int .i64 0))], none⟩] [0, 5, 6, 7, 8, 22, 23, 53])
        (.cond (.tmp 53)
          (.exit 1)
          .skip))
        (.seq
        (.region [
          ⟨some 54, .mv, [(.tmp 6)], none⟩,
          ⟨some 55, (.buildSlice 1 1 [(.int .i64 0)] [0]), [(.tmp 54)], none⟩,
          ⟨some 12, .mv, [(.tmp 55)], none⟩] [5, 6, 7, 8, 12])
        (.seq
        (.block 4
          (.loop [5, 6, 7, 8, 12]
            (.seq
            (.seq
            (.region [
              ⟨some 56, .mv, [(.tmp 8)], none⟩,
              ⟨some 57, .mv, [(.tmp 6)], none⟩,
              ⟨some 58, (.bin .neq), [(.tmp 56), (.tmp 57)], none⟩] [5, 6, 7, 8, 12, 58])
            (.cond (.tmp 58)
              .skip
              (.exit 4)))
            (.block 5
              (.seq
              (.region [
                ⟨some 59, .mv, [(.tmp 12)], none⟩,
                ⟨some 60, .mv, [(.tmp 8)], none⟩,
                ⟨some 61, (.buildSlice 1 1 [(.int .i64 0)] [0]), [(.tmp 60)], none⟩,
                ⟨some 62, (.append 1), [(.tmp 59), (.tmp 61)], none⟩,
                ⟨some 12, .mv, [(.tmp 62)], none⟩] [5, 6, 7, 8, 12])
              (.seq
              (.region [
                ⟨some 63, .mv, [(.tmp 5)], none⟩,
                ⟨some 64, .mv, [(.tmp 8)], none⟩,
                ⟨some 65, (.indexAddr none 1), [(.tmp 63), (.tmp 64)], none⟩,
                ⟨some 66, (.load false 1), [(.tmp 65)], none⟩,
                ⟨some 67, (.call false []), [(.func 21), (.tmp 66)], none⟩,
                ⟨some 68, (.len false), [(.tmp 67)], none⟩,
                ⟨some 69, .mv, [(.const (.int .i64 0))], none⟩] [5, 6, 7, 8, 12, 67, 68, 69])
              (.block 6
                (.loop [5, 6, 7, 8, 12, 67, 68, 69]
                  (.seq
                  (.region [
                    ⟨some 70, (.bin .lss), [(.tmp 69), (.tmp 68)], none⟩] [5, 6, 7, 8, 12, 67, 68, 69, 70])
                  (.seq
                  (.cond (.tmp 70)
                    .skip
                    (.exit 6))
                  (.seq
                  (.block 7
                    (.seq
                    (.region [
                      ⟨some 71, (.indexAddr none 1), [(.tmp 67), (.tmp 69)], none⟩,
                      ⟨some 72, (.load false 1), [(.tmp 71)], none⟩,
                      ⟨some 14, .mv, [(.tmp 72)], none⟩] [5, 6, 7, 8, 12, 14, 67, 68, 69])
                    (.seq
                    (.drawn [
                      ⟨some 73, .mv, [(.tmp 7)], none⟩,
                      ⟨some 74, .mv, [(.tmp 14)], none⟩,
                      ⟨some 75, (.indexAddr none 1), [(.tmp 73), (.tmp 74)], none⟩,
                      ⟨some 76, (.load false 1), [(.tmp 75)], none⟩,
                      ⟨some 77, .mv, [(.tmp 7)], none⟩,
                      ⟨some 78, .mv, [(.tmp 8)], none⟩,
                      ⟨some 79, (.indexAddr none 1), [(.tmp 77), (.tmp 78)], none⟩,
                      ⟨some 80, (.load false 1), [(.tmp 79)], none⟩,
                      ⟨some 81, (.bin .sub), [(.tmp 80), (.const (.int .i64 1))], none⟩,
                      ⟨some 82, (.bin .eql), [(.tmp 76), (.tmp 81)], none⟩] [] [5, 6, 7, 8, 12, 14, 67, 68, 69, 82])
                    (.cond (.tmp 82)
                      (.seq
                      (.region [
                        ⟨some 83, .mv, [(.tmp 14)], none⟩,
                        ⟨some 8, .mv, [(.tmp 83)], none⟩] [5, 6, 7, 8, 12])
                      (.exit 6))
                      .skip))))
                  (.region [
                    ⟨some 84, (.bin .add), [(.tmp 69), (.const (.int .i64 1))], none⟩,
                    ⟨some 69, .mv, [(.tmp 84)], none⟩] [5, 6, 7, 8, 12, 67, 68, 69]))))))))))))
        (.seq
        (.region [
          ⟨some 85, .mv, [(.tmp 12)], none⟩,
          ⟨some 4, .mv, [(.tmp 85)], none⟩] [4])
        .ret)))))))))
      (.region [
        ⟨some 86, (.bin .add), [(.tmp 23), (.const (.int .i64 1))], none⟩,
        ⟨some 23, .mv, [(.tmp 86)], none⟩] [0, 5, 22, 23])))))))
  (.seq
  (.region [
    ⟨some 4, .mv, [(.const (.slice none 0 0))], none⟩] [4])
  .ret)))))
def f15 : Ev.Fn := ⟨2, 87, [.tmp 4], k15⟩
set_option maxRecDepth 100000 in
theorem e15 : compFn prog sig 15 2 [[0, 1], [0, 1, 18], [4], [0, 5], [0, 5, 22, 23], [0, 5, 22, 23], [0, 5, 22, 23, 24], [0, 5, 6, 22, 23], [0, 5, 6, 7, 22, 23], [0, 5, 6, 7, 8, 9, 22, 23], [0, 5, 6, 7, 8, 9, 22, 23, 34, 35, 36], [0, 5, 6, 7, 8, 9, 22, 23, 34, 35, 36], [0, 5, 6, 7, 8, 9, 22, 23, 34, 35, 36, 37], [0, 5, 6, 7, 8, 9, 11, 22, 23, 34, 35, 36], [0, 5, 6, 7, 8, 9, 11, 22, 23, 34, 35, 36, 45], [0, 5, 6, 7, 8, 9, 22, 23, 34, 35, 36], [0, 5, 6, 7, 8, 9, 22, 23, 34, 35, 36], [0, 5, 6, 7, 8, 22, 23, 53], [5, 6, 7, 8, 12], [5, 6, 7, 8, 12], [5, 6, 7, 8, 12, 58], [5, 6, 7, 8, 12], [5, 6, 7, 8, 12, 67, 68, 69], [5, 6, 7, 8, 12, 67, 68, 69], [5, 6, 7, 8, 12, 67, 68, 69, 70], [5, 6, 7, 8, 12, 14, 67, 68, 69], [5, 6, 7, 8, 12, 14, 67, 68, 69, 82], [5, 6, 7, 8, 12], [5, 6, 7, 8, 12, 67, 68, 69], [4], [0, 5, 22, 23], [4]] = some f15 := by kernel_rfl
noncomputable def graph_Loop_L2 (r12 : Sl Int) (r16 : Sl Int) : (Int × Int × Int) → Option (Sum ((Int × Int × Int)) (Int)) := fun (i18, i19, i20) =>
  bif decide (i20 < (r16.l.length : Int)) then (((ixI i20 r16.l.length).bind fun n32 =>
  (ixI (gt r16.l n32) r12.l.length).bind fun n34 =>
  bif decide ((gt r12.l n34) < i19) then (some (gt r16.l n32, gt r12.l n34)) else
  (some (i18, i19)) : Option ((Int × Int))).bind fun (i28, i29) =>
  some (.inl (i28, i29, wr .i64 (i20 + 1)))) else
  (some (.inr i18))

noncomputable def graph_Loop_L4 (r12 : Sl Int) (i40 : Int) (r52 : Sl Int) : Int → Option (Sum (Int) (Int)) := fun i54 =>
  bif decide (i54 < (r52.l.length : Int)) then ((ixI i54 r52.l.length).bind fun n60 =>
  (ixI (gt r52.l n60) r12.l.length).bind fun n62 =>
  (ixI i40 r12.l.length).bind fun n64 =>
  bif ((gt r12.l n62) == (wr .i64 ((gt r12.l n64) - 1))) then (some (.inr (gt r52.l n60))) else
  (some (.inl (wr .i64 (i54 + 1))))) else
  (some (.inr i40))

noncomputable def graph_Loop_L3 (r4 : Sl Int) (i6 : Int) (r12 : Sl Int) : (Int × List Int) → Option (Sum ((Int × List Int)) (List Int)) := fun (i40, l41) =>
  bif (i40 != i6) then ((capI (l41 ++ [i40])).bind fun l48 =>
  (ixI i40 r4.l.length).bind fun n50 =>
  (graph_list (gt r4.l n50)).bind fun r52 =>
  (loopO (graph_Loop_L4 r12 i40 r52) 0).bind fun i56 =>
  some (.inl (i56, l48))) else
  (some (.inr l41))

noncomputable def graph_Loop_L1 (n_0 : Int) (r4 : Sl Int) : Int → Option (Sum (Int) (Sum (List Int) (Unit))) := fun i6 =>
  bif decide (i6 < n_0) then ((graph_edges r4 i6).bind fun r12 =>
  (ixI i6 r4.l.length).bind fun n14 =>
  (graph_list (gt r4.l n14)).bind fun r16 =>
  (loopO (graph_Loop_L2 r12 r16) ((-1), n_0, 0)).bind fun i24 =>
  bif decide (i24 < 0) then (some (.inl (wr .i64 (i6 + 1)))) else
  ((loopO (graph_Loop_L3 r4 i6 r12) (i24, [i6])).bind fun l44 =>
  some (.inr (.inl l44)))) else
  (some (.inr (.inr ())))

noncomputable def graph_Loop (n_0 : Int) (l_1 : Sl graph_Edge) : Option (Sl Int) :=
  (graph_Right n_0 l_1).bind fun r1 =>
  bif (!r1) then (some Sl.nil) else
  ((graph_next n_0 l_1).bind fun r4 =>
  (loopO (graph_Loop_L1 n_0 r4) 0).bind fun
  | .inl l8 => (some (Sl.mk l8))
  | .inr (_) => (some Sl.nil))
theorem graph_Loop_ok {n_0 : Int} {l_1 : Sl graph_Edge} {z : Sl Int} (hp : graph_Loop n_0 l_1 = some z) : Good prog 15 [.d (.lit (.int .i64 n_0)), .d (slD 2 c_graph_Edge l_1)] [.c (.d (slD 1 cI_i64 z))] [] := by
  unfold graph_Loop at hp
  refine fn_good mixed e15 (fnS (m := [true]) (s := ⟨[(0, .c (.d (.lit (.int .i64 n_0)))), (1, .c (.d (slD 2 c_graph_Edge l_1)))], [], 0, []⟩) (len := 0) (c := k15) rfl (Sub.of_eq rfl) rfl rfl ?_)
  refine w_seq ?_
  refine w_region ?_
  refine o1 rfl ?_
  refine o_end (e' := [(0, .c (.d (.lit (.int .i64 n_0)))), (1, .c (.d (slD 2 c_graph_Edge l_1)))]) rfl rfl ?_
  refine after_n ?_
  refine w_seq ?_
  refine w_seq ?_
  obtain ⟨r1, h2, hp⟩ := bnd hp
  refine w_region ?_
  iterate 2 refine o1 rfl ?_
  refine oc (rs := [.c (.d (.lit (.bool r1)))]) (outs := []) rfl (graph_Right_ok h2) rfl ?_
  refine o1 (v := .c (.d (.lit (.bool (!r1))))) rfl ?_
  refine o_end (e' := [(0, .c (.d (.lit (.int .i64 n_0)))), (1, .c (.d (slD 2 c_graph_Edge l_1))), (18, .c (.d (.lit (.bool (!r1)))))]) rfl rfl ?_
  refine after_n ?_
  refine w_cond (t := (!r1)) rfl (fun hb3 => ?_) (fun hb3 => ?_)
  · have hp := cnd_t hb3 hp
    refine w_seq ?_
    refine w_region ?_
    refine o1 rfl ?_
    refine o_end (e' := [(4, .c (.d (.lit (.slice none 0 0))))]) rfl rfl ?_
    refine after_n ?_
    refine w_ret ?_
    refine after_r ?_
    obtain rfl := Option.some.inj hp
    exact leave_at rfl rfl (pr_c p_d pr_nil) pc_nil rfl rfl
  · have hp := cnd_f hb3 hp
    refine w_skip ?_
    refine after_n ?_
    refine w_seq ?_
    obtain ⟨r4, h5, hp⟩ := bnd hp
    refine w_region ?_
    iterate 2 refine o1 rfl ?_
    refine oc (rs := [.c (.d (slD 1 cI_u16 r4))]) (outs := []) rfl (graph_next_ok h5) rfl ?_
    refine o1 rfl ?_
    refine o_end (e' := [(0, .c (.d (.lit (.int .i64 n_0)))), (5, .c (.d (slD 1 cI_u16 r4)))]) rfl rfl ?_
    refine after_n ?_
    refine w_seq ?_
    refine w_seq ?_
    refine w_region ?_
    iterate 2 refine o1 rfl ?_
    refine o_end (e' := [(0, .c (.d (.lit (.int .i64 n_0)))), (5, .c (.d (slD 1 cI_u16 r4))), (22, .c (.d (.lit (.int .i64 n_0)))), (23, .c (.d (.lit (.int .i64 0))))]) rfl rfl ?_
    refine after_n ?_
    refine w_block ?_
    obtain ⟨x9, h10, hp⟩ := bnd hp
    refine W.mono ?_ (w_loopS (st := fun (v : Int) => match v with | i6 => ⟨[(0, .c (.d (.lit (.int .i64 n_0)))), (5, .c (.d (slD 1 cI_u16 r4))), (22, .c (.d (.lit (.int .i64 n_0)))), (23, .c (.d (.lit (.int .i64 i6))))], [], 0, []⟩) (a := 0) (Q := Jn (fun (x : Sum (List Int) (Unit)) o s => match x with | .inl l8 => o = Out.ret ∧ Sub s ⟨[(4, .c (slC 1 cI_i64 0 (Sl.mk l8)))], [(0, slO 1 cI_i64 (Sl.mk l8))], 1, []⟩ | .inr (_) => o = Out.exit 0 ∧ Sub s ⟨[], [], 0, []⟩)) ?_ h10 ?_)
    · intro o s hs69
      rcases x9 with (l8 | _)
      · obtain ⟨rfl, hs69⟩ := hs69
        refine out_r ?_
        refine after_r ?_
        obtain rfl := Option.some.inj hp
        refine wk.sub hs69 ?_
        exact leave_at rfl rfl (pr_c (p_o rfl) pr_nil) pc_nil rfl rfl
      · obtain ⟨rfl, hs69⟩ := hs69
        refine out_e ?_
        refine after_n ?_
        refine W.sub hs69 ?_
        refine w_seq ?_
        refine w_region ?_
        refine o1 rfl ?_
        refine o_end (e' := [(4, .c (.d (.lit (.slice none 0 0))))]) rfl rfl ?_
        refine after_n ?_
        refine w_ret ?_
        obtain rfl := Option.some.inj hp
        exact leave_at rfl rfl (pr_c p_d pr_nil) pc_nil rfl rfl
    · exact (sub_ren [] [0, 5, 22, 23] (by decide) rfl .nil (Nat.le_of_ble_eq_true rfl))
    · rintro i6 r hr
      unfold graph_Loop_L1 at hr
      refine w_seq ?_
      refine w_region ?_
      refine o1 (v := .c (.d (.lit (.bool (decide (i6 < n_0)))))) rfl ?_
      refine o_end (e' := [(0, .c (.d (.lit (.int .i64 n_0)))), (5, .c (.d (slD 1 cI_u16 r4))), (22, .c (.d (.lit (.int .i64 n_0)))), (23, .c (.d (.lit (.int .i64 i6)))), (24, .c (.d (.lit (.bool (decide (i6 < n_0))))))]) rfl rfl ?_
      refine after_n ?_
      refine w_seq ?_
      refine w_cond (t := decide (i6 < n_0)) rfl (fun hb11 => ?_) (fun hb11 => ?_)
      · have hr := cnd_t hb11 hr
        refine w_skip ?_
        refine after_n ?_
        refine w_seq ?_
        refine w_block ?_
        refine w_seq ?_
        refine w_region ?_
        iterate 2 refine o1 rfl ?_
        refine o_end (e' := [(0, .c (.d (.lit (.int .i64 n_0)))), (5, .c (.d (slD 1 cI_u16 r4))), (6, .c (.d (.lit (.int .i64 i6)))), (22, .c (.d (.lit (.int .i64 n_0)))), (23, .c (.d (.lit (.int .i64 i6))))]) rfl rfl ?_
        refine after_n ?_
        refine w_seq ?_
        obtain ⟨r12, h13, hr⟩ := bnd hr
        refine w_region ?_
        iterate 2 refine o1 rfl ?_
        refine oc (rs := [.c (.d (slD 1 cI_i64 r12))]) (outs := []) rfl (graph_edges_ok h13) rfl ?_
        refine o1 rfl ?_
        refine o_end (e' := [(0, .c (.d (.lit (.int .i64 n_0)))), (5, .c (.d (slD 1 cI_u16 r4))), (6, .c (.d (.lit (.int .i64 i6)))), (7, .c (.d (slD 1 cI_i64 r12))), (22, .c (.d (.lit (.int .i64 n_0)))), (23, .c (.d (.lit (.int .i64 i6))))]) rfl rfl ?_
        refine after_n ?_
        refine w_seq ?_
        refine w_region ?_
        iterate 3 refine o1 rfl ?_
        refine o_end (e' := [(0, .c (.d (.lit (.int .i64 n_0)))), (5, .c (.d (slD 1 cI_u16 r4))), (6, .c (.d (.lit (.int .i64 i6)))), (7, .c (.d (slD 1 cI_i64 r12))), (8, .c (.d (.lit (.int .i64 (-1))))), (9, .c (.d (.lit (.int .i64 n_0)))), (22, .c (.d (.lit (.int .i64 n_0)))), (23, .c (.d (.lit (.int .i64 i6))))]) rfl rfl ?_
        refine after_n ?_
        refine w_seq ?_
        refine w_seq ?_
        obtain ⟨n14, h15, hr⟩ := bnd hr
        obtain ⟨r16, h17, hr⟩ := bnd hr
        refine w_region ?_
        iterate 2 refine o1 rfl ?_
        refine o1 (ix_sd h15) ?_
        refine o1 rfl ?_
        refine oc (rs := [.c (.d (slD 1 cI_i64 r16))]) (outs := []) rfl (graph_list_ok h17) rfl ?_
        refine o1 (v := .c (.d (.lit (.int .i64 (r16.l.length : Int))))) len_sd ?_
        refine o1 rfl ?_
        refine o_end (e' := [(0, .c (.d (.lit (.int .i64 n_0)))), (5, .c (.d (slD 1 cI_u16 r4))), (6, .c (.d (.lit (.int .i64 i6)))), (7, .c (.d (slD 1 cI_i64 r12))), (8, .c (.d (.lit (.int .i64 (-1))))), (9, .c (.d (.lit (.int .i64 n_0)))), (22, .c (.d (.lit (.int .i64 n_0)))), (23, .c (.d (.lit (.int .i64 i6)))), (34, .c (.d (slD 1 cI_i64 r16))), (35, .c (.d (.lit (.int .i64 (r16.l.length : Int))))), (36, .c (.d (.lit (.int .i64 0))))]) rfl rfl ?_
        refine after_n ?_
        refine w_block ?_
        obtain ⟨i24, h26, hr⟩ := bnd hr
        refine W.mono ?_ (w_loopS (st := fun (v : (Int × Int × Int)) => match v with | (i18, i19, i20) => ⟨[(0, .c (.d (.lit (.int .i64 n_0)))), (5, .c (.d (slD 1 cI_u16 r4))), (6, .c (.d (.lit (.int .i64 i6)))), (7, .c (.d (slD 1 cI_i64 r12))), (8, .c (.d (.lit (.int .i64 i18)))), (9, .c (.d (.lit (.int .i64 i19)))), (22, .c (.d (.lit (.int .i64 n_0)))), (23, .c (.d (.lit (.int .i64 i6)))), (34, .c (.d (slD 1 cI_i64 r16))), (35, .c (.d (.lit (.int .i64 (r16.l.length : Int))))), (36, .c (.d (.lit (.int .i64 i20))))], [], 0, []⟩) (a := ((-1), n_0, 0)) (Q := Jn (fun (x : Int) o s => match x with | i24 => o = Out.exit 2 ∧ Sub s ⟨[(0, .c (.d (.lit (.int .i64 n_0)))), (5, .c (.d (slD 1 cI_u16 r4))), (6, .c (.d (.lit (.int .i64 i6)))), (7, .c (.d (slD 1 cI_i64 r12))), (8, .c (.d (.lit (.int .i64 i24)))), (22, .c (.d (.lit (.int .i64 n_0)))), (23, .c (.d (.lit (.int .i64 i6))))], [], 0, []⟩)) ?_ h26 ?_)
        · intro o s hs38
          obtain ⟨rfl, hs38⟩ := hs38
          refine out_e ?_
          refine after_n ?_
          refine W.sub hs38 ?_
          refine w_seq ?_
          refine w_seq ?_
          refine w_region ?_
          refine o1 rfl ?_
          refine o1 (v := .c (.d (.lit (.bool (decide (i24 < 0)))))) rfl ?_
          refine o_end (e' := [(0, .c (.d (.lit (.int .i64 n_0)))), (5, .c (.d (slD 1 cI_u16 r4))), (6, .c (.d (.lit (.int .i64 i6)))), (7, .c (.d (slD 1 cI_i64 r12))), (8, .c (.d (.lit (.int .i64 i24)))), (22, .c (.d (.lit (.int .i64 n_0)))), (23, .c (.d (.lit (.int .i64 i6)))), (53, .c (.d (.lit (.bool (decide (i24 < 0))))))]) rfl rfl ?_
          refine after_n ?_
          refine w_cond (t := decide (i24 < 0)) rfl (fun hb39 => ?_) (fun hb39 => ?_)
          · have hr := cnd_t hb39 hr
            refine w_exit ?_
            refine after_e ?_
            refine out_e ?_
            refine after_n ?_
            refine w_region ?_
            refine o1 (v := .c (.d (.lit (.int .i64 (wr .i64 (i6 + 1)))))) rfl ?_
            refine o1 rfl ?_
            refine o_end (e' := [(0, .c (.d (.lit (.int .i64 n_0)))), (5, .c (.d (slD 1 cI_u16 r4))), (22, .c (.d (.lit (.int .i64 n_0)))), (23, .c (.d (.lit (.int .i64 (wr .i64 (i6 + 1))))))]) rfl rfl ?_
            obtain rfl := Option.some.inj hr
            exact And.intro rfl (sub_ren [] [0, 5, 22, 23] (by decide) rfl .nil (Nat.le_of_ble_eq_true rfl))
          · have hr := cnd_f hb39 hr
            refine w_skip ?_
            refine after_n ?_
            refine w_seq ?_
            refine w_region ?_
            refine o1 rfl ?_
            refine o2 rfl ?_
            refine o1 rfl ?_
            refine o_end (e' := [(5, .c (.d (slD 1 cI_u16 r4))), (6, .c (.d (.lit (.int .i64 i6)))), (7, .c (.d (slD 1 cI_i64 r12))), (8, .c (.d (.lit (.int .i64 i24)))), (12, .c (slC 1 cI_i64 0 (Sl.mk [i6])))]) rfl rfl ?_
            refine after_n ?_
            refine w_seq ?_
            refine w_block ?_
            obtain ⟨l44, h46, hr⟩ := bnd hr
            refine W.mono ?_ (w_loopS (st := fun (v : (Int × List Int)) => match v with | (i40, l41) => ⟨[(5, .c (.d (slD 1 cI_u16 r4))), (6, .c (.d (.lit (.int .i64 i6)))), (7, .c (.d (slD 1 cI_i64 r12))), (8, .c (.d (.lit (.int .i64 i40)))), (12, .c (slC 1 cI_i64 0 (Sl.mk l41)))], [(0, slO 1 cI_i64 (Sl.mk l41))], 1, []⟩) (a := (i24, [i6])) (Q := Jn (fun (x : List Int) o s => match x with | l44 => o = Out.exit 4 ∧ Sub s ⟨[(12, .c (slC 1 cI_i64 0 (Sl.mk l44)))], [(0, slO 1 cI_i64 (Sl.mk l44))], 1, []⟩)) ?_ h46 ?_)
            · intro o s hs68
              obtain ⟨rfl, hs68⟩ := hs68
              refine out_e ?_
              refine after_n ?_
              refine W.sub hs68 ?_
              refine w_seq ?_
              refine w_region ?_
              iterate 2 refine o1 rfl ?_
              refine o_end (e' := [(4, .c (slC 1 cI_i64 0 (Sl.mk l44)))]) rfl rfl ?_
              refine after_n ?_
              refine w_ret ?_
              refine out_r ?_
              refine after_r ?_
              obtain rfl := Option.some.inj hr
              exact And.intro nofun (And.intro rfl (sub_ren [0] [4] (by decide) rfl (.cons .nil) (Nat.le_of_ble_eq_true rfl)))
            · exact (sub_ren [0] [5, 6, 7, 8, 12] (by decide) rfl (.cons .nil) (Nat.le_of_ble_eq_true rfl))
            · rintro ⟨i40, l41⟩ r hr
              unfold graph_Loop_L3 at hr
              refine w_seq ?_
              refine w_seq ?_
              refine w_region ?_
              iterate 2 refine o1 rfl ?_
              refine o1 (v := .c (.d (.lit (.bool (i40 != i6))))) rfl ?_
              refine o_end (e' := [(5, .c (.d (slD 1 cI_u16 r4))), (6, .c (.d (.lit (.int .i64 i6)))), (7, .c (.d (slD 1 cI_i64 r12))), (8, .c (.d (.lit (.int .i64 i40)))), (12, .c (slC 1 cI_i64 0 (Sl.mk l41))), (58, .c (.d (.lit (.bool (i40 != i6)))))]) rfl rfl ?_
              refine after_n ?_
              refine w_cond (t := (i40 != i6)) rfl (fun hb47 => ?_) (fun hb47 => ?_)
              · have hr := cnd_t hb47 hr
                refine w_skip ?_
                refine after_n ?_
                refine w_block ?_
                refine w_seq ?_
                obtain ⟨l48, h49, hr⟩ := bnd hr
                refine w_region ?_
                iterate 2 refine o1 rfl ?_
                refine o2 rfl ?_
                refine o2 (app_o rfl rfl h49) ?_
                refine o1 rfl ?_
                refine o_end (e' := [(5, .c (.d (slD 1 cI_u16 r4))), (6, .c (.d (.lit (.int .i64 i6)))), (7, .c (.d (slD 1 cI_i64 r12))), (8, .c (.d (.lit (.int .i64 i40)))), (12, .c (slC 1 cI_i64 2 (Sl.mk l48)))]) rfl rfl ?_
                refine after_n ?_
                refine w_seq ?_
                obtain ⟨n50, h51, hr⟩ := bnd hr
                obtain ⟨r52, h53, hr⟩ := bnd hr
                refine w_region ?_
                iterate 2 refine o1 rfl ?_
                refine o1 (ix_sd h51) ?_
                refine o1 rfl ?_
                refine oc (rs := [.c (.d (slD 1 cI_i64 r52))]) (outs := []) rfl (graph_list_ok h53) rfl ?_
                refine o1 (v := .c (.d (.lit (.int .i64 (r52.l.length : Int))))) len_sd ?_
                refine o1 rfl ?_
                refine o_end (e' := [(5, .c (.d (slD 1 cI_u16 r4))), (6, .c (.d (.lit (.int .i64 i6)))), (7, .c (.d (slD 1 cI_i64 r12))), (8, .c (.d (.lit (.int .i64 i40)))), (12, .c (slC 1 cI_i64 2 (Sl.mk l48))), (67, .c (.d (slD 1 cI_i64 r52))), (68, .c (.d (.lit (.int .i64 (r52.l.length : Int))))), (69, .c (.d (.lit (.int .i64 0))))]) rfl rfl ?_
                refine after_n ?_
                refine w_block ?_
                obtain ⟨i56, h58, hr⟩ := bnd hr
                refine W.mono ?_ (w_loopS (st := fun (v : Int) => match v with | i54 => ⟨[(5, .c (.d (slD 1 cI_u16 r4))), (6, .c (.d (.lit (.int .i64 i6)))), (7, .c (.d (slD 1 cI_i64 r12))), (8, .c (.d (.lit (.int .i64 i40)))), (12, .c (slC 1 cI_i64 0 (Sl.mk l48))), (67, .c (.d (slD 1 cI_i64 r52))), (68, .c (.d (.lit (.int .i64 (r52.l.length : Int))))), (69, .c (.d (.lit (.int .i64 i54))))], [(0, slO 1 cI_i64 (Sl.mk l48))], 1, []⟩) (a := 0) (Q := Jn (fun (x : Int) o s => match x with | i56 => o = Out.exit 6 ∧ Sub s ⟨[(5, .c (.d (slD 1 cI_u16 r4))), (6, .c (.d (.lit (.int .i64 i6)))), (7, .c (.d (slD 1 cI_i64 r12))), (8, .c (.d (.lit (.int .i64 i56)))), (12, .c (slC 1 cI_i64 0 (Sl.mk l48)))], [(0, slO 1 cI_i64 (Sl.mk l48))], 1, []⟩)) ?_ h58 ?_)
                · intro o s hs67
                  obtain ⟨rfl, hs67⟩ := hs67
                  refine out_e ?_
                  refine out_n ?_
                  obtain rfl := Option.some.inj hr
                  exact And.intro rfl (Sub.trans hs67 (sub_ren [0] [5, 6, 7, 8, 12] (by decide) rfl (.cons .nil) (Nat.le_of_ble_eq_true rfl)))
                · exact (sub_ren [2] [5, 6, 7, 8, 12, 67, 68, 69] (by decide) rfl (.cons .nil) (Nat.le_of_ble_eq_true rfl))
                · rintro i54 r hr
                  unfold graph_Loop_L4 at hr
                  refine w_seq ?_
                  refine w_region ?_
                  refine o1 (v := .c (.d (.lit (.bool (decide (i54 < (r52.l.length : Int))))))) rfl ?_
                  refine o_end (e' := [(5, .c (.d (slD 1 cI_u16 r4))), (6, .c (.d (.lit (.int .i64 i6)))), (7, .c (.d (slD 1 cI_i64 r12))), (8, .c (.d (.lit (.int .i64 i40)))), (12, .c (slC 1 cI_i64 0 (Sl.mk l48))), (67, .c (.d (slD 1 cI_i64 r52))), (68, .c (.d (.lit (.int .i64 (r52.l.length : Int))))), (69, .c (.d (.lit (.int .i64 i54)))), (70, .c (.d (.lit (.bool (decide (i54 < (r52.l.length : Int)))))))]) rfl rfl ?_
                  refine after_n ?_
                  refine w_seq ?_
                  refine w_cond (t := decide (i54 < (r52.l.length : Int))) rfl (fun hb59 => ?_) (fun hb59 => ?_)
                  · have hr := cnd_t hb59 hr
                    refine w_skip ?_
                    refine after_n ?_
                    refine w_seq ?_
                    refine w_block ?_
                    refine w_seq ?_
                    obtain ⟨n60, h61, hr⟩ := bnd hr
                    refine w_region ?_
                    refine o1 (ix_sd h61) ?_
                    iterate 2 refine o1 rfl ?_
                    refine o_end (e' := [(5, .c (.d (slD 1 cI_u16 r4))), (6, .c (.d (.lit (.int .i64 i6)))), (7, .c (.d (slD 1 cI_i64 r12))), (8, .c (.d (.lit (.int .i64 i40)))), (12, .c (slC 1 cI_i64 0 (Sl.mk l48))), (14, .c (.d (.lit (.int .i64 (gt r52.l n60))))), (67, .c (.d (slD 1 cI_i64 r52))), (68, .c (.d (.lit (.int .i64 (r52.l.length : Int))))), (69, .c (.d (.lit (.int .i64 i54))))]) rfl rfl ?_
                    refine after_n ?_
                    refine w_seq ?_
                    obtain ⟨n62, h63, hr⟩ := bnd hr
                    obtain ⟨n64, h65, hr⟩ := bnd hr
                    refine w_drawn ?_
                    iterate 2 refine d1 rfl ?_
                    refine d1 (ix_sd h63) ?_
                    iterate 3 refine d1 rfl ?_
                    refine d1 (ix_sd h65) ?_
                    refine d1 rfl ?_
                    refine d1 (v := .c (.d (.lit (.int .i64 (wr .i64 ((gt r12.l n64) - 1)))))) rfl ?_
                    refine d1 (v := .c (.d (.lit (.bool ((gt r12.l n62) == (wr .i64 ((gt r12.l n64) - 1))))))) rfl ?_
                    refine d_fin (e' := [(5, .c (.d (slD 1 cI_u16 r4))), (6, .c (.d (.lit (.int .i64 i6)))), (7, .c (.d (slD 1 cI_i64 r12))), (8, .c (.d (.lit (.int .i64 i40)))), (12, .c (slC 1 cI_i64 0 (Sl.mk l48))), (14, .c (.d (.lit (.int .i64 (gt r52.l n60))))), (67, .c (.d (slD 1 cI_i64 r52))), (68, .c (.d (.lit (.int .i64 (r52.l.length : Int))))), (69, .c (.d (.lit (.int .i64 i54)))), (82, .c (.d (.lit (.bool ((gt r12.l n62) == (wr .i64 ((gt r12.l n64) - 1)))))))]) (n' := 641) rfl rfl rfl rfl ?_
                    refine after_n ?_
                    refine w_cond (t := ((gt r12.l n62) == (wr .i64 ((gt r12.l n64) - 1)))) rfl (fun hb66 => ?_) (fun hb66 => ?_)
                    · have hr := cnd_t hb66 hr
                      refine w_seq ?_
                      refine w_region ?_
                      iterate 2 refine o1 rfl ?_
                      refine o_end (e' := [(5, .c (.d (slD 1 cI_u16 r4))), (6, .c (.d (.lit (.int .i64 i6)))), (7, .c (.d (slD 1 cI_i64 r12))), (8, .c (.d (.lit (.int .i64 (gt r52.l n60))))), (12, .c (slC 1 cI_i64 0 (Sl.mk l48)))]) rfl rfl ?_
                      refine after_n ?_
                      refine w_exit ?_
                      refine out_x rfl ?_
                      refine after_e ?_
                      obtain rfl := Option.some.inj hr
                      exact And.intro nofun (And.intro rfl (sub_ren [0] [5, 6, 7, 8, 12] (by decide) rfl (.cons .nil) (Nat.le_of_ble_eq_true rfl)))
                    · have hr := cnd_f hb66 hr
                      refine w_skip ?_
                      refine out_n ?_
                      refine after_n ?_
                      refine w_region ?_
                      refine o1 (v := .c (.d (.lit (.int .i64 (wr .i64 (i54 + 1)))))) rfl ?_
                      refine o1 rfl ?_
                      refine o_end (e' := [(5, .c (.d (slD 1 cI_u16 r4))), (6, .c (.d (.lit (.int .i64 i6)))), (7, .c (.d (slD 1 cI_i64 r12))), (8, .c (.d (.lit (.int .i64 i40)))), (12, .c (slC 1 cI_i64 0 (Sl.mk l48))), (67, .c (.d (slD 1 cI_i64 r52))), (68, .c (.d (.lit (.int .i64 (r52.l.length : Int))))), (69, .c (.d (.lit (.int .i64 (wr .i64 (i54 + 1))))))]) rfl rfl ?_
                      obtain rfl := Option.some.inj hr
                      exact And.intro rfl (sub_ren [0] [5, 6, 7, 8, 12, 67, 68, 69] (by decide) rfl (.cons .nil) (Nat.le_of_ble_eq_true rfl))
                  · have hr := cnd_f hb59 hr
                    refine w_exit ?_
                    refine after_e ?_
                    obtain rfl := Option.some.inj hr
                    exact And.intro nofun (And.intro rfl (sub_ren [0] [5, 6, 7, 8, 12] (by decide) rfl (.cons .nil) (Nat.le_of_ble_eq_true rfl)))
              · have hr := cnd_f hb47 hr
                refine w_exit ?_
                refine after_e ?_
                obtain rfl := Option.some.inj hr
                exact And.intro nofun (And.intro rfl (sub_ren [0] [12] (by decide) rfl (.cons .nil) (Nat.le_of_ble_eq_true rfl)))
        · exact (sub_ren [] [0, 5, 6, 7, 8, 9, 22, 23, 34, 35, 36] (by decide) rfl .nil (Nat.le_of_ble_eq_true rfl))
        · rintro ⟨i18, i19, i20⟩ r hr
          unfold graph_Loop_L2 at hr
          refine w_seq ?_
          refine w_region ?_
          refine o1 (v := .c (.d (.lit (.bool (decide (i20 < (r16.l.length : Int))))))) rfl ?_
          refine o_end (e' := [(0, .c (.d (.lit (.int .i64 n_0)))), (5, .c (.d (slD 1 cI_u16 r4))), (6, .c (.d (.lit (.int .i64 i6)))), (7, .c (.d (slD 1 cI_i64 r12))), (8, .c (.d (.lit (.int .i64 i18)))), (9, .c (.d (.lit (.int .i64 i19)))), (22, .c (.d (.lit (.int .i64 n_0)))), (23, .c (.d (.lit (.int .i64 i6)))), (34, .c (.d (slD 1 cI_i64 r16))), (35, .c (.d (.lit (.int .i64 (r16.l.length : Int))))), (36, .c (.d (.lit (.int .i64 i20)))), (37, .c (.d (.lit (.bool (decide (i20 < (r16.l.length : Int)))))))]) rfl rfl ?_
          refine after_n ?_
          refine w_seq ?_
          refine w_cond (t := decide (i20 < (r16.l.length : Int))) rfl (fun hb27 => ?_) (fun hb27 => ?_)
          · have hr := cnd_t hb27 hr
            refine w_skip ?_
            refine after_n ?_
            refine w_seq ?_
            obtain ⟨x31, h30, hr⟩ := bnd hr
            refine W.mono (Q := Jn (fun (x : (Int × Int)) o s => match x with | (i28, i29) => o = Out.normal ∧ Sub s ⟨[(0, .c (.d (.lit (.int .i64 n_0)))), (5, .c (.d (slD 1 cI_u16 r4))), (6, .c (.d (.lit (.int .i64 i6)))), (7, .c (.d (slD 1 cI_i64 r12))), (8, .c (.d (.lit (.int .i64 i28)))), (9, .c (.d (.lit (.int .i64 i29)))), (22, .c (.d (.lit (.int .i64 n_0)))), (23, .c (.d (.lit (.int .i64 i6)))), (34, .c (.d (slD 1 cI_i64 r16))), (35, .c (.d (.lit (.int .i64 (r16.l.length : Int))))), (36, .c (.d (.lit (.int .i64 i20))))], [], 0, []⟩) x31) ?_ ?_
            · intro o s hs37
              obtain ⟨i28, i29⟩ := x31
              obtain ⟨rfl, hs37⟩ := hs37
              refine after_n ?_
              refine W.sub hs37 ?_
              refine w_region ?_
              refine o1 (v := .c (.d (.lit (.int .i64 (wr .i64 (i20 + 1)))))) rfl ?_
              refine o1 rfl ?_
              refine o_end (e' := [(0, .c (.d (.lit (.int .i64 n_0)))), (5, .c (.d (slD 1 cI_u16 r4))), (6, .c (.d (.lit (.int .i64 i6)))), (7, .c (.d (slD 1 cI_i64 r12))), (8, .c (.d (.lit (.int .i64 i28)))), (9, .c (.d (.lit (.int .i64 i29)))), (22, .c (.d (.lit (.int .i64 n_0)))), (23, .c (.d (.lit (.int .i64 i6)))), (34, .c (.d (slD 1 cI_i64 r16))), (35, .c (.d (.lit (.int .i64 (r16.l.length : Int))))), (36, .c (.d (.lit (.int .i64 (wr .i64 (i20 + 1))))))]) rfl rfl ?_
              obtain rfl := Option.some.inj hr
              exact And.intro rfl (sub_ren [] [0, 5, 6, 7, 8, 9, 22, 23, 34, 35, 36] (by decide) rfl .nil (Nat.le_of_ble_eq_true rfl))
            · refine w_block ?_
              refine w_seq ?_
              obtain ⟨n32, h33, h30⟩ := bnd h30
              refine w_region ?_
              refine o1 (ix_sd h33) ?_
              iterate 2 refine o1 rfl ?_
              refine o_end (e' := [(0, .c (.d (.lit (.int .i64 n_0)))), (5, .c (.d (slD 1 cI_u16 r4))), (6, .c (.d (.lit (.int .i64 i6)))), (7, .c (.d (slD 1 cI_i64 r12))), (8, .c (.d (.lit (.int .i64 i18)))), (9, .c (.d (.lit (.int .i64 i19)))), (11, .c (.d (.lit (.int .i64 (gt r16.l n32))))), (22, .c (.d (.lit (.int .i64 n_0)))), (23, .c (.d (.lit (.int .i64 i6)))), (34, .c (.d (slD 1 cI_i64 r16))), (35, .c (.d (.lit (.int .i64 (r16.l.length : Int))))), (36, .c (.d (.lit (.int .i64 i20))))]) rfl rfl ?_
              refine after_n ?_
              refine w_seq ?_
              obtain ⟨n34, h35, h30⟩ := bnd h30
              refine w_region ?_
              iterate 2 refine o1 rfl ?_
              refine o1 (ix_sd h35) ?_
              iterate 2 refine o1 rfl ?_
              refine o1 (v := .c (.d (.lit (.bool (decide ((gt r12.l n34) < i19)))))) rfl ?_
              refine o_end (e' := [(0, .c (.d (.lit (.int .i64 n_0)))), (5, .c (.d (slD 1 cI_u16 r4))), (6, .c (.d (.lit (.int .i64 i6)))), (7, .c (.d (slD 1 cI_i64 r12))), (8, .c (.d (.lit (.int .i64 i18)))), (9, .c (.d (.lit (.int .i64 i19)))), (11, .c (.d (.lit (.int .i64 (gt r16.l n32))))), (22, .c (.d (.lit (.int .i64 n_0)))), (23, .c (.d (.lit (.int .i64 i6)))), (34, .c (.d (slD 1 cI_i64 r16))), (35, .c (.d (.lit (.int .i64 (r16.l.length : Int))))), (36, .c (.d (.lit (.int .i64 i20)))), (45, .c (.d (.lit (.bool (decide ((gt r12.l n34) < i19))))))]) rfl rfl ?_
              refine after_n ?_
              refine w_cond (t := decide ((gt r12.l n34) < i19)) rfl (fun hb36 => ?_) (fun hb36 => ?_)
              · have h30 := cnd_t hb36 h30
                refine w_drawn ?_
                iterate 3 refine d1 rfl ?_
                refine d1 (ix_sd h35) ?_
                iterate 3 refine d1 rfl ?_
                refine d_fin (e' := [(0, .c (.d (.lit (.int .i64 n_0)))), (5, .c (.d (slD 1 cI_u16 r4))), (6, .c (.d (.lit (.int .i64 i6)))), (7, .c (.d (slD 1 cI_i64 r12))), (8, .c (.d (.lit (.int .i64 (gt r16.l n32))))), (9, .c (.d (.lit (.int .i64 (gt r12.l n34))))), (22, .c (.d (.lit (.int .i64 n_0)))), (23, .c (.d (.lit (.int .i64 i6)))), (34, .c (.d (slD 1 cI_i64 r16))), (35, .c (.d (.lit (.int .i64 (r16.l.length : Int))))), (36, .c (.d (.lit (.int .i64 i20))))]) (n' := 448) rfl rfl rfl rfl ?_
                refine out_n ?_
                obtain rfl := Option.some.inj h30
                exact And.intro rfl (sub_ren [] [0, 5, 6, 7, 8, 9, 22, 23, 34, 35, 36] (by decide) rfl .nil (Nat.le_of_ble_eq_true rfl))
              · have h30 := cnd_f hb36 h30
                refine w_skip ?_
                refine out_n ?_
                obtain rfl := Option.some.inj h30
                exact And.intro rfl (sub_ren [] [0, 5, 6, 7, 8, 9, 22, 23, 34, 35, 36] (by decide) rfl .nil (Nat.le_of_ble_eq_true rfl))
          · have hr := cnd_f hb27 hr
            refine w_exit ?_
            refine after_e ?_
            obtain rfl := Option.some.inj hr
            exact And.intro nofun (And.intro rfl (sub_ren [] [0, 5, 6, 7, 8, 22, 23] (by decide) rfl .nil (Nat.le_of_ble_eq_true rfl)))
      · have hr := cnd_f hb11 hr
        refine w_exit ?_
        refine after_e ?_
        obtain rfl := Option.some.inj hr
        exact And.intro nofun (And.intro rfl (sub_ren [] [] (by decide) rfl .nil (Nat.le_of_ble_eq_true rfl)))

/- turnout/turnoutlaw20.awake -/
def k4 : CC :=
  (.seq
  (.region [
    ⟨some 0, .mv, [(.const (.bool false))], none⟩] [])
  (.seq
  (.region [
    ⟨some 4, (.build [(.int .i64 0), (.int .i64 0)] [(0, 1), (1, 1)]), [(.const (.int .i64 2)), (.const (.int .i64 0))], none⟩,
    ⟨some 5, (.build [(.int .i64 0), (.int .i64 0)] [(0, 1), (1, 1)]), [(.const (.int .i64 0)), (.const (.int .i64 1))], none⟩,
    ⟨some 6, (.buildSlice 2 2 [(.int .i64 0), (.int .i64 0), (.int .i64 0), (.int .i64 0)] [0, 1]), [(.tmp 4), (.tmp 5)], none⟩,
    ⟨some 1, .mv, [(.tmp 6)], none⟩] [1])
  (.seq
  (.region [
    ⟨some 8, .mv, [(.tmp 1)], none⟩,
    ⟨some 9, (.call false []), [(.func 6), (.const (.int .i64 3)), (.tmp 8)], none⟩,
    ⟨some 7, .mv, [(.tmp 9)], none⟩,
    ⟨some 10, (.extract 0), [(.tmp 7)], none⟩,
    ⟨some 11, (.extract 1), [(.tmp 7)], none⟩,
    ⟨some 2, .mv, [(.tmp 10)], none⟩,
    ⟨some 3, .mv, [(.tmp 11)], none⟩] [1, 2, 3])
  (.seq
  (.region [
    ⟨some 12, .mv, [(.tmp 3)], none⟩,
    ⟨some 13, .mv, [(.tmp 12)], none⟩,
    ⟨some 14, .mv, [(.tmp 2)], (some (13, true))⟩,
    ⟨some 15, (.buildSlice 1 3 [(.int .i64 0), (.int .i64 0), (.int .i64 0)] [0, 1, 2]), [(.const (.int .i64 2)), (.const (.int .i64 0)), (.const (.int .i64 1))], (some (13, true))⟩,
    ⟨some 16, (.call true []), [(.func 10), (.tmp 14), (.tmp 15)], (some (13, true))⟩,
    ⟨some 17, .pick, [(.tmp 13), (.tmp 16), (.const (.bool false))], none⟩,
    ⟨some 18, .mv, [(.tmp 17)], none⟩,
    ⟨some 19, .mv, [(.tmp 1)], (some (18, true))⟩,
    ⟨some 20, (.call false []), [(.func 15), (.const (.int .i64 3)), (.tmp 19)], (some (18, true))⟩,
    ⟨some 21, (.len false), [(.tmp 20)], (some (18, true))⟩,
    ⟨some 22, (.bin .eql), [(.tmp 21), (.const (.int .i64 0))], (some (18, true))⟩,
    ⟨some 23, .pick, [(.tmp 18), (.tmp 22), (.const (.bool false))], none⟩,
    ⟨some 24, .mv, [(.tmp 23)], none⟩,
    ⟨some 25, (.build [(.int .i64 0), (.int .i64 0)] [(0, 1), (1, 1)]), [(.const (.int .i64 0)), (.const (.int .i64 1))], (some (24, true))⟩,
    ⟨some 26, (.build [(.int .i64 0), (.int .i64 0)] [(0, 1), (1, 1)]), [(.const (.int .i64 1)), (.const (.int .i64 0))], (some (24, true))⟩,
    ⟨some 27, (.buildSlice 2 2 [(.int .i64 0), (.int .i64 0), (.int .i64 0), (.int .i64 0)] [0, 1]), [(.tmp 25), (.tmp 26)], (some (24, true))⟩,
    ⟨some 28, (.call false []), [(.func 15), (.const (.int .i64 2)), (.tmp 27)], (some (24, true))⟩,
    ⟨some 29, (.buildSlice 1 2 [(.int .i64 0), (.int .i64 0)] [0, 1]), [(.const (.int .i64 0)), (.const (.int .i64 1))], (some (24, true))⟩,
    ⟨some 30, (.call true []), [(.func 10), (.tmp 28), (.tmp 29)], (some (24, true))⟩,
    ⟨some 31, .pick, [(.tmp 24), (.tmp 30), (.const (.bool false))], none⟩,
    ⟨some 0, .mv, [(.tmp 31)], none⟩] [0])
  .ret))))
def f4 : Ev.Fn := ⟨0, 32, [.tmp 0], k4⟩
set_option maxRecDepth 100000 in
theorem e4 : compFn prog sig 4 0 [[], [1], [1, 2, 3], [0]] = some f4 := by kernel_rfl
noncomputable def law20_awake : Option (Bool) :=
  (graph_Order 3 (Sl.mk [(⟨2, 0⟩ : graph_Edge), (⟨0, 1⟩ : graph_Edge)])).bind fun (r1, r2) =>
  (bif r2 then ((ref13_Same r1 (Sl.mk [2, 0, 1])).bind fun r4 =>
  bif r4 then ((graph_Loop 3 (Sl.mk [(⟨2, 0⟩ : graph_Edge), (⟨0, 1⟩ : graph_Edge)])).bind fun r6 =>
  bif ((r6.l.length : Int) == 0) then ((graph_Loop 2 (Sl.mk [(⟨0, 1⟩ : graph_Edge), (⟨1, 0⟩ : graph_Edge)])).bind fun r8 =>
  (ref13_Same r8 (Sl.mk [0, 1])).bind fun r10 =>
  some r10) else (some false)) else (some false)) else (some false)).bind fun b12 =>
  some b12
theorem law20_awake_ok {z : Bool} (hp : law20_awake = some z) : Good prog 4 [] [.c (.d (.lit (.bool z)))] [] := by
  unfold law20_awake at hp
  refine fn_good mixed e4 (fnS (m := [false]) (s := ⟨[], [], 0, []⟩) (len := 0) (c := k4) rfl (Sub.of_eq rfl) rfl rfl ?_)
  refine w_seq ?_
  refine w_region ?_
  refine o1 rfl ?_
  refine o_end (e' := []) rfl rfl ?_
  refine after_n ?_
  refine w_seq ?_
  refine w_region ?_
  iterate 2 refine o1 rfl ?_
  refine o2 rfl ?_
  refine o1 rfl ?_
  refine o_end (e' := [(1, .c (slC 2 c_graph_Edge 0 (Sl.mk [(⟨2, 0⟩ : graph_Edge), (⟨0, 1⟩ : graph_Edge)])))]) rfl rfl ?_
  refine after_n ?_
  refine w_seq ?_
  obtain ⟨⟨r1, r2⟩, h3, hp⟩ := bnd hp
  refine w_region ?_
  refine o1 rfl ?_
  refine oc' (rs := [.c (.d (slD 1 cI_i64 r1)), .c (.d (.lit (.bool r2)))]) (outs := []) (call_at rfl rfl (ea_c rfl rfl (ea_c rfl rfl ea_nil)) wh_nil rfl rfl) (graph_Order_ok h3) ?_
  iterate 5 refine o1 rfl ?_
  refine o_end (e' := [(1, .c (slC 2 c_graph_Edge 0 (Sl.mk [(⟨2, 0⟩ : graph_Edge), (⟨0, 1⟩ : graph_Edge)]))), (2, .c (.d (slD 1 cI_i64 r1))), (3, .c (.d (.lit (.bool r2))))]) rfl rfl ?_
  refine after_n ?_
  refine w_seq ?_
  obtain ⟨b12, h13, hp⟩ := bnd hp
  refine w_join (J := fun s => Sub s ⟨[(0, .c (.d (.lit (.bool b12))))], [], 0, []⟩) ?_ ?_
  · refine w_region ?_
    iterate 2 refine o1 rfl ?_
    cases hb14 : (r2 : Bool)
    · have h13 := cnd_f hb14 h13
      iterate 3 refine onot rfl rfl ?_
      iterate 2 refine o1 rfl ?_
      iterate 4 refine onot rfl rfl ?_
      iterate 2 refine o1 rfl ?_
      iterate 6 refine onot rfl rfl ?_
      iterate 2 refine o1 rfl ?_
      cases h13
      exact o_join (sub_ren [] [0] (by decide) rfl .nil (Nat.le_of_ble_eq_true rfl))
    · have h13 := cnd_t hb14 h13
      obtain ⟨r4, h5, h13⟩ := bnd h13
      refine og rfl rfl rfl ?_
      refine og2 rfl rfl rfl ?_
      refine ocg' (rs := [.c (.d (.lit (.bool r4)))]) (outs := []) rfl rfl (call_at rfl rfl (ea_c rfl rfl (ea_c rfl rfl ea_nil)) wh_nil rfl rfl) (ref13_Same_ok h5) ?_
      iterate 2 refine o1 rfl ?_
      cases hb15 : (r4 : Bool)
      · have h13 := cnd_f hb15 h13
        iterate 4 refine onot rfl rfl ?_
        iterate 2 refine o1 rfl ?_
        iterate 6 refine onot rfl rfl ?_
        iterate 2 refine o1 rfl ?_
        cases h13
        exact o_join (sub_ren [] [0] (by decide) rfl .nil (Nat.le_of_ble_eq_true rfl))
      · have h13 := cnd_t hb15 h13
        obtain ⟨r6, h7, h13⟩ := bnd h13
        refine og rfl rfl rfl ?_
        refine ocg' (rs := [.c (.d (slD 1 cI_i64 r6))]) (outs := []) rfl rfl (call_at rfl rfl (ea_c rfl rfl (ea_c rfl rfl ea_nil)) wh_nil rfl rfl) (graph_Loop_ok h7) ?_
        refine og (v := .c (.d (.lit (.int .i64 (r6.l.length : Int))))) rfl rfl len_sd ?_
        refine og (v := .c (.d (.lit (.bool ((r6.l.length : Int) == 0))))) rfl rfl rfl ?_
        iterate 2 refine o1 rfl ?_
        cases hb16 : (((r6.l.length : Int) == 0) : Bool)
        · have h13 := cnd_f hb16 h13
          iterate 6 refine onot rfl rfl ?_
          iterate 2 refine o1 rfl ?_
          cases h13
          exact o_join (sub_ren [] [0] (by decide) rfl .nil (Nat.le_of_ble_eq_true rfl))
        · have h13 := cnd_t hb16 h13
          obtain ⟨r8, h9, h13⟩ := bnd h13
          obtain ⟨r10, h11, h13⟩ := bnd h13
          iterate 2 refine og rfl rfl rfl ?_
          refine og2 rfl rfl rfl ?_
          refine ocg' (rs := [.c (.d (slD 1 cI_i64 r8))]) (outs := []) rfl rfl (call_at rfl rfl (ea_c rfl rfl (ea_c rfl rfl ea_nil)) wh_nil rfl rfl) (graph_Loop_ok h9) ?_
          refine og2 rfl rfl rfl ?_
          refine ocg' (rs := [.c (.d (.lit (.bool r10)))]) (outs := []) rfl rfl (call_at rfl rfl (ea_c rfl rfl (ea_c rfl rfl ea_nil)) wh_nil rfl rfl) (ref13_Same_ok h11) ?_
          iterate 2 refine o1 rfl ?_
          cases h13
          exact o_join (sub_ren [] [0] (by decide) rfl .nil (Nat.le_of_ble_eq_true rfl))
  · intro s hs17
    refine after_n ?_
    refine W.sub hs17 ?_
    refine w_ret ?_
    obtain rfl := Option.some.inj hp
    exact leave_at rfl rfl (pr_c p_d pr_nil) pc_nil rfl rfl

/- turnout/turnoutlaw20.mine -/
def k5 : CC :=
  (.seq
  (.region [
    ⟨some 2, .mv, [(.const (.slice none 0 0))], none⟩] [0])
  (.seq
  (.region [
    ⟨some 3, .mv, [(.const (.slice none 0 0))], none⟩] [0, 3])
  (.seq
  (.seq
  (.region [
    ⟨some 4, .mv, [(.const (.int .i64 0))], none⟩] [0, 3, 4])
  (.block 0
    (.loop [0, 3, 4]
      (.seq
      (.seq
      (.region [
        ⟨some 5, .mv, [(.tmp 4)], none⟩,
        ⟨some 6, .mv, [(.tmp 0)], none⟩,
        ⟨some 7, (.len false), [(.tmp 6)], none⟩,
        ⟨some 8, (.bin .lss), [(.tmp 5), (.tmp 7)], none⟩] [0, 3, 4, 8])
      (.cond (.tmp 8)
        .skip
        (.exit 0)))
      (.seq
      (.block 1
        (.drawn [
          ⟨some 11, .mv, [(.tmp 3)], none⟩,
          ⟨some 12, .mv, [(.tmp 0)], none⟩,
          ⟨some 13, .mv, [(.tmp 4)], none⟩,
          ⟨some 14, (.indexAddr none 2), [(.tmp 12), (.tmp 13)], none⟩,
          ⟨some 15, (.fieldAddr 0), [(.tmp 14)], none⟩,
          ⟨some 16, (.load false 1), [(.tmp 15)], none⟩,
          ⟨some 17, .mv, [(.tmp 0)], none⟩,
          ⟨some 18, .mv, [(.tmp 4)], none⟩,
          ⟨some 19, (.indexAddr none 2), [(.tmp 17), (.tmp 18)], none⟩,
          ⟨some 20, (.fieldAddr 1), [(.tmp 19)], none⟩,
          ⟨some 21, (.load false 1), [(.tmp 20)], none⟩,
          ⟨some 22, (.build [(.int .i64 0), (.int .i64 0)] [(0, 1), (1, 1)]), [(.tmp 16), (.tmp 21)], none⟩,
          ⟨some 23, (.buildSlice 2 1 [(.int .i64 0), (.int .i64 0)] [0]), [(.tmp 22)], none⟩,
          ⟨some 24, (.append 2), [(.tmp 11), (.tmp 23)], none⟩,
          ⟨some 3, .mv, [(.tmp 24)], none⟩] [] [0, 3, 4]))
      (.region [
        ⟨some 9, .mv, [(.tmp 4)], none⟩,
        ⟨some 10, (.bin .add), [(.tmp 9), (.const (.int .i64 1))], none⟩,
        ⟨some 4, .mv, [(.tmp 10)], none⟩] [0, 3, 4]))))))
  (.seq
  (.region [
    ⟨some 25, .mv, [(.tmp 3)], none⟩,
    ⟨some 2, .mv, [(.tmp 25)], none⟩] [2])
  .ret))))
def f5 : Ev.Fn := ⟨1, 26, [.tmp 2], k5⟩
set_option maxRecDepth 100000 in
theorem e5 : compFn prog sig 5 1 [[0], [0, 3], [0, 3, 4], [0, 3, 4], [0, 3, 4, 8], [0, 3, 4], [0, 3, 4], [2]] = some f5 := by kernel_rfl
noncomputable def law20_mine_L1 (l_0 : Sl ref20_Edge) : (Sl graph_Edge × Int) → Option (Sum ((Sl graph_Edge × Int)) (Sl graph_Edge)) := fun (s1, i2) =>
  bif decide (i2 < (l_0.l.length : Int)) then ((ixI i2 l_0.l.length).bind fun n9 =>
  (capI (s1.l ++ [(⟨(gt l_0.l n9).From, (gt l_0.l n9).To⟩ : graph_Edge)])).bind fun l11 =>
  some (.inl ((Sl.mk l11), wr .i64 (i2 + 1)))) else
  (some (.inr s1))

noncomputable def law20_mine (l_0 : Sl ref20_Edge) : Option (Sl graph_Edge) :=
  (loopO (law20_mine_L1 l_0) (Sl.nil, 0)).bind fun s5 =>
  some s5
theorem law20_mine_ok {l_0 : Sl ref20_Edge} {z : Sl graph_Edge} (hp : law20_mine l_0 = some z) : Good prog 5 [.d (slD 2 c_ref20_Edge l_0)] [.c (.d (slD 2 c_graph_Edge z))] [] := by
  unfold law20_mine at hp
  refine fn_good mixed e5 (fnS (m := [true]) (s := ⟨[(0, .c (.d (slD 2 c_ref20_Edge l_0)))], [], 0, []⟩) (len := 0) (c := k5) rfl (Sub.of_eq rfl) rfl rfl ?_)
  refine w_seq ?_
  refine w_region ?_
  refine o1 rfl ?_
  refine o_end (e' := [(0, .c (.d (slD 2 c_ref20_Edge l_0)))]) rfl rfl ?_
  refine after_n ?_
  refine w_seq ?_
  refine w_region ?_
  refine o1 rfl ?_
  refine o_end (e' := [(0, .c (.d (slD 2 c_ref20_Edge l_0))), (3, .c (.d (.lit (.slice none 0 0))))]) rfl rfl ?_
  refine after_n ?_
  refine w_seq ?_
  refine w_seq ?_
  refine w_region ?_
  refine o1 rfl ?_
  refine o_end (e' := [(0, .c (.d (slD 2 c_ref20_Edge l_0))), (3, .c (.d (.lit (.slice none 0 0)))), (4, .c (.d (.lit (.int .i64 0))))]) rfl rfl ?_
  refine after_n ?_
  refine w_block ?_
  obtain ⟨s5, h7, hp⟩ := bnd hp
  refine W.mono ?_ (w_loopS (st := fun (v : (Sl graph_Edge × Int)) => match v with | (s1, i2) => ⟨[(0, .c (.d (slD 2 c_ref20_Edge l_0))), (3, .c (slC 2 c_graph_Edge 0 s1)), (4, .c (.d (.lit (.int .i64 i2))))], [(0, slO 2 c_graph_Edge s1)], 1, []⟩) (a := (Sl.nil, 0)) (Q := Jn (fun (x : Sl graph_Edge) o s => match x with | s5 => o = Out.exit 0 ∧ Sub s ⟨[(3, .c (slC 2 c_graph_Edge 0 s5))], [(0, slO 2 c_graph_Edge s5)], 1, []⟩)) ?_ h7 ?_)
  · intro o s hs14
    obtain ⟨rfl, hs14⟩ := hs14
    refine out_e ?_
    refine after_n ?_
    refine W.sub hs14 ?_
    refine w_seq ?_
    refine w_region ?_
    iterate 2 refine o1 rfl ?_
    refine o_end (e' := [(2, .c (slC 2 c_graph_Edge 0 s5))]) rfl rfl ?_
    refine after_n ?_
    refine w_ret ?_
    obtain rfl := Option.some.inj hp
    rcases s5 with _ | s5'
    · exact leave_at rfl rfl (pr_c p_d pr_nil) pc_nil rfl rfl
    · exact leave_at rfl rfl (pr_c (p_o rfl) pr_nil) pc_nil rfl rfl
  · exact (sub_ren [9000] [0, 3, 4] (by decide) rfl (.skip .nil) (Nat.le_of_ble_eq_true rfl))
  · rintro ⟨s1, i2⟩ r hr
    unfold law20_mine_L1 at hr
    refine w_seq ?_
    refine w_seq ?_
    refine w_region ?_
    iterate 2 refine o1 rfl ?_
    refine o1 (v := .c (.d (.lit (.int .i64 (l_0.l.length : Int))))) len_sd ?_
    refine o1 (v := .c (.d (.lit (.bool (decide (i2 < (l_0.l.length : Int))))))) rfl ?_
    refine o_end (e' := [(0, .c (.d (slD 2 c_ref20_Edge l_0))), (3, .c (slC 2 c_graph_Edge 0 s1)), (4, .c (.d (.lit (.int .i64 i2)))), (8, .c (.d (.lit (.bool (decide (i2 < (l_0.l.length : Int)))))))]) rfl rfl ?_
    refine after_n ?_
    refine w_cond (t := decide (i2 < (l_0.l.length : Int))) rfl (fun hb8 => ?_) (fun hb8 => ?_)
    · have hr := cnd_t hb8 hr
      refine w_skip ?_
      refine after_n ?_
      refine w_seq ?_
      refine w_block ?_
      obtain ⟨n9, h10, hr⟩ := bnd hr
      obtain ⟨l11, h12, hr⟩ := bnd hr
      refine w_join (J := fun s => Sub s ⟨[(0, .c (.d (slD 2 c_ref20_Edge l_0))), (3, .c (slC 2 c_graph_Edge 0 (Sl.mk l11))), (4, .c (.d (.lit (.int .i64 i2))))], [(0, slO 2 c_graph_Edge (Sl.mk l11))], 1, []⟩) ?_ ?_
      · rcases s1 with _ | s1'
        · try dsimp only [slC, slO]
          refine w_drawn ?_
          iterate 3 refine d1 rfl ?_
          refine d1 (ix_sd h10) ?_
          iterate 4 refine d1 rfl ?_
          refine d1 (ix_sd h10) ?_
          iterate 3 refine d1 rfl ?_
          refine d2 rfl (Nat.le_of_ble_eq_true rfl) ?_
          refine d2 (app_nil (enc := c_graph_Edge) rfl h12) (Nat.le_of_ble_eq_true rfl) ?_
          refine d1 rfl ?_
          exact d_join rfl (sub_ren [833] [0, 3, 4] (by decide) rfl (.cons .nil) (Nat.le_of_ble_eq_true rfl))
        · try dsimp only [slC, slO]
          refine w_drawn ?_
          iterate 3 refine d1 rfl ?_
          refine d1 (ix_sd h10) ?_
          iterate 4 refine d1 rfl ?_
          refine d1 (ix_sd h10) ?_
          iterate 3 refine d1 rfl ?_
          refine d2 rfl (Nat.le_of_ble_eq_true rfl) ?_
          refine d2 (app_o rfl rfl h12) (Nat.le_of_ble_eq_true rfl) ?_
          refine d1 rfl ?_
          exact d_join rfl (sub_ren [833] [0, 3, 4] (by decide) rfl (.cons .nil) (Nat.le_of_ble_eq_true rfl))
      · intro s hs13
        refine out_n ?_
        refine after_n ?_
        refine W.sub hs13 ?_
        refine w_region ?_
        refine o1 rfl ?_
        refine o1 (v := .c (.d (.lit (.int .i64 (wr .i64 (i2 + 1)))))) rfl ?_
        refine o1 rfl ?_
        refine o_end (e' := [(0, .c (.d (slD 2 c_ref20_Edge l_0))), (3, .c (slC 2 c_graph_Edge 0 (Sl.mk l11))), (4, .c (.d (.lit (.int .i64 (wr .i64 (i2 + 1))))))]) rfl rfl ?_
        obtain rfl := Option.some.inj hr
        exact And.intro rfl (sub_ren [0] [0, 3, 4] (by decide) rfl (.cons .nil) (Nat.le_of_ble_eq_true rfl))
    · have hr := cnd_f hb8 hr
      refine w_exit ?_
      refine after_e ?_
      obtain rfl := Option.some.inj hr
      exact And.intro nofun (And.intro rfl (by rcases s1 with _ | _ <;> first | (exact sub_ren [9000] [3] (by decide) rfl (.skip .nil) (Nat.le_of_ble_eq_true rfl)) | (exact sub_ren [0] [3] (by decide) rfl (.cons .nil) (Nat.le_of_ble_eq_true rfl))))

/- turnout/turnoutref20.Right -/
def k9 : CC :=
  (.seq
  (.region [
    ⟨some 4, .mv, [(.const (.bool false))], none⟩] [0, 1])
  (.seq
  (.seq
  (.region [
    ⟨some 5, .mv, [(.const (.int .i64 0))], none⟩] [0, 1, 5])
  (.block 0
    (.loop [0, 1, 5]
      (.seq
      (.seq
      (.region [
        ⟨some 6, .mv, [(.tmp 5)], none⟩,
        ⟨some 7, .mv, [(.tmp 1)], none⟩,
        ⟨some 8, (.len false), [(.tmp 7)], none⟩,
        ⟨some 9, (.bin .lss), [(.tmp 6), (.tmp 8)], none⟩] [0, 1, 5, 9])
      (.cond (.tmp 9)
        .skip
        (.exit 0)))
      (.seq
      (.block 1
        (.seq
        (.region [
          ⟨some 12, .mv, [(.tmp 1)], none⟩,
          ⟨some 13, .mv, [(.tmp 5)], none⟩,
          ⟨some 14, (.indexAddr none 2), [(.tmp 12), (.tmp 13)], none⟩,
          ⟨some 15, (.fieldAddr 0), [(.tmp 14)], none⟩,
          ⟨some 16, (.load false 1), [(.tmp 15)], none⟩,
          ⟨some 17, (.bin .lss), [(.tmp 16), (.const (.int .i64 0))], none⟩,
          ⟨some 18, .mv, [(.tmp 17)], none⟩,
          ⟨some 19, .mv, [(.tmp 1)], (some (18, false))⟩,
          ⟨some 20, .mv, [(.tmp 5)], (some (18, false))⟩,
          ⟨some 21, (.indexAddr none 2), [(.tmp 19), (.tmp 20)], (some (18, false))⟩,
          ⟨some 22, (.fieldAddr 0), [(.tmp 21)], (some (18, false))⟩,
          ⟨some 23, (.load false 1), [(.tmp 22)], (some (18, false))⟩,
          ⟨some 24, .mv, [(.tmp 0)], (some (18, false))⟩,
          ⟨some 25, (.bin .geq), [(.tmp 23), (.tmp 24)], (some (18, false))⟩,
          ⟨some 26, .pick, [(.tmp 18), (.const (.bool true)), (.tmp 25)], none⟩,
          ⟨some 27, .mv, [(.tmp 26)], none⟩,
          ⟨some 28, .mv, [(.tmp 1)], (some (27, false))⟩,
          ⟨some 29, .mv, [(.tmp 5)], (some (27, false))⟩,
          ⟨some 30, (.indexAddr none 2), [(.tmp 28), (.tmp 29)], (some (27, false))⟩,
          ⟨some 31, (.fieldAddr 1), [(.tmp 30)], (some (27, false))⟩,
          ⟨some 32, (.load false 1), [(.tmp 31)], (some (27, false))⟩,
          ⟨some 33, (.bin .lss), [(.tmp 32), (.const (.int .i64 0))], (some (27, false))⟩,
          ⟨some 34, .pick, [(.tmp 27), (.const (.bool true)), (.tmp 33)], none⟩,
          ⟨some 35, .mv, [(.tmp 34)], none⟩,
          ⟨some 36, .mv, [(.tmp 1)], (some (35, false))⟩,
          ⟨some 37, .mv, [(.tmp 5)], (some (35, false))⟩,
          ⟨some 38, (.indexAddr none 2), [(.tmp 36), (.tmp 37)], (some (35, false))⟩,
          ⟨some 39, (.fieldAddr 1), [(.tmp 38)], (some (35, false))⟩,
          ⟨some 40, (.load false 1), [(.tmp 39)], (some (35, false))⟩,
          ⟨some 41, .mv, [(.tmp 0)], (some (35, false))⟩,
          ⟨some 42, (.bin .geq), [(.tmp 40), (.tmp 41)], (some (35, false))⟩,
          ⟨some 43, .pick, [(.tmp 35), (.const (.bool true)), (.tmp 42)], none⟩] [0, 1, 5, 43])
        (.cond (.tmp 43)
          (.seq
          (.region [
            ⟨some 4, .mv, [(.const (.bool false))], none⟩] [4])
          .ret)
          .skip)))
      (.region [
        ⟨some 10, .mv, [(.tmp 5)], none⟩,
        ⟨some 11, (.bin .add), [(.tmp 10), (.const (.int .i64 1))], none⟩,
        ⟨some 5, .mv, [(.tmp 11)], none⟩] [0, 1, 5]))))))
  (.seq
  (.region [
    ⟨some 44, .mv, [(.tmp 0)], none⟩,
    ⟨some 45, (.bin .geq), [(.tmp 44), (.const (.int .i64 0))], none⟩,
    ⟨some 46, .mv, [(.tmp 45)], none⟩,
    ⟨some 47, .mv, [(.tmp 0)], (some (46, true))⟩,
    ⟨some 48, (.bin .leq), [(.tmp 47), (.const (.int .i64 16))], (some (46, true))⟩,
    ⟨some 49, .pick, [(.tmp 46), (.tmp 48), (.const (.bool false))], none⟩,
    ⟨some 4, .mv, [(.tmp 49)], none⟩] [4])
  .ret)))
def f9 : Ev.Fn := ⟨2, 50, [.tmp 4], k9⟩
set_option maxRecDepth 100000 in
theorem e9 : compFn prog sig 9 2 [[0, 1], [0, 1, 5], [0, 1, 5], [0, 1, 5, 9], [0, 1, 5, 43], [4], [0, 1, 5], [4]] = some f9 := by kernel_rfl
noncomputable def ref20_Right_L1 (n_0 : Int) (l_1 : Sl ref20_Edge) : Int → Option (Sum (Int) (Sum (Unit) (Unit))) := fun i1 =>
  bif decide (i1 < (l_1.l.length : Int)) then ((ixI i1 l_1.l.length).bind fun n6 =>
  bif ((decide (((gt l_1.l n6).From) < 0)) || ((decide (((gt l_1.l n6).From) ≥ n_0)) || ((decide (((gt l_1.l n6).To) < 0)) || (decide (((gt l_1.l n6).To) ≥ n_0))))) then (some (.inr (.inl ()))) else
  (some (.inl (wr .i64 (i1 + 1))))) else
  (some (.inr (.inr ())))

noncomputable def ref20_Right (n_0 : Int) (l_1 : Sl ref20_Edge) : Option (Bool) :=
  (loopO (ref20_Right_L1 n_0 l_1) 0).bind fun
  | .inl _ => (some false)
  | .inr (_) => (some ((decide (n_0 ≥ 0)) && (decide (n_0 ≤ 16))))
theorem ref20_Right_ok {n_0 : Int} {l_1 : Sl ref20_Edge} {z : Bool} (hp : ref20_Right n_0 l_1 = some z) : Good prog 9 [.d (.lit (.int .i64 n_0)), .d (slD 2 c_ref20_Edge l_1)] [.c (.d (.lit (.bool z)))] [] := by
  unfold ref20_Right at hp
  refine fn_good mixed e9 (fnS (m := [false]) (s := ⟨[(0, .c (.d (.lit (.int .i64 n_0)))), (1, .c (.d (slD 2 c_ref20_Edge l_1)))], [], 0, []⟩) (len := 0) (c := k9) rfl (Sub.of_eq rfl) rfl rfl ?_)
  refine w_seq ?_
  refine w_region ?_
  refine o1 rfl ?_
  refine o_end (e' := [(0, .c (.d (.lit (.int .i64 n_0)))), (1, .c (.d (slD 2 c_ref20_Edge l_1)))]) rfl rfl ?_
  refine after_n ?_
  refine w_seq ?_
  refine w_seq ?_
  refine w_region ?_
  refine o1 rfl ?_
  refine o_end (e' := [(0, .c (.d (.lit (.int .i64 n_0)))), (1, .c (.d (slD 2 c_ref20_Edge l_1))), (5, .c (.d (.lit (.int .i64 0))))]) rfl rfl ?_
  refine after_n ?_
  refine w_block ?_
  obtain ⟨x3, h4, hp⟩ := bnd hp
  refine W.mono ?_ (w_loopS (st := fun (v : Int) => match v with | i1 => ⟨[(0, .c (.d (.lit (.int .i64 n_0)))), (1, .c (.d (slD 2 c_ref20_Edge l_1))), (5, .c (.d (.lit (.int .i64 i1))))], [], 0, []⟩) (a := 0) (Q := Jn (fun (x : Sum (Unit) (Unit)) o s => match x with | .inl _ => o = Out.ret ∧ Sub s ⟨[(4, .c (.d (.lit (.bool false))))], [], 0, []⟩ | .inr (_) => o = Out.exit 0 ∧ Sub s ⟨[(0, .c (.d (.lit (.int .i64 n_0))))], [], 0, []⟩)) ?_ h4 ?_)
  · intro o s hs14
    rcases x3 with (_ | _)
    · obtain ⟨rfl, hs14⟩ := hs14
      refine out_r ?_
      refine after_r ?_
      obtain rfl := Option.some.inj hp
      refine wk.sub hs14 ?_
      exact leave_at rfl rfl (pr_c p_d pr_nil) pc_nil rfl rfl
    · obtain ⟨rfl, hs14⟩ := hs14
      refine out_e ?_
      refine after_n ?_
      refine W.sub hs14 ?_
      refine w_seq ?_
      refine w_join (J := fun s => Sub s ⟨[(4, .c (.d (.lit (.bool ((decide (n_0 ≥ 0)) && (decide (n_0 ≤ 16)))))))], [], 0, []⟩) ?_ ?_
      · refine w_region ?_
        refine o1 rfl ?_
        refine o1 (v := .c (.d (.lit (.bool (decide (n_0 ≥ 0)))))) rfl ?_
        refine o1 rfl ?_
        cases hb16 : (decide (n_0 ≥ 0) : Bool)
        · refine onot rfl rfl ?_
          refine onot rfl rfl ?_
          iterate 2 refine o1 rfl ?_
          exact o_join (sub_ren [] [4] (by decide) rfl .nil (Nat.le_of_ble_eq_true rfl))
        · refine og rfl rfl rfl ?_
          refine og (v := .c (.d (.lit (.bool (decide (n_0 ≤ 16)))))) rfl rfl rfl ?_
          iterate 2 refine o1 rfl ?_
          exact o_join (sub_ren [] [4] (by decide) rfl .nil (Nat.le_of_ble_eq_true rfl))
      · intro s hs17
        refine after_n ?_
        refine W.sub hs17 ?_
        refine w_ret ?_
        obtain rfl := Option.some.inj hp
        exact leave_at rfl rfl (pr_c p_d pr_nil) pc_nil rfl rfl
  · exact (sub_ren [] [0, 1, 5] (by decide) rfl .nil (Nat.le_of_ble_eq_true rfl))
  · rintro i1 r hr
    unfold ref20_Right_L1 at hr
    refine w_seq ?_
    refine w_seq ?_
    refine w_region ?_
    iterate 2 refine o1 rfl ?_
    refine o1 (v := .c (.d (.lit (.int .i64 (l_1.l.length : Int))))) len_sd ?_
    refine o1 (v := .c (.d (.lit (.bool (decide (i1 < (l_1.l.length : Int))))))) rfl ?_
    refine o_end (e' := [(0, .c (.d (.lit (.int .i64 n_0)))), (1, .c (.d (slD 2 c_ref20_Edge l_1))), (5, .c (.d (.lit (.int .i64 i1)))), (9, .c (.d (.lit (.bool (decide (i1 < (l_1.l.length : Int)))))))]) rfl rfl ?_
    refine after_n ?_
    refine w_cond (t := decide (i1 < (l_1.l.length : Int))) rfl (fun hb5 => ?_) (fun hb5 => ?_)
    · have hr := cnd_t hb5 hr
      refine w_skip ?_
      refine after_n ?_
      refine w_seq ?_
      refine w_block ?_
      refine w_seq ?_
      obtain ⟨n6, h7, hr⟩ := bnd hr
      refine w_join (J := fun s => Sub s ⟨[(0, .c (.d (.lit (.int .i64 n_0)))), (1, .c (.d (slD 2 c_ref20_Edge l_1))), (5, .c (.d (.lit (.int .i64 i1)))), (43, .c (.d (.lit (.bool ((decide (((gt l_1.l n6).From) < 0)) || ((decide (((gt l_1.l n6).From) ≥ n_0)) || ((decide (((gt l_1.l n6).To) < 0)) || (decide (((gt l_1.l n6).To) ≥ n_0)))))))))], [], 0, []⟩) ?_ ?_
      · refine w_region ?_
        iterate 2 refine o1 rfl ?_
        refine o1 (ix_sd h7) ?_
        iterate 2 refine o1 rfl ?_
        refine o1 (v := .c (.d (.lit (.bool (decide (((gt l_1.l n6).From) < 0)))))) rfl ?_
        refine o1 rfl ?_
        cases hb9 : (decide (((gt l_1.l n6).From) < 0) : Bool)
        · refine og rfl rfl rfl ?_
          refine og rfl rfl rfl ?_
          refine og rfl rfl (ix_sd h7) ?_
          iterate 3 refine og rfl rfl rfl ?_
          refine og (v := .c (.d (.lit (.bool (decide (((gt l_1.l n6).From) ≥ n_0)))))) rfl rfl rfl ?_
          iterate 2 refine o1 rfl ?_
          cases hb10 : (decide (((gt l_1.l n6).From) ≥ n_0) : Bool)
          · refine og rfl rfl rfl ?_
            refine og rfl rfl rfl ?_
            refine og rfl rfl (ix_sd h7) ?_
            iterate 2 refine og rfl rfl rfl ?_
            refine og (v := .c (.d (.lit (.bool (decide (((gt l_1.l n6).To) < 0)))))) rfl rfl rfl ?_
            iterate 2 refine o1 rfl ?_
            cases hb11 : (decide (((gt l_1.l n6).To) < 0) : Bool)
            · refine og rfl rfl rfl ?_
              refine og rfl rfl rfl ?_
              refine og rfl rfl (ix_sd h7) ?_
              iterate 3 refine og rfl rfl rfl ?_
              refine og (v := .c (.d (.lit (.bool (decide (((gt l_1.l n6).To) ≥ n_0)))))) rfl rfl rfl ?_
              refine o1 rfl ?_
              exact o_join (sub_ren [] [0, 1, 5, 43] (by decide) rfl .nil (Nat.le_of_ble_eq_true rfl))
            · refine onot rfl rfl ?_
              iterate 6 refine onot rfl rfl ?_
              refine o1 rfl ?_
              exact o_join (sub_ren [] [0, 1, 5, 43] (by decide) rfl .nil (Nat.le_of_ble_eq_true rfl))
          · refine onot rfl rfl ?_
            iterate 5 refine onot rfl rfl ?_
            iterate 2 refine o1 rfl ?_
            iterate 7 refine onot rfl rfl ?_
            refine o1 rfl ?_
            exact o_join (sub_ren [] [0, 1, 5, 43] (by decide) rfl .nil (Nat.le_of_ble_eq_true rfl))
        · refine onot rfl rfl ?_
          iterate 6 refine onot rfl rfl ?_
          iterate 2 refine o1 rfl ?_
          iterate 6 refine onot rfl rfl ?_
          iterate 2 refine o1 rfl ?_
          iterate 7 refine onot rfl rfl ?_
          refine o1 rfl ?_
          exact o_join (sub_ren [] [0, 1, 5, 43] (by decide) rfl .nil (Nat.le_of_ble_eq_true rfl))
      · intro s hs12
        refine after_n ?_
        refine W.sub hs12 ?_
        refine w_cond (t := ((decide (((gt l_1.l n6).From) < 0)) || ((decide (((gt l_1.l n6).From) ≥ n_0)) || ((decide (((gt l_1.l n6).To) < 0)) || (decide (((gt l_1.l n6).To) ≥ n_0)))))) rfl (fun hb13 => ?_) (fun hb13 => ?_)
        · have hr := cnd_t hb13 hr
          refine w_seq ?_
          refine w_region ?_
          refine o1 rfl ?_
          refine o_end (e' := [(4, .c (.d (.lit (.bool false))))]) rfl rfl ?_
          refine after_n ?_
          refine w_ret ?_
          refine out_r ?_
          refine after_r ?_
          obtain rfl := Option.some.inj hr
          exact And.intro nofun (And.intro rfl (sub_ren [] [4] (by decide) rfl .nil (Nat.le_of_ble_eq_true rfl)))
        · have hr := cnd_f hb13 hr
          refine w_skip ?_
          refine out_n ?_
          refine after_n ?_
          refine w_region ?_
          refine o1 rfl ?_
          refine o1 (v := .c (.d (.lit (.int .i64 (wr .i64 (i1 + 1)))))) rfl ?_
          refine o1 rfl ?_
          refine o_end (e' := [(0, .c (.d (.lit (.int .i64 n_0)))), (1, .c (.d (slD 2 c_ref20_Edge l_1))), (5, .c (.d (.lit (.int .i64 (wr .i64 (i1 + 1))))))]) rfl rfl ?_
          obtain rfl := Option.some.inj hr
          exact And.intro rfl (sub_ren [] [0, 1, 5] (by decide) rfl .nil (Nat.le_of_ble_eq_true rfl))
    · have hr := cnd_f hb5 hr
      refine w_exit ?_
      refine after_e ?_
      obtain rfl := Option.some.inj hr
      exact And.intro nofun (And.intro rfl (sub_ren [] [0] (by decide) rfl .nil (Nat.le_of_ble_eq_true rfl)))

/- turnout/turnoutref20.has -/
def k23 : CC :=
  (.seq
  (.region [
    ⟨some 4, .mv, [(.const (.bool false))], none⟩] [0, 1])
  (.seq
  (.seq
  (.region [
    ⟨some 5, .mv, [(.const (.int .i64 0))], none⟩] [0, 1, 5])
  (.block 0
    (.loop [0, 1, 5]
      (.seq
      (.seq
      (.region [
        ⟨some 6, .mv, [(.tmp 5)], none⟩,
        ⟨some 7, .mv, [(.tmp 0)], none⟩,
        ⟨some 8, (.len false), [(.tmp 7)], none⟩,
        ⟨some 9, (.bin .lss), [(.tmp 6), (.tmp 8)], none⟩] [0, 1, 5, 9])
      (.cond (.tmp 9)
        .skip
        (.exit 0)))
      (.seq
      (.block 1
        (.seq
        (.region [
          ⟨some 12, .mv, [(.tmp 0)], none⟩,
          ⟨some 13, .mv, [(.tmp 5)], none⟩,
          ⟨some 14, (.indexAddr none 1), [(.tmp 12), (.tmp 13)], none⟩,
          ⟨some 15, (.load false 1), [(.tmp 14)], none⟩,
          ⟨some 16, .mv, [(.tmp 1)], none⟩,
          ⟨some 17, (.bin .eql), [(.tmp 15), (.tmp 16)], none⟩] [0, 1, 5, 17])
        (.cond (.tmp 17)
          (.seq
          (.region [
            ⟨some 4, .mv, [(.const (.bool true))], none⟩] [4])
          .ret)
          .skip)))
      (.region [
        ⟨some 10, .mv, [(.tmp 5)], none⟩,
        ⟨some 11, (.bin .add), [(.tmp 10), (.const (.int .i64 1))], none⟩,
        ⟨some 5, .mv, [(.tmp 11)], none⟩] [0, 1, 5]))))))
  (.seq
  (.region [
    ⟨some 4, .mv, [(.const (.bool false))], none⟩] [4])
  .ret)))
def f23 : Ev.Fn := ⟨2, 18, [.tmp 4], k23⟩
set_option maxRecDepth 100000 in
theorem e23 : compFn prog sig 23 2 [[0, 1], [0, 1, 5], [0, 1, 5], [0, 1, 5, 9], [0, 1, 5, 17], [4], [0, 1, 5], [4]] = some f23 := by kernel_rfl
noncomputable def ref20_has_L1 (l_0 : Sl Int) (x_1 : Int) : Int → Option (Sum (Int) (Sum (Unit) (Unit))) := fun i1 =>
  bif decide (i1 < (l_0.l.length : Int)) then ((ixI i1 l_0.l.length).bind fun n6 =>
  bif ((gt l_0.l n6) == x_1) then (some (.inr (.inl ()))) else
  (some (.inl (wr .i64 (i1 + 1))))) else
  (some (.inr (.inr ())))

noncomputable def ref20_has (l_0 : Sl Int) (x_1 : Int) : Option (Bool) :=
  (loopO (ref20_has_L1 l_0 x_1) 0).bind fun
  | .inl _ => (some true)
  | .inr (_) => (some false)
theorem ref20_has_ok {l_0 : Sl Int} {x_1 : Int} {z : Bool} (hp : ref20_has l_0 x_1 = some z) : Good prog 23 [.d (slD 1 cI_i64 l_0), .d (.lit (.int .i64 x_1))] [.c (.d (.lit (.bool z)))] [] := by
  unfold ref20_has at hp
  refine fn_good mixed e23 (fnS (m := [false]) (s := ⟨[(0, .c (.d (slD 1 cI_i64 l_0))), (1, .c (.d (.lit (.int .i64 x_1))))], [], 0, []⟩) (len := 0) (c := k23) rfl (Sub.of_eq rfl) rfl rfl ?_)
  refine w_seq ?_
  refine w_region ?_
  refine o1 rfl ?_
  refine o_end (e' := [(0, .c (.d (slD 1 cI_i64 l_0))), (1, .c (.d (.lit (.int .i64 x_1))))]) rfl rfl ?_
  refine after_n ?_
  refine w_seq ?_
  refine w_seq ?_
  refine w_region ?_
  refine o1 rfl ?_
  refine o_end (e' := [(0, .c (.d (slD 1 cI_i64 l_0))), (1, .c (.d (.lit (.int .i64 x_1)))), (5, .c (.d (.lit (.int .i64 0))))]) rfl rfl ?_
  refine after_n ?_
  refine w_block ?_
  obtain ⟨x3, h4, hp⟩ := bnd hp
  refine W.mono ?_ (w_loopS (st := fun (v : Int) => match v with | i1 => ⟨[(0, .c (.d (slD 1 cI_i64 l_0))), (1, .c (.d (.lit (.int .i64 x_1)))), (5, .c (.d (.lit (.int .i64 i1))))], [], 0, []⟩) (a := 0) (Q := Jn (fun (x : Sum (Unit) (Unit)) o s => match x with | .inl _ => o = Out.ret ∧ Sub s ⟨[(4, .c (.d (.lit (.bool true))))], [], 0, []⟩ | .inr (_) => o = Out.exit 0 ∧ Sub s ⟨[], [], 0, []⟩)) ?_ h4 ?_)
  · intro o s hs9
    rcases x3 with (_ | _)
    · obtain ⟨rfl, hs9⟩ := hs9
      refine out_r ?_
      refine after_r ?_
      obtain rfl := Option.some.inj hp
      refine wk.sub hs9 ?_
      exact leave_at rfl rfl (pr_c p_d pr_nil) pc_nil rfl rfl
    · obtain ⟨rfl, hs9⟩ := hs9
      refine out_e ?_
      refine after_n ?_
      refine W.sub hs9 ?_
      refine w_seq ?_
      refine w_region ?_
      refine o1 rfl ?_
      refine o_end (e' := [(4, .c (.d (.lit (.bool false))))]) rfl rfl ?_
      refine after_n ?_
      refine w_ret ?_
      obtain rfl := Option.some.inj hp
      exact leave_at rfl rfl (pr_c p_d pr_nil) pc_nil rfl rfl
  · exact (sub_ren [] [0, 1, 5] (by decide) rfl .nil (Nat.le_of_ble_eq_true rfl))
  · rintro i1 r hr
    unfold ref20_has_L1 at hr
    refine w_seq ?_
    refine w_seq ?_
    refine w_region ?_
    iterate 2 refine o1 rfl ?_
    refine o1 (v := .c (.d (.lit (.int .i64 (l_0.l.length : Int))))) len_sd ?_
    refine o1 (v := .c (.d (.lit (.bool (decide (i1 < (l_0.l.length : Int))))))) rfl ?_
    refine o_end (e' := [(0, .c (.d (slD 1 cI_i64 l_0))), (1, .c (.d (.lit (.int .i64 x_1)))), (5, .c (.d (.lit (.int .i64 i1)))), (9, .c (.d (.lit (.bool (decide (i1 < (l_0.l.length : Int)))))))]) rfl rfl ?_
    refine after_n ?_
    refine w_cond (t := decide (i1 < (l_0.l.length : Int))) rfl (fun hb5 => ?_) (fun hb5 => ?_)
    · have hr := cnd_t hb5 hr
      refine w_skip ?_
      refine after_n ?_
      refine w_seq ?_
      refine w_block ?_
      refine w_seq ?_
      obtain ⟨n6, h7, hr⟩ := bnd hr
      refine w_region ?_
      iterate 2 refine o1 rfl ?_
      refine o1 (ix_sd h7) ?_
      iterate 2 refine o1 rfl ?_
      refine o1 (v := .c (.d (.lit (.bool ((gt l_0.l n6) == x_1))))) rfl ?_
      refine o_end (e' := [(0, .c (.d (slD 1 cI_i64 l_0))), (1, .c (.d (.lit (.int .i64 x_1)))), (5, .c (.d (.lit (.int .i64 i1)))), (17, .c (.d (.lit (.bool ((gt l_0.l n6) == x_1)))))]) rfl rfl ?_
      refine after_n ?_
      refine w_cond (t := ((gt l_0.l n6) == x_1)) rfl (fun hb8 => ?_) (fun hb8 => ?_)
      · have hr := cnd_t hb8 hr
        refine w_seq ?_
        refine w_region ?_
        refine o1 rfl ?_
        refine o_end (e' := [(4, .c (.d (.lit (.bool true))))]) rfl rfl ?_
        refine after_n ?_
        refine w_ret ?_
        refine out_r ?_
        refine after_r ?_
        obtain rfl := Option.some.inj hr
        exact And.intro nofun (And.intro rfl (sub_ren [] [4] (by decide) rfl .nil (Nat.le_of_ble_eq_true rfl)))
      · have hr := cnd_f hb8 hr
        refine w_skip ?_
        refine out_n ?_
        refine after_n ?_
        refine w_region ?_
        refine o1 rfl ?_
        refine o1 (v := .c (.d (.lit (.int .i64 (wr .i64 (i1 + 1)))))) rfl ?_
        refine o1 rfl ?_
        refine o_end (e' := [(0, .c (.d (slD 1 cI_i64 l_0))), (1, .c (.d (.lit (.int .i64 x_1)))), (5, .c (.d (.lit (.int .i64 (wr .i64 (i1 + 1))))))]) rfl rfl ?_
        obtain rfl := Option.some.inj hr
        exact And.intro rfl (sub_ren [] [0, 1, 5] (by decide) rfl .nil (Nat.le_of_ble_eq_true rfl))
    · have hr := cnd_f hb5 hr
      refine w_exit ?_
      refine after_e ?_
      obtain rfl := Option.some.inj hr
      exact And.intro nofun (And.intro rfl (sub_ren [] [] (by decide) rfl .nil (Nat.le_of_ble_eq_true rfl)))

/- turnout/turnoutref20.edge -/
def k22 : CC :=
  (.seq
  (.region [
    ⟨some 6, .mv, [(.const (.bool false))], none⟩] [0, 1, 2])
  (.seq
  (.seq
  (.region [
    ⟨some 7, .mv, [(.const (.int .i64 0))], none⟩] [0, 1, 2, 7])
  (.block 0
    (.loop [0, 1, 2, 7]
      (.seq
      (.seq
      (.region [
        ⟨some 8, .mv, [(.tmp 7)], none⟩,
        ⟨some 9, .mv, [(.tmp 0)], none⟩,
        ⟨some 10, (.len false), [(.tmp 9)], none⟩,
        ⟨some 11, (.bin .lss), [(.tmp 8), (.tmp 10)], none⟩] [0, 1, 2, 7, 11])
      (.cond (.tmp 11)
        .skip
        (.exit 0)))
      (.seq
      (.block 1
        (.seq
        (.region [
          ⟨some 14, .mv, [(.tmp 0)], none⟩,
          ⟨some 15, .mv, [(.tmp 7)], none⟩,
          ⟨some 16, (.indexAddr none 2), [(.tmp 14), (.tmp 15)], none⟩,
          ⟨some 17, (.fieldAddr 0), [(.tmp 16)], none⟩,
          ⟨some 18, (.load false 1), [(.tmp 17)], none⟩,
          ⟨some 19, .mv, [(.tmp 1)], none⟩,
          ⟨some 20, (.bin .eql), [(.tmp 18), (.tmp 19)], none⟩,
          ⟨some 21, .mv, [(.tmp 20)], none⟩,
          ⟨some 22, .mv, [(.tmp 0)], (some (21, true))⟩,
          ⟨some 23, .mv, [(.tmp 7)], (some (21, true))⟩,
          ⟨some 24, (.indexAddr none 2), [(.tmp 22), (.tmp 23)], (some (21, true))⟩,
          ⟨some 25, (.fieldAddr 1), [(.tmp 24)], (some (21, true))⟩,
          ⟨some 26, (.load false 1), [(.tmp 25)], (some (21, true))⟩,
          ⟨some 27, .mv, [(.tmp 2)], (some (21, true))⟩,
          ⟨some 28, (.bin .eql), [(.tmp 26), (.tmp 27)], (some (21, true))⟩,
          ⟨some 29, .pick, [(.tmp 21), (.tmp 28), (.const (.bool false))], none⟩] [0, 1, 2, 7, 29])
        (.cond (.tmp 29)
          (.seq
          (.region [
            ⟨some 6, .mv, [(.const (.bool true))], none⟩] [6])
          .ret)
          .skip)))
      (.region [
        ⟨some 12, .mv, [(.tmp 7)], none⟩,
        ⟨some 13, (.bin .add), [(.tmp 12), (.const (.int .i64 1))], none⟩,
        ⟨some 7, .mv, [(.tmp 13)], none⟩] [0, 1, 2, 7]))))))
  (.seq
  (.region [
    ⟨some 6, .mv, [(.const (.bool false))], none⟩] [6])
  .ret)))
def f22 : Ev.Fn := ⟨3, 30, [.tmp 6], k22⟩
set_option maxRecDepth 100000 in
theorem e22 : compFn prog sig 22 3 [[0, 1, 2], [0, 1, 2, 7], [0, 1, 2, 7], [0, 1, 2, 7, 11], [0, 1, 2, 7, 29], [6], [0, 1, 2, 7], [6]] = some f22 := by kernel_rfl
noncomputable def ref20_edge_L1 (l_0 : Sl ref20_Edge) (from_1 : Int) (to_2 : Int) : Int → Option (Sum (Int) (Sum (Unit) (Unit))) := fun i1 =>
  bif decide (i1 < (l_0.l.length : Int)) then ((ixI i1 l_0.l.length).bind fun n6 =>
  bif ((((gt l_0.l n6).From) == from_1) && (((gt l_0.l n6).To) == to_2)) then (some (.inr (.inl ()))) else
  (some (.inl (wr .i64 (i1 + 1))))) else
  (some (.inr (.inr ())))

noncomputable def ref20_edge (l_0 : Sl ref20_Edge) (from_1 : Int) (to_2 : Int) : Option (Bool) :=
  (loopO (ref20_edge_L1 l_0 from_1 to_2) 0).bind fun
  | .inl _ => (some true)
  | .inr (_) => (some false)
theorem ref20_edge_ok {l_0 : Sl ref20_Edge} {from_1 : Int} {to_2 : Int} {z : Bool} (hp : ref20_edge l_0 from_1 to_2 = some z) : Good prog 22 [.d (slD 2 c_ref20_Edge l_0), .d (.lit (.int .i64 from_1)), .d (.lit (.int .i64 to_2))] [.c (.d (.lit (.bool z)))] [] := by
  unfold ref20_edge at hp
  refine fn_good mixed e22 (fnS (m := [false]) (s := ⟨[(0, .c (.d (slD 2 c_ref20_Edge l_0))), (1, .c (.d (.lit (.int .i64 from_1)))), (2, .c (.d (.lit (.int .i64 to_2))))], [], 0, []⟩) (len := 0) (c := k22) rfl (Sub.of_eq rfl) rfl rfl ?_)
  refine w_seq ?_
  refine w_region ?_
  refine o1 rfl ?_
  refine o_end (e' := [(0, .c (.d (slD 2 c_ref20_Edge l_0))), (1, .c (.d (.lit (.int .i64 from_1)))), (2, .c (.d (.lit (.int .i64 to_2))))]) rfl rfl ?_
  refine after_n ?_
  refine w_seq ?_
  refine w_seq ?_
  refine w_region ?_
  refine o1 rfl ?_
  refine o_end (e' := [(0, .c (.d (slD 2 c_ref20_Edge l_0))), (1, .c (.d (.lit (.int .i64 from_1)))), (2, .c (.d (.lit (.int .i64 to_2)))), (7, .c (.d (.lit (.int .i64 0))))]) rfl rfl ?_
  refine after_n ?_
  refine w_block ?_
  obtain ⟨x3, h4, hp⟩ := bnd hp
  refine W.mono ?_ (w_loopS (st := fun (v : Int) => match v with | i1 => ⟨[(0, .c (.d (slD 2 c_ref20_Edge l_0))), (1, .c (.d (.lit (.int .i64 from_1)))), (2, .c (.d (.lit (.int .i64 to_2)))), (7, .c (.d (.lit (.int .i64 i1))))], [], 0, []⟩) (a := 0) (Q := Jn (fun (x : Sum (Unit) (Unit)) o s => match x with | .inl _ => o = Out.ret ∧ Sub s ⟨[(6, .c (.d (.lit (.bool true))))], [], 0, []⟩ | .inr (_) => o = Out.exit 0 ∧ Sub s ⟨[], [], 0, []⟩)) ?_ h4 ?_)
  · intro o s hs12
    rcases x3 with (_ | _)
    · obtain ⟨rfl, hs12⟩ := hs12
      refine out_r ?_
      refine after_r ?_
      obtain rfl := Option.some.inj hp
      refine wk.sub hs12 ?_
      exact leave_at rfl rfl (pr_c p_d pr_nil) pc_nil rfl rfl
    · obtain ⟨rfl, hs12⟩ := hs12
      refine out_e ?_
      refine after_n ?_
      refine W.sub hs12 ?_
      refine w_seq ?_
      refine w_region ?_
      refine o1 rfl ?_
      refine o_end (e' := [(6, .c (.d (.lit (.bool false))))]) rfl rfl ?_
      refine after_n ?_
      refine w_ret ?_
      obtain rfl := Option.some.inj hp
      exact leave_at rfl rfl (pr_c p_d pr_nil) pc_nil rfl rfl
  · exact (sub_ren [] [0, 1, 2, 7] (by decide) rfl .nil (Nat.le_of_ble_eq_true rfl))
  · rintro i1 r hr
    unfold ref20_edge_L1 at hr
    refine w_seq ?_
    refine w_seq ?_
    refine w_region ?_
    iterate 2 refine o1 rfl ?_
    refine o1 (v := .c (.d (.lit (.int .i64 (l_0.l.length : Int))))) len_sd ?_
    refine o1 (v := .c (.d (.lit (.bool (decide (i1 < (l_0.l.length : Int))))))) rfl ?_
    refine o_end (e' := [(0, .c (.d (slD 2 c_ref20_Edge l_0))), (1, .c (.d (.lit (.int .i64 from_1)))), (2, .c (.d (.lit (.int .i64 to_2)))), (7, .c (.d (.lit (.int .i64 i1)))), (11, .c (.d (.lit (.bool (decide (i1 < (l_0.l.length : Int)))))))]) rfl rfl ?_
    refine after_n ?_
    refine w_cond (t := decide (i1 < (l_0.l.length : Int))) rfl (fun hb5 => ?_) (fun hb5 => ?_)
    · have hr := cnd_t hb5 hr
      refine w_skip ?_
      refine after_n ?_
      refine w_seq ?_
      refine w_block ?_
      refine w_seq ?_
      obtain ⟨n6, h7, hr⟩ := bnd hr
      refine w_join (J := fun s => Sub s ⟨[(0, .c (.d (slD 2 c_ref20_Edge l_0))), (1, .c (.d (.lit (.int .i64 from_1)))), (2, .c (.d (.lit (.int .i64 to_2)))), (7, .c (.d (.lit (.int .i64 i1)))), (29, .c (.d (.lit (.bool ((((gt l_0.l n6).From) == from_1) && (((gt l_0.l n6).To) == to_2))))))], [], 0, []⟩) ?_ ?_
      · refine w_region ?_
        iterate 2 refine o1 rfl ?_
        refine o1 (ix_sd h7) ?_
        iterate 3 refine o1 rfl ?_
        refine o1 (v := .c (.d (.lit (.bool (((gt l_0.l n6).From) == from_1))))) rfl ?_
        refine o1 rfl ?_
        cases hb9 : ((((gt l_0.l n6).From) == from_1) : Bool)
        · refine onot rfl rfl ?_
          iterate 6 refine onot rfl rfl ?_
          refine o1 rfl ?_
          exact o_join (sub_ren [] [0, 1, 2, 7, 29] (by decide) rfl .nil (Nat.le_of_ble_eq_true rfl))
        · refine og rfl rfl rfl ?_
          refine og rfl rfl rfl ?_
          refine og rfl rfl (ix_sd h7) ?_
          iterate 3 refine og rfl rfl rfl ?_
          refine og (v := .c (.d (.lit (.bool (((gt l_0.l n6).To) == to_2))))) rfl rfl rfl ?_
          refine o1 rfl ?_
          exact o_join (sub_ren [] [0, 1, 2, 7, 29] (by decide) rfl .nil (Nat.le_of_ble_eq_true rfl))
      · intro s hs10
        refine after_n ?_
        refine W.sub hs10 ?_
        refine w_cond (t := ((((gt l_0.l n6).From) == from_1) && (((gt l_0.l n6).To) == to_2))) rfl (fun hb11 => ?_) (fun hb11 => ?_)
        · have hr := cnd_t hb11 hr
          refine w_seq ?_
          refine w_region ?_
          refine o1 rfl ?_
          refine o_end (e' := [(6, .c (.d (.lit (.bool true))))]) rfl rfl ?_
          refine after_n ?_
          refine w_ret ?_
          refine out_r ?_
          refine after_r ?_
          obtain rfl := Option.some.inj hr
          exact And.intro nofun (And.intro rfl (sub_ren [] [6] (by decide) rfl .nil (Nat.le_of_ble_eq_true rfl)))
        · have hr := cnd_f hb11 hr
          refine w_skip ?_
          refine out_n ?_
          refine after_n ?_
          refine w_region ?_
          refine o1 rfl ?_
          refine o1 (v := .c (.d (.lit (.int .i64 (wr .i64 (i1 + 1)))))) rfl ?_
          refine o1 rfl ?_
          refine o_end (e' := [(0, .c (.d (slD 2 c_ref20_Edge l_0))), (1, .c (.d (.lit (.int .i64 from_1)))), (2, .c (.d (.lit (.int .i64 to_2)))), (7, .c (.d (.lit (.int .i64 (wr .i64 (i1 + 1))))))]) rfl rfl ?_
          obtain rfl := Option.some.inj hr
          exact And.intro rfl (sub_ren [] [0, 1, 2, 7] (by decide) rfl .nil (Nat.le_of_ble_eq_true rfl))
    · have hr := cnd_f hb5 hr
      refine w_exit ?_
      refine after_e ?_
      obtain rfl := Option.some.inj hr
      exact And.intro nofun (And.intro rfl (sub_ren [] [] (by decide) rfl .nil (Nat.le_of_ble_eq_true rfl)))

/- turnout/turnoutref20.free -/
def k20 : CC :=
  (.seq
  (.region [
    ⟨some 8, .mv, [(.const (.bool false))], none⟩] [0, 1, 2, 3])
  (.seq
  (.seq
  (.region [
    ⟨some 10, .mv, [(.tmp 2)], none⟩,
    ⟨some 11, .mv, [(.tmp 3)], none⟩,
    ⟨some 12, (.call true []), [(.func 23), (.tmp 10), (.tmp 11)], none⟩] [0, 1, 2, 3, 12])
  (.cond (.tmp 12)
    (.seq
    (.region [
      ⟨some 8, .mv, [(.const (.bool false))], none⟩] [8])
    .ret)
    .skip))
  (.seq
  (.seq
  (.region [
    ⟨some 9, .mv, [(.const (.int .i64 0))], none⟩] [0, 1, 2, 3, 9])
  (.block 0
    (.loop [0, 1, 2, 3, 9]
      (.seq
      (.seq
      (.region [
        ⟨some 13, .mv, [(.tmp 9)], none⟩,
        ⟨some 14, .mv, [(.tmp 0)], none⟩,
        ⟨some 15, (.bin .lss), [(.tmp 13), (.tmp 14)], none⟩] [0, 1, 2, 3, 9, 15])
      (.cond (.tmp 15)
        .skip
        (.exit 0)))
      (.seq
      (.block 1
        (.seq
        (.region [
          ⟨some 18, .mv, [(.tmp 1)], none⟩,
          ⟨some 19, .mv, [(.tmp 9)], none⟩,
          ⟨some 20, .mv, [(.tmp 3)], none⟩,
          ⟨some 21, (.call true []), [(.func 22), (.tmp 18), (.tmp 19), (.tmp 20)], none⟩,
          ⟨some 22, .mv, [(.tmp 21)], none⟩,
          ⟨some 23, .mv, [(.tmp 2)], (some (22, true))⟩,
          ⟨some 24, .mv, [(.tmp 9)], (some (22, true))⟩,
          ⟨some 25, (.call true []), [(.func 23), (.tmp 23), (.tmp 24)], (some (22, true))⟩,
          ⟨some 26, (.un .not), [(.tmp 25)], (some (22, true))⟩,
          ⟨some 27, .pick, [(.tmp 22), (.tmp 26), (.const (.bool false))], none⟩] [0, 1, 2, 3, 9, 27])
        (.cond (.tmp 27)
          (.seq
          (.region [
            ⟨some 8, .mv, [(.const (.bool false))], none⟩] [8])
          .ret)
          .skip)))
      (.region [
        ⟨some 16, .mv, [(.tmp 9)], none⟩,
        ⟨some 17, (.bin .add), [(.tmp 16), (.const (.int .i64 1))], none⟩,
        ⟨some 9, .mv, [(.tmp 17)], none⟩] [0, 1, 2, 3, 9]))))))
  (.seq
  (.region [
    ⟨some 8, .mv, [(.const (.bool true))], none⟩] [8])
  .ret))))
def f20 : Ev.Fn := ⟨4, 28, [.tmp 8], k20⟩
set_option maxRecDepth 100000 in
theorem e20 : compFn prog sig 20 4 [[0, 1, 2, 3], [0, 1, 2, 3, 12], [8], [0, 1, 2, 3, 9], [0, 1, 2, 3, 9], [0, 1, 2, 3, 9, 15], [0, 1, 2, 3, 9, 27], [8], [0, 1, 2, 3, 9], [8]] = some f20 := by kernel_rfl
noncomputable def ref20_free_L1 (n_0 : Int) (l_1 : Sl ref20_Edge) (out_2 : Sl Int) (i_3 : Int) : Int → Option (Sum (Int) (Sum (Unit) (Unit))) := fun i4 =>
  bif decide (i4 < n_0) then ((ref20_edge l_1 i4 i_3).bind fun r9 =>
  (bif r9 then ((ref20_has out_2 i4).bind fun r11 =>
  some (!r11)) else (some false)).bind fun b13 =>
  bif b13 then (some (.inr (.inl ()))) else
  (some (.inl (wr .i64 (i4 + 1))))) else
  (some (.inr (.inr ())))

noncomputable def ref20_free (n_0 : Int) (l_1 : Sl ref20_Edge) (out_2 : Sl Int) (i_3 : Int) : Option (Bool) :=
  (ref20_has out_2 i_3).bind fun r1 =>
  bif r1 then (some false) else
  ((loopO (ref20_free_L1 n_0 l_1 out_2 i_3) 0).bind fun
  | .inl _ => (some false)
  | .inr (_) => (some true))
theorem ref20_free_ok {n_0 : Int} {l_1 : Sl ref20_Edge} {out_2 : Sl Int} {i_3 : Int} {z : Bool} (hp : ref20_free n_0 l_1 out_2 i_3 = some z) : Good prog 20 [.d (.lit (.int .i64 n_0)), .d (slD 2 c_ref20_Edge l_1), .d (slD 1 cI_i64 out_2), .d (.lit (.int .i64 i_3))] [.c (.d (.lit (.bool z)))] [] := by
  unfold ref20_free at hp
  refine fn_good mixed e20 (fnS (m := [false]) (s := ⟨[(0, .c (.d (.lit (.int .i64 n_0)))), (1, .c (.d (slD 2 c_ref20_Edge l_1))), (2, .c (.d (slD 1 cI_i64 out_2))), (3, .c (.d (.lit (.int .i64 i_3))))], [], 0, []⟩) (len := 0) (c := k20) rfl (Sub.of_eq rfl) rfl rfl ?_)
  refine w_seq ?_
  refine w_region ?_
  refine o1 rfl ?_
  refine o_end (e' := [(0, .c (.d (.lit (.int .i64 n_0)))), (1, .c (.d (slD 2 c_ref20_Edge l_1))), (2, .c (.d (slD 1 cI_i64 out_2))), (3, .c (.d (.lit (.int .i64 i_3))))]) rfl rfl ?_
  refine after_n ?_
  refine w_seq ?_
  refine w_seq ?_
  obtain ⟨r1, h2, hp⟩ := bnd hp
  refine w_region ?_
  iterate 2 refine o1 rfl ?_
  refine oc (rs := [.c (.d (.lit (.bool r1)))]) (outs := []) rfl (ref20_has_ok h2) rfl ?_
  refine o_end (e' := [(0, .c (.d (.lit (.int .i64 n_0)))), (1, .c (.d (slD 2 c_ref20_Edge l_1))), (2, .c (.d (slD 1 cI_i64 out_2))), (3, .c (.d (.lit (.int .i64 i_3)))), (12, .c (.d (.lit (.bool r1))))]) rfl rfl ?_
  refine after_n ?_
  refine w_cond (t := r1) rfl (fun hb3 => ?_) (fun hb3 => ?_)
  · have hp := cnd_t hb3 hp
    refine w_seq ?_
    refine w_region ?_
    refine o1 rfl ?_
    refine o_end (e' := [(8, .c (.d (.lit (.bool false))))]) rfl rfl ?_
    refine after_n ?_
    refine w_ret ?_
    refine after_r ?_
    obtain rfl := Option.some.inj hp
    exact leave_at rfl rfl (pr_c p_d pr_nil) pc_nil rfl rfl
  · have hp := cnd_f hb3 hp
    refine w_skip ?_
    refine after_n ?_
    refine w_seq ?_
    refine w_seq ?_
    refine w_region ?_
    refine o1 rfl ?_
    refine o_end (e' := [(0, .c (.d (.lit (.int .i64 n_0)))), (1, .c (.d (slD 2 c_ref20_Edge l_1))), (2, .c (.d (slD 1 cI_i64 out_2))), (3, .c (.d (.lit (.int .i64 i_3)))), (9, .c (.d (.lit (.int .i64 0))))]) rfl rfl ?_
    refine after_n ?_
    refine w_block ?_
    obtain ⟨x6, h7, hp⟩ := bnd hp
    refine W.mono ?_ (w_loopS (st := fun (v : Int) => match v with | i4 => ⟨[(0, .c (.d (.lit (.int .i64 n_0)))), (1, .c (.d (slD 2 c_ref20_Edge l_1))), (2, .c (.d (slD 1 cI_i64 out_2))), (3, .c (.d (.lit (.int .i64 i_3)))), (9, .c (.d (.lit (.int .i64 i4))))], [], 0, []⟩) (a := 0) (Q := Jn (fun (x : Sum (Unit) (Unit)) o s => match x with | .inl _ => o = Out.ret ∧ Sub s ⟨[(8, .c (.d (.lit (.bool false))))], [], 0, []⟩ | .inr (_) => o = Out.exit 0 ∧ Sub s ⟨[], [], 0, []⟩)) ?_ h7 ?_)
    · intro o s hs18
      rcases x6 with (_ | _)
      · obtain ⟨rfl, hs18⟩ := hs18
        refine out_r ?_
        refine after_r ?_
        obtain rfl := Option.some.inj hp
        refine wk.sub hs18 ?_
        exact leave_at rfl rfl (pr_c p_d pr_nil) pc_nil rfl rfl
      · obtain ⟨rfl, hs18⟩ := hs18
        refine out_e ?_
        refine after_n ?_
        refine W.sub hs18 ?_
        refine w_seq ?_
        refine w_region ?_
        refine o1 rfl ?_
        refine o_end (e' := [(8, .c (.d (.lit (.bool true))))]) rfl rfl ?_
        refine after_n ?_
        refine w_ret ?_
        obtain rfl := Option.some.inj hp
        exact leave_at rfl rfl (pr_c p_d pr_nil) pc_nil rfl rfl
    · exact (sub_ren [] [0, 1, 2, 3, 9] (by decide) rfl .nil (Nat.le_of_ble_eq_true rfl))
    · rintro i4 r hr
      unfold ref20_free_L1 at hr
      refine w_seq ?_
      refine w_seq ?_
      refine w_region ?_
      iterate 2 refine o1 rfl ?_
      refine o1 (v := .c (.d (.lit (.bool (decide (i4 < n_0)))))) rfl ?_
      refine o_end (e' := [(0, .c (.d (.lit (.int .i64 n_0)))), (1, .c (.d (slD 2 c_ref20_Edge l_1))), (2, .c (.d (slD 1 cI_i64 out_2))), (3, .c (.d (.lit (.int .i64 i_3)))), (9, .c (.d (.lit (.int .i64 i4)))), (15, .c (.d (.lit (.bool (decide (i4 < n_0))))))]) rfl rfl ?_
      refine after_n ?_
      refine w_cond (t := decide (i4 < n_0)) rfl (fun hb8 => ?_) (fun hb8 => ?_)
      · have hr := cnd_t hb8 hr
        refine w_skip ?_
        refine after_n ?_
        refine w_seq ?_
        refine w_block ?_
        refine w_seq ?_
        obtain ⟨r9, h10, hr⟩ := bnd hr
        obtain ⟨b13, h14, hr⟩ := bnd hr
        refine w_join (J := fun s => Sub s ⟨[(0, .c (.d (.lit (.int .i64 n_0)))), (1, .c (.d (slD 2 c_ref20_Edge l_1))), (2, .c (.d (slD 1 cI_i64 out_2))), (3, .c (.d (.lit (.int .i64 i_3)))), (9, .c (.d (.lit (.int .i64 i4)))), (27, .c (.d (.lit (.bool b13))))], [], 0, []⟩) ?_ ?_
        · refine w_region ?_
          iterate 3 refine o1 rfl ?_
          refine oc (rs := [.c (.d (.lit (.bool r9)))]) (outs := []) rfl (ref20_edge_ok h10) rfl ?_
          refine o1 rfl ?_
          cases hb15 : (r9 : Bool)
          · have h14 := cnd_f hb15 h14
            iterate 4 refine onot rfl rfl ?_
            refine o1 rfl ?_
            cases h14
            exact o_join (sub_ren [] [0, 1, 2, 3, 9, 27] (by decide) rfl .nil (Nat.le_of_ble_eq_true rfl))
          · have h14 := cnd_t hb15 h14
            obtain ⟨r11, h12, h14⟩ := bnd h14
            iterate 2 refine og rfl rfl rfl ?_
            refine ocg (rs := [.c (.d (.lit (.bool r11)))]) (outs := []) rfl rfl rfl (ref20_has_ok h12) rfl ?_
            refine og (v := .c (.d (.lit (.bool (!r11))))) rfl rfl rfl ?_
            refine o1 rfl ?_
            cases h14
            exact o_join (sub_ren [] [0, 1, 2, 3, 9, 27] (by decide) rfl .nil (Nat.le_of_ble_eq_true rfl))
        · intro s hs16
          refine after_n ?_
          refine W.sub hs16 ?_
          refine w_cond (t := b13) rfl (fun hb17 => ?_) (fun hb17 => ?_)
          · have hr := cnd_t hb17 hr
            refine w_seq ?_
            refine w_region ?_
            refine o1 rfl ?_
            refine o_end (e' := [(8, .c (.d (.lit (.bool false))))]) rfl rfl ?_
            refine after_n ?_
            refine w_ret ?_
            refine out_r ?_
            refine after_r ?_
            obtain rfl := Option.some.inj hr
            exact And.intro nofun (And.intro rfl (sub_ren [] [8] (by decide) rfl .nil (Nat.le_of_ble_eq_true rfl)))
          · have hr := cnd_f hb17 hr
            refine w_skip ?_
            refine out_n ?_
            refine after_n ?_
            refine w_region ?_
            refine o1 rfl ?_
            refine o1 (v := .c (.d (.lit (.int .i64 (wr .i64 (i4 + 1)))))) rfl ?_
            refine o1 rfl ?_
            refine o_end (e' := [(0, .c (.d (.lit (.int .i64 n_0)))), (1, .c (.d (slD 2 c_ref20_Edge l_1))), (2, .c (.d (slD 1 cI_i64 out_2))), (3, .c (.d (.lit (.int .i64 i_3)))), (9, .c (.d (.lit (.int .i64 (wr .i64 (i4 + 1))))))]) rfl rfl ?_
            obtain rfl := Option.some.inj hr
            exact And.intro rfl (sub_ren [] [0, 1, 2, 3, 9] (by decide) rfl .nil (Nat.le_of_ble_eq_true rfl))
      · have hr := cnd_f hb8 hr
        refine w_exit ?_
        refine after_e ?_
        obtain rfl := Option.some.inj hr
        exact And.intro nofun (And.intro rfl (sub_ren [] [] (by decide) rfl .nil (Nat.le_of_ble_eq_true rfl)))

/- turnout/turnoutref20.Order -/
def k7 : CC :=
  (.seq
  (.region [
    ⟨some 4, .mv, [(.const (.slice none 0 0))], none⟩,
    ⟨some 5, .mv, [(.const (.bool false))], none⟩] [0, 1])
  (.seq
  (.seq
  (.region [
    ⟨some 9, .mv, [(.tmp 0)], none⟩,
    ⟨some 10, .mv, [(.tmp 1)], none⟩,
    ⟨some 11, (.call true []), [(.func 9), (.tmp 9), (.tmp 10)], none⟩,
    ⟨some 12, (.un .not), [(.tmp 11)], none⟩] [0, 1, 12])
  (.cond (.tmp 12)
    (.seq
    (.region [
      ⟨some 4, .mv, [(.const (.slice none 0 0))], none⟩,
      ⟨some 5, .mv, [(.const (.bool false))], none⟩] [4, 5])
    .ret)
    .skip))
  (.seq
  (.region [
    ⟨some 6, .mv, [(.const (.slice none 0 0))], none⟩] [0, 1, 6])
  (.seq
  (.block 0
    (.loop [0, 1, 6]
      (.seq
      (.seq
      (.region [
        ⟨some 13, .mv, [(.tmp 6)], none⟩,
        ⟨some 14, (.len false), [(.tmp 13)], none⟩,
        ⟨some 15, .mv, [(.tmp 0)], none⟩,
        ⟨some 16, (.bin .lss), [(.tmp 14), (.tmp 15)], none⟩] [0, 1, 6, 16])
      (.cond (.tmp 16)
        .skip
        (.exit 0)))
      (.block 1
        (.seq
        (.region [
          ⟨some 7, .mv, [(.const (.int .i64 (-1)))], none⟩] [0, 1, 6, 7])
        (.seq
        (.seq
        (.region [
          ⟨some 17, .mv, [(.tmp 0)], none⟩,
          ⟨some 18, (.bin .sub), [(.tmp 17), (.const (.int .i64 1))], none⟩,
          ⟨some 8, .mv, [(.tmp 18)], none⟩] [0, 1, 6, 7, 8])
        (.block 2
          (.loop [0, 1, 6, 7, 8]
            (.seq
            (.seq
            (.region [
              ⟨some 19, .mv, [(.tmp 8)], none⟩,
              ⟨some 20, (.bin .geq), [(.tmp 19), (.const (.int .i64 0))], none⟩] [0, 1, 6, 7, 8, 20])
            (.cond (.tmp 20)
              .skip
              (.exit 2)))
            (.seq
            (.block 3
              (.seq
              (.region [
                ⟨some 23, .mv, [(.tmp 0)], none⟩,
                ⟨some 24, .mv, [(.tmp 1)], none⟩,
                ⟨some 25, .mv, [(.tmp 6)], none⟩,
                ⟨some 26, .mv, [(.tmp 8)], none⟩,
                ⟨some 27, (.call true []), [(.func 20), (.tmp 23), (.tmp 24), (.tmp 25), (.tmp 26)], none⟩] [0, 1, 6, 7, 8, 27])
              (.cond (.tmp 27)
                (.region [
                  ⟨some 28, .mv, [(.tmp 8)], none⟩,
                  ⟨some 7, .mv, [(.tmp 28)], none⟩] [0, 1, 6, 7, 8])
                .skip)))
            (.region [
              ⟨some 21, .mv, [(.tmp 8)], none⟩,
              ⟨some 22, (.bin .sub), [(.tmp 21), (.const (.int .i64 1))], none⟩,
              ⟨some 8, .mv, [(.tmp 22)], none⟩] [0, 1, 6, 7, 8]))))))
        (.seq
        (.seq
        (.region [
          ⟨some 29, .mv, [(.tmp 7)], none⟩,
          ⟨some 30, (.bin .eql), [(.tmp 29), (.const (.int .i64 (-1)))], none⟩] [0, 1, 6, 7, 30])
        (.cond (.tmp 30)
          (.seq
          (.region [
            ⟨some 4, .mv, [(.const (.slice none 0 0))], none⟩,
            ⟨some 5, .mv, [(.const (.bool false))], none⟩] [4, 5])
          .ret)
          .skip))
        (.region [
          ⟨some 31, .mv, [(.tmp 6)], none⟩,
          ⟨some 32, .mv, [(.tmp 7)], none⟩,
          ⟨some 33, (.buildSlice 1 1 [(.int .i64 0)] [0]), [(.tmp 32)], none⟩,
          ⟨some 34, (.append 1), [(.tmp 31), (.tmp 33)], none⟩,
          ⟨some 6, .mv, [(.tmp 34)], none⟩] [0, 1, 6]))))))))
  (.seq
  (.region [
    ⟨some 35, .mv, [(.tmp 6)], none⟩,
    ⟨some 4, .mv, [(.tmp 35)], none⟩,
    ⟨some 5, .mv, [(.const (.bool true))], none⟩] [4, 5])
  .ret)))))
def f7 : Ev.Fn := ⟨2, 36, [.tmp 4, .tmp 5], k7⟩
set_option maxRecDepth 100000 in
theorem e7 : compFn prog sig 7 2 [[0, 1], [0, 1, 12], [4, 5], [0, 1, 6], [0, 1, 6], [0, 1, 6, 16], [0, 1, 6, 7], [0, 1, 6, 7, 8], [0, 1, 6, 7, 8], [0, 1, 6, 7, 8, 20], [0, 1, 6, 7, 8, 27], [0, 1, 6, 7, 8], [0, 1, 6, 7, 8], [0, 1, 6, 7, 30], [4, 5], [0, 1, 6], [4, 5]] = some f7 := by kernel_rfl
noncomputable def ref20_Order_L2 (n_0 : Int) (l_1 : Sl ref20_Edge) (s4 : Sl Int) : (Int × Int) → Option (Sum ((Int × Int)) (Int)) := fun (i10, i11) =>
  bif decide (i11 ≥ 0) then (((ref20_free n_0 l_1 s4 i11).bind fun r21 =>
  bif r21 then (some i11) else
  (some i10) : Option (Int)).bind fun i18 =>
  some (.inl (i18, wr .i64 (i11 - 1)))) else
  (some (.inr i10))

noncomputable def ref20_Order_L1 (n_0 : Int) (l_1 : Sl ref20_Edge) : (Sl Int) → Option (Sum (Sl Int) (Sum (Unit) (Sl Int))) := fun s4 =>
  bif decide ((s4.l.length : Int) < n_0) then ((loopO (ref20_Order_L2 n_0 l_1 s4) ((-1), wr .i64 (n_0 - 1))).bind fun i14 =>
  bif (i14 == (-1)) then (some (.inr (.inl ()))) else
  ((capI (s4.l ++ [i14])).bind fun l28 =>
  some (.inl (Sl.mk l28)))) else
  (some (.inr (.inr s4)))

noncomputable def ref20_Order (n_0 : Int) (l_1 : Sl ref20_Edge) : Option ((Sl Int × Bool)) :=
  (ref20_Right n_0 l_1).bind fun r1 =>
  bif (!r1) then (some (Sl.nil, false)) else
  ((loopO (ref20_Order_L1 n_0 l_1) Sl.nil).bind fun
  | .inl _ => (some (Sl.nil, false))
  | .inr (s6) => (some (s6, true)))
theorem ref20_Order_ok {n_0 : Int} {l_1 : Sl ref20_Edge} {z : (Sl Int × Bool)} (hp : ref20_Order n_0 l_1 = some z) : Good prog 7 [.d (.lit (.int .i64 n_0)), .d (slD 2 c_ref20_Edge l_1)] [.c (.d (slD 1 cI_i64 z.1)), .c (.d (.lit (.bool z.2)))] [] := by
  unfold ref20_Order at hp
  refine fn_good mixed e7 (fnS (m := [true, false]) (s := ⟨[(0, .c (.d (.lit (.int .i64 n_0)))), (1, .c (.d (slD 2 c_ref20_Edge l_1)))], [], 0, []⟩) (len := 0) (c := k7) rfl (Sub.of_eq rfl) rfl rfl ?_)
  refine w_seq ?_
  refine w_region ?_
  iterate 2 refine o1 rfl ?_
  refine o_end (e' := [(0, .c (.d (.lit (.int .i64 n_0)))), (1, .c (.d (slD 2 c_ref20_Edge l_1)))]) rfl rfl ?_
  refine after_n ?_
  refine w_seq ?_
  refine w_seq ?_
  obtain ⟨r1, h2, hp⟩ := bnd hp
  refine w_region ?_
  iterate 2 refine o1 rfl ?_
  refine oc (rs := [.c (.d (.lit (.bool r1)))]) (outs := []) rfl (ref20_Right_ok h2) rfl ?_
  refine o1 (v := .c (.d (.lit (.bool (!r1))))) rfl ?_
  refine o_end (e' := [(0, .c (.d (.lit (.int .i64 n_0)))), (1, .c (.d (slD 2 c_ref20_Edge l_1))), (12, .c (.d (.lit (.bool (!r1)))))]) rfl rfl ?_
  refine after_n ?_
  refine w_cond (t := (!r1)) rfl (fun hb3 => ?_) (fun hb3 => ?_)
  · have hp := cnd_t hb3 hp
    refine w_seq ?_
    refine w_region ?_
    iterate 2 refine o1 rfl ?_
    refine o_end (e' := [(4, .c (.d (.lit (.slice none 0 0)))), (5, .c (.d (.lit (.bool false))))]) rfl rfl ?_
    refine after_n ?_
    refine w_ret ?_
    refine after_r ?_
    obtain rfl := Option.some.inj hp
    exact leave_at rfl rfl (pr_c p_d (pr_c p_d pr_nil)) pc_nil rfl rfl
  · have hp := cnd_f hb3 hp
    refine w_skip ?_
    refine after_n ?_
    refine w_seq ?_
    refine w_region ?_
    refine o1 rfl ?_
    refine o_end (e' := [(0, .c (.d (.lit (.int .i64 n_0)))), (1, .c (.d (slD 2 c_ref20_Edge l_1))), (6, .c (.d (.lit (.slice none 0 0))))]) rfl rfl ?_
    refine after_n ?_
    refine w_seq ?_
    refine w_block ?_
    obtain ⟨x7, h8, hp⟩ := bnd hp
    refine W.mono ?_ (w_loopS (st := fun (v : Sl Int) => match v with | s4 => ⟨[(0, .c (.d (.lit (.int .i64 n_0)))), (1, .c (.d (slD 2 c_ref20_Edge l_1))), (6, .c (slC 1 cI_i64 0 s4))], [(0, slO 1 cI_i64 s4)], 1, []⟩) (a := Sl.nil) (Q := Jn (fun (x : Sum (Unit) (Sl Int)) o s => match x with | .inl _ => o = Out.ret ∧ Sub s ⟨[(4, .c (.d (.lit (.slice none 0 0)))), (5, .c (.d (.lit (.bool false))))], [], 0, []⟩ | .inr (s6) => o = Out.exit 0 ∧ Sub s ⟨[(6, .c (slC 1 cI_i64 0 s6))], [(0, slO 1 cI_i64 s6)], 1, []⟩)) ?_ h8 ?_)
    · intro o s hs31
      rcases x7 with (_ | s6)
      · obtain ⟨rfl, hs31⟩ := hs31
        refine out_r ?_
        refine after_r ?_
        obtain rfl := Option.some.inj hp
        refine wk.sub hs31 ?_
        exact leave_at rfl rfl (pr_c p_d (pr_c p_d pr_nil)) pc_nil rfl rfl
      · obtain ⟨rfl, hs31⟩ := hs31
        refine out_e ?_
        refine after_n ?_
        refine W.sub hs31 ?_
        refine w_seq ?_
        refine w_region ?_
        iterate 3 refine o1 rfl ?_
        refine o_end (e' := [(4, .c (slC 1 cI_i64 0 s6)), (5, .c (.d (.lit (.bool true))))]) rfl rfl ?_
        refine after_n ?_
        refine w_ret ?_
        obtain rfl := Option.some.inj hp
        rcases s6 with _ | s6'
        · exact leave_at rfl rfl (pr_c p_d (pr_c p_d pr_nil)) pc_nil rfl rfl
        · exact leave_at rfl rfl (pr_c (p_o rfl) (pr_c p_d pr_nil)) pc_nil rfl rfl
    · exact (sub_ren [9000] [0, 1, 6] (by decide) rfl (.skip .nil) (Nat.le_of_ble_eq_true rfl))
    · rintro s4 r hr
      unfold ref20_Order_L1 at hr
      refine w_seq ?_
      refine w_seq ?_
      refine w_region ?_
      refine o1 rfl ?_
      refine o1 (v := .c (.d (.lit (.int .i64 (s4.l.length : Int))))) len_c ?_
      refine o1 rfl ?_
      refine o1 (v := .c (.d (.lit (.bool (decide ((s4.l.length : Int) < n_0)))))) rfl ?_
      refine o_end (e' := [(0, .c (.d (.lit (.int .i64 n_0)))), (1, .c (.d (slD 2 c_ref20_Edge l_1))), (6, .c (slC 1 cI_i64 0 s4)), (16, .c (.d (.lit (.bool (decide ((s4.l.length : Int) < n_0))))))]) rfl rfl ?_
      refine after_n ?_
      refine w_cond (t := decide ((s4.l.length : Int) < n_0)) rfl (fun hb9 => ?_) (fun hb9 => ?_)
      · have hr := cnd_t hb9 hr
        refine w_skip ?_
        refine after_n ?_
        refine w_block ?_
        refine w_seq ?_
        refine w_region ?_
        refine o1 rfl ?_
        refine o_end (e' := [(0, .c (.d (.lit (.int .i64 n_0)))), (1, .c (.d (slD 2 c_ref20_Edge l_1))), (6, .c (slC 1 cI_i64 0 s4)), (7, .c (.d (.lit (.int .i64 (-1)))))]) rfl rfl ?_
        refine after_n ?_
        refine w_seq ?_
        refine w_seq ?_
        refine w_region ?_
        refine o1 rfl ?_
        refine o1 (v := .c (.d (.lit (.int .i64 (wr .i64 (n_0 - 1)))))) rfl ?_
        refine o1 rfl ?_
        refine o_end (e' := [(0, .c (.d (.lit (.int .i64 n_0)))), (1, .c (.d (slD 2 c_ref20_Edge l_1))), (6, .c (slC 1 cI_i64 0 s4)), (7, .c (.d (.lit (.int .i64 (-1))))), (8, .c (.d (.lit (.int .i64 (wr .i64 (n_0 - 1))))))]) rfl rfl ?_
        refine after_n ?_
        refine w_block ?_
        obtain ⟨i14, h16, hr⟩ := bnd hr
        refine W.mono ?_ (w_loopS (st := fun (v : (Int × Int)) => match v with | (i10, i11) => ⟨[(0, .c (.d (.lit (.int .i64 n_0)))), (1, .c (.d (slD 2 c_ref20_Edge l_1))), (6, .c (slC 1 cI_i64 0 s4)), (7, .c (.d (.lit (.int .i64 i10)))), (8, .c (.d (.lit (.int .i64 i11))))], [(0, slO 1 cI_i64 s4)], 1, []⟩) (a := ((-1), wr .i64 (n_0 - 1))) (Q := Jn (fun (x : Int) o s => match x with | i14 => o = Out.exit 2 ∧ Sub s ⟨[(0, .c (.d (.lit (.int .i64 n_0)))), (1, .c (.d (slD 2 c_ref20_Edge l_1))), (6, .c (slC 1 cI_i64 0 s4)), (7, .c (.d (.lit (.int .i64 i14))))], [(0, slO 1 cI_i64 s4)], 1, []⟩)) ?_ h16 ?_)
        · intro o s hs26
          obtain ⟨rfl, hs26⟩ := hs26
          refine out_e ?_
          refine after_n ?_
          refine W.sub hs26 ?_
          refine w_seq ?_
          refine w_seq ?_
          refine w_region ?_
          refine o1 rfl ?_
          refine o1 (v := .c (.d (.lit (.bool (i14 == (-1)))))) rfl ?_
          refine o_end (e' := [(0, .c (.d (.lit (.int .i64 n_0)))), (1, .c (.d (slD 2 c_ref20_Edge l_1))), (6, .c (slC 1 cI_i64 0 s4)), (7, .c (.d (.lit (.int .i64 i14)))), (30, .c (.d (.lit (.bool (i14 == (-1))))))]) rfl rfl ?_
          refine after_n ?_
          refine w_cond (t := (i14 == (-1))) rfl (fun hb27 => ?_) (fun hb27 => ?_)
          · have hr := cnd_t hb27 hr
            refine w_seq ?_
            refine w_region ?_
            iterate 2 refine o1 rfl ?_
            refine o_end (e' := [(4, .c (.d (.lit (.slice none 0 0)))), (5, .c (.d (.lit (.bool false))))]) rfl rfl ?_
            refine after_n ?_
            refine w_ret ?_
            refine after_r ?_
            refine out_r ?_
            obtain rfl := Option.some.inj hr
            exact And.intro nofun (And.intro rfl (sub_ren [] [4, 5] (by decide) rfl .nil (Nat.le_of_ble_eq_true rfl)))
          · have hr := cnd_f hb27 hr
            refine w_skip ?_
            refine after_n ?_
            obtain ⟨l28, h29, hr⟩ := bnd hr
            refine w_join (J := fun s => Sub s ⟨[(0, .c (.d (.lit (.int .i64 n_0)))), (1, .c (.d (slD 2 c_ref20_Edge l_1))), (6, .c (slC 1 cI_i64 0 (Sl.mk l28)))], [(0, slO 1 cI_i64 (Sl.mk l28))], 1, []⟩) ?_ ?_
            · rcases s4 with _ | s4'
              · try dsimp only [slC, slO]
                refine w_region ?_
                iterate 2 refine o1 rfl ?_
                refine o2 rfl ?_
                refine o2 (app_nil (enc := cI_i64) rfl h29) ?_
                refine o1 rfl ?_
                exact o_join (sub_ren [2] [0, 1, 6] (by decide) rfl (.cons .nil) (Nat.le_of_ble_eq_true rfl))
              · try dsimp only [slC, slO]
                refine w_region ?_
                iterate 2 refine o1 rfl ?_
                refine o2 rfl ?_
                refine o2 (app_o rfl rfl h29) ?_
                refine o1 rfl ?_
                exact o_join (sub_ren [2] [0, 1, 6] (by decide) rfl (.cons .nil) (Nat.le_of_ble_eq_true rfl))
            · intro s hs30
              refine out_n ?_
              obtain rfl := Option.some.inj hr
              exact And.intro rfl (Sub.trans hs30 (sub_ren [0] [0, 1, 6] (by decide) rfl (.cons .nil) (Nat.le_of_ble_eq_true rfl)))
        · exact (by rcases s4 with _ | _ <;> first | (exact sub_ren [9000] [0, 1, 6, 7, 8] (by decide) rfl (.skip .nil) (Nat.le_of_ble_eq_true rfl)) | (exact sub_ren [0] [0, 1, 6, 7, 8] (by decide) rfl (.cons .nil) (Nat.le_of_ble_eq_true rfl)))
        · rintro ⟨i10, i11⟩ r hr
          unfold ref20_Order_L2 at hr
          refine w_seq ?_
          refine w_seq ?_
          refine w_region ?_
          refine o1 rfl ?_
          refine o1 (v := .c (.d (.lit (.bool (decide (i11 ≥ 0)))))) rfl ?_
          refine o_end (e' := [(0, .c (.d (.lit (.int .i64 n_0)))), (1, .c (.d (slD 2 c_ref20_Edge l_1))), (6, .c (slC 1 cI_i64 0 s4)), (7, .c (.d (.lit (.int .i64 i10)))), (8, .c (.d (.lit (.int .i64 i11)))), (20, .c (.d (.lit (.bool (decide (i11 ≥ 0))))))]) rfl rfl ?_
          refine after_n ?_
          refine w_cond (t := decide (i11 ≥ 0)) rfl (fun hb17 => ?_) (fun hb17 => ?_)
          · have hr := cnd_t hb17 hr
            refine w_skip ?_
            refine after_n ?_
            refine w_seq ?_
            obtain ⟨i18, h19, hr⟩ := bnd hr
            refine W.mono (Q := Jn (fun (x : Int) o s => match x with | i18 => o = Out.normal ∧ Sub s ⟨[(0, .c (.d (.lit (.int .i64 n_0)))), (1, .c (.d (slD 2 c_ref20_Edge l_1))), (6, .c (slC 1 cI_i64 0 s4)), (7, .c (.d (.lit (.int .i64 i18)))), (8, .c (.d (.lit (.int .i64 i11))))], [(0, slO 1 cI_i64 s4)], 1, []⟩) i18) ?_ ?_
            · intro o s hs25
              obtain ⟨rfl, hs25⟩ := hs25
              refine after_n ?_
              refine W.sub hs25 ?_
              refine w_region ?_
              refine o1 rfl ?_
              refine o1 (v := .c (.d (.lit (.int .i64 (wr .i64 (i11 - 1)))))) rfl ?_
              refine o1 rfl ?_
              refine o_end (e' := [(0, .c (.d (.lit (.int .i64 n_0)))), (1, .c (.d (slD 2 c_ref20_Edge l_1))), (6, .c (slC 1 cI_i64 0 s4)), (7, .c (.d (.lit (.int .i64 i18)))), (8, .c (.d (.lit (.int .i64 (wr .i64 (i11 - 1))))))]) rfl rfl ?_
              obtain rfl := Option.some.inj hr
              exact And.intro rfl (by rcases s4 with _ | _ <;> first | (exact sub_ren [9000] [0, 1, 6, 7, 8] (by decide) rfl (.skip .nil) (Nat.le_of_ble_eq_true rfl)) | (exact sub_ren [0] [0, 1, 6, 7, 8] (by decide) rfl (.cons .nil) (Nat.le_of_ble_eq_true rfl)))
            · refine w_block ?_
              refine w_seq ?_
              obtain ⟨r21, h22, h19⟩ := bnd h19
              refine w_join (J := fun s => Sub s ⟨[(0, .c (.d (.lit (.int .i64 n_0)))), (1, .c (.d (slD 2 c_ref20_Edge l_1))), (6, .c (slC 1 cI_i64 0 s4)), (7, .c (.d (.lit (.int .i64 i10)))), (8, .c (.d (.lit (.int .i64 i11)))), (27, .c (.d (.lit (.bool r21))))], [(0, slO 1 cI_i64 s4)], 1, []⟩) ?_ ?_
              · rcases s4 with _ | s4'
                · try dsimp only [slC, slO]
                  refine w_region ?_
                  iterate 4 refine o1 rfl ?_
                  refine oc (rs := [.c (.d (.lit (.bool r21)))]) (outs := []) rfl (ref20_free_ok h22) rfl ?_
                  exact o_join (sub_ren [9000] [0, 1, 6, 7, 8, 27] (by decide) rfl (.skip .nil) (Nat.le_of_ble_eq_true rfl))
                · try dsimp only [slC, slO]
                  refine w_region ?_
                  iterate 4 refine o1 rfl ?_
                  refine oc' (rs := [.c (.d (.lit (.bool r21)))]) (outs := []) (call_at rfl rfl (ea_c rfl rfl (ea_c rfl rfl (ea_c (v_o rfl) rfl (ea_c rfl rfl ea_nil)))) wh_nil rfl rfl) (ref20_free_ok h22) ?_
                  exact o_join (sub_ren [0] [0, 1, 6, 7, 8, 27] (by decide) rfl (.cons .nil) (Nat.le_of_ble_eq_true rfl))
              · intro s hs23
                refine after_n ?_
                refine W.sub hs23 ?_
                refine w_cond (t := r21) rfl (fun hb24 => ?_) (fun hb24 => ?_)
                · have h19 := cnd_t hb24 h19
                  refine w_region ?_
                  iterate 2 refine o1 rfl ?_
                  refine o_end (e' := [(0, .c (.d (.lit (.int .i64 n_0)))), (1, .c (.d (slD 2 c_ref20_Edge l_1))), (6, .c (slC 1 cI_i64 0 s4)), (7, .c (.d (.lit (.int .i64 i11)))), (8, .c (.d (.lit (.int .i64 i11))))]) rfl rfl ?_
                  refine out_n ?_
                  obtain rfl := Option.some.inj h19
                  exact And.intro rfl (by rcases s4 with _ | _ <;> first | (exact sub_ren [9000] [0, 1, 6, 7, 8] (by decide) rfl (.skip .nil) (Nat.le_of_ble_eq_true rfl)) | (exact sub_ren [0] [0, 1, 6, 7, 8] (by decide) rfl (.cons .nil) (Nat.le_of_ble_eq_true rfl)))
                · have h19 := cnd_f hb24 h19
                  refine w_skip ?_
                  refine out_n ?_
                  obtain rfl := Option.some.inj h19
                  exact And.intro rfl (by rcases s4 with _ | _ <;> first | (exact sub_ren [9000] [0, 1, 6, 7, 8] (by decide) rfl (.skip .nil) (Nat.le_of_ble_eq_true rfl)) | (exact sub_ren [0] [0, 1, 6, 7, 8] (by decide) rfl (.cons .nil) (Nat.le_of_ble_eq_true rfl)))
          · have hr := cnd_f hb17 hr
            refine w_exit ?_
            refine after_e ?_
            obtain rfl := Option.some.inj hr
            exact And.intro nofun (And.intro rfl (by rcases s4 with _ | _ <;> first | (exact sub_ren [9000] [0, 1, 6, 7] (by decide) rfl (.skip .nil) (Nat.le_of_ble_eq_true rfl)) | (exact sub_ren [0] [0, 1, 6, 7] (by decide) rfl (.cons .nil) (Nat.le_of_ble_eq_true rfl))))
      · have hr := cnd_f hb9 hr
        refine w_exit ?_
        refine after_e ?_
        obtain rfl := Option.some.inj hr
        exact And.intro nofun (And.intro rfl (by rcases s4 with _ | _ <;> first | (exact sub_ren [9000] [6] (by decide) rfl (.skip .nil) (Nat.le_of_ble_eq_true rfl)) | (exact sub_ren [0] [6] (by decide) rfl (.cons .nil) (Nat.le_of_ble_eq_true rfl))))

/- turnout/graph.Reach -/
def k11 : CC :=
  (.seq
  (.region [
    ⟨some 6, .mv, [(.const (.slice none 0 0))], none⟩] [0, 1, 2])
  (.seq
  (.seq
  (.region [
    ⟨some 10, .mv, [(.tmp 0)], none⟩,
    ⟨some 11, .mv, [(.tmp 1)], none⟩,
    ⟨some 12, (.call true []), [(.func 8), (.tmp 10), (.tmp 11)], none⟩,
    ⟨some 13, (.un .not), [(.tmp 12)], none⟩,
    ⟨some 14, .mv, [(.tmp 13)], none⟩,
    ⟨some 15, .mv, [(.tmp 2)], (some (14, false))⟩,
    ⟨some 16, (.bin .lss), [(.tmp 15), (.const (.int .i64 0))], (some (14, false))⟩,
    ⟨some 17, .pick, [(.tmp 14), (.const (.bool true)), (.tmp 16)], none⟩,
    ⟨some 18, .mv, [(.tmp 17)], none⟩,
    ⟨some 19, .mv, [(.tmp 2)], (some (18, false))⟩,
    ⟨some 20, .mv, [(.tmp 0)], (some (18, false))⟩,
    ⟨some 21, (.bin .geq), [(.tmp 19), (.tmp 20)], (some (18, false))⟩,
    ⟨some 22, .pick, [(.tmp 18), (.const (.bool true)), (.tmp 21)], none⟩] [0, 1, 2, 22])
  (.cond (.tmp 22)
    (.seq
    (.region [
      ⟨some 6, .mv, [(.const (.slice none 0 0))], none⟩] [6])
    .ret)
    .skip))
  (.seq
  (.region [
    ⟨some 23, .mv, [(.tmp 0)], none⟩,
    ⟨some 24, .mv, [(.tmp 1)], none⟩,
    ⟨some 25, (.call false []), [(.func 17), (.tmp 23), (.tmp 24)], none⟩,
    ⟨some 7, .mv, [(.tmp 25)], none⟩] [2, 7])
  (.seq
  (.region [
    ⟨some 26, .mv, [(.tmp 2)], none⟩,
    ⟨some 27, (.bin .shl), [(.const (.int .u16 1)), (.tmp 26)], none⟩,
    ⟨some 8, .mv, [(.tmp 27)], none⟩] [7, 8])
  (.block 0
    (.loop [7, 8]
      (.block 1
        (.seq
        (.region [
          ⟨some 28, .mv, [(.tmp 8)], none⟩,
          ⟨some 29, .mv, [(.tmp 7)], none⟩,
          ⟨some 30, .mv, [(.tmp 8)], none⟩,
          ⟨some 31, (.call true []), [(.func 18), (.tmp 29), (.tmp 30)], none⟩,
          ⟨some 32, (.bin .or), [(.tmp 28), (.tmp 31)], none⟩,
          ⟨some 9, .mv, [(.tmp 32)], none⟩] [7, 8, 9])
        (.seq
        (.seq
        (.region [
          ⟨some 33, .mv, [(.tmp 9)], none⟩,
          ⟨some 34, .mv, [(.tmp 8)], none⟩,
          ⟨some 35, (.bin .eql), [(.tmp 33), (.tmp 34)], none⟩] [7, 8, 9, 35])
        (.cond (.tmp 35)
          (.seq
          (.region [
            ⟨some 36, .mv, [(.tmp 8)], none⟩,
            ⟨some 37, (.call false []), [(.func 21), (.tmp 36)], none⟩,
            ⟨some 6, .mv, [(.tmp 37)], none⟩] [6])
          .ret)
          .skip))
        (.region [
          ⟨some 38, .mv, [(.tmp 9)], none⟩,
          ⟨some 8, .mv, [(.tmp 38)], none⟩] [7, 8]))))))))))
def f11 : Ev.Fn := ⟨3, 39, [.tmp 6], k11⟩
set_option maxRecDepth 100000 in
theorem e11 : compFn prog sig 11 3 [[0, 1, 2], [0, 1, 2, 22], [6], [2, 7], [7, 8], [7, 8], [7, 8, 9], [7, 8, 9, 35], [6], [7, 8]] = some f11 := by kernel_rfl
noncomputable def graph_Reach_L1 (r8 : Sl Int) : Int → Option (Sum (Int) (Sl Int)) := fun i12 =>
  (graph_over r8 i12).bind fun r17 =>
  bif ((bOr .u16 i12 r17) == i12) then ((graph_list i12).bind fun r20 =>
  some (.inr r20)) else
  (some (.inl (bOr .u16 i12 r17)))

noncomputable def graph_Reach (n_0 : Int) (l_1 : Sl graph_Edge) (from_2 : Int) : Option (Sl Int) :=
  (graph_Right n_0 l_1).bind fun r1 =>
  bif ((!r1) || ((decide (from_2 < 0)) || (decide (from_2 ≥ n_0)))) then (some Sl.nil) else
  ((graph_next n_0 l_1).bind fun r8 =>
  (shlI .u16 1 from_2).bind fun x10 =>
  (loopO (graph_Reach_L1 r8) x10).bind fun s14 =>
  some s14)
theorem graph_Reach_ok {n_0 : Int} {l_1 : Sl graph_Edge} {from_2 : Int} {z : Sl Int} (hp : graph_Reach n_0 l_1 from_2 = some z) : Good prog 11 [.d (.lit (.int .i64 n_0)), .d (slD 2 c_graph_Edge l_1), .d (.lit (.int .i64 from_2))] [.c (.d (slD 1 cI_i64 z))] [] := by
  unfold graph_Reach at hp
  refine fn_good mixed e11 (fnS (m := [true]) (s := ⟨[(0, .c (.d (.lit (.int .i64 n_0)))), (1, .c (.d (slD 2 c_graph_Edge l_1))), (2, .c (.d (.lit (.int .i64 from_2))))], [], 0, []⟩) (len := 0) (c := k11) rfl (Sub.of_eq rfl) rfl rfl ?_)
  refine w_seq ?_
  refine w_region ?_
  refine o1 rfl ?_
  refine o_end (e' := [(0, .c (.d (.lit (.int .i64 n_0)))), (1, .c (.d (slD 2 c_graph_Edge l_1))), (2, .c (.d (.lit (.int .i64 from_2))))]) rfl rfl ?_
  refine after_n ?_
  refine w_seq ?_
  refine w_seq ?_
  obtain ⟨r1, h2, hp⟩ := bnd hp
  refine w_join (J := fun s => Sub s ⟨[(0, .c (.d (.lit (.int .i64 n_0)))), (1, .c (.d (slD 2 c_graph_Edge l_1))), (2, .c (.d (.lit (.int .i64 from_2)))), (22, .c (.d (.lit (.bool ((!r1) || ((decide (from_2 < 0)) || (decide (from_2 ≥ n_0))))))))], [], 0, []⟩) ?_ ?_
  · refine w_region ?_
    iterate 2 refine o1 rfl ?_
    refine oc (rs := [.c (.d (.lit (.bool r1)))]) (outs := []) rfl (graph_Right_ok h2) rfl ?_
    refine o1 (v := .c (.d (.lit (.bool (!r1))))) rfl ?_
    refine o1 rfl ?_
    cases hb4 : ((!r1) : Bool)
    · refine og rfl rfl rfl ?_
      refine og (v := .c (.d (.lit (.bool (decide (from_2 < 0)))))) rfl rfl rfl ?_
      iterate 2 refine o1 rfl ?_
      cases hb5 : (decide (from_2 < 0) : Bool)
      · refine og rfl rfl rfl ?_
        refine og rfl rfl rfl ?_
        refine og (v := .c (.d (.lit (.bool (decide (from_2 ≥ n_0)))))) rfl rfl rfl ?_
        refine o1 rfl ?_
        exact o_join (sub_ren [] [0, 1, 2, 22] (by decide) rfl .nil (Nat.le_of_ble_eq_true rfl))
      · refine onot rfl rfl ?_
        iterate 2 refine onot rfl rfl ?_
        refine o1 rfl ?_
        exact o_join (sub_ren [] [0, 1, 2, 22] (by decide) rfl .nil (Nat.le_of_ble_eq_true rfl))
    · refine onot rfl rfl ?_
      refine onot rfl rfl ?_
      iterate 2 refine o1 rfl ?_
      iterate 3 refine onot rfl rfl ?_
      refine o1 rfl ?_
      exact o_join (sub_ren [] [0, 1, 2, 22] (by decide) rfl .nil (Nat.le_of_ble_eq_true rfl))
  · intro s hs6
    refine after_n ?_
    refine W.sub hs6 ?_
    refine w_cond (t := ((!r1) || ((decide (from_2 < 0)) || (decide (from_2 ≥ n_0))))) rfl (fun hb7 => ?_) (fun hb7 => ?_)
    · have hp := cnd_t hb7 hp
      refine w_seq ?_
      refine w_region ?_
      refine o1 rfl ?_
      refine o_end (e' := [(6, .c (.d (.lit (.slice none 0 0))))]) rfl rfl ?_
      refine after_n ?_
      refine w_ret ?_
      refine after_r ?_
      obtain rfl := Option.some.inj hp
      exact leave_at rfl rfl (pr_c p_d pr_nil) pc_nil rfl rfl
    · have hp := cnd_f hb7 hp
      refine w_skip ?_
      refine after_n ?_
      refine w_seq ?_
      obtain ⟨r8, h9, hp⟩ := bnd hp
      refine w_region ?_
      iterate 2 refine o1 rfl ?_
      refine oc (rs := [.c (.d (slD 1 cI_u16 r8))]) (outs := []) rfl (graph_next_ok h9) rfl ?_
      refine o1 rfl ?_
      refine o_end (e' := [(2, .c (.d (.lit (.int .i64 from_2)))), (7, .c (.d (slD 1 cI_u16 r8)))]) rfl rfl ?_
      refine after_n ?_
      refine w_seq ?_
      obtain ⟨x10, h11, hp⟩ := bnd hp
      refine w_region ?_
      refine o1 rfl ?_
      refine o1 (v := .c (.d (.lit (.int .u16 x10)))) (ev_shl h11) ?_
      refine o1 rfl ?_
      refine o_end (e' := [(7, .c (.d (slD 1 cI_u16 r8))), (8, .c (.d (.lit (.int .u16 x10))))]) rfl rfl ?_
      refine after_n ?_
      refine w_block ?_
      obtain ⟨s14, h16, hp⟩ := bnd hp
      refine W.mono ?_ (w_loopS (st := fun (v : Int) => match v with | i12 => ⟨[(7, .c (.d (slD 1 cI_u16 r8))), (8, .c (.d (.lit (.int .u16 i12))))], [], 0, []⟩) (a := x10) (Q := Jn (fun (x : Sl Int) o s => match x with | s14 => o = Out.ret ∧ Sub s ⟨[(6, .c (.d (slD 1 cI_i64 s14)))], [], 0, []⟩)) ?_ h16 ?_)
      · intro o s hs22
        obtain ⟨rfl, hs22⟩ := hs22
        refine out_r ?_
        obtain rfl := Option.some.inj hp
        refine wk.sub hs22 ?_
        exact leave_at rfl rfl (pr_c p_d pr_nil) pc_nil rfl rfl
      · exact (sub_ren [] [7, 8] (by decide) rfl .nil (Nat.le_of_ble_eq_true rfl))
      · rintro i12 r hr
        unfold graph_Reach_L1 at hr
        refine w_block ?_
        refine w_seq ?_
        obtain ⟨r17, h18, hr⟩ := bnd hr
        refine w_region ?_
        iterate 3 refine o1 rfl ?_
        refine oc (rs := [.c (.d (.lit (.int .u16 r17)))]) (outs := []) rfl (graph_over_ok h18) rfl ?_
        refine o1 (v := .c (.d (.lit (.int .u16 (bOr .u16 i12 r17))))) rfl ?_
        refine o1 rfl ?_
        refine o_end (e' := [(7, .c (.d (slD 1 cI_u16 r8))), (8, .c (.d (.lit (.int .u16 i12)))), (9, .c (.d (.lit (.int .u16 (bOr .u16 i12 r17)))))]) rfl rfl ?_
        refine after_n ?_
        refine w_seq ?_
        refine w_seq ?_
        refine w_region ?_
        iterate 2 refine o1 rfl ?_
        refine o1 (v := .c (.d (.lit (.bool ((bOr .u16 i12 r17) == i12))))) rfl ?_
        refine o_end (e' := [(7, .c (.d (slD 1 cI_u16 r8))), (8, .c (.d (.lit (.int .u16 i12)))), (9, .c (.d (.lit (.int .u16 (bOr .u16 i12 r17))))), (35, .c (.d (.lit (.bool ((bOr .u16 i12 r17) == i12)))))]) rfl rfl ?_
        refine after_n ?_
        refine w_cond (t := ((bOr .u16 i12 r17) == i12)) rfl (fun hb19 => ?_) (fun hb19 => ?_)
        · have hr := cnd_t hb19 hr
          refine w_seq ?_
          obtain ⟨r20, h21, hr⟩ := bnd hr
          refine w_region ?_
          refine o1 rfl ?_
          refine oc (rs := [.c (.d (slD 1 cI_i64 r20))]) (outs := []) rfl (graph_list_ok h21) rfl ?_
          refine o1 rfl ?_
          refine o_end (e' := [(6, .c (.d (slD 1 cI_i64 r20)))]) rfl rfl ?_
          refine after_n ?_
          refine w_ret ?_
          refine after_r ?_
          refine out_r ?_
          obtain rfl := Option.some.inj hr
          exact And.intro nofun (And.intro rfl (sub_ren [] [6] (by decide) rfl .nil (Nat.le_of_ble_eq_true rfl)))
        · have hr := cnd_f hb19 hr
          refine w_skip ?_
          refine after_n ?_
          refine w_region ?_
          iterate 2 refine o1 rfl ?_
          refine o_end (e' := [(7, .c (.d (slD 1 cI_u16 r8))), (8, .c (.d (.lit (.int .u16 (bOr .u16 i12 r17)))))]) rfl rfl ?_
          refine out_n ?_
          obtain rfl := Option.some.inj hr
          exact And.intro rfl (sub_ren [] [7, 8] (by decide) rfl .nil (Nat.le_of_ble_eq_true rfl))

/- turnout/turnoutref20.Reach -/
def k12 : CC :=
  (.seq
  (.region [
    ⟨some 6, .mv, [(.const (.slice none 0 0))], none⟩] [0, 1, 2])
  (.seq
  (.seq
  (.region [
    ⟨some 12, .mv, [(.tmp 0)], none⟩,
    ⟨some 13, .mv, [(.tmp 1)], none⟩,
    ⟨some 14, (.call true []), [(.func 9), (.tmp 12), (.tmp 13)], none⟩,
    ⟨some 15, (.un .not), [(.tmp 14)], none⟩,
    ⟨some 16, .mv, [(.tmp 15)], none⟩,
    ⟨some 17, .mv, [(.tmp 2)], (some (16, false))⟩,
    ⟨some 18, (.bin .lss), [(.tmp 17), (.const (.int .i64 0))], (some (16, false))⟩,
    ⟨some 19, .pick, [(.tmp 16), (.const (.bool true)), (.tmp 18)], none⟩,
    ⟨some 20, .mv, [(.tmp 19)], none⟩,
    ⟨some 21, .mv, [(.tmp 2)], (some (20, false))⟩,
    ⟨some 22, .mv, [(.tmp 0)], (some (20, false))⟩,
    ⟨some 23, (.bin .geq), [(.tmp 21), (.tmp 22)], (some (20, false))⟩,
    ⟨some 24, .pick, [(.tmp 20), (.const (.bool true)), (.tmp 23)], none⟩] [0, 1, 2, 24])
  (.cond (.tmp 24)
    (.seq
    (.region [
      ⟨some 6, .mv, [(.const (.slice none 0 0))], none⟩] [6])
    .ret)
    .skip))
  (.seq
  (.region [
    ⟨some 25, .mv, [(.tmp 2)], none⟩,
    ⟨some 26, (.buildSlice 1 1 [(.int .i64 0)] [0]), [(.tmp 25)], none⟩,
    ⟨some 7, .mv, [(.tmp 26)], none⟩] [0, 1, 7])
  (.seq
  (.seq
  (.region [
    ⟨some 8, .mv, [(.const (.int .i64 0))], none⟩] [0, 1, 7, 8])
  (.block 0
    (.loop [0, 1, 7, 8]
      (.seq
      (.seq
      (.region [
        ⟨some 27, .mv, [(.tmp 8)], none⟩,
        ⟨some 28, .mv, [(.tmp 7)], none⟩,
        ⟨some 29, (.len false), [(.tmp 28)], none⟩,
        ⟨some 30, (.bin .lss), [(.tmp 27), (.tmp 29)], none⟩] [0, 1, 7, 8, 30])
      (.cond (.tmp 30)
        .skip
        (.exit 0)))
      (.seq
      (.block 1
        (.seq
        (.region [
          ⟨some 9, .mv, [(.const (.int .i64 0))], none⟩] [0, 1, 7, 8, 9])
        (.block 2
          (.loop [0, 1, 7, 8, 9]
            (.seq
            (.seq
            (.region [
              ⟨some 33, .mv, [(.tmp 9)], none⟩,
              ⟨some 34, .mv, [(.tmp 0)], none⟩,
              ⟨some 35, (.bin .lss), [(.tmp 33), (.tmp 34)], none⟩] [0, 1, 7, 8, 9, 35])
            (.cond (.tmp 35)
              .skip
              (.exit 2)))
            (.seq
            (.block 3
              (.seq
              (.region [
                ⟨some 38, .mv, [(.tmp 1)], none⟩,
                ⟨some 39, .mv, [(.tmp 7)], none⟩,
                ⟨some 40, .mv, [(.tmp 8)], none⟩,
                ⟨some 41, (.indexAddr none 1), [(.tmp 39), (.tmp 40)], none⟩,
                ⟨some 42, (.load false 1), [(.tmp 41)], none⟩,
                ⟨some 43, .mv, [(.tmp 9)], none⟩,
                ⟨some 44, (.call true []), [(.func 22), (.tmp 38), (.tmp 42), (.tmp 43)], none⟩,
                ⟨some 45, .mv, [(.tmp 44)], none⟩,
                ⟨some 46, .mv, [(.tmp 7)], (some (45, true))⟩,
                ⟨some 47, .mv, [(.tmp 9)], (some (45, true))⟩,
                ⟨some 48, (.call true []), [(.func 23), (.tmp 46), (.tmp 47)], (some (45, true))⟩,
                ⟨some 49, (.un .not), [(.tmp 48)], (some (45, true))⟩,
                ⟨some 50, .pick, [(.tmp 45), (.tmp 49), (.const (.bool false))], none⟩] [0, 1, 7, 8, 9, 50])
              (.cond (.tmp 50)
                (.region [
                  ⟨some 51, .mv, [(.tmp 7)], none⟩,
                  ⟨some 52, .mv, [(.tmp 9)], none⟩,
                  ⟨some 53, (.buildSlice 1 1 [(.int .i64 0)] [0]), [(.tmp 52)], none⟩,
                  ⟨some 54, (.append 1), [(.tmp 51), (.tmp 53)], none⟩,
                  ⟨some 7, .mv, [(.tmp 54)], none⟩] [0, 1, 7, 8, 9])
                .skip)))
            (.region [
              ⟨some 36, .mv, [(.tmp 9)], none⟩,
              ⟨some 37, (.bin .add), [(.tmp 36), (.const (.int .i64 1))], none⟩,
              ⟨some 9, .mv, [(.tmp 37)], none⟩] [0, 1, 7, 8, 9])))))))
      (.region [
        ⟨some 31, .mv, [(.tmp 8)], none⟩,
        ⟨some 32, (.bin .add), [(.tmp 31), (.const (.int .i64 1))], none⟩,
        ⟨some 8, .mv, [(.tmp 32)], none⟩] [0, 1, 7, 8]))))))
  (.seq
  (.region [
    ⟨some 10, .mv, [(.const (.slice none 0 0))], none⟩] [0, 7, 10])
  (.seq
  (.seq
  (.region [
    ⟨some 11, .mv, [(.const (.int .i64 0))], none⟩] [0, 7, 10, 11])
  (.block 4
    (.loop [0, 7, 10, 11]
      (.seq
      (.seq
      (.region [
        ⟨some 55, .mv, [(.tmp 11)], none⟩,
        ⟨some 56, .mv, [(.tmp 0)], none⟩,
        ⟨some 57, (.bin .lss), [(.tmp 55), (.tmp 56)], none⟩] [0, 7, 10, 11, 57])
      (.cond (.tmp 57)
        .skip
        (.exit 4)))
      (.seq
      (.block 5
        (.seq
        (.region [
          ⟨some 60, .mv, [(.tmp 7)], none⟩,
          ⟨some 61, .mv, [(.tmp 11)], none⟩,
          ⟨some 62, (.call true []), [(.func 23), (.tmp 60), (.tmp 61)], none⟩] [0, 7, 10, 11, 62])
        (.cond (.tmp 62)
          (.region [
            ⟨some 63, .mv, [(.tmp 10)], none⟩,
            ⟨some 64, .mv, [(.tmp 11)], none⟩,
            ⟨some 65, (.buildSlice 1 1 [(.int .i64 0)] [0]), [(.tmp 64)], none⟩,
            ⟨some 66, (.append 1), [(.tmp 63), (.tmp 65)], none⟩,
            ⟨some 10, .mv, [(.tmp 66)], none⟩] [0, 7, 10, 11])
          .skip)))
      (.region [
        ⟨some 58, .mv, [(.tmp 11)], none⟩,
        ⟨some 59, (.bin .add), [(.tmp 58), (.const (.int .i64 1))], none⟩,
        ⟨some 11, .mv, [(.tmp 59)], none⟩] [0, 7, 10, 11]))))))
  (.seq
  (.region [
    ⟨some 67, .mv, [(.tmp 10)], none⟩,
    ⟨some 6, .mv, [(.tmp 67)], none⟩] [6])
  .ret)))))))
def f12 : Ev.Fn := ⟨3, 68, [.tmp 6], k12⟩
set_option maxRecDepth 100000 in
theorem e12 : compFn prog sig 12 3 [[0, 1, 2], [0, 1, 2, 24], [6], [0, 1, 7], [0, 1, 7, 8], [0, 1, 7, 8], [0, 1, 7, 8, 30], [0, 1, 7, 8, 9], [0, 1, 7, 8, 9], [0, 1, 7, 8, 9, 35], [0, 1, 7, 8, 9, 50], [0, 1, 7, 8, 9], [0, 1, 7, 8, 9], [0, 1, 7, 8], [0, 7, 10], [0, 7, 10, 11], [0, 7, 10, 11], [0, 7, 10, 11, 57], [0, 7, 10, 11, 62], [0, 7, 10, 11], [0, 7, 10, 11], [6]] = some f12 := by kernel_rfl
noncomputable def ref20_Reach_L2 (n_0 : Int) (l_1 : Sl ref20_Edge) (i9 : Int) : (List Int × Int) → Option (Sum ((List Int × Int)) (List Int)) := fun (l16, i17) =>
  bif decide (i17 < n_0) then (((ixI i9 l16.length).bind fun n27 =>
  (ref20_edge l_1 (gt l16 n27) i17).bind fun r29 =>
  (bif r29 then ((ref20_has (Sl.mk l16) i17).bind fun r31 =>
  some (!r31)) else (some false)).bind fun b33 =>
  bif b33 then ((capI (l16 ++ [i17])).bind fun l38 =>
  some l38) else
  (some l16) : Option (List Int)).bind fun l24 =>
  some (.inl (l24, wr .i64 (i17 + 1)))) else
  (some (.inr l16))

noncomputable def ref20_Reach_L1 (n_0 : Int) (l_1 : Sl ref20_Edge) : (List Int × Int) → Option (Sum ((List Int × Int)) (List Int)) := fun (l8, i9) =>
  bif decide (i9 < (l8.length : Int)) then ((loopO (ref20_Reach_L2 n_0 l_1 i9) (l8, 0)).bind fun l20 =>
  some (.inl (l20, wr .i64 (i9 + 1)))) else
  (some (.inr l8))

noncomputable def ref20_Reach_L3 (n_0 : Int) (l12 : List Int) : (Sl Int × Int) → Option (Sum ((Sl Int × Int)) (Sl Int)) := fun (s43, i44) =>
  bif decide (i44 < n_0) then (((ref20_has (Sl.mk l12) i44).bind fun r54 =>
  bif r54 then ((capI (s43.l ++ [i44])).bind fun l57 =>
  some (Sl.mk l57)) else
  (some s43) : Option (Sl Int)).bind fun s51 =>
  some (.inl (s51, wr .i64 (i44 + 1)))) else
  (some (.inr s43))

noncomputable def ref20_Reach (n_0 : Int) (l_1 : Sl ref20_Edge) (from_2 : Int) : Option (Sl Int) :=
  (ref20_Right n_0 l_1).bind fun r1 =>
  bif ((!r1) || ((decide (from_2 < 0)) || (decide (from_2 ≥ n_0)))) then (some Sl.nil) else
  ((loopO (ref20_Reach_L1 n_0 l_1) ([from_2], 0)).bind fun l12 =>
  (loopO (ref20_Reach_L3 n_0 l12) (Sl.nil, 0)).bind fun s47 =>
  some s47)
theorem ref20_Reach_ok {n_0 : Int} {l_1 : Sl ref20_Edge} {from_2 : Int} {z : Sl Int} (hp : ref20_Reach n_0 l_1 from_2 = some z) : Good prog 12 [.d (.lit (.int .i64 n_0)), .d (slD 2 c_ref20_Edge l_1), .d (.lit (.int .i64 from_2))] [.c (.d (slD 1 cI_i64 z))] [] := by
  unfold ref20_Reach at hp
  refine fn_good mixed e12 (fnS (m := [true]) (s := ⟨[(0, .c (.d (.lit (.int .i64 n_0)))), (1, .c (.d (slD 2 c_ref20_Edge l_1))), (2, .c (.d (.lit (.int .i64 from_2))))], [], 0, []⟩) (len := 0) (c := k12) rfl (Sub.of_eq rfl) rfl rfl ?_)
  refine w_seq ?_
  refine w_region ?_
  refine o1 rfl ?_
  refine o_end (e' := [(0, .c (.d (.lit (.int .i64 n_0)))), (1, .c (.d (slD 2 c_ref20_Edge l_1))), (2, .c (.d (.lit (.int .i64 from_2))))]) rfl rfl ?_
  refine after_n ?_
  refine w_seq ?_
  refine w_seq ?_
  obtain ⟨r1, h2, hp⟩ := bnd hp
  refine w_join (J := fun s => Sub s ⟨[(0, .c (.d (.lit (.int .i64 n_0)))), (1, .c (.d (slD 2 c_ref20_Edge l_1))), (2, .c (.d (.lit (.int .i64 from_2)))), (24, .c (.d (.lit (.bool ((!r1) || ((decide (from_2 < 0)) || (decide (from_2 ≥ n_0))))))))], [], 0, []⟩) ?_ ?_
  · refine w_region ?_
    iterate 2 refine o1 rfl ?_
    refine oc (rs := [.c (.d (.lit (.bool r1)))]) (outs := []) rfl (ref20_Right_ok h2) rfl ?_
    refine o1 (v := .c (.d (.lit (.bool (!r1))))) rfl ?_
    refine o1 rfl ?_
    cases hb4 : ((!r1) : Bool)
    · refine og rfl rfl rfl ?_
      refine og (v := .c (.d (.lit (.bool (decide (from_2 < 0)))))) rfl rfl rfl ?_
      iterate 2 refine o1 rfl ?_
      cases hb5 : (decide (from_2 < 0) : Bool)
      · refine og rfl rfl rfl ?_
        refine og rfl rfl rfl ?_
        refine og (v := .c (.d (.lit (.bool (decide (from_2 ≥ n_0)))))) rfl rfl rfl ?_
        refine o1 rfl ?_
        exact o_join (sub_ren [] [0, 1, 2, 24] (by decide) rfl .nil (Nat.le_of_ble_eq_true rfl))
      · refine onot rfl rfl ?_
        iterate 2 refine onot rfl rfl ?_
        refine o1 rfl ?_
        exact o_join (sub_ren [] [0, 1, 2, 24] (by decide) rfl .nil (Nat.le_of_ble_eq_true rfl))
    · refine onot rfl rfl ?_
      refine onot rfl rfl ?_
      iterate 2 refine o1 rfl ?_
      iterate 3 refine onot rfl rfl ?_
      refine o1 rfl ?_
      exact o_join (sub_ren [] [0, 1, 2, 24] (by decide) rfl .nil (Nat.le_of_ble_eq_true rfl))
  · intro s hs6
    refine after_n ?_
    refine W.sub hs6 ?_
    refine w_cond (t := ((!r1) || ((decide (from_2 < 0)) || (decide (from_2 ≥ n_0))))) rfl (fun hb7 => ?_) (fun hb7 => ?_)
    · have hp := cnd_t hb7 hp
      refine w_seq ?_
      refine w_region ?_
      refine o1 rfl ?_
      refine o_end (e' := [(6, .c (.d (.lit (.slice none 0 0))))]) rfl rfl ?_
      refine after_n ?_
      refine w_ret ?_
      refine after_r ?_
      obtain rfl := Option.some.inj hp
      exact leave_at rfl rfl (pr_c p_d pr_nil) pc_nil rfl rfl
    · have hp := cnd_f hb7 hp
      refine w_skip ?_
      refine after_n ?_
      refine w_seq ?_
      refine w_region ?_
      refine o1 rfl ?_
      refine o2 rfl ?_
      refine o1 rfl ?_
      refine o_end (e' := [(0, .c (.d (.lit (.int .i64 n_0)))), (1, .c (.d (slD 2 c_ref20_Edge l_1))), (7, .c (slC 1 cI_i64 0 (Sl.mk [from_2])))]) rfl rfl ?_
      refine after_n ?_
      refine w_seq ?_
      refine w_seq ?_
      refine w_region ?_
      refine o1 rfl ?_
      refine o_end (e' := [(0, .c (.d (.lit (.int .i64 n_0)))), (1, .c (.d (slD 2 c_ref20_Edge l_1))), (7, .c (slC 1 cI_i64 0 (Sl.mk [from_2]))), (8, .c (.d (.lit (.int .i64 0))))]) rfl rfl ?_
      refine after_n ?_
      refine w_block ?_
      obtain ⟨l12, h14, hp⟩ := bnd hp
      refine W.mono ?_ (w_loopS (st := fun (v : (List Int × Int)) => match v with | (l8, i9) => ⟨[(0, .c (.d (.lit (.int .i64 n_0)))), (1, .c (.d (slD 2 c_ref20_Edge l_1))), (7, .c (slC 1 cI_i64 0 (Sl.mk l8))), (8, .c (.d (.lit (.int .i64 i9))))], [(0, slO 1 cI_i64 (Sl.mk l8))], 1, []⟩) (a := ([from_2], 0)) (Q := Jn (fun (x : List Int) o s => match x with | l12 => o = Out.exit 0 ∧ Sub s ⟨[(0, .c (.d (.lit (.int .i64 n_0)))), (7, .c (slC 1 cI_i64 0 (Sl.mk l12)))], [(0, slO 1 cI_i64 (Sl.mk l12))], 1, []⟩)) ?_ h14 ?_)
      · intro o s hs42
        obtain ⟨rfl, hs42⟩ := hs42
        refine out_e ?_
        refine after_n ?_
        refine W.sub hs42 ?_
        refine w_seq ?_
        refine w_region ?_
        refine o1 rfl ?_
        refine o_end (e' := [(0, .c (.d (.lit (.int .i64 n_0)))), (7, .c (slC 1 cI_i64 0 (Sl.mk l12))), (10, .c (.d (.lit (.slice none 0 0))))]) rfl rfl ?_
        refine after_n ?_
        refine w_seq ?_
        refine w_seq ?_
        refine w_region ?_
        refine o1 rfl ?_
        refine o_end (e' := [(0, .c (.d (.lit (.int .i64 n_0)))), (7, .c (slC 1 cI_i64 0 (Sl.mk l12))), (10, .c (.d (.lit (.slice none 0 0)))), (11, .c (.d (.lit (.int .i64 0))))]) rfl rfl ?_
        refine after_n ?_
        refine w_block ?_
        obtain ⟨s47, h49, hp⟩ := bnd hp
        refine W.mono ?_ (w_loopS (st := fun (v : (Sl Int × Int)) => match v with | (s43, i44) => ⟨[(0, .c (.d (.lit (.int .i64 n_0)))), (7, .c (slC 1 cI_i64 0 (Sl.mk l12))), (10, .c (slC 1 cI_i64 1 s43)), (11, .c (.d (.lit (.int .i64 i44))))], [(0, slO 1 cI_i64 (Sl.mk l12)), (1, slO 1 cI_i64 s43)], 2, []⟩) (a := (Sl.nil, 0)) (Q := Jn (fun (x : Sl Int) o s => match x with | s47 => o = Out.exit 4 ∧ Sub s ⟨[(10, .c (slC 1 cI_i64 0 s47))], [(0, slO 1 cI_i64 s47)], 1, []⟩)) ?_ h49 ?_)
        · intro o s hs61
          obtain ⟨rfl, hs61⟩ := hs61
          refine out_e ?_
          refine after_n ?_
          refine W.sub hs61 ?_
          refine w_seq ?_
          refine w_region ?_
          iterate 2 refine o1 rfl ?_
          refine o_end (e' := [(6, .c (slC 1 cI_i64 0 s47))]) rfl rfl ?_
          refine after_n ?_
          refine w_ret ?_
          obtain rfl := Option.some.inj hp
          rcases s47 with _ | s47'
          · exact leave_at rfl rfl (pr_c p_d pr_nil) pc_nil rfl rfl
          · exact leave_at rfl rfl (pr_c (p_o rfl) pr_nil) pc_nil rfl rfl
        · exact (sub_ren [0, 9001] [0, 7, 10, 11] (by decide) rfl (.cons (.skip .nil)) (Nat.le_of_ble_eq_true rfl))
        · rintro ⟨s43, i44⟩ r hr
          unfold ref20_Reach_L3 at hr
          refine w_seq ?_
          refine w_seq ?_
          refine w_region ?_
          iterate 2 refine o1 rfl ?_
          refine o1 (v := .c (.d (.lit (.bool (decide (i44 < n_0)))))) rfl ?_
          refine o_end (e' := [(0, .c (.d (.lit (.int .i64 n_0)))), (7, .c (slC 1 cI_i64 0 (Sl.mk l12))), (10, .c (slC 1 cI_i64 1 s43)), (11, .c (.d (.lit (.int .i64 i44)))), (57, .c (.d (.lit (.bool (decide (i44 < n_0))))))]) rfl rfl ?_
          refine after_n ?_
          refine w_cond (t := decide (i44 < n_0)) rfl (fun hb50 => ?_) (fun hb50 => ?_)
          · have hr := cnd_t hb50 hr
            refine w_skip ?_
            refine after_n ?_
            refine w_seq ?_
            obtain ⟨s51, h52, hr⟩ := bnd hr
            refine W.mono (Q := Jn (fun (x : Sl Int) o s => match x with | s51 => o = Out.normal ∧ Sub s ⟨[(0, .c (.d (.lit (.int .i64 n_0)))), (7, .c (slC 1 cI_i64 0 (Sl.mk l12))), (10, .c (slC 1 cI_i64 1 s51)), (11, .c (.d (.lit (.int .i64 i44))))], [(0, slO 1 cI_i64 (Sl.mk l12)), (1, slO 1 cI_i64 s51)], 2, []⟩) s51) ?_ ?_
            · intro o s hs60
              obtain ⟨rfl, hs60⟩ := hs60
              refine after_n ?_
              refine W.sub hs60 ?_
              refine w_region ?_
              refine o1 rfl ?_
              refine o1 (v := .c (.d (.lit (.int .i64 (wr .i64 (i44 + 1)))))) rfl ?_
              refine o1 rfl ?_
              refine o_end (e' := [(0, .c (.d (.lit (.int .i64 n_0)))), (7, .c (slC 1 cI_i64 0 (Sl.mk l12))), (10, .c (slC 1 cI_i64 1 s51)), (11, .c (.d (.lit (.int .i64 (wr .i64 (i44 + 1))))))]) rfl rfl ?_
              obtain rfl := Option.some.inj hr
              exact And.intro rfl (by rcases s51 with _ | _ <;> first | (exact sub_ren [0, 9001] [0, 7, 10, 11] (by decide) rfl (.cons (.skip .nil)) (Nat.le_of_ble_eq_true rfl)) | (exact sub_ren [0, 1] [0, 7, 10, 11] (by decide) rfl (.cons (.cons .nil)) (Nat.le_of_ble_eq_true rfl)))
            · refine w_block ?_
              refine w_seq ?_
              obtain ⟨r54, h55, h52⟩ := bnd h52
              refine w_region ?_
              iterate 2 refine o1 rfl ?_
              refine oc' (rs := [.c (.d (.lit (.bool r54)))]) (outs := []) (call_at rfl rfl (ea_c (v_o rfl) rfl (ea_c rfl rfl ea_nil)) wh_nil rfl rfl) (ref20_has_ok h55) ?_
              refine o_end (e' := [(0, .c (.d (.lit (.int .i64 n_0)))), (7, .c (slC 1 cI_i64 0 (Sl.mk l12))), (10, .c (slC 1 cI_i64 1 s43)), (11, .c (.d (.lit (.int .i64 i44)))), (62, .c (.d (.lit (.bool r54))))]) rfl rfl ?_
              refine after_n ?_
              refine w_cond (t := r54) rfl (fun hb56 => ?_) (fun hb56 => ?_)
              · have h52 := cnd_t hb56 h52
                obtain ⟨l57, h58, h52⟩ := bnd h52
                refine w_join (J := fun s => Sub s ⟨[(0, .c (.d (.lit (.int .i64 n_0)))), (7, .c (slC 1 cI_i64 0 (Sl.mk l12))), (10, .c (slC 1 cI_i64 1 (Sl.mk l57))), (11, .c (.d (.lit (.int .i64 i44))))], [(0, slO 1 cI_i64 (Sl.mk l12)), (1, slO 1 cI_i64 (Sl.mk l57))], 2, []⟩) ?_ ?_
                · rcases s43 with _ | s43'
                  · try dsimp only [slC, slO]
                    refine w_region ?_
                    iterate 2 refine o1 rfl ?_
                    refine o2 rfl ?_
                    refine o2 (app_nil (enc := cI_i64) rfl h58) ?_
                    refine o1 rfl ?_
                    exact o_join (sub_ren [0, 3] [0, 7, 10, 11] (by decide) rfl (.cons (.cons .nil)) (Nat.le_of_ble_eq_true rfl))
                  · try dsimp only [slC, slO]
                    refine w_region ?_
                    iterate 2 refine o1 rfl ?_
                    refine o2 rfl ?_
                    refine o2 (app_o rfl rfl h58) ?_
                    refine o1 rfl ?_
                    exact o_join (sub_ren [0, 3] [0, 7, 10, 11] (by decide) rfl (.cons (.cons .nil)) (Nat.le_of_ble_eq_true rfl))
                · intro s hs59
                  refine out_n ?_
                  obtain rfl := Option.some.inj h52
                  exact And.intro rfl (Sub.trans hs59 (sub_ren [0, 1] [0, 7, 10, 11] (by decide) rfl (.cons (.cons .nil)) (Nat.le_of_ble_eq_true rfl)))
              · have h52 := cnd_f hb56 h52
                refine w_skip ?_
                refine out_n ?_
                obtain rfl := Option.some.inj h52
                exact And.intro rfl (by rcases s43 with _ | _ <;> first | (exact sub_ren [0, 9001] [0, 7, 10, 11] (by decide) rfl (.cons (.skip .nil)) (Nat.le_of_ble_eq_true rfl)) | (exact sub_ren [0, 1] [0, 7, 10, 11] (by decide) rfl (.cons (.cons .nil)) (Nat.le_of_ble_eq_true rfl)))
          · have hr := cnd_f hb50 hr
            refine w_exit ?_
            refine after_e ?_
            obtain rfl := Option.some.inj hr
            exact And.intro nofun (And.intro rfl (by rcases s43 with _ | _ <;> first | (exact sub_ren [9000] [10] (by decide) rfl (.skip .nil) (Nat.le_of_ble_eq_true rfl)) | (exact sub_ren [1] [10] (by decide) rfl (.cons .nil) (Nat.le_of_ble_eq_true rfl))))
      · exact (sub_ren [0] [0, 1, 7, 8] (by decide) rfl (.cons .nil) (Nat.le_of_ble_eq_true rfl))
      · rintro ⟨l8, i9⟩ r hr
        unfold ref20_Reach_L1 at hr
        refine w_seq ?_
        refine w_seq ?_
        refine w_region ?_
        iterate 2 refine o1 rfl ?_
        refine o1 (v := .c (.d (.lit (.int .i64 (l8.length : Int))))) len_o ?_
        refine o1 (v := .c (.d (.lit (.bool (decide (i9 < (l8.length : Int))))))) rfl ?_
        refine o_end (e' := [(0, .c (.d (.lit (.int .i64 n_0)))), (1, .c (.d (slD 2 c_ref20_Edge l_1))), (7, .c (slC 1 cI_i64 0 (Sl.mk l8))), (8, .c (.d (.lit (.int .i64 i9)))), (30, .c (.d (.lit (.bool (decide (i9 < (l8.length : Int)))))))]) rfl rfl ?_
        refine after_n ?_
        refine w_cond (t := decide (i9 < (l8.length : Int))) rfl (fun hb15 => ?_) (fun hb15 => ?_)
        · have hr := cnd_t hb15 hr
          refine w_skip ?_
          refine after_n ?_
          refine w_seq ?_
          refine w_block ?_
          refine w_seq ?_
          refine w_region ?_
          refine o1 rfl ?_
          refine o_end (e' := [(0, .c (.d (.lit (.int .i64 n_0)))), (1, .c (.d (slD 2 c_ref20_Edge l_1))), (7, .c (slC 1 cI_i64 0 (Sl.mk l8))), (8, .c (.d (.lit (.int .i64 i9)))), (9, .c (.d (.lit (.int .i64 0))))]) rfl rfl ?_
          refine after_n ?_
          refine w_block ?_
          obtain ⟨l20, h22, hr⟩ := bnd hr
          refine W.mono ?_ (w_loopS (st := fun (v : (List Int × Int)) => match v with | (l16, i17) => ⟨[(0, .c (.d (.lit (.int .i64 n_0)))), (1, .c (.d (slD 2 c_ref20_Edge l_1))), (7, .c (slC 1 cI_i64 0 (Sl.mk l16))), (8, .c (.d (.lit (.int .i64 i9)))), (9, .c (.d (.lit (.int .i64 i17))))], [(0, slO 1 cI_i64 (Sl.mk l16))], 1, []⟩) (a := (l8, 0)) (Q := Jn (fun (x : List Int) o s => match x with | l20 => o = Out.exit 2 ∧ Sub s ⟨[(0, .c (.d (.lit (.int .i64 n_0)))), (1, .c (.d (slD 2 c_ref20_Edge l_1))), (7, .c (slC 1 cI_i64 0 (Sl.mk l20))), (8, .c (.d (.lit (.int .i64 i9))))], [(0, slO 1 cI_i64 (Sl.mk l20))], 1, []⟩)) ?_ h22 ?_)
          · intro o s hs41
            obtain ⟨rfl, hs41⟩ := hs41
            refine out_e ?_
            refine out_n ?_
            refine after_n ?_
            refine W.sub hs41 ?_
            refine w_region ?_
            refine o1 rfl ?_
            refine o1 (v := .c (.d (.lit (.int .i64 (wr .i64 (i9 + 1)))))) rfl ?_
            refine o1 rfl ?_
            refine o_end (e' := [(0, .c (.d (.lit (.int .i64 n_0)))), (1, .c (.d (slD 2 c_ref20_Edge l_1))), (7, .c (slC 1 cI_i64 0 (Sl.mk l20))), (8, .c (.d (.lit (.int .i64 (wr .i64 (i9 + 1))))))]) rfl rfl ?_
            obtain rfl := Option.some.inj hr
            exact And.intro rfl (sub_ren [0] [0, 1, 7, 8] (by decide) rfl (.cons .nil) (Nat.le_of_ble_eq_true rfl))
          · exact (sub_ren [0] [0, 1, 7, 8, 9] (by decide) rfl (.cons .nil) (Nat.le_of_ble_eq_true rfl))
          · rintro ⟨l16, i17⟩ r hr
            unfold ref20_Reach_L2 at hr
            refine w_seq ?_
            refine w_seq ?_
            refine w_region ?_
            iterate 2 refine o1 rfl ?_
            refine o1 (v := .c (.d (.lit (.bool (decide (i17 < n_0)))))) rfl ?_
            refine o_end (e' := [(0, .c (.d (.lit (.int .i64 n_0)))), (1, .c (.d (slD 2 c_ref20_Edge l_1))), (7, .c (slC 1 cI_i64 0 (Sl.mk l16))), (8, .c (.d (.lit (.int .i64 i9)))), (9, .c (.d (.lit (.int .i64 i17)))), (35, .c (.d (.lit (.bool (decide (i17 < n_0))))))]) rfl rfl ?_
            refine after_n ?_
            refine w_cond (t := decide (i17 < n_0)) rfl (fun hb23 => ?_) (fun hb23 => ?_)
            · have hr := cnd_t hb23 hr
              refine w_skip ?_
              refine after_n ?_
              refine w_seq ?_
              obtain ⟨l24, h25, hr⟩ := bnd hr
              refine W.mono (Q := Jn (fun (x : List Int) o s => match x with | l24 => o = Out.normal ∧ Sub s ⟨[(0, .c (.d (.lit (.int .i64 n_0)))), (1, .c (.d (slD 2 c_ref20_Edge l_1))), (7, .c (slC 1 cI_i64 0 (Sl.mk l24))), (8, .c (.d (.lit (.int .i64 i9)))), (9, .c (.d (.lit (.int .i64 i17))))], [(0, slO 1 cI_i64 (Sl.mk l24))], 1, []⟩) l24) ?_ ?_
              · intro o s hs40
                obtain ⟨rfl, hs40⟩ := hs40
                refine after_n ?_
                refine W.sub hs40 ?_
                refine w_region ?_
                refine o1 rfl ?_
                refine o1 (v := .c (.d (.lit (.int .i64 (wr .i64 (i17 + 1)))))) rfl ?_
                refine o1 rfl ?_
                refine o_end (e' := [(0, .c (.d (.lit (.int .i64 n_0)))), (1, .c (.d (slD 2 c_ref20_Edge l_1))), (7, .c (slC 1 cI_i64 0 (Sl.mk l24))), (8, .c (.d (.lit (.int .i64 i9)))), (9, .c (.d (.lit (.int .i64 (wr .i64 (i17 + 1))))))]) rfl rfl ?_
                obtain rfl := Option.some.inj hr
                exact And.intro rfl (sub_ren [0] [0, 1, 7, 8, 9] (by decide) rfl (.cons .nil) (Nat.le_of_ble_eq_true rfl))
              · refine w_block ?_
                refine w_seq ?_
                obtain ⟨n27, h28, h25⟩ := bnd h25
                obtain ⟨r29, h30, h25⟩ := bnd h25
                obtain ⟨b33, h34, h25⟩ := bnd h25
                refine w_join (J := fun s => Sub s ⟨[(0, .c (.d (.lit (.int .i64 n_0)))), (1, .c (.d (slD 2 c_ref20_Edge l_1))), (7, .c (slC 1 cI_i64 0 (Sl.mk l16))), (8, .c (.d (.lit (.int .i64 i9)))), (9, .c (.d (.lit (.int .i64 i17)))), (50, .c (.d (.lit (.bool b33))))], [(0, slO 1 cI_i64 (Sl.mk l16))], 1, []⟩) ?_ ?_
                · refine w_region ?_
                  iterate 3 refine o1 rfl ?_
                  refine o1 (ix_o h28) ?_
                  refine o1 (ld_row rfl (ixI_some.1 h28).2 rfl) ?_
                  refine o1 rfl ?_
                  refine oc (rs := [.c (.d (.lit (.bool r29)))]) (outs := []) rfl (ref20_edge_ok h30) rfl ?_
                  refine o1 rfl ?_
                  cases hb35 : (r29 : Bool)
                  · have h34 := cnd_f hb35 h34
                    iterate 4 refine onot rfl rfl ?_
                    refine o1 rfl ?_
                    cases h34
                    exact o_join (sub_ren [0] [0, 1, 7, 8, 9, 50] (by decide) rfl (.cons .nil) (Nat.le_of_ble_eq_true rfl))
                  · have h34 := cnd_t hb35 h34
                    obtain ⟨r31, h32, h34⟩ := bnd h34
                    iterate 2 refine og rfl rfl rfl ?_
                    refine ocg' (rs := [.c (.d (.lit (.bool r31)))]) (outs := []) rfl rfl (call_at rfl rfl (ea_c (v_o rfl) rfl (ea_c rfl rfl ea_nil)) wh_nil rfl rfl) (ref20_has_ok h32) ?_
                    refine og (v := .c (.d (.lit (.bool (!r31))))) rfl rfl rfl ?_
                    refine o1 rfl ?_
                    cases h34
                    exact o_join (sub_ren [0] [0, 1, 7, 8, 9, 50] (by decide) rfl (.cons .nil) (Nat.le_of_ble_eq_true rfl))
                · intro s hs36
                  refine after_n ?_
                  refine W.sub hs36 ?_
                  refine w_cond (t := b33) rfl (fun hb37 => ?_) (fun hb37 => ?_)
                  · have h25 := cnd_t hb37 h25
                    obtain ⟨l38, h39, h25⟩ := bnd h25
                    refine w_region ?_
                    iterate 2 refine o1 rfl ?_
                    refine o2 rfl ?_
                    refine o2 (app_o rfl rfl h39) ?_
                    refine o1 rfl ?_
                    refine o_end (e' := [(0, .c (.d (.lit (.int .i64 n_0)))), (1, .c (.d (slD 2 c_ref20_Edge l_1))), (7, .c (slC 1 cI_i64 2 (Sl.mk l38))), (8, .c (.d (.lit (.int .i64 i9)))), (9, .c (.d (.lit (.int .i64 i17))))]) rfl rfl ?_
                    refine out_n ?_
                    obtain rfl := Option.some.inj h25
                    exact And.intro rfl (sub_ren [2] [0, 1, 7, 8, 9] (by decide) rfl (.cons .nil) (Nat.le_of_ble_eq_true rfl))
                  · have h25 := cnd_f hb37 h25
                    refine w_skip ?_
                    refine out_n ?_
                    obtain rfl := Option.some.inj h25
                    exact And.intro rfl (sub_ren [0] [0, 1, 7, 8, 9] (by decide) rfl (.cons .nil) (Nat.le_of_ble_eq_true rfl))
            · have hr := cnd_f hb23 hr
              refine w_exit ?_
              refine after_e ?_
              obtain rfl := Option.some.inj hr
              exact And.intro nofun (And.intro rfl (sub_ren [0] [0, 1, 7, 8] (by decide) rfl (.cons .nil) (Nat.le_of_ble_eq_true rfl)))
        · have hr := cnd_f hb15 hr
          refine w_exit ?_
          refine after_e ?_
          obtain rfl := Option.some.inj hr
          exact And.intro nofun (And.intro rfl (sub_ren [0] [0, 7] (by decide) rfl (.cons .nil) (Nat.le_of_ble_eq_true rfl)))

/- turnout/graph.Far -/
def k13 : CC :=
  (.seq
  (.region [
    ⟨some 4, .mv, [(.const (.slice none 0 0))], none⟩,
    ⟨some 5, .mv, [(.const (.bool false))], none⟩] [0, 1])
  (.seq
  (.region [
    ⟨some 15, .mv, [(.tmp 0)], none⟩,
    ⟨some 16, .mv, [(.tmp 1)], none⟩,
    ⟨some 17, (.call false []), [(.func 6), (.tmp 15), (.tmp 16)], none⟩,
    ⟨some 14, .mv, [(.tmp 17)], none⟩,
    ⟨some 18, (.extract 0), [(.tmp 14)], none⟩,
    ⟨some 19, (.extract 1), [(.tmp 14)], none⟩,
    ⟨some 6, .mv, [(.tmp 18)], none⟩,
    ⟨some 7, .mv, [(.tmp 19)], none⟩] [0, 1, 6, 7])
  (.seq
  (.seq
  (.region [
    ⟨some 20, .mv, [(.tmp 7)], none⟩,
    ⟨some 21, (.un .not), [(.tmp 20)], none⟩] [0, 1, 6, 21])
  (.cond (.tmp 21)
    (.seq
    (.region [
      ⟨some 4, .mv, [(.const (.slice none 0 0))], none⟩,
      ⟨some 5, .mv, [(.const (.bool false))], none⟩] [4, 5])
    .ret)
    .skip))
  (.seq
  (.drawn [
    ⟨some 22, .mv, [(.tmp 0)], none⟩,
    ⟨some 23, (.makeSlice [(.int .i64 0)]), [(.tmp 22), (.tmp 22)], none⟩,
    ⟨some 24, .mv, [(.tmp 0)], none⟩,
    ⟨some 25, .mv, [(.tmp 1)], none⟩,
    ⟨some 26, (.call false []), [(.func 17), (.tmp 24), (.tmp 25)], none⟩,
    ⟨some 8, .mv, [(.tmp 23)], none⟩,
    ⟨some 9, .mv, [(.tmp 26)], none⟩] [(1, 4)] [6, 8, 9])
  (.seq
  (.seq
  (.region [
    ⟨some 27, .mv, [(.tmp 6)], none⟩,
    ⟨some 28, (.len false), [(.tmp 27)], none⟩,
    ⟨some 29, .mv, [(.const (.int .i64 0))], none⟩] [8, 9, 27, 28, 29])
  (.block 0
    (.loop [8, 9, 27, 28, 29]
      (.seq
      (.region [
        ⟨some 30, (.bin .lss), [(.tmp 29), (.tmp 28)], none⟩] [8, 9, 27, 28, 29, 30])
      (.seq
      (.cond (.tmp 30)
        .skip
        (.exit 0))
      (.seq
      (.block 1
        (.seq
        (.region [
          ⟨some 31, (.indexAddr none 1), [(.tmp 27), (.tmp 29)], none⟩,
          ⟨some 32, (.load false 1), [(.tmp 31)], none⟩,
          ⟨some 11, .mv, [(.tmp 32)], none⟩] [8, 9, 11, 27, 28, 29])
        (.seq
        (.region [
          ⟨some 33, .mv, [(.tmp 9)], none⟩,
          ⟨some 34, .mv, [(.tmp 11)], none⟩,
          ⟨some 35, (.indexAddr none 1), [(.tmp 33), (.tmp 34)], none⟩,
          ⟨some 36, (.load false 1), [(.tmp 35)], none⟩,
          ⟨some 37, (.call false []), [(.func 21), (.tmp 36)], none⟩,
          ⟨some 38, (.len false), [(.tmp 37)], none⟩,
          ⟨some 39, .mv, [(.const (.int .i64 0))], none⟩] [8, 9, 11, 27, 28, 29, 37, 38, 39])
        (.block 2
          (.loop [8, 9, 11, 27, 28, 29, 37, 38, 39]
            (.seq
            (.region [
              ⟨some 40, (.bin .lss), [(.tmp 39), (.tmp 38)], none⟩] [8, 9, 11, 27, 28, 29, 37, 38, 39, 40])
            (.seq
            (.cond (.tmp 40)
              .skip
              (.exit 2))
            (.seq
            (.block 3
              (.seq
              (.region [
                ⟨some 41, (.indexAddr none 1), [(.tmp 37), (.tmp 39)], none⟩,
                ⟨some 42, (.load false 1), [(.tmp 41)], none⟩,
                ⟨some 13, .mv, [(.tmp 42)], none⟩] [8, 9, 11, 13, 27, 28, 29, 37, 38, 39])
              (.drawn [
                ⟨some 43, .mv, [(.tmp 8)], none⟩,
                ⟨some 44, .mv, [(.tmp 13)], none⟩,
                ⟨some 45, .mv, [(.tmp 8)], none⟩,
                ⟨some 46, .mv, [(.tmp 13)], none⟩,
                ⟨some 47, (.indexAddr none 1), [(.tmp 45), (.tmp 46)], none⟩,
                ⟨some 48, (.load false 1), [(.tmp 47)], none⟩,
                ⟨some 49, .mv, [(.tmp 8)], none⟩,
                ⟨some 50, .mv, [(.tmp 11)], none⟩,
                ⟨some 51, (.indexAddr none 1), [(.tmp 49), (.tmp 50)], none⟩,
                ⟨some 52, (.load false 1), [(.tmp 51)], none⟩,
                ⟨some 53, (.bin .add), [(.tmp 52), (.const (.int .i64 1))], none⟩,
                ⟨some 54, (.minmax true), [(.tmp 48), (.tmp 53)], none⟩,
                ⟨some 55, (.indexAddr none 1), [(.tmp 43), (.tmp 44)], none⟩,
                ⟨none, (.store 1), [(.tmp 55), (.tmp 54)], none⟩] [] [8, 9, 11, 27, 28, 29, 37, 38, 39])))
            (.region [
              ⟨some 56, (.bin .add), [(.tmp 39), (.const (.int .i64 1))], none⟩,
              ⟨some 39, .mv, [(.tmp 56)], none⟩] [8, 9, 11, 27, 28, 29, 37, 38, 39])))))))))
      (.region [
        ⟨some 57, (.bin .add), [(.tmp 29), (.const (.int .i64 1))], none⟩,
        ⟨some 29, .mv, [(.tmp 57)], none⟩] [8, 9, 27, 28, 29])))))))
  (.seq
  (.region [
    ⟨some 58, .mv, [(.tmp 8)], none⟩,
    ⟨some 4, .mv, [(.tmp 58)], none⟩,
    ⟨some 5, .mv, [(.const (.bool true))], none⟩] [4, 5])
  .ret))))))
def f13 : Ev.Fn := ⟨2, 59, [.tmp 4, .tmp 5], k13⟩
set_option maxRecDepth 100000 in
theorem e13 : compFn prog sig 13 2 [[0, 1], [0, 1, 6, 7], [0, 1, 6, 21], [4, 5], [6, 8, 9], [8, 9, 27, 28, 29], [8, 9, 27, 28, 29], [8, 9, 27, 28, 29, 30], [8, 9, 11, 27, 28, 29], [8, 9, 11, 27, 28, 29, 37, 38, 39], [8, 9, 11, 27, 28, 29, 37, 38, 39], [8, 9, 11, 27, 28, 29, 37, 38, 39, 40], [8, 9, 11, 13, 27, 28, 29, 37, 38, 39], [8, 9, 11, 27, 28, 29, 37, 38, 39], [8, 9, 11, 27, 28, 29, 37, 38, 39], [8, 9, 27, 28, 29], [4, 5]] = some f13 := by kernel_rfl
noncomputable def graph_Far_L2 (r1 : Sl Int) (n17 : Nat) (r21 : Sl Int) : (List Int × Int) → Option (Sum ((List Int × Int)) (List Int)) := fun (l23, i24) =>
  bif decide (i24 < (r21.l.length : Int)) then ((ixI i24 r21.l.length).bind fun n31 =>
  (ixI (gt r21.l n31) l23.length).bind fun n33 =>
  (ixI (gt r1.l n17) l23.length).bind fun n35 =>
  some (.inl ((l23.set n33 (if (wr .i64 ((gt l23 n35) + 1)) > (gt l23 n33) then (wr .i64 ((gt l23 n35) + 1)) else (gt l23 n33))), wr .i64 (i24 + 1)))) else
  (some (.inr l23))

noncomputable def graph_Far_L1 (r1 : Sl Int) (r7 : Sl Int) : (List Int × Int) → Option (Sum ((List Int × Int)) (List Int)) := fun (l9, i10) =>
  bif decide (i10 < (r1.l.length : Int)) then ((ixI i10 r1.l.length).bind fun n17 =>
  (ixI (gt r1.l n17) r7.l.length).bind fun n19 =>
  (graph_list (gt r7.l n19)).bind fun r21 =>
  (loopO (graph_Far_L2 r1 n17 r21) (l9, 0)).bind fun l27 =>
  some (.inl (l27, wr .i64 (i10 + 1)))) else
  (some (.inr l9))

noncomputable def graph_Far (n_0 : Int) (l_1 : Sl graph_Edge) : Option ((Sl Int × Bool)) :=
  (graph_Order n_0 l_1).bind fun (r1, r2) =>
  bif (!r2) then (some (Sl.nil, false)) else
  ((mkI 0 n_0 n_0).bind fun l5 =>
  (graph_next n_0 l_1).bind fun r7 =>
  (loopO (graph_Far_L1 r1 r7) (l5, 0)).bind fun l13 =>
  some ((Sl.mk l13), true))
theorem graph_Far_ok {n_0 : Int} {l_1 : Sl graph_Edge} {z : (Sl Int × Bool)} (hp : graph_Far n_0 l_1 = some z) : Good prog 13 [.d (.lit (.int .i64 n_0)), .d (slD 2 c_graph_Edge l_1)] [.c (.d (slD 1 cI_i64 z.1)), .c (.d (.lit (.bool z.2)))] [] := by
  unfold graph_Far at hp
  refine fn_good mixed e13 (fnS (m := [true, false]) (s := ⟨[(0, .c (.d (.lit (.int .i64 n_0)))), (1, .c (.d (slD 2 c_graph_Edge l_1)))], [], 0, []⟩) (len := 0) (c := k13) rfl (Sub.of_eq rfl) rfl rfl ?_)
  refine w_seq ?_
  refine w_region ?_
  iterate 2 refine o1 rfl ?_
  refine o_end (e' := [(0, .c (.d (.lit (.int .i64 n_0)))), (1, .c (.d (slD 2 c_graph_Edge l_1)))]) rfl rfl ?_
  refine after_n ?_
  refine w_seq ?_
  obtain ⟨⟨r1, r2⟩, h3, hp⟩ := bnd hp
  refine w_region ?_
  iterate 2 refine o1 rfl ?_
  refine oc (rs := [.c (.d (slD 1 cI_i64 r1)), .c (.d (.lit (.bool r2)))]) (outs := []) rfl (graph_Order_ok h3) rfl ?_
  iterate 5 refine o1 rfl ?_
  refine o_end (e' := [(0, .c (.d (.lit (.int .i64 n_0)))), (1, .c (.d (slD 2 c_graph_Edge l_1))), (6, .c (.d (slD 1 cI_i64 r1))), (7, .c (.d (.lit (.bool r2))))]) rfl rfl ?_
  refine after_n ?_
  refine w_seq ?_
  refine w_seq ?_
  refine w_region ?_
  refine o1 rfl ?_
  refine o1 (v := .c (.d (.lit (.bool (!r2))))) rfl ?_
  refine o_end (e' := [(0, .c (.d (.lit (.int .i64 n_0)))), (1, .c (.d (slD 2 c_graph_Edge l_1))), (6, .c (.d (slD 1 cI_i64 r1))), (21, .c (.d (.lit (.bool (!r2)))))]) rfl rfl ?_
  refine after_n ?_
  refine w_cond (t := (!r2)) rfl (fun hb4 => ?_) (fun hb4 => ?_)
  · have hp := cnd_t hb4 hp
    refine w_seq ?_
    refine w_region ?_
    iterate 2 refine o1 rfl ?_
    refine o_end (e' := [(4, .c (.d (.lit (.slice none 0 0)))), (5, .c (.d (.lit (.bool false))))]) rfl rfl ?_
    refine after_n ?_
    refine w_ret ?_
    refine after_r ?_
    obtain rfl := Option.some.inj hp
    exact leave_at rfl rfl (pr_c p_d (pr_c p_d pr_nil)) pc_nil rfl rfl
  · have hp := cnd_f hb4 hp
    refine w_skip ?_
    refine after_n ?_
    refine w_seq ?_
    obtain ⟨l5, h6, hp⟩ := bnd hp
    obtain ⟨r7, h8, hp⟩ := bnd hp
    refine w_drawn ?_
    refine d1 rfl ?_
    refine d2 (ev_make (enc := cI_i64) (z := 0) rfl h6) (Nat.le_of_ble_eq_true rfl) ?_
    iterate 2 refine d1 rfl ?_
    refine dc (rs := [.c (.d (slD 1 cI_u16 r7))]) (outs := []) rfl (graph_next_ok h8) rfl (Nat.le_of_ble_eq_true rfl) ?_
    iterate 2 refine d1 rfl ?_
    refine d_fin (e' := [(6, .c (.d (slD 1 cI_i64 r1))), (8, .c (slC 1 cI_i64 64 (Sl.mk l5))), (9, .c (.d (slD 1 cI_u16 r7)))]) (n' := 448) rfl rfl rfl rfl ?_
    refine after_n ?_
    refine w_seq ?_
    refine w_seq ?_
    refine w_region ?_
    refine o1 rfl ?_
    refine o1 (v := .c (.d (.lit (.int .i64 (r1.l.length : Int))))) len_sd ?_
    refine o1 rfl ?_
    refine o_end (e' := [(8, .c (slC 1 cI_i64 64 (Sl.mk l5))), (9, .c (.d (slD 1 cI_u16 r7))), (27, .c (.d (slD 1 cI_i64 r1))), (28, .c (.d (.lit (.int .i64 (r1.l.length : Int))))), (29, .c (.d (.lit (.int .i64 0))))]) rfl rfl ?_
    refine after_n ?_
    refine w_block ?_
    obtain ⟨l13, h15, hp⟩ := bnd hp
    refine W.mono ?_ (w_loopS (st := fun (v : (List Int × Int)) => match v with | (l9, i10) => ⟨[(8, .c (slC 1 cI_i64 0 (Sl.mk l9))), (9, .c (.d (slD 1 cI_u16 r7))), (27, .c (.d (slD 1 cI_i64 r1))), (28, .c (.d (.lit (.int .i64 (r1.l.length : Int))))), (29, .c (.d (.lit (.int .i64 i10))))], [(0, slO 1 cI_i64 (Sl.mk l9))], 1, []⟩) (a := (l5, 0)) (Q := Jn (fun (x : List Int) o s => match x with | l13 => o = Out.exit 0 ∧ Sub s ⟨[(8, .c (slC 1 cI_i64 0 (Sl.mk l13)))], [(0, slO 1 cI_i64 (Sl.mk l13))], 1, []⟩)) ?_ h15 ?_)
    · intro o s hs38
      obtain ⟨rfl, hs38⟩ := hs38
      refine out_e ?_
      refine after_n ?_
      refine W.sub hs38 ?_
      refine w_seq ?_
      refine w_region ?_
      iterate 3 refine o1 rfl ?_
      refine o_end (e' := [(4, .c (slC 1 cI_i64 0 (Sl.mk l13))), (5, .c (.d (.lit (.bool true))))]) rfl rfl ?_
      refine after_n ?_
      refine w_ret ?_
      obtain rfl := Option.some.inj hp
      exact leave_at rfl rfl (pr_c (p_o rfl) (pr_c p_d pr_nil)) pc_nil rfl rfl
    · exact (sub_ren [64] [8, 9, 27, 28, 29] (by decide) rfl (.cons .nil) (Nat.le_of_ble_eq_true rfl))
    · rintro ⟨l9, i10⟩ r hr
      unfold graph_Far_L1 at hr
      refine w_seq ?_
      refine w_region ?_
      refine o1 (v := .c (.d (.lit (.bool (decide (i10 < (r1.l.length : Int))))))) rfl ?_
      refine o_end (e' := [(8, .c (slC 1 cI_i64 0 (Sl.mk l9))), (9, .c (.d (slD 1 cI_u16 r7))), (27, .c (.d (slD 1 cI_i64 r1))), (28, .c (.d (.lit (.int .i64 (r1.l.length : Int))))), (29, .c (.d (.lit (.int .i64 i10)))), (30, .c (.d (.lit (.bool (decide (i10 < (r1.l.length : Int)))))))]) rfl rfl ?_
      refine after_n ?_
      refine w_seq ?_
      refine w_cond (t := decide (i10 < (r1.l.length : Int))) rfl (fun hb16 => ?_) (fun hb16 => ?_)
      · have hr := cnd_t hb16 hr
        refine w_skip ?_
        refine after_n ?_
        refine w_seq ?_
        refine w_block ?_
        refine w_seq ?_
        obtain ⟨n17, h18, hr⟩ := bnd hr
        refine w_region ?_
        refine o1 (ix_sd h18) ?_
        iterate 2 refine o1 rfl ?_
        refine o_end (e' := [(8, .c (slC 1 cI_i64 0 (Sl.mk l9))), (9, .c (.d (slD 1 cI_u16 r7))), (11, .c (.d (.lit (.int .i64 (gt r1.l n17))))), (27, .c (.d (slD 1 cI_i64 r1))), (28, .c (.d (.lit (.int .i64 (r1.l.length : Int))))), (29, .c (.d (.lit (.int .i64 i10))))]) rfl rfl ?_
        refine after_n ?_
        refine w_seq ?_
        obtain ⟨n19, h20, hr⟩ := bnd hr
        obtain ⟨r21, h22, hr⟩ := bnd hr
        refine w_region ?_
        iterate 2 refine o1 rfl ?_
        refine o1 (ix_sd h20) ?_
        refine o1 rfl ?_
        refine oc (rs := [.c (.d (slD 1 cI_i64 r21))]) (outs := []) rfl (graph_list_ok h22) rfl ?_
        refine o1 (v := .c (.d (.lit (.int .i64 (r21.l.length : Int))))) len_sd ?_
        refine o1 rfl ?_
        refine o_end (e' := [(8, .c (slC 1 cI_i64 0 (Sl.mk l9))), (9, .c (.d (slD 1 cI_u16 r7))), (11, .c (.d (.lit (.int .i64 (gt r1.l n17))))), (27, .c (.d (slD 1 cI_i64 r1))), (28, .c (.d (.lit (.int .i64 (r1.l.length : Int))))), (29, .c (.d (.lit (.int .i64 i10)))), (37, .c (.d (slD 1 cI_i64 r21))), (38, .c (.d (.lit (.int .i64 (r21.l.length : Int))))), (39, .c (.d (.lit (.int .i64 0))))]) rfl rfl ?_
        refine after_n ?_
        refine w_block ?_
        obtain ⟨l27, h29, hr⟩ := bnd hr
        refine W.mono ?_ (w_loopS (st := fun (v : (List Int × Int)) => match v with | (l23, i24) => ⟨[(8, .c (slC 1 cI_i64 0 (Sl.mk l23))), (9, .c (.d (slD 1 cI_u16 r7))), (11, .c (.d (.lit (.int .i64 (gt r1.l n17))))), (27, .c (.d (slD 1 cI_i64 r1))), (28, .c (.d (.lit (.int .i64 (r1.l.length : Int))))), (29, .c (.d (.lit (.int .i64 i10)))), (37, .c (.d (slD 1 cI_i64 r21))), (38, .c (.d (.lit (.int .i64 (r21.l.length : Int))))), (39, .c (.d (.lit (.int .i64 i24))))], [(0, slO 1 cI_i64 (Sl.mk l23))], 1, []⟩) (a := (l9, 0)) (Q := Jn (fun (x : List Int) o s => match x with | l27 => o = Out.exit 2 ∧ Sub s ⟨[(8, .c (slC 1 cI_i64 0 (Sl.mk l27))), (9, .c (.d (slD 1 cI_u16 r7))), (27, .c (.d (slD 1 cI_i64 r1))), (28, .c (.d (.lit (.int .i64 (r1.l.length : Int))))), (29, .c (.d (.lit (.int .i64 i10))))], [(0, slO 1 cI_i64 (Sl.mk l27))], 1, []⟩)) ?_ h29 ?_)
        · intro o s hs37
          obtain ⟨rfl, hs37⟩ := hs37
          refine out_e ?_
          refine out_n ?_
          refine after_n ?_
          refine W.sub hs37 ?_
          refine w_region ?_
          refine o1 (v := .c (.d (.lit (.int .i64 (wr .i64 (i10 + 1)))))) rfl ?_
          refine o1 rfl ?_
          refine o_end (e' := [(8, .c (slC 1 cI_i64 0 (Sl.mk l27))), (9, .c (.d (slD 1 cI_u16 r7))), (27, .c (.d (slD 1 cI_i64 r1))), (28, .c (.d (.lit (.int .i64 (r1.l.length : Int))))), (29, .c (.d (.lit (.int .i64 (wr .i64 (i10 + 1))))))]) rfl rfl ?_
          obtain rfl := Option.some.inj hr
          exact And.intro rfl (sub_ren [0] [8, 9, 27, 28, 29] (by decide) rfl (.cons .nil) (Nat.le_of_ble_eq_true rfl))
        · exact (sub_ren [0] [8, 9, 11, 27, 28, 29, 37, 38, 39] (by decide) rfl (.cons .nil) (Nat.le_of_ble_eq_true rfl))
        · rintro ⟨l23, i24⟩ r hr
          unfold graph_Far_L2 at hr
          refine w_seq ?_
          refine w_region ?_
          refine o1 (v := .c (.d (.lit (.bool (decide (i24 < (r21.l.length : Int))))))) rfl ?_
          refine o_end (e' := [(8, .c (slC 1 cI_i64 0 (Sl.mk l23))), (9, .c (.d (slD 1 cI_u16 r7))), (11, .c (.d (.lit (.int .i64 (gt r1.l n17))))), (27, .c (.d (slD 1 cI_i64 r1))), (28, .c (.d (.lit (.int .i64 (r1.l.length : Int))))), (29, .c (.d (.lit (.int .i64 i10)))), (37, .c (.d (slD 1 cI_i64 r21))), (38, .c (.d (.lit (.int .i64 (r21.l.length : Int))))), (39, .c (.d (.lit (.int .i64 i24)))), (40, .c (.d (.lit (.bool (decide (i24 < (r21.l.length : Int)))))))]) rfl rfl ?_
          refine after_n ?_
          refine w_seq ?_
          refine w_cond (t := decide (i24 < (r21.l.length : Int))) rfl (fun hb30 => ?_) (fun hb30 => ?_)
          · have hr := cnd_t hb30 hr
            refine w_skip ?_
            refine after_n ?_
            refine w_seq ?_
            refine w_block ?_
            refine w_seq ?_
            obtain ⟨n31, h32, hr⟩ := bnd hr
            refine w_region ?_
            refine o1 (ix_sd h32) ?_
            iterate 2 refine o1 rfl ?_
            refine o_end (e' := [(8, .c (slC 1 cI_i64 0 (Sl.mk l23))), (9, .c (.d (slD 1 cI_u16 r7))), (11, .c (.d (.lit (.int .i64 (gt r1.l n17))))), (13, .c (.d (.lit (.int .i64 (gt r21.l n31))))), (27, .c (.d (slD 1 cI_i64 r1))), (28, .c (.d (.lit (.int .i64 (r1.l.length : Int))))), (29, .c (.d (.lit (.int .i64 i10)))), (37, .c (.d (slD 1 cI_i64 r21))), (38, .c (.d (.lit (.int .i64 (r21.l.length : Int))))), (39, .c (.d (.lit (.int .i64 i24))))]) rfl rfl ?_
            refine after_n ?_
            obtain ⟨n33, h34, hr⟩ := bnd hr
            obtain ⟨n35, h36, hr⟩ := bnd hr
            try dsimp only [slC, slO]
            refine w_drawn ?_
            iterate 4 refine d1 rfl ?_
            refine d1 (ix_o h34) ?_
            refine d1 (ld_row rfl (ixI_some.1 h34).2 rfl) ?_
            iterate 2 refine d1 rfl ?_
            refine d1 (ix_o h36) ?_
            refine d1 (ld_row rfl (ixI_some.1 h36).2 rfl) ?_
            refine d1 (v := .c (.d (.lit (.int .i64 (wr .i64 ((gt l23 n35) + 1)))))) rfl ?_
            refine d1 (v := .c (.d (.lit (.int .i64 (if (wr .i64 ((gt l23 n35) + 1)) > (gt l23 n33) then (wr .i64 ((gt l23 n35) + 1)) else (gt l23 n33)))))) rfl ?_
            refine d1 (ix_o h34) ?_
            refine d0 (st_row (y := (if (wr .i64 ((gt l23 n35) + 1)) > (gt l23 n33) then (wr .i64 ((gt l23 n35) + 1)) else (gt l23 n33))) rfl (ixI_some.1 h34).2 rfl rfl rfl (Nat.le_of_ble_eq_true rfl) rfl) (Nat.le_of_ble_eq_true rfl) ?_
            rw [len_set l23 cI_i64 n33 (if (wr .i64 ((gt l23 n35) + 1)) > (gt l23 n33) then (wr .i64 ((gt l23 n35) + 1)) else (gt l23 n33))]
            refine d_fin (e' := [(8, .c (slC 1 cI_i64 0 (Sl.mk (l23.set n33 (if (wr .i64 ((gt l23 n35) + 1)) > (gt l23 n33) then (wr .i64 ((gt l23 n35) + 1)) else (gt l23 n33)))))), (9, .c (.d (slD 1 cI_u16 r7))), (11, .c (.d (.lit (.int .i64 (gt r1.l n17))))), (27, .c (.d (slD 1 cI_i64 r1))), (28, .c (.d (.lit (.int .i64 (r1.l.length : Int))))), (29, .c (.d (.lit (.int .i64 i10)))), (37, .c (.d (slD 1 cI_i64 r21))), (38, .c (.d (.lit (.int .i64 (r21.l.length : Int))))), (39, .c (.d (.lit (.int .i64 i24))))]) (n' := 897) rfl rfl rfl rfl ?_
            refine out_n ?_
            refine after_n ?_
            refine w_region ?_
            refine o1 (v := .c (.d (.lit (.int .i64 (wr .i64 (i24 + 1)))))) rfl ?_
            refine o1 rfl ?_
            refine o_end (e' := [(8, .c (slC 1 cI_i64 0 (Sl.mk (l23.set n33 (if (wr .i64 ((gt l23 n35) + 1)) > (gt l23 n33) then (wr .i64 ((gt l23 n35) + 1)) else (gt l23 n33)))))), (9, .c (.d (slD 1 cI_u16 r7))), (11, .c (.d (.lit (.int .i64 (gt r1.l n17))))), (27, .c (.d (slD 1 cI_i64 r1))), (28, .c (.d (.lit (.int .i64 (r1.l.length : Int))))), (29, .c (.d (.lit (.int .i64 i10)))), (37, .c (.d (slD 1 cI_i64 r21))), (38, .c (.d (.lit (.int .i64 (r21.l.length : Int))))), (39, .c (.d (.lit (.int .i64 (wr .i64 (i24 + 1))))))]) rfl rfl ?_
            obtain rfl := Option.some.inj hr
            exact And.intro rfl (sub_ren [0] [8, 9, 11, 27, 28, 29, 37, 38, 39] (by decide) rfl (.cons .nil) (Nat.le_of_ble_eq_true rfl))
          · have hr := cnd_f hb30 hr
            refine w_exit ?_
            refine after_e ?_
            obtain rfl := Option.some.inj hr
            exact And.intro nofun (And.intro rfl (sub_ren [0] [8, 9, 27, 28, 29] (by decide) rfl (.cons .nil) (Nat.le_of_ble_eq_true rfl)))
      · have hr := cnd_f hb16 hr
        refine w_exit ?_
        refine after_e ?_
        obtain rfl := Option.some.inj hr
        exact And.intro nofun (And.intro rfl (sub_ren [0] [8] (by decide) rfl (.cons .nil) (Nat.le_of_ble_eq_true rfl)))

end Go.Proofs.YtjfhiochcdjkhaaDoor.G
