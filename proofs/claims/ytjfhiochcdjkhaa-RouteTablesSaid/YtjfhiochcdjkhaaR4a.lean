/- What functions of the program compute, and that the model's run computes it. Conditions: as stated. -/
import Derived.Test.YtjfhiochcdjkhaaEvX
import Derived.Test.YtjfhiochcdjkhaaChecked
import Derived.KernelRfl
open Go.Ev Go
namespace Go.Proofs.Ytjfhiochcdjkhaa.R

noncomputable abbrev prog : Program := Try.prog
theorem mixed : prog.follows .mixedOrders = true := by kernel_rfl
def sig : Sig := fun f =>
  if f = 2 then (true, []) else if f = 3 then (true, []) else if f = 4 then (true, []) else if f = 5 then (true, []) else if f = 6 then (true, []) else if f = 7 then (true, []) else if f = 8 then (true, []) else if f = 9 then (true, []) else if f = 10 then (true, []) else if f = 11 then (true, []) else if f = 12 then (true, []) else if f = 15 then (true, []) else if f = 16 then (true, []) else if f = 17 then (true, []) else if f = 20 then (true, []) else if f = 21 then (true, []) else if f = 24 then (true, []) else if f = 25 then (false, [true, true, false]) else if f = 26 then (true, []) else if f = 27 then (true, []) else if f = 28 then (true, []) else if f = 29 then (true, []) else if f = 30 then (false, [true, false]) else if f = 31 then (false, [true, false, false]) else if f = 32 then (true, []) else if f = 33 then (false, [true, false, false, false, false, false]) else if f = 34 then (true, []) else if f = 35 then (true, []) else if f = 36 then (true, []) else if f = 37 then (true, []) else if f = 38 then (true, []) else if f = 40 then (true, []) else if f = 41 then (true, []) else if f = 42 then (true, []) else if f = 43 then (true, []) else if f = 44 then (true, []) else if f = 48 then (true, []) else if f = 49 then (true, []) else if f = 50 then (true, []) else if f = 51 then (true, []) else if f = 52 then (true, []) else if f = 53 then (true, []) else if f = 54 then (true, []) else if f = 56 then (true, []) else if f = 58 then (true, []) else if f = 59 then (true, []) else if f = 60 then (true, []) else if f = 61 then (false, [true, false, false, false, false, false]) else if f = 62 then (false, [true, false, false]) else if f = 63 then (true, []) else if f = 64 then (true, []) else if f = 65 then (false, [true, false]) else if f = 66 then (true, []) else if f = 67 then (true, []) else if f = 68 then (true, []) else if f = 69 then (true, []) else if f = 70 then (false, [true, false]) else if f = 71 then (false, [true, false, false]) else if f = 73 then (true, []) else if f = 76 then (false, [true, false]) else if f = 77 then (true, []) else if f = 78 then (true, []) else if f = 79 then (true, []) else if f = 80 then (true, []) else if f = 81 then (true, []) else if f = 83 then (true, []) else if f = 84 then (true, []) else if f = 85 then (true, []) else if f = 86 then (true, []) else if f = 87 then (true, []) else if f = 88 then (true, []) else if f = 89 then (true, []) else if f = 90 then (true, []) else if f = 91 then (false, [true, false]) else if f = 92 then (false, [true, false, false]) else if f = 93 then (true, []) else if f = 94 then (false, [true, false, false, false, false]) else if f = 95 then (true, []) else if f = 96 then (true, []) else if f = 97 then (true, []) else if f = 98 then (true, []) else if f = 99 then (true, []) else if f = 100 then (true, []) else if f = 101 then (true, []) else if f = 102 then (true, []) else if f = 103 then (true, []) else if f = 104 then (true, []) else if f = 105 then (false, [true, false, false, false]) else if f = 106 then (false, [true, false, false, false, false]) else if f = 107 then (true, []) else if f = 108 then (true, []) else if f = 109 then (false, [true, false, false, false]) else if f = 110 then (false, [true, false, false, false]) else if f = 111 then (false, [true, false, false, false]) else if f = 112 then (true, []) else if f = 113 then (false, [true, false, false, false]) else if f = 114 then (false, [true, false, false, false]) else if f = 115 then (false, [true, false, false, false, false]) else if f = 116 then (false, [true, false, false, false, false]) else if f = 117 then (true, []) else if f = 118 then (true, []) else if f = 119 then (true, []) else if f = 120 then (true, []) else if f = 121 then (true, []) else if f = 122 then (false, [true, false, false, false, false]) else if f = 123 then (false, [true, false, false, false, false]) else if f = 124 then (true, []) else if f = 125 then (false, [true]) else if f = 126 then (false, [false, false, true, false]) else if f = 127 then (false, [false, false, false, false, true, false]) else if f = 128 then (false, [true, false, false, false, false]) else if f = 129 then (false, [false, false, false, true, false]) else (false, [])

structure api_Link where
  A : Int
  PortA : Int
  B : Int
  PortB : Int
  Least : Int
  Most : Int
  deriving Inhabited, DecidableEq

structure api_Host where
  At : Int
  Port : Int
  deriving Inhabited, DecidableEq

structure api_Topo where
  Switches : Int
  Links : Sl api_Link
  Hosts : Sl api_Host
  deriving Inhabited, DecidableEq

def c_api_Link (x : api_Link) : List D := [.lit (.int .i64 x.A), .lit (.int .i64 x.PortA), .lit (.int .i64 x.B), .lit (.int .i64 x.PortB), .lit (.int .i64 x.Least), .lit (.int .i64 x.Most)]

def c_api_Host (x : api_Host) : List D := [.lit (.int .i64 x.At), .lit (.int .i64 x.Port)]

def c_api_Topo (x : api_Topo) : List D := [.lit (.int .i64 x.Switches), slD 6 c_api_Link x.Links, slD 2 c_api_Host x.Hosts]

def cI_i64 (x : Int) : List D := [.lit (.int .i64 x)]

def cL_I_i64 (x : Sl Int) : List D := [slD 1 cI_i64 x]

structure A4_Int where
  e0 : Int
  e1 : Int
  e2 : Int
  e3 : Int
  deriving Inhabited, DecidableEq

def c_A4_Int (x : A4_Int) : List D := [.lit (.int .i64 x.e0), .lit (.int .i64 x.e1), .lit (.int .i64 x.e2), .lit (.int .i64 x.e3)]

structure topo_place where
  sw : Int
  port : Int
  deriving Inhabited, DecidableEq

def c_topo_place (x : topo_place) : List D := [.lit (.int .i64 x.sw), .lit (.int .i64 x.port)]

def kp_topo_place (x : topo_place) : List Value := [(.int .i64 x.sw), (.int .i64 x.port)]

theorem kp_topo_place_eq (a b : topo_place) : eqVs [(.i .i64), (.i .i64)] (kp_topo_place a) (kp_topo_place b) = some (decide (a = b)) := by
  obtain ⟨a0, a1⟩ := a
  obtain ⟨b0, b1⟩ := b
  simp only [kp_topo_place, eqVs, eqK, and_self, if_true, Option.some.injEq]
  rw [Bool.eq_iff_iff]
  simp

structure api_Match where
  Port : Int
  Val : A4_Int
  Mask : A4_Int
  deriving Inhabited, DecidableEq

structure api_Act where
  Kind : Int
  F : Int
  V : Int
  deriving Inhabited, DecidableEq

structure api_Rule where
  Prio : Int
  M : api_Match
  Acts : Sl api_Act
  deriving Inhabited, DecidableEq

def c_api_Act (x : api_Act) : List D := [.lit (.int .i64 x.Kind), .lit (.int .i64 x.F), .lit (.int .i64 x.V)]

def c_api_Rule (x : api_Rule) : List D := [.lit (.int .i64 x.Prio), .lit (.int .i64 x.M.Port), .lit (.int .i64 x.M.Val.e0), .lit (.int .i64 x.M.Val.e1), .lit (.int .i64 x.M.Val.e2), .lit (.int .i64 x.M.Val.e3), .lit (.int .i64 x.M.Mask.e0), .lit (.int .i64 x.M.Mask.e1), .lit (.int .i64 x.M.Mask.e2), .lit (.int .i64 x.M.Mask.e3), slD 3 c_api_Act x.Acts]

structure api_Sent where
  Port : Int
  P : A4_Int
  deriving Inhabited, DecidableEq

def c_api_Match (x : api_Match) : List D := [.lit (.int .i64 x.Port), .lit (.int .i64 x.Val.e0), .lit (.int .i64 x.Val.e1), .lit (.int .i64 x.Val.e2), .lit (.int .i64 x.Val.e3), .lit (.int .i64 x.Mask.e0), .lit (.int .i64 x.Mask.e1), .lit (.int .i64 x.Mask.e2), .lit (.int .i64 x.Mask.e3)]

def c_api_Sent (x : api_Sent) : List D := [.lit (.int .i64 x.Port), .lit (.int .i64 x.P.e0), .lit (.int .i64 x.P.e1), .lit (.int .i64 x.P.e2), .lit (.int .i64 x.P.e3)]

/- turnout/turnoutlaw21.small -/
def k11 : CC :=
  (.seq
  (.region [
    ⟨some 2, .box, [(.tmp 0)], none⟩,
    ⟨some 4, .mv, [(.const (.bool false))], none⟩] [1, 2])
  (.seq
  (.seq
  (.region [
    ⟨some 5, .mv, [(.const (.int .i64 0))], none⟩] [1, 2, 5])
  (.block 0
    (.loop [1, 2, 5]
      (.seq
      (.seq
      (.region [
        ⟨some 6, .mv, [(.tmp 5)], none⟩,
        ⟨some 7, .mv, [(.tmp 1)], none⟩,
        ⟨some 8, (.len false), [(.tmp 7)], none⟩,
        ⟨some 9, (.bin .lss), [(.tmp 6), (.tmp 8)], none⟩] [1, 2, 5, 9])
      (.cond (.tmp 9)
        .skip
        (.exit 0)))
      (.seq
      (.block 1
        (.seq
        (.region [
          ⟨some 12, .mv, [(.tmp 1)], none⟩,
          ⟨some 13, .mv, [(.tmp 5)], none⟩,
          ⟨some 14, (.indexAddr none 1), [(.tmp 12), (.tmp 13)], none⟩,
          ⟨some 15, (.load false 1), [(.tmp 14)], none⟩,
          ⟨some 16, (.len false), [(.tmp 15)], none⟩,
          ⟨some 17, (.bin .gtr), [(.tmp 16), (.const (.int .i64 12))], none⟩] [1, 2, 5, 17])
        (.cond (.tmp 17)
          (.seq
          (.region [
            ⟨some 4, .mv, [(.const (.bool false))], none⟩] [4])
          .ret)
          .skip)))
      (.region [
        ⟨some 10, .mv, [(.tmp 5)], none⟩,
        ⟨some 11, (.bin .add), [(.tmp 10), (.const (.int .i64 1))], none⟩,
        ⟨some 5, .mv, [(.tmp 11)], none⟩] [1, 2, 5]))))))
  (.seq
  (.region [
    ⟨some 18, (.fieldAddr 1), [(.tmp 2)], none⟩,
    ⟨some 19, (.load false 1), [(.tmp 18)], none⟩,
    ⟨some 20, (.len false), [(.tmp 19)], none⟩,
    ⟨some 21, (.bin .leq), [(.tmp 20), (.const (.int .i64 30))], none⟩,
    ⟨some 22, .mv, [(.tmp 21)], none⟩,
    ⟨some 23, (.fieldAddr 2), [(.tmp 2)], (some (22, true))⟩,
    ⟨some 24, (.load false 1), [(.tmp 23)], (some (22, true))⟩,
    ⟨some 25, (.len false), [(.tmp 24)], (some (22, true))⟩,
    ⟨some 26, (.bin .leq), [(.tmp 25), (.const (.int .i64 12))], (some (22, true))⟩,
    ⟨some 27, .pick, [(.tmp 22), (.tmp 26), (.const (.bool false))], none⟩,
    ⟨some 28, .mv, [(.tmp 27)], none⟩,
    ⟨some 29, .mv, [(.tmp 1)], (some (28, true))⟩,
    ⟨some 30, (.len false), [(.tmp 29)], (some (28, true))⟩,
    ⟨some 31, (.bin .leq), [(.tmp 30), (.const (.int .i64 12))], (some (28, true))⟩,
    ⟨some 32, .pick, [(.tmp 28), (.tmp 31), (.const (.bool false))], none⟩,
    ⟨some 4, .mv, [(.tmp 32)], none⟩] [4])
  .ret)))
def f11 : Ev.Fn := ⟨2, 33, [.tmp 4], k11⟩
set_option maxRecDepth 100000 in
theorem e11 : compFn prog sig 11 2 [[1, 2], [1, 2, 5], [1, 2, 5], [1, 2, 5, 9], [1, 2, 5, 17], [4], [1, 2, 5], [4]] = some f11 := by kernel_rfl
noncomputable def law21_small_L1 (r_1 : Sl (Sl Int)) : Int → Option (Sum (Int) (Sum (Unit) (Unit))) := fun i1 =>
  bif decide (i1 < (r_1.l.length : Int)) then ((ixI i1 r_1.l.length).bind fun n6 =>
  bif decide ((((gt r_1.l n6).l).length : Int) > 12) then (some (.inr (.inl ()))) else
  (some (.inl (wr .i64 (i1 + 1))))) else
  (some (.inr (.inr ())))

noncomputable def law21_small (t_0 : api_Topo) (r_1 : Sl (Sl Int)) : Option (Bool) :=
  (loopO (law21_small_L1 r_1) 0).bind fun
  | .inl _ => (some false)
  | .inr (_) => (some ((decide ((t_0.Links.l.length : Int) ≤ 30)) && ((decide ((t_0.Hosts.l.length : Int) ≤ 12)) && (decide ((r_1.l.length : Int) ≤ 12)))))
theorem law21_small_ok {t_0 : api_Topo} {r_1 : Sl (Sl Int)} {z : Bool} (hp : law21_small t_0 r_1 = some z) : Good prog 11 [.agg (c_api_Topo t_0), .d (slD 1 cL_I_i64 r_1)] [.c (.d (.lit (.bool z)))] [] := by
  unfold law21_small at hp
  refine fn_good mixed e11 (fnS (m := [false]) (s := ⟨[(0, .agg [.d (.lit (.int .i64 t_0.Switches)), .d (slD 6 c_api_Link t_0.Links), .d (slD 2 c_api_Host t_0.Hosts)]), (1, .c (.d (slD 1 cL_I_i64 r_1)))], [], 0, []⟩) (len := 0) (c := k11) rfl (Sub.of_eq rfl) rfl rfl ?_)
  refine w_seq ?_
  refine w_region ?_
  refine o2 rfl ?_
  refine o1 rfl ?_
  refine o_end (e' := [(1, .c (.d (slD 1 cL_I_i64 r_1))), (2, .c (.op 0 0))]) rfl rfl ?_
  refine after_n ?_
  refine w_seq ?_
  refine w_seq ?_
  refine w_region ?_
  refine o1 rfl ?_
  refine o_end (e' := [(1, .c (.d (slD 1 cL_I_i64 r_1))), (2, .c (.op 0 0)), (5, .c (.d (.lit (.int .i64 0))))]) rfl rfl ?_
  refine after_n ?_
  refine w_block ?_
  obtain ⟨x3, h4, hp⟩ := bnd hp
  refine W.mono ?_ (w_loopS (st := fun (v : Int) => match v with | i1 => ⟨[(1, .c (.d (slD 1 cL_I_i64 r_1))), (2, .c (.op 0 0)), (5, .c (.d (.lit (.int .i64 i1))))], [(0, some (.box [.d (.lit (.int .i64 t_0.Switches)), .d (slD 6 c_api_Link t_0.Links), .d (slD 2 c_api_Host t_0.Hosts)]))], 1, []⟩) (a := 0) (Q := Jn (fun (x : Sum (Unit) (Unit)) o s => match x with | .inl _ => o = Out.ret ∧ Sub s ⟨[(4, .c (.d (.lit (.bool false))))], [], 0, []⟩ | .inr (_) => o = Out.exit 0 ∧ Sub s ⟨[(1, .c (.d (slD 1 cL_I_i64 r_1))), (2, .c (.op 0 0))], [(0, some (.box [.d (.lit (.int .i64 t_0.Switches)), .d (slD 6 c_api_Link t_0.Links), .d (slD 2 c_api_Host t_0.Hosts)]))], 1, []⟩)) ?_ h4 ?_)
  · intro o s hs9
    rcases x3 with (_ | _)
    · obtain ⟨rfl, hs9⟩ := hs9
      refine out_r ?_
      refine after_r ?_
      obtain rfl := Option.some.inj hp
      refine wk.sub hs9 ?_
      exact leave_at rfl rfl (pr_c p_d pr_nil) pc_nil rfl rfl
    · obtain ⟨rfl, hs9⟩ := hs9
      refine out_e ?_
      refine after_n ?_
      refine W.sub hs9 ?_
      refine w_seq ?_
      refine w_join (J := fun s => Sub s ⟨[(4, .c (.d (.lit (.bool ((decide ((t_0.Links.l.length : Int) ≤ 30)) && ((decide ((t_0.Hosts.l.length : Int) ≤ 12)) && (decide ((r_1.l.length : Int) ≤ 12))))))))], [], 0, []⟩) ?_ ?_
      · refine w_region ?_
        iterate 2 refine o1 rfl ?_
        refine o1 (v := .c (.d (.lit (.int .i64 (t_0.Links.l.length : Int))))) len_sd ?_
        refine o1 (v := .c (.d (.lit (.bool (decide ((t_0.Links.l.length : Int) ≤ 30)))))) rfl ?_
        refine o1 rfl ?_
        cases hb11 : (decide ((t_0.Links.l.length : Int) ≤ 30) : Bool)
        · refine onot rfl rfl ?_
          iterate 3 refine onot rfl rfl ?_
          iterate 2 refine o1 rfl ?_
          iterate 3 refine onot rfl rfl ?_
          iterate 2 refine o1 rfl ?_
          exact o_join (sub_ren [] [4] (by decide) rfl .nil (Nat.le_of_ble_eq_true rfl))
        · refine og rfl rfl rfl ?_
          refine og rfl rfl rfl ?_
          refine og (v := .c (.d (.lit (.int .i64 (t_0.Hosts.l.length : Int))))) rfl rfl len_sd ?_
          refine og (v := .c (.d (.lit (.bool (decide ((t_0.Hosts.l.length : Int) ≤ 12)))))) rfl rfl rfl ?_
          iterate 2 refine o1 rfl ?_
          cases hb12 : (decide ((t_0.Hosts.l.length : Int) ≤ 12) : Bool)
          · refine onot rfl rfl ?_
            iterate 2 refine onot rfl rfl ?_
            iterate 2 refine o1 rfl ?_
            exact o_join (sub_ren [] [4] (by decide) rfl .nil (Nat.le_of_ble_eq_true rfl))
          · refine og rfl rfl rfl ?_
            refine og (v := .c (.d (.lit (.int .i64 (r_1.l.length : Int))))) rfl rfl len_sd ?_
            refine og (v := .c (.d (.lit (.bool (decide ((r_1.l.length : Int) ≤ 12)))))) rfl rfl rfl ?_
            iterate 2 refine o1 rfl ?_
            exact o_join (sub_ren [] [4] (by decide) rfl .nil (Nat.le_of_ble_eq_true rfl))
      · intro s hs13
        refine after_n ?_
        refine W.sub hs13 ?_
        refine w_ret ?_
        obtain rfl := Option.some.inj hp
        exact leave_at rfl rfl (pr_c p_d pr_nil) pc_nil rfl rfl
  · exact (sub_ren [0] [1, 2, 5] (by decide) rfl (.cons .nil) (Nat.le_of_ble_eq_true rfl))
  · rintro i1 r hr
    unfold law21_small_L1 at hr
    refine w_seq ?_
    refine w_seq ?_
    refine w_region ?_
    iterate 2 refine o1 rfl ?_
    refine o1 (v := .c (.d (.lit (.int .i64 (r_1.l.length : Int))))) len_sd ?_
    refine o1 (v := .c (.d (.lit (.bool (decide (i1 < (r_1.l.length : Int))))))) rfl ?_
    refine o_end (e' := [(1, .c (.d (slD 1 cL_I_i64 r_1))), (2, .c (.op 0 0)), (5, .c (.d (.lit (.int .i64 i1)))), (9, .c (.d (.lit (.bool (decide (i1 < (r_1.l.length : Int)))))))]) rfl rfl ?_
    refine after_n ?_
    refine w_cond (t := decide (i1 < (r_1.l.length : Int))) rfl (fun hb5 => ?_) (fun hb5 => ?_)
    · have hr := cnd_t hb5 hr
      refine w_skip ?_
      refine after_n ?_
      refine w_seq ?_
      refine w_block ?_
      refine w_seq ?_
      obtain ⟨n6, h7, hr⟩ := bnd hr
      refine w_region ?_
      iterate 2 refine o1 rfl ?_
      refine o1 (ix_sd h7) ?_
      refine o1 rfl ?_
      refine o1 (v := .c (.d (.lit (.int .i64 (((gt r_1.l n6).l).length : Int))))) len_sd ?_
      refine o1 (v := .c (.d (.lit (.bool (decide ((((gt r_1.l n6).l).length : Int) > 12)))))) rfl ?_
      refine o_end (e' := [(1, .c (.d (slD 1 cL_I_i64 r_1))), (2, .c (.op 0 0)), (5, .c (.d (.lit (.int .i64 i1)))), (17, .c (.d (.lit (.bool (decide ((((gt r_1.l n6).l).length : Int) > 12))))))]) rfl rfl ?_
      refine after_n ?_
      refine w_cond (t := decide ((((gt r_1.l n6).l).length : Int) > 12)) rfl (fun hb8 => ?_) (fun hb8 => ?_)
      · have hr := cnd_t hb8 hr
        refine w_seq ?_
        refine w_region ?_
        refine o1 rfl ?_
        refine o_end (e' := [(4, .c (.d (.lit (.bool false))))]) rfl rfl ?_
        refine after_n ?_
        refine w_ret ?_
        refine out_r ?_
        refine after_r ?_
        obtain rfl := Option.some.inj hr
        exact And.intro nofun (And.intro rfl (sub_ren [] [4] (by decide) rfl .nil (Nat.le_of_ble_eq_true rfl)))
      · have hr := cnd_f hb8 hr
        refine w_skip ?_
        refine out_n ?_
        refine after_n ?_
        refine w_region ?_
        refine o1 rfl ?_
        refine o1 (v := .c (.d (.lit (.int .i64 (wr .i64 (i1 + 1)))))) rfl ?_
        refine o1 rfl ?_
        refine o_end (e' := [(1, .c (.d (slD 1 cL_I_i64 r_1))), (2, .c (.op 0 0)), (5, .c (.d (.lit (.int .i64 (wr .i64 (i1 + 1))))))]) rfl rfl ?_
        obtain rfl := Option.some.inj hr
        exact And.intro rfl (sub_ren [0] [1, 2, 5] (by decide) rfl (.cons .nil) (Nat.le_of_ble_eq_true rfl))
    · have hr := cnd_f hb5 hr
      refine w_exit ?_
      refine after_e ?_
      obtain rfl := Option.some.inj hr
      exact And.intro nofun (And.intro rfl (sub_ren [0] [1, 2] (by decide) rfl (.cons .nil) (Nat.le_of_ble_eq_true rfl)))

/- turnout/turnoutref17.port -/
def k69 : CC :=
  (.seq
  (.region [
    ⟨some 3, .box, [(.tmp 0)], none⟩,
    ⟨some 6, .mv, [(.const (.bool false))], none⟩] [1, 2, 3])
  (.seq
  (.region [
    ⟨some 7, .mv, [(.const (.int .i64 0))], none⟩] [1, 2, 3, 7])
  (.seq
  (.seq
  (.region [
    ⟨some 8, .mv, [(.const (.int .i64 0))], none⟩] [1, 2, 3, 7, 8])
  (.block 0
    (.loop [1, 2, 3, 7, 8]
      (.seq
      (.seq
      (.region [
        ⟨some 11, .mv, [(.tmp 8)], none⟩,
        ⟨some 12, (.fieldAddr 1), [(.tmp 3)], none⟩,
        ⟨some 13, (.load false 1), [(.tmp 12)], none⟩,
        ⟨some 14, (.len false), [(.tmp 13)], none⟩,
        ⟨some 15, (.bin .lss), [(.tmp 11), (.tmp 14)], none⟩] [1, 2, 3, 7, 8, 15])
      (.cond (.tmp 15)
        .skip
        (.exit 0)))
      (.seq
      (.block 1
        (.seq
        (.region [
          ⟨some 18, (.fieldAddr 1), [(.tmp 3)], none⟩,
          ⟨some 19, (.load false 1), [(.tmp 18)], none⟩,
          ⟨some 20, .mv, [(.tmp 8)], none⟩,
          ⟨some 21, (.indexAddr none 6), [(.tmp 19), (.tmp 20)], none⟩,
          ⟨some 22, (.load true 6), [(.tmp 21)], none⟩,
          ⟨some 9, (.alloc [(.int .i64 0), (.int .i64 0), (.int .i64 0), (.int .i64 0), (.int .i64 0), (.int .i64 0)]), [], none⟩,
          ⟨none, (.store 6), [(.tmp 9), (.tmp 22)], none⟩] [1, 2, 3, 7, 8, 9])
        (.seq
        (.seq
        (.region [
          ⟨some 23, (.fieldAddr 0), [(.tmp 9)], none⟩,
          ⟨some 24, (.load false 1), [(.tmp 23)], none⟩,
          ⟨some 25, .mv, [(.tmp 1)], none⟩,
          ⟨some 26, (.bin .eql), [(.tmp 24), (.tmp 25)], none⟩,
          ⟨some 27, .mv, [(.tmp 26)], none⟩,
          ⟨some 28, (.fieldAddr 1), [(.tmp 9)], (some (27, true))⟩,
          ⟨some 29, (.load false 1), [(.tmp 28)], (some (27, true))⟩,
          ⟨some 30, .mv, [(.tmp 2)], (some (27, true))⟩,
          ⟨some 31, (.bin .eql), [(.tmp 29), (.tmp 30)], (some (27, true))⟩,
          ⟨some 32, .pick, [(.tmp 27), (.tmp 31), (.const (.bool false))], none⟩] [1, 2, 3, 7, 8, 9, 32])
        (.cond (.tmp 32)
          (.region [
            ⟨some 33, .mv, [(.tmp 7)], none⟩,
            ⟨some 34, (.bin .add), [(.tmp 33), (.const (.int .i64 1))], none⟩,
            ⟨some 7, .mv, [(.tmp 34)], none⟩] [1, 2, 3, 7, 8, 9])
          .skip))
        (.seq
        (.region [
          ⟨some 35, (.fieldAddr 2), [(.tmp 9)], none⟩,
          ⟨some 36, (.load false 1), [(.tmp 35)], none⟩,
          ⟨some 37, .mv, [(.tmp 1)], none⟩,
          ⟨some 38, (.bin .eql), [(.tmp 36), (.tmp 37)], none⟩,
          ⟨some 39, .mv, [(.tmp 38)], none⟩,
          ⟨some 40, (.fieldAddr 3), [(.tmp 9)], (some (39, true))⟩,
          ⟨some 41, (.load false 1), [(.tmp 40)], (some (39, true))⟩,
          ⟨some 42, .mv, [(.tmp 2)], (some (39, true))⟩,
          ⟨some 43, (.bin .eql), [(.tmp 41), (.tmp 42)], (some (39, true))⟩,
          ⟨some 44, .pick, [(.tmp 39), (.tmp 43), (.const (.bool false))], none⟩] [1, 2, 3, 7, 8, 44])
        (.cond (.tmp 44)
          (.region [
            ⟨some 45, .mv, [(.tmp 7)], none⟩,
            ⟨some 46, (.bin .add), [(.tmp 45), (.const (.int .i64 1))], none⟩,
            ⟨some 7, .mv, [(.tmp 46)], none⟩] [1, 2, 3, 7, 8])
          .skip)))))
      (.region [
        ⟨some 16, .mv, [(.tmp 8)], none⟩,
        ⟨some 17, (.bin .add), [(.tmp 16), (.const (.int .i64 1))], none⟩,
        ⟨some 8, .mv, [(.tmp 17)], none⟩] [1, 2, 3, 7, 8]))))))
  (.seq
  (.seq
  (.region [
    ⟨some 10, .mv, [(.const (.int .i64 0))], none⟩] [1, 2, 3, 7, 10])
  (.block 2
    (.loop [1, 2, 3, 7, 10]
      (.seq
      (.seq
      (.region [
        ⟨some 47, .mv, [(.tmp 10)], none⟩,
        ⟨some 48, (.fieldAddr 2), [(.tmp 3)], none⟩,
        ⟨some 49, (.load false 1), [(.tmp 48)], none⟩,
        ⟨some 50, (.len false), [(.tmp 49)], none⟩,
        ⟨some 51, (.bin .lss), [(.tmp 47), (.tmp 50)], none⟩] [1, 2, 3, 7, 10, 51])
      (.cond (.tmp 51)
        .skip
        (.exit 2)))
      (.seq
      (.block 3
        (.seq
        (.region [
          ⟨some 54, (.fieldAddr 2), [(.tmp 3)], none⟩,
          ⟨some 55, (.load false 1), [(.tmp 54)], none⟩,
          ⟨some 56, .mv, [(.tmp 10)], none⟩,
          ⟨some 57, (.indexAddr none 2), [(.tmp 55), (.tmp 56)], none⟩,
          ⟨some 58, (.fieldAddr 0), [(.tmp 57)], none⟩,
          ⟨some 59, (.load false 1), [(.tmp 58)], none⟩,
          ⟨some 60, .mv, [(.tmp 1)], none⟩,
          ⟨some 61, (.bin .eql), [(.tmp 59), (.tmp 60)], none⟩,
          ⟨some 62, .mv, [(.tmp 61)], none⟩,
          ⟨some 63, (.fieldAddr 2), [(.tmp 3)], (some (62, true))⟩,
          ⟨some 64, (.load false 1), [(.tmp 63)], (some (62, true))⟩,
          ⟨some 65, .mv, [(.tmp 10)], (some (62, true))⟩,
          ⟨some 66, (.indexAddr none 2), [(.tmp 64), (.tmp 65)], (some (62, true))⟩,
          ⟨some 67, (.fieldAddr 1), [(.tmp 66)], (some (62, true))⟩,
          ⟨some 68, (.load false 1), [(.tmp 67)], (some (62, true))⟩,
          ⟨some 69, .mv, [(.tmp 2)], (some (62, true))⟩,
          ⟨some 70, (.bin .eql), [(.tmp 68), (.tmp 69)], (some (62, true))⟩,
          ⟨some 71, .pick, [(.tmp 62), (.tmp 70), (.const (.bool false))], none⟩] [1, 2, 3, 7, 10, 71])
        (.cond (.tmp 71)
          (.region [
            ⟨some 72, .mv, [(.tmp 7)], none⟩,
            ⟨some 73, (.bin .add), [(.tmp 72), (.const (.int .i64 1))], none⟩,
            ⟨some 7, .mv, [(.tmp 73)], none⟩] [1, 2, 3, 7, 10])
          .skip)))
      (.region [
        ⟨some 52, .mv, [(.tmp 10)], none⟩,
        ⟨some 53, (.bin .add), [(.tmp 52), (.const (.int .i64 1))], none⟩,
        ⟨some 10, .mv, [(.tmp 53)], none⟩] [1, 2, 3, 7, 10]))))))
  (.seq
  (.region [
    ⟨some 74, .mv, [(.tmp 1)], none⟩,
    ⟨some 75, (.bin .geq), [(.tmp 74), (.const (.int .i64 0))], none⟩,
    ⟨some 76, .mv, [(.tmp 75)], none⟩,
    ⟨some 77, .mv, [(.tmp 1)], (some (76, true))⟩,
    ⟨some 78, (.fieldAddr 0), [(.tmp 3)], (some (76, true))⟩,
    ⟨some 79, (.load false 1), [(.tmp 78)], (some (76, true))⟩,
    ⟨some 80, (.bin .lss), [(.tmp 77), (.tmp 79)], (some (76, true))⟩,
    ⟨some 81, .pick, [(.tmp 76), (.tmp 80), (.const (.bool false))], none⟩,
    ⟨some 82, .mv, [(.tmp 81)], none⟩,
    ⟨some 83, .mv, [(.tmp 2)], (some (82, true))⟩,
    ⟨some 84, (.bin .geq), [(.tmp 83), (.const (.int .i64 0))], (some (82, true))⟩,
    ⟨some 85, .pick, [(.tmp 82), (.tmp 84), (.const (.bool false))], none⟩,
    ⟨some 86, .mv, [(.tmp 85)], none⟩,
    ⟨some 87, .mv, [(.tmp 2)], (some (86, true))⟩,
    ⟨some 88, (.bin .leq), [(.tmp 87), (.const (.int .i64 7))], (some (86, true))⟩,
    ⟨some 89, .pick, [(.tmp 86), (.tmp 88), (.const (.bool false))], none⟩,
    ⟨some 90, .mv, [(.tmp 89)], none⟩,
    ⟨some 91, .mv, [(.tmp 7)], (some (90, true))⟩,
    ⟨some 92, (.bin .eql), [(.tmp 91), (.const (.int .i64 1))], (some (90, true))⟩,
    ⟨some 93, .pick, [(.tmp 90), (.tmp 92), (.const (.bool false))], none⟩,
    ⟨some 6, .mv, [(.tmp 93)], none⟩] [6])
  .ret)))))
def f69 : Ev.Fn := ⟨3, 94, [.tmp 6], k69⟩
set_option maxRecDepth 100000 in
theorem e69 : compFn prog sig 69 3 [[1, 2, 3], [1, 2, 3, 7], [1, 2, 3, 7, 8], [1, 2, 3, 7, 8], [1, 2, 3, 7, 8, 15], [1, 2, 3, 7, 8, 9], [1, 2, 3, 7, 8, 9, 32], [1, 2, 3, 7, 8, 9], [1, 2, 3, 7, 8, 44], [1, 2, 3, 7, 8], [1, 2, 3, 7, 8], [1, 2, 3, 7, 10], [1, 2, 3, 7, 10], [1, 2, 3, 7, 10, 51], [1, 2, 3, 7, 10, 71], [1, 2, 3, 7, 10], [1, 2, 3, 7, 10], [6]] = some f69 := by kernel_rfl
noncomputable def ref17_port_L1 (t_0 : api_Topo) (sw_1 : Int) (p_2 : Int) : (Int × Int) → Option (Sum ((Int × Int)) (Int)) := fun (i1, i2) =>
  bif decide (i2 < (t_0.Links.l.length : Int)) then (((ixI i2 t_0.Links.l.length).bind fun n12 =>
  (bif ((((gt t_0.Links.l n12).A) == sw_1) && (((gt t_0.Links.l n12).PortA) == p_2)) then (some (wr .i64 (i1 + 1))) else
  (some i1) : Option (Int)).bind fun i14 =>
  bif ((((gt t_0.Links.l n12).B) == sw_1) && (((gt t_0.Links.l n12).PortB) == p_2)) then (some (wr .i64 (i14 + 1))) else
  (some i14) : Option (Int)).bind fun i9 =>
  some (.inl (i9, wr .i64 (i2 + 1)))) else
  (some (.inr i1))

noncomputable def ref17_port_L2 (t_0 : api_Topo) (sw_1 : Int) (p_2 : Int) : (Int × Int) → Option (Sum ((Int × Int)) (Int)) := fun (i28, i29) =>
  bif decide (i29 < (t_0.Hosts.l.length : Int)) then (((ixI i29 t_0.Hosts.l.length).bind fun n39 =>
  bif ((((gt t_0.Hosts.l n39).At) == sw_1) && (((gt t_0.Hosts.l n39).Port) == p_2)) then (some (wr .i64 (i28 + 1))) else
  (some i28) : Option (Int)).bind fun i36 =>
  some (.inl (i36, wr .i64 (i29 + 1)))) else
  (some (.inr i28))

noncomputable def ref17_port (t_0 : api_Topo) (sw_1 : Int) (p_2 : Int) : Option (Bool) :=
  (loopO (ref17_port_L1 t_0 sw_1 p_2) (0, 0)).bind fun i5 =>
  (loopO (ref17_port_L2 t_0 sw_1 p_2) (i5, 0)).bind fun i32 =>
  some ((decide (sw_1 ≥ 0)) && ((decide (sw_1 < t_0.Switches)) && ((decide (p_2 ≥ 0)) && ((decide (p_2 ≤ 7)) && (i32 == 1)))))
theorem ref17_port_ok {t_0 : api_Topo} {sw_1 : Int} {p_2 : Int} {z : Bool} (hp : ref17_port t_0 sw_1 p_2 = some z) : Good prog 69 [.agg (c_api_Topo t_0), .d (.lit (.int .i64 sw_1)), .d (.lit (.int .i64 p_2))] [.c (.d (.lit (.bool z)))] [] := by
  unfold ref17_port at hp
  refine fn_good mixed e69 (fnS (m := [false]) (s := ⟨[(0, .agg [.d (.lit (.int .i64 t_0.Switches)), .d (slD 6 c_api_Link t_0.Links), .d (slD 2 c_api_Host t_0.Hosts)]), (1, .c (.d (.lit (.int .i64 sw_1)))), (2, .c (.d (.lit (.int .i64 p_2))))], [], 0, []⟩) (len := 0) (c := k69) rfl (Sub.of_eq rfl) rfl rfl ?_)
  refine w_seq ?_
  refine w_region ?_
  refine o2 rfl ?_
  refine o1 rfl ?_
  refine o_end (e' := [(1, .c (.d (.lit (.int .i64 sw_1)))), (2, .c (.d (.lit (.int .i64 p_2)))), (3, .c (.op 0 0))]) rfl rfl ?_
  refine after_n ?_
  refine w_seq ?_
  refine w_region ?_
  refine o1 rfl ?_
  refine o_end (e' := [(1, .c (.d (.lit (.int .i64 sw_1)))), (2, .c (.d (.lit (.int .i64 p_2)))), (3, .c (.op 0 0)), (7, .c (.d (.lit (.int .i64 0))))]) rfl rfl ?_
  refine after_n ?_
  refine w_seq ?_
  refine w_seq ?_
  refine w_region ?_
  refine o1 rfl ?_
  refine o_end (e' := [(1, .c (.d (.lit (.int .i64 sw_1)))), (2, .c (.d (.lit (.int .i64 p_2)))), (3, .c (.op 0 0)), (7, .c (.d (.lit (.int .i64 0)))), (8, .c (.d (.lit (.int .i64 0))))]) rfl rfl ?_
  refine after_n ?_
  refine w_block ?_
  obtain ⟨i5, h7, hp⟩ := bnd hp
  refine W.mono ?_ (w_loopS (st := fun (v : (Int × Int)) => match v with | (i1, i2) => ⟨[(1, .c (.d (.lit (.int .i64 sw_1)))), (2, .c (.d (.lit (.int .i64 p_2)))), (3, .c (.op 0 0)), (7, .c (.d (.lit (.int .i64 i1)))), (8, .c (.d (.lit (.int .i64 i2))))], [(0, some (.box [.d (.lit (.int .i64 t_0.Switches)), .d (slD 6 c_api_Link t_0.Links), .d (slD 2 c_api_Host t_0.Hosts)]))], 1, []⟩) (a := (0, 0)) (Q := Jn (fun (x : Int) o s => match x with | i5 => o = Out.exit 0 ∧ Sub s ⟨[(1, .c (.d (.lit (.int .i64 sw_1)))), (2, .c (.d (.lit (.int .i64 p_2)))), (3, .c (.op 0 0)), (7, .c (.d (.lit (.int .i64 i5))))], [(0, some (.box [.d (.lit (.int .i64 t_0.Switches)), .d (slD 6 c_api_Link t_0.Links), .d (slD 2 c_api_Host t_0.Hosts)]))], 1, []⟩)) ?_ h7 ?_)
  · intro o s hs27
    obtain ⟨rfl, hs27⟩ := hs27
    refine out_e ?_
    refine after_n ?_
    refine W.sub hs27 ?_
    refine w_seq ?_
    refine w_seq ?_
    refine w_region ?_
    refine o1 rfl ?_
    refine o_end (e' := [(1, .c (.d (.lit (.int .i64 sw_1)))), (2, .c (.d (.lit (.int .i64 p_2)))), (3, .c (.op 0 0)), (7, .c (.d (.lit (.int .i64 i5)))), (10, .c (.d (.lit (.int .i64 0))))]) rfl rfl ?_
    refine after_n ?_
    refine w_block ?_
    obtain ⟨i32, h34, hp⟩ := bnd hp
    refine W.mono ?_ (w_loopS (st := fun (v : (Int × Int)) => match v with | (i28, i29) => ⟨[(1, .c (.d (.lit (.int .i64 sw_1)))), (2, .c (.d (.lit (.int .i64 p_2)))), (3, .c (.op 0 0)), (7, .c (.d (.lit (.int .i64 i28)))), (10, .c (.d (.lit (.int .i64 i29))))], [(0, some (.box [.d (.lit (.int .i64 t_0.Switches)), .d (slD 6 c_api_Link t_0.Links), .d (slD 2 c_api_Host t_0.Hosts)]))], 1, []⟩) (a := (i5, 0)) (Q := Jn (fun (x : Int) o s => match x with | i32 => o = Out.exit 2 ∧ Sub s ⟨[(1, .c (.d (.lit (.int .i64 sw_1)))), (2, .c (.d (.lit (.int .i64 p_2)))), (3, .c (.op 0 0)), (7, .c (.d (.lit (.int .i64 i32))))], [(0, some (.box [.d (.lit (.int .i64 t_0.Switches)), .d (slD 6 c_api_Link t_0.Links), .d (slD 2 c_api_Host t_0.Hosts)]))], 1, []⟩)) ?_ h34 ?_)
    · intro o s hs46
      obtain ⟨rfl, hs46⟩ := hs46
      refine out_e ?_
      refine after_n ?_
      refine W.sub hs46 ?_
      refine w_seq ?_
      refine w_join (J := fun s => Sub s ⟨[(6, .c (.d (.lit (.bool ((decide (sw_1 ≥ 0)) && ((decide (sw_1 < t_0.Switches)) && ((decide (p_2 ≥ 0)) && ((decide (p_2 ≤ 7)) && (i32 == 1)))))))))], [], 0, []⟩) ?_ ?_
      · refine w_region ?_
        refine o1 rfl ?_
        refine o1 (v := .c (.d (.lit (.bool (decide (sw_1 ≥ 0)))))) rfl ?_
        refine o1 rfl ?_
        cases hb48 : (decide (sw_1 ≥ 0) : Bool)
        · refine onot rfl rfl ?_
          iterate 3 refine onot rfl rfl ?_
          iterate 2 refine o1 rfl ?_
          iterate 2 refine onot rfl rfl ?_
          iterate 2 refine o1 rfl ?_
          iterate 2 refine onot rfl rfl ?_
          iterate 2 refine o1 rfl ?_
          iterate 2 refine onot rfl rfl ?_
          iterate 2 refine o1 rfl ?_
          exact o_join (sub_ren [] [6] (by decide) rfl .nil (Nat.le_of_ble_eq_true rfl))
        · refine og rfl rfl rfl ?_
          iterate 2 refine og rfl rfl rfl ?_
          refine og (v := .c (.d (.lit (.bool (decide (sw_1 < t_0.Switches)))))) rfl rfl rfl ?_
          iterate 2 refine o1 rfl ?_
          cases hb49 : (decide (sw_1 < t_0.Switches) : Bool)
          · refine onot rfl rfl ?_
            refine onot rfl rfl ?_
            iterate 2 refine o1 rfl ?_
            iterate 2 refine onot rfl rfl ?_
            iterate 2 refine o1 rfl ?_
            iterate 2 refine onot rfl rfl ?_
            iterate 2 refine o1 rfl ?_
            exact o_join (sub_ren [] [6] (by decide) rfl .nil (Nat.le_of_ble_eq_true rfl))
          · refine og rfl rfl rfl ?_
            refine og (v := .c (.d (.lit (.bool (decide (p_2 ≥ 0)))))) rfl rfl rfl ?_
            iterate 2 refine o1 rfl ?_
            cases hb50 : (decide (p_2 ≥ 0) : Bool)
            · refine onot rfl rfl ?_
              refine onot rfl rfl ?_
              iterate 2 refine o1 rfl ?_
              iterate 2 refine onot rfl rfl ?_
              iterate 2 refine o1 rfl ?_
              exact o_join (sub_ren [] [6] (by decide) rfl .nil (Nat.le_of_ble_eq_true rfl))
            · refine og rfl rfl rfl ?_
              refine og (v := .c (.d (.lit (.bool (decide (p_2 ≤ 7)))))) rfl rfl rfl ?_
              iterate 2 refine o1 rfl ?_
              cases hb51 : (decide (p_2 ≤ 7) : Bool)
              · refine onot rfl rfl ?_
                refine onot rfl rfl ?_
                iterate 2 refine o1 rfl ?_
                exact o_join (sub_ren [] [6] (by decide) rfl .nil (Nat.le_of_ble_eq_true rfl))
              · refine og rfl rfl rfl ?_
                refine og (v := .c (.d (.lit (.bool (i32 == 1))))) rfl rfl rfl ?_
                iterate 2 refine o1 rfl ?_
                exact o_join (sub_ren [] [6] (by decide) rfl .nil (Nat.le_of_ble_eq_true rfl))
      · intro s hs52
        refine after_n ?_
        refine W.sub hs52 ?_
        refine w_ret ?_
        obtain rfl := Option.some.inj hp
        exact leave_at rfl rfl (pr_c p_d pr_nil) pc_nil rfl rfl
    · exact (sub_ren [0] [1, 2, 3, 7, 10] (by decide) rfl (.cons .nil) (Nat.le_of_ble_eq_true rfl))
    · rintro ⟨i28, i29⟩ r hr
      unfold ref17_port_L2 at hr
      refine w_seq ?_
      refine w_seq ?_
      refine w_region ?_
      iterate 3 refine o1 rfl ?_
      refine o1 (v := .c (.d (.lit (.int .i64 (t_0.Hosts.l.length : Int))))) len_sd ?_
      refine o1 (v := .c (.d (.lit (.bool (decide (i29 < (t_0.Hosts.l.length : Int))))))) rfl ?_
      refine o_end (e' := [(1, .c (.d (.lit (.int .i64 sw_1)))), (2, .c (.d (.lit (.int .i64 p_2)))), (3, .c (.op 0 0)), (7, .c (.d (.lit (.int .i64 i28)))), (10, .c (.d (.lit (.int .i64 i29)))), (51, .c (.d (.lit (.bool (decide (i29 < (t_0.Hosts.l.length : Int)))))))]) rfl rfl ?_
      refine after_n ?_
      refine w_cond (t := decide (i29 < (t_0.Hosts.l.length : Int))) rfl (fun hb35 => ?_) (fun hb35 => ?_)
      · have hr := cnd_t hb35 hr
        refine w_skip ?_
        refine after_n ?_
        refine w_seq ?_
        obtain ⟨i36, h37, hr⟩ := bnd hr
        refine W.mono (Q := Jn (fun (x : Int) o s => match x with | i36 => o = Out.normal ∧ Sub s ⟨[(1, .c (.d (.lit (.int .i64 sw_1)))), (2, .c (.d (.lit (.int .i64 p_2)))), (3, .c (.op 0 0)), (7, .c (.d (.lit (.int .i64 i36)))), (10, .c (.d (.lit (.int .i64 i29))))], [(0, some (.box [.d (.lit (.int .i64 t_0.Switches)), .d (slD 6 c_api_Link t_0.Links), .d (slD 2 c_api_Host t_0.Hosts)]))], 1, []⟩) i36) ?_ ?_
        · intro o s hs45
          obtain ⟨rfl, hs45⟩ := hs45
          refine after_n ?_
          refine W.sub hs45 ?_
          refine w_region ?_
          refine o1 rfl ?_
          refine o1 (v := .c (.d (.lit (.int .i64 (wr .i64 (i29 + 1)))))) rfl ?_
          refine o1 rfl ?_
          refine o_end (e' := [(1, .c (.d (.lit (.int .i64 sw_1)))), (2, .c (.d (.lit (.int .i64 p_2)))), (3, .c (.op 0 0)), (7, .c (.d (.lit (.int .i64 i36)))), (10, .c (.d (.lit (.int .i64 (wr .i64 (i29 + 1))))))]) rfl rfl ?_
          obtain rfl := Option.some.inj hr
          exact And.intro rfl (sub_ren [0] [1, 2, 3, 7, 10] (by decide) rfl (.cons .nil) (Nat.le_of_ble_eq_true rfl))
        · refine w_block ?_
          refine w_seq ?_
          obtain ⟨n39, h40, h37⟩ := bnd h37
          refine w_join (J := fun s => Sub s ⟨[(1, .c (.d (.lit (.int .i64 sw_1)))), (2, .c (.d (.lit (.int .i64 p_2)))), (3, .c (.op 0 0)), (7, .c (.d (.lit (.int .i64 i28)))), (10, .c (.d (.lit (.int .i64 i29)))), (71, .c (.d (.lit (.bool ((((gt t_0.Hosts.l n39).At) == sw_1) && (((gt t_0.Hosts.l n39).Port) == p_2))))))], [(0, some (.box [.d (.lit (.int .i64 t_0.Switches)), .d (slD 6 c_api_Link t_0.Links), .d (slD 2 c_api_Host t_0.Hosts)]))], 1, []⟩) ?_ ?_
          · refine w_region ?_
            iterate 3 refine o1 rfl ?_
            refine o1 (ix_sd h40) ?_
            iterate 3 refine o1 rfl ?_
            refine o1 (v := .c (.d (.lit (.bool (((gt t_0.Hosts.l n39).At) == sw_1))))) rfl ?_
            refine o1 rfl ?_
            cases hb42 : ((((gt t_0.Hosts.l n39).At) == sw_1) : Bool)
            · refine onot rfl rfl ?_
              iterate 7 refine onot rfl rfl ?_
              refine o1 rfl ?_
              exact o_join (sub_ren [0] [1, 2, 3, 7, 10, 71] (by decide) rfl (.cons .nil) (Nat.le_of_ble_eq_true rfl))
            · refine og rfl rfl rfl ?_
              iterate 2 refine og rfl rfl rfl ?_
              refine og rfl rfl (ix_sd h40) ?_
              iterate 3 refine og rfl rfl rfl ?_
              refine og (v := .c (.d (.lit (.bool (((gt t_0.Hosts.l n39).Port) == p_2))))) rfl rfl rfl ?_
              refine o1 rfl ?_
              exact o_join (sub_ren [0] [1, 2, 3, 7, 10, 71] (by decide) rfl (.cons .nil) (Nat.le_of_ble_eq_true rfl))
          · intro s hs43
            refine after_n ?_
            refine W.sub hs43 ?_
            refine w_cond (t := ((((gt t_0.Hosts.l n39).At) == sw_1) && (((gt t_0.Hosts.l n39).Port) == p_2))) rfl (fun hb44 => ?_) (fun hb44 => ?_)
            · have h37 := cnd_t hb44 h37
              refine w_region ?_
              refine o1 rfl ?_
              refine o1 (v := .c (.d (.lit (.int .i64 (wr .i64 (i28 + 1)))))) rfl ?_
              refine o1 rfl ?_
              refine o_end (e' := [(1, .c (.d (.lit (.int .i64 sw_1)))), (2, .c (.d (.lit (.int .i64 p_2)))), (3, .c (.op 0 0)), (7, .c (.d (.lit (.int .i64 (wr .i64 (i28 + 1)))))), (10, .c (.d (.lit (.int .i64 i29))))]) rfl rfl ?_
              refine out_n ?_
              obtain rfl := Option.some.inj h37
              exact And.intro rfl (sub_ren [0] [1, 2, 3, 7, 10] (by decide) rfl (.cons .nil) (Nat.le_of_ble_eq_true rfl))
            · have h37 := cnd_f hb44 h37
              refine w_skip ?_
              refine out_n ?_
              obtain rfl := Option.some.inj h37
              exact And.intro rfl (sub_ren [0] [1, 2, 3, 7, 10] (by decide) rfl (.cons .nil) (Nat.le_of_ble_eq_true rfl))
      · have hr := cnd_f hb35 hr
        refine w_exit ?_
        refine after_e ?_
        obtain rfl := Option.some.inj hr
        exact And.intro nofun (And.intro rfl (sub_ren [0] [1, 2, 3, 7] (by decide) rfl (.cons .nil) (Nat.le_of_ble_eq_true rfl)))
  · exact (sub_ren [0] [1, 2, 3, 7, 8] (by decide) rfl (.cons .nil) (Nat.le_of_ble_eq_true rfl))
  · rintro ⟨i1, i2⟩ r hr
    unfold ref17_port_L1 at hr
    refine w_seq ?_
    refine w_seq ?_
    refine w_region ?_
    iterate 3 refine o1 rfl ?_
    refine o1 (v := .c (.d (.lit (.int .i64 (t_0.Links.l.length : Int))))) len_sd ?_
    refine o1 (v := .c (.d (.lit (.bool (decide (i2 < (t_0.Links.l.length : Int))))))) rfl ?_
    refine o_end (e' := [(1, .c (.d (.lit (.int .i64 sw_1)))), (2, .c (.d (.lit (.int .i64 p_2)))), (3, .c (.op 0 0)), (7, .c (.d (.lit (.int .i64 i1)))), (8, .c (.d (.lit (.int .i64 i2)))), (15, .c (.d (.lit (.bool (decide (i2 < (t_0.Links.l.length : Int)))))))]) rfl rfl ?_
    refine after_n ?_
    refine w_cond (t := decide (i2 < (t_0.Links.l.length : Int))) rfl (fun hb8 => ?_) (fun hb8 => ?_)
    · have hr := cnd_t hb8 hr
      refine w_skip ?_
      refine after_n ?_
      refine w_seq ?_
      obtain ⟨i9, h10, hr⟩ := bnd hr
      refine W.mono (Q := Jn (fun (x : Int) o s => match x with | i9 => o = Out.normal ∧ Sub s ⟨[(1, .c (.d (.lit (.int .i64 sw_1)))), (2, .c (.d (.lit (.int .i64 p_2)))), (3, .c (.op 0 0)), (7, .c (.d (.lit (.int .i64 i9)))), (8, .c (.d (.lit (.int .i64 i2))))], [(0, some (.box [.d (.lit (.int .i64 t_0.Switches)), .d (slD 6 c_api_Link t_0.Links), .d (slD 2 c_api_Host t_0.Hosts)]))], 1, []⟩) i9) ?_ ?_
      · intro o s hs26
        obtain ⟨rfl, hs26⟩ := hs26
        refine after_n ?_
        refine W.sub hs26 ?_
        refine w_region ?_
        refine o1 rfl ?_
        refine o1 (v := .c (.d (.lit (.int .i64 (wr .i64 (i2 + 1)))))) rfl ?_
        refine o1 rfl ?_
        refine o_end (e' := [(1, .c (.d (.lit (.int .i64 sw_1)))), (2, .c (.d (.lit (.int .i64 p_2)))), (3, .c (.op 0 0)), (7, .c (.d (.lit (.int .i64 i9)))), (8, .c (.d (.lit (.int .i64 (wr .i64 (i2 + 1))))))]) rfl rfl ?_
        obtain rfl := Option.some.inj hr
        exact And.intro rfl (sub_ren [0] [1, 2, 3, 7, 8] (by decide) rfl (.cons .nil) (Nat.le_of_ble_eq_true rfl))
      · refine w_block ?_
        refine w_seq ?_
        obtain ⟨n12, h13, h10⟩ := bnd h10
        refine w_region ?_
        iterate 3 refine o1 rfl ?_
        refine o1 (ix_sd h13) ?_
        refine o1 rfl ?_
        refine o2 rfl ?_
        refine o0 rfl ?_
        refine o_end (e' := [(1, .c (.d (.lit (.int .i64 sw_1)))), (2, .c (.d (.lit (.int .i64 p_2)))), (3, .c (.op 0 0)), (7, .c (.d (.lit (.int .i64 i1)))), (8, .c (.d (.lit (.int .i64 i2)))), (9, .c (.op 1 0))]) rfl rfl ?_
        refine after_n ?_
        refine w_seq ?_
        obtain ⟨i14, h15, h10⟩ := bnd h10
        refine W.mono (Q := Jn (fun (x : Int) o s => match x with | i14 => o = Out.normal ∧ Sub s ⟨[(1, .c (.d (.lit (.int .i64 sw_1)))), (2, .c (.d (.lit (.int .i64 p_2)))), (3, .c (.op 0 0)), (7, .c (.d (.lit (.int .i64 i14)))), (8, .c (.d (.lit (.int .i64 i2)))), (9, .c (.op 1 0))], [(0, some (.box [.d (.lit (.int .i64 t_0.Switches)), .d (slD 6 c_api_Link t_0.Links), .d (slD 2 c_api_Host t_0.Hosts)])), (1, some (.box [.d (.lit (.int .i64 ((gt t_0.Links.l n12).A))), .d (.lit (.int .i64 ((gt t_0.Links.l n12).PortA))), .d (.lit (.int .i64 ((gt t_0.Links.l n12).B))), .d (.lit (.int .i64 ((gt t_0.Links.l n12).PortB))), .d (.lit (.int .i64 ((gt t_0.Links.l n12).Least))), .d (.lit (.int .i64 ((gt t_0.Links.l n12).Most)))]))], 2, []⟩) i14) ?_ ?_
        · intro o s hs21
          obtain ⟨rfl, hs21⟩ := hs21
          refine after_n ?_
          refine W.sub hs21 ?_
          refine w_seq ?_
          refine w_join (J := fun s => Sub s ⟨[(1, .c (.d (.lit (.int .i64 sw_1)))), (2, .c (.d (.lit (.int .i64 p_2)))), (3, .c (.op 0 0)), (7, .c (.d (.lit (.int .i64 i14)))), (8, .c (.d (.lit (.int .i64 i2)))), (44, .c (.d (.lit (.bool ((((gt t_0.Links.l n12).B) == sw_1) && (((gt t_0.Links.l n12).PortB) == p_2))))))], [(0, some (.box [.d (.lit (.int .i64 t_0.Switches)), .d (slD 6 c_api_Link t_0.Links), .d (slD 2 c_api_Host t_0.Hosts)]))], 1, []⟩) ?_ ?_
          · refine w_region ?_
            iterate 3 refine o1 rfl ?_
            refine o1 (v := .c (.d (.lit (.bool (((gt t_0.Links.l n12).B) == sw_1))))) rfl ?_
            refine o1 rfl ?_
            cases hb23 : ((((gt t_0.Links.l n12).B) == sw_1) : Bool)
            · refine onot rfl rfl ?_
              iterate 3 refine onot rfl rfl ?_
              refine o1 rfl ?_
              exact o_join (sub_ren [0] [1, 2, 3, 7, 8, 44] (by decide) rfl (.cons .nil) (Nat.le_of_ble_eq_true rfl))
            · refine og rfl rfl rfl ?_
              iterate 2 refine og rfl rfl rfl ?_
              refine og (v := .c (.d (.lit (.bool (((gt t_0.Links.l n12).PortB) == p_2))))) rfl rfl rfl ?_
              refine o1 rfl ?_
              exact o_join (sub_ren [0] [1, 2, 3, 7, 8, 44] (by decide) rfl (.cons .nil) (Nat.le_of_ble_eq_true rfl))
          · intro s hs24
            refine after_n ?_
            refine W.sub hs24 ?_
            refine w_cond (t := ((((gt t_0.Links.l n12).B) == sw_1) && (((gt t_0.Links.l n12).PortB) == p_2))) rfl (fun hb25 => ?_) (fun hb25 => ?_)
            · have h10 := cnd_t hb25 h10
              refine w_region ?_
              refine o1 rfl ?_
              refine o1 (v := .c (.d (.lit (.int .i64 (wr .i64 (i14 + 1)))))) rfl ?_
              refine o1 rfl ?_
              refine o_end (e' := [(1, .c (.d (.lit (.int .i64 sw_1)))), (2, .c (.d (.lit (.int .i64 p_2)))), (3, .c (.op 0 0)), (7, .c (.d (.lit (.int .i64 (wr .i64 (i14 + 1)))))), (8, .c (.d (.lit (.int .i64 i2))))]) rfl rfl ?_
              refine out_n ?_
              obtain rfl := Option.some.inj h10
              exact And.intro rfl (sub_ren [0] [1, 2, 3, 7, 8] (by decide) rfl (.cons .nil) (Nat.le_of_ble_eq_true rfl))
            · have h10 := cnd_f hb25 h10
              refine w_skip ?_
              refine out_n ?_
              obtain rfl := Option.some.inj h10
              exact And.intro rfl (sub_ren [0] [1, 2, 3, 7, 8] (by decide) rfl (.cons .nil) (Nat.le_of_ble_eq_true rfl))
        · refine w_seq ?_
          refine w_join (J := fun s => Sub s ⟨[(1, .c (.d (.lit (.int .i64 sw_1)))), (2, .c (.d (.lit (.int .i64 p_2)))), (3, .c (.op 0 0)), (7, .c (.d (.lit (.int .i64 i1)))), (8, .c (.d (.lit (.int .i64 i2)))), (9, .c (.op 1 0)), (32, .c (.d (.lit (.bool ((((gt t_0.Links.l n12).A) == sw_1) && (((gt t_0.Links.l n12).PortA) == p_2))))))], [(0, some (.box [.d (.lit (.int .i64 t_0.Switches)), .d (slD 6 c_api_Link t_0.Links), .d (slD 2 c_api_Host t_0.Hosts)])), (1, some (.box [.d (.lit (.int .i64 ((gt t_0.Links.l n12).A))), .d (.lit (.int .i64 ((gt t_0.Links.l n12).PortA))), .d (.lit (.int .i64 ((gt t_0.Links.l n12).B))), .d (.lit (.int .i64 ((gt t_0.Links.l n12).PortB))), .d (.lit (.int .i64 ((gt t_0.Links.l n12).Least))), .d (.lit (.int .i64 ((gt t_0.Links.l n12).Most)))]))], 2, []⟩) ?_ ?_
          · refine w_region ?_
            iterate 3 refine o1 rfl ?_
            refine o1 (v := .c (.d (.lit (.bool (((gt t_0.Links.l n12).A) == sw_1))))) rfl ?_
            refine o1 rfl ?_
            cases hb18 : ((((gt t_0.Links.l n12).A) == sw_1) : Bool)
            · refine onot rfl rfl ?_
              iterate 3 refine onot rfl rfl ?_
              refine o1 rfl ?_
              exact o_join (sub_ren [0, 1] [1, 2, 3, 7, 8, 9, 32] (by decide) rfl (.cons (.cons .nil)) (Nat.le_of_ble_eq_true rfl))
            · refine og rfl rfl rfl ?_
              iterate 2 refine og rfl rfl rfl ?_
              refine og (v := .c (.d (.lit (.bool (((gt t_0.Links.l n12).PortA) == p_2))))) rfl rfl rfl ?_
              refine o1 rfl ?_
              exact o_join (sub_ren [0, 1] [1, 2, 3, 7, 8, 9, 32] (by decide) rfl (.cons (.cons .nil)) (Nat.le_of_ble_eq_true rfl))
          · intro s hs19
            refine after_n ?_
            refine W.sub hs19 ?_
            refine w_cond (t := ((((gt t_0.Links.l n12).A) == sw_1) && (((gt t_0.Links.l n12).PortA) == p_2))) rfl (fun hb20 => ?_) (fun hb20 => ?_)
            · have h15 := cnd_t hb20 h15
              refine w_region ?_
              refine o1 rfl ?_
              refine o1 (v := .c (.d (.lit (.int .i64 (wr .i64 (i1 + 1)))))) rfl ?_
              refine o1 rfl ?_
              refine o_end (e' := [(1, .c (.d (.lit (.int .i64 sw_1)))), (2, .c (.d (.lit (.int .i64 p_2)))), (3, .c (.op 0 0)), (7, .c (.d (.lit (.int .i64 (wr .i64 (i1 + 1)))))), (8, .c (.d (.lit (.int .i64 i2)))), (9, .c (.op 1 0))]) rfl rfl ?_
              obtain rfl := Option.some.inj h15
              exact And.intro rfl (sub_ren [0, 1] [1, 2, 3, 7, 8, 9] (by decide) rfl (.cons (.cons .nil)) (Nat.le_of_ble_eq_true rfl))
            · have h15 := cnd_f hb20 h15
              refine w_skip ?_
              obtain rfl := Option.some.inj h15
              exact And.intro rfl (sub_ren [0, 1] [1, 2, 3, 7, 8, 9] (by decide) rfl (.cons (.cons .nil)) (Nat.le_of_ble_eq_true rfl))
    · have hr := cnd_f hb8 hr
      refine w_exit ?_
      refine after_e ?_
      obtain rfl := Option.some.inj hr
      exact And.intro nofun (And.intro rfl (sub_ren [0] [1, 2, 3, 7] (by decide) rfl (.cons .nil) (Nat.le_of_ble_eq_true rfl)))

/- turnout/turnoutref17.Right -/
def k29 : CC :=
  (.seq
  (.region [
    ⟨some 1, .box, [(.tmp 0)], none⟩,
    ⟨some 2, .mv, [(.const (.bool false))], none⟩] [1])
  (.seq
  (.seq
  (.region [
    ⟨some 6, (.fieldAddr 0), [(.tmp 1)], none⟩,
    ⟨some 7, (.load false 1), [(.tmp 6)], none⟩,
    ⟨some 8, (.bin .lss), [(.tmp 7), (.const (.int .i64 1))], none⟩,
    ⟨some 9, .mv, [(.tmp 8)], none⟩,
    ⟨some 10, (.fieldAddr 0), [(.tmp 1)], (some (9, false))⟩,
    ⟨some 11, (.load false 1), [(.tmp 10)], (some (9, false))⟩,
    ⟨some 12, (.bin .gtr), [(.tmp 11), (.const (.int .i64 8))], (some (9, false))⟩,
    ⟨some 13, .pick, [(.tmp 9), (.const (.bool true)), (.tmp 12)], none⟩,
    ⟨some 14, .mv, [(.tmp 13)], none⟩,
    ⟨some 15, (.fieldAddr 1), [(.tmp 1)], (some (14, false))⟩,
    ⟨some 16, (.load false 1), [(.tmp 15)], (some (14, false))⟩,
    ⟨some 17, (.len false), [(.tmp 16)], (some (14, false))⟩,
    ⟨some 18, (.bin .gtr), [(.tmp 17), (.const (.int .i64 24))], (some (14, false))⟩,
    ⟨some 19, .pick, [(.tmp 14), (.const (.bool true)), (.tmp 18)], none⟩,
    ⟨some 20, .mv, [(.tmp 19)], none⟩,
    ⟨some 21, (.fieldAddr 2), [(.tmp 1)], (some (20, false))⟩,
    ⟨some 22, (.load false 1), [(.tmp 21)], (some (20, false))⟩,
    ⟨some 23, (.len false), [(.tmp 22)], (some (20, false))⟩,
    ⟨some 24, (.bin .gtr), [(.tmp 23), (.const (.int .i64 8))], (some (20, false))⟩,
    ⟨some 25, .pick, [(.tmp 20), (.const (.bool true)), (.tmp 24)], none⟩] [1, 25])
  (.cond (.tmp 25)
    (.seq
    (.region [
      ⟨some 2, .mv, [(.const (.bool false))], none⟩] [2])
    .ret)
    .skip))
  (.seq
  (.seq
  (.region [
    ⟨some 3, .mv, [(.const (.int .i64 0))], none⟩] [1, 3])
  (.block 0
    (.loop [1, 3]
      (.seq
      (.seq
      (.region [
        ⟨some 26, .mv, [(.tmp 3)], none⟩,
        ⟨some 27, (.fieldAddr 1), [(.tmp 1)], none⟩,
        ⟨some 28, (.load false 1), [(.tmp 27)], none⟩,
        ⟨some 29, (.len false), [(.tmp 28)], none⟩,
        ⟨some 30, (.bin .lss), [(.tmp 26), (.tmp 29)], none⟩] [1, 3, 30])
      (.cond (.tmp 30)
        .skip
        (.exit 0)))
      (.seq
      (.block 1
        (.seq
        (.region [
          ⟨some 33, (.fieldAddr 1), [(.tmp 1)], none⟩,
          ⟨some 34, (.load false 1), [(.tmp 33)], none⟩,
          ⟨some 35, .mv, [(.tmp 3)], none⟩,
          ⟨some 36, (.indexAddr none 6), [(.tmp 34), (.tmp 35)], none⟩,
          ⟨some 37, (.load true 6), [(.tmp 36)], none⟩,
          ⟨some 4, (.alloc [(.int .i64 0), (.int .i64 0), (.int .i64 0), (.int .i64 0), (.int .i64 0), (.int .i64 0)]), [], none⟩,
          ⟨none, (.store 6), [(.tmp 4), (.tmp 37)], none⟩] [1, 3, 4])
        (.seq
        (.region [
          ⟨some 38, (.fieldAddr 0), [(.tmp 4)], none⟩,
          ⟨some 39, (.load false 1), [(.tmp 38)], none⟩,
          ⟨some 40, (.fieldAddr 2), [(.tmp 4)], none⟩,
          ⟨some 41, (.load false 1), [(.tmp 40)], none⟩,
          ⟨some 42, (.bin .eql), [(.tmp 39), (.tmp 41)], none⟩,
          ⟨some 43, .mv, [(.tmp 42)], none⟩,
          ⟨some 44, (.fieldAddr 4), [(.tmp 4)], (some (43, false))⟩,
          ⟨some 45, (.load false 1), [(.tmp 44)], (some (43, false))⟩,
          ⟨some 46, (.bin .lss), [(.tmp 45), (.const (.int .i64 1))], (some (43, false))⟩,
          ⟨some 47, .pick, [(.tmp 43), (.const (.bool true)), (.tmp 46)], none⟩,
          ⟨some 48, .mv, [(.tmp 47)], none⟩,
          ⟨some 49, (.fieldAddr 4), [(.tmp 4)], (some (48, false))⟩,
          ⟨some 50, (.load false 1), [(.tmp 49)], (some (48, false))⟩,
          ⟨some 51, (.fieldAddr 5), [(.tmp 4)], (some (48, false))⟩,
          ⟨some 52, (.load false 1), [(.tmp 51)], (some (48, false))⟩,
          ⟨some 53, (.bin .gtr), [(.tmp 50), (.tmp 52)], (some (48, false))⟩,
          ⟨some 54, .pick, [(.tmp 48), (.const (.bool true)), (.tmp 53)], none⟩,
          ⟨some 55, .mv, [(.tmp 54)], none⟩,
          ⟨some 56, (.fieldAddr 5), [(.tmp 4)], (some (55, false))⟩,
          ⟨some 57, (.load false 1), [(.tmp 56)], (some (55, false))⟩,
          ⟨some 58, (.bin .gtr), [(.tmp 57), (.const (.int .i64 1000))], (some (55, false))⟩,
          ⟨some 59, .pick, [(.tmp 55), (.const (.bool true)), (.tmp 58)], none⟩,
          ⟨some 60, .mv, [(.tmp 59)], none⟩,
          ⟨some 61, (.load true 3), [(.tmp 1)], (some (60, false))⟩,
          ⟨some 62, (.fieldAddr 0), [(.tmp 4)], (some (60, false))⟩,
          ⟨some 63, (.load false 1), [(.tmp 62)], (some (60, false))⟩,
          ⟨some 64, (.fieldAddr 1), [(.tmp 4)], (some (60, false))⟩,
          ⟨some 65, (.load false 1), [(.tmp 64)], (some (60, false))⟩,
          ⟨some 66, (.call true []), [(.func 69), (.tmp 61), (.tmp 63), (.tmp 65)], (some (60, false))⟩,
          ⟨some 67, (.un .not), [(.tmp 66)], (some (60, false))⟩,
          ⟨some 68, .pick, [(.tmp 60), (.const (.bool true)), (.tmp 67)], none⟩,
          ⟨some 69, .mv, [(.tmp 68)], none⟩,
          ⟨some 70, (.load true 3), [(.tmp 1)], (some (69, false))⟩,
          ⟨some 71, (.fieldAddr 2), [(.tmp 4)], (some (69, false))⟩,
          ⟨some 72, (.load false 1), [(.tmp 71)], (some (69, false))⟩,
          ⟨some 73, (.fieldAddr 3), [(.tmp 4)], (some (69, false))⟩,
          ⟨some 74, (.load false 1), [(.tmp 73)], (some (69, false))⟩,
          ⟨some 75, (.call true []), [(.func 69), (.tmp 70), (.tmp 72), (.tmp 74)], (some (69, false))⟩,
          ⟨some 76, (.un .not), [(.tmp 75)], (some (69, false))⟩,
          ⟨some 77, .pick, [(.tmp 69), (.const (.bool true)), (.tmp 76)], none⟩] [1, 3, 77])
        (.cond (.tmp 77)
          (.seq
          (.region [
            ⟨some 2, .mv, [(.const (.bool false))], none⟩] [2])
          .ret)
          .skip))))
      (.region [
        ⟨some 31, .mv, [(.tmp 3)], none⟩,
        ⟨some 32, (.bin .add), [(.tmp 31), (.const (.int .i64 1))], none⟩,
        ⟨some 3, .mv, [(.tmp 32)], none⟩] [1, 3]))))))
  (.seq
  (.seq
  (.region [
    ⟨some 5, .mv, [(.const (.int .i64 0))], none⟩] [1, 5])
  (.block 2
    (.loop [1, 5]
      (.seq
      (.seq
      (.region [
        ⟨some 78, .mv, [(.tmp 5)], none⟩,
        ⟨some 79, (.fieldAddr 2), [(.tmp 1)], none⟩,
        ⟨some 80, (.load false 1), [(.tmp 79)], none⟩,
        ⟨some 81, (.len false), [(.tmp 80)], none⟩,
        ⟨some 82, (.bin .lss), [(.tmp 78), (.tmp 81)], none⟩] [1, 5, 82])
      (.cond (.tmp 82)
        .skip
        (.exit 2)))
      (.seq
      (.block 3
        (.seq
        (.drawn [
          ⟨some 85, (.load true 3), [(.tmp 1)], none⟩,
          ⟨some 86, (.fieldAddr 2), [(.tmp 1)], none⟩,
          ⟨some 87, (.load false 1), [(.tmp 86)], none⟩,
          ⟨some 88, .mv, [(.tmp 5)], none⟩,
          ⟨some 89, (.indexAddr none 2), [(.tmp 87), (.tmp 88)], none⟩,
          ⟨some 90, (.fieldAddr 0), [(.tmp 89)], none⟩,
          ⟨some 91, (.load false 1), [(.tmp 90)], none⟩,
          ⟨some 92, (.fieldAddr 2), [(.tmp 1)], none⟩,
          ⟨some 93, (.load false 1), [(.tmp 92)], none⟩,
          ⟨some 94, .mv, [(.tmp 5)], none⟩,
          ⟨some 95, (.indexAddr none 2), [(.tmp 93), (.tmp 94)], none⟩,
          ⟨some 96, (.fieldAddr 1), [(.tmp 95)], none⟩,
          ⟨some 97, (.load false 1), [(.tmp 96)], none⟩,
          ⟨some 98, (.call true []), [(.func 69), (.tmp 85), (.tmp 91), (.tmp 97)], none⟩,
          ⟨some 99, (.un .not), [(.tmp 98)], none⟩] [] [1, 5, 99])
        (.cond (.tmp 99)
          (.seq
          (.region [
            ⟨some 2, .mv, [(.const (.bool false))], none⟩] [2])
          .ret)
          .skip)))
      (.region [
        ⟨some 83, .mv, [(.tmp 5)], none⟩,
        ⟨some 84, (.bin .add), [(.tmp 83), (.const (.int .i64 1))], none⟩,
        ⟨some 5, .mv, [(.tmp 84)], none⟩] [1, 5]))))))
  (.seq
  (.region [
    ⟨some 2, .mv, [(.const (.bool true))], none⟩] [2])
  .ret)))))
def f29 : Ev.Fn := ⟨1, 100, [.tmp 2], k29⟩
set_option maxRecDepth 100000 in
theorem e29 : compFn prog sig 29 1 [[1], [1, 25], [2], [1, 3], [1, 3], [1, 3, 30], [1, 3, 4], [1, 3, 77], [2], [1, 3], [1, 5], [1, 5], [1, 5, 82], [1, 5, 99], [2], [1, 5], [2]] = some f29 := by kernel_rfl
noncomputable def ref17_Right_L1 (t_0 : api_Topo) : Int → Option (Sum (Int) (Sum (Unit) (Unit))) := fun i7 =>
  bif decide (i7 < (t_0.Links.l.length : Int)) then ((ixI i7 t_0.Links.l.length).bind fun n12 =>
  (bif (((gt t_0.Links.l n12).A) == ((gt t_0.Links.l n12).B)) then (some true) else (bif decide (((gt t_0.Links.l n12).Least) < 1) then (some true) else (bif decide (((gt t_0.Links.l n12).Least) > ((gt t_0.Links.l n12).Most)) then (some true) else (bif decide (((gt t_0.Links.l n12).Most) > 1000) then (some true) else ((ref17_port t_0 ((gt t_0.Links.l n12).A) ((gt t_0.Links.l n12).PortA)).bind fun r14 =>
  bif (!r14) then (some true) else ((ref17_port t_0 ((gt t_0.Links.l n12).B) ((gt t_0.Links.l n12).PortB)).bind fun r16 =>
  some (!r16))))))).bind fun b18 =>
  bif b18 then (some (.inr (.inl ()))) else
  (some (.inl (wr .i64 (i7 + 1))))) else
  (some (.inr (.inr ())))

noncomputable def ref17_Right_L2 (t_0 : api_Topo) : Int → Option (Sum (Int) (Sum (Unit) (Unit))) := fun i28 =>
  bif decide (i28 < (t_0.Hosts.l.length : Int)) then ((ixI i28 t_0.Hosts.l.length).bind fun n33 =>
  (ref17_port t_0 ((gt t_0.Hosts.l n33).At) ((gt t_0.Hosts.l n33).Port)).bind fun r35 =>
  bif (!r35) then (some (.inr (.inl ()))) else
  (some (.inl (wr .i64 (i28 + 1))))) else
  (some (.inr (.inr ())))

noncomputable def ref17_Right (t_0 : api_Topo) : Option (Bool) :=
  bif ((decide (t_0.Switches < 1)) || ((decide (t_0.Switches > 8)) || ((decide ((t_0.Links.l.length : Int) > 24)) || (decide ((t_0.Hosts.l.length : Int) > 8))))) then (some false) else
  ((loopO (ref17_Right_L1 t_0) 0).bind fun
  | .inl _ => (some false)
  | .inr (_) => ((loopO (ref17_Right_L2 t_0) 0).bind fun
  | .inl _ => (some false)
  | .inr (_) => (some true)))
theorem ref17_Right_ok {t_0 : api_Topo} {z : Bool} (hp : ref17_Right t_0 = some z) : Good prog 29 [.agg (c_api_Topo t_0)] [.c (.d (.lit (.bool z)))] [] := by
  unfold ref17_Right at hp
  refine fn_good mixed e29 (fnS (m := [false]) (s := ⟨[(0, .agg [.d (.lit (.int .i64 t_0.Switches)), .d (slD 6 c_api_Link t_0.Links), .d (slD 2 c_api_Host t_0.Hosts)])], [], 0, []⟩) (len := 0) (c := k29) rfl (Sub.of_eq rfl) rfl rfl ?_)
  refine w_seq ?_
  refine w_region ?_
  refine o2 rfl ?_
  refine o1 rfl ?_
  refine o_end (e' := [(1, .c (.op 0 0))]) rfl rfl ?_
  refine after_n ?_
  refine w_seq ?_
  refine w_seq ?_
  refine w_join (J := fun s => Sub s ⟨[(1, .c (.op 0 0)), (25, .c (.d (.lit (.bool ((decide (t_0.Switches < 1)) || ((decide (t_0.Switches > 8)) || ((decide ((t_0.Links.l.length : Int) > 24)) || (decide ((t_0.Hosts.l.length : Int) > 8)))))))))], [(0, some (.box [.d (.lit (.int .i64 t_0.Switches)), .d (slD 6 c_api_Link t_0.Links), .d (slD 2 c_api_Host t_0.Hosts)]))], 1, []⟩) ?_ ?_
  · refine w_region ?_
    iterate 2 refine o1 rfl ?_
    refine o1 (v := .c (.d (.lit (.bool (decide (t_0.Switches < 1)))))) rfl ?_
    refine o1 rfl ?_
    cases hb2 : (decide (t_0.Switches < 1) : Bool)
    · refine og rfl rfl rfl ?_
      refine og rfl rfl rfl ?_
      refine og (v := .c (.d (.lit (.bool (decide (t_0.Switches > 8)))))) rfl rfl rfl ?_
      iterate 2 refine o1 rfl ?_
      cases hb3 : (decide (t_0.Switches > 8) : Bool)
      · refine og rfl rfl rfl ?_
        refine og rfl rfl rfl ?_
        refine og (v := .c (.d (.lit (.int .i64 (t_0.Links.l.length : Int))))) rfl rfl len_sd ?_
        refine og (v := .c (.d (.lit (.bool (decide ((t_0.Links.l.length : Int) > 24)))))) rfl rfl rfl ?_
        iterate 2 refine o1 rfl ?_
        cases hb4 : (decide ((t_0.Links.l.length : Int) > 24) : Bool)
        · refine og rfl rfl rfl ?_
          refine og rfl rfl rfl ?_
          refine og (v := .c (.d (.lit (.int .i64 (t_0.Hosts.l.length : Int))))) rfl rfl len_sd ?_
          refine og (v := .c (.d (.lit (.bool (decide ((t_0.Hosts.l.length : Int) > 8)))))) rfl rfl rfl ?_
          refine o1 rfl ?_
          exact o_join (sub_ren [0] [1, 25] (by decide) rfl (.cons .nil) (Nat.le_of_ble_eq_true rfl))
        · refine onot rfl rfl ?_
          iterate 3 refine onot rfl rfl ?_
          refine o1 rfl ?_
          exact o_join (sub_ren [0] [1, 25] (by decide) rfl (.cons .nil) (Nat.le_of_ble_eq_true rfl))
      · refine onot rfl rfl ?_
        iterate 3 refine onot rfl rfl ?_
        iterate 2 refine o1 rfl ?_
        iterate 4 refine onot rfl rfl ?_
        refine o1 rfl ?_
        exact o_join (sub_ren [0] [1, 25] (by decide) rfl (.cons .nil) (Nat.le_of_ble_eq_true rfl))
    · refine onot rfl rfl ?_
      iterate 2 refine onot rfl rfl ?_
      iterate 2 refine o1 rfl ?_
      iterate 4 refine onot rfl rfl ?_
      iterate 2 refine o1 rfl ?_
      iterate 4 refine onot rfl rfl ?_
      refine o1 rfl ?_
      exact o_join (sub_ren [0] [1, 25] (by decide) rfl (.cons .nil) (Nat.le_of_ble_eq_true rfl))
  · intro s hs5
    refine after_n ?_
    refine W.sub hs5 ?_
    refine w_cond (t := ((decide (t_0.Switches < 1)) || ((decide (t_0.Switches > 8)) || ((decide ((t_0.Links.l.length : Int) > 24)) || (decide ((t_0.Hosts.l.length : Int) > 8)))))) rfl (fun hb6 => ?_) (fun hb6 => ?_)
    · have hp := cnd_t hb6 hp
      refine w_seq ?_
      refine w_region ?_
      refine o1 rfl ?_
      refine o_end (e' := [(2, .c (.d (.lit (.bool false))))]) rfl rfl ?_
      refine after_n ?_
      refine w_ret ?_
      refine after_r ?_
      obtain rfl := Option.some.inj hp
      exact leave_at rfl rfl (pr_c p_d pr_nil) pc_nil rfl rfl
    · have hp := cnd_f hb6 hp
      refine w_skip ?_
      refine after_n ?_
      refine w_seq ?_
      refine w_seq ?_
      refine w_region ?_
      refine o1 rfl ?_
      refine o_end (e' := [(1, .c (.op 0 0)), (3, .c (.d (.lit (.int .i64 0))))]) rfl rfl ?_
      refine after_n ?_
      refine w_block ?_
      obtain ⟨x9, h10, hp⟩ := bnd hp
      refine W.mono ?_ (w_loopS (st := fun (v : Int) => match v with | i7 => ⟨[(1, .c (.op 0 0)), (3, .c (.d (.lit (.int .i64 i7))))], [(0, some (.box [.d (.lit (.int .i64 t_0.Switches)), .d (slD 6 c_api_Link t_0.Links), .d (slD 2 c_api_Host t_0.Hosts)]))], 1, []⟩) (a := 0) (Q := Jn (fun (x : Sum (Unit) (Unit)) o s => match x with | .inl _ => o = Out.ret ∧ Sub s ⟨[(2, .c (.d (.lit (.bool false))))], [], 0, []⟩ | .inr (_) => o = Out.exit 0 ∧ Sub s ⟨[(1, .c (.op 0 0))], [(0, some (.box [.d (.lit (.int .i64 t_0.Switches)), .d (slD 6 c_api_Link t_0.Links), .d (slD 2 c_api_Host t_0.Hosts)]))], 1, []⟩)) ?_ h10 ?_)
      · intro o s hs27
        rcases x9 with (_ | _)
        · obtain ⟨rfl, hs27⟩ := hs27
          refine out_r ?_
          refine after_r ?_
          obtain rfl := Option.some.inj hp
          refine wk.sub hs27 ?_
          exact leave_at rfl rfl (pr_c p_d pr_nil) pc_nil rfl rfl
        · obtain ⟨rfl, hs27⟩ := hs27
          refine out_e ?_
          refine after_n ?_
          refine W.sub hs27 ?_
          refine w_seq ?_
          refine w_seq ?_
          refine w_region ?_
          refine o1 rfl ?_
          refine o_end (e' := [(1, .c (.op 0 0)), (5, .c (.d (.lit (.int .i64 0))))]) rfl rfl ?_
          refine after_n ?_
          refine w_block ?_
          obtain ⟨x30, h31, hp⟩ := bnd hp
          refine W.mono ?_ (w_loopS (st := fun (v : Int) => match v with | i28 => ⟨[(1, .c (.op 0 0)), (5, .c (.d (.lit (.int .i64 i28))))], [(0, some (.box [.d (.lit (.int .i64 t_0.Switches)), .d (slD 6 c_api_Link t_0.Links), .d (slD 2 c_api_Host t_0.Hosts)]))], 1, []⟩) (a := 0) (Q := Jn (fun (x : Sum (Unit) (Unit)) o s => match x with | .inl _ => o = Out.ret ∧ Sub s ⟨[(2, .c (.d (.lit (.bool false))))], [], 0, []⟩ | .inr (_) => o = Out.exit 2 ∧ Sub s ⟨[], [], 0, []⟩)) ?_ h31 ?_)
          · intro o s hs38
            rcases x30 with (_ | _)
            · obtain ⟨rfl, hs38⟩ := hs38
              refine out_r ?_
              refine after_r ?_
              obtain rfl := Option.some.inj hp
              refine wk.sub hs38 ?_
              exact leave_at rfl rfl (pr_c p_d pr_nil) pc_nil rfl rfl
            · obtain ⟨rfl, hs38⟩ := hs38
              refine out_e ?_
              refine after_n ?_
              refine W.sub hs38 ?_
              refine w_seq ?_
              refine w_region ?_
              refine o1 rfl ?_
              refine o_end (e' := [(2, .c (.d (.lit (.bool true))))]) rfl rfl ?_
              refine after_n ?_
              refine w_ret ?_
              obtain rfl := Option.some.inj hp
              exact leave_at rfl rfl (pr_c p_d pr_nil) pc_nil rfl rfl
          · exact (sub_ren [0] [1, 5] (by decide) rfl (.cons .nil) (Nat.le_of_ble_eq_true rfl))
          · rintro i28 r hr
            unfold ref17_Right_L2 at hr
            refine w_seq ?_
            refine w_seq ?_
            refine w_region ?_
            iterate 3 refine o1 rfl ?_
            refine o1 (v := .c (.d (.lit (.int .i64 (t_0.Hosts.l.length : Int))))) len_sd ?_
            refine o1 (v := .c (.d (.lit (.bool (decide (i28 < (t_0.Hosts.l.length : Int))))))) rfl ?_
            refine o_end (e' := [(1, .c (.op 0 0)), (5, .c (.d (.lit (.int .i64 i28)))), (82, .c (.d (.lit (.bool (decide (i28 < (t_0.Hosts.l.length : Int)))))))]) rfl rfl ?_
            refine after_n ?_
            refine w_cond (t := decide (i28 < (t_0.Hosts.l.length : Int))) rfl (fun hb32 => ?_) (fun hb32 => ?_)
            · have hr := cnd_t hb32 hr
              refine w_skip ?_
              refine after_n ?_
              refine w_seq ?_
              refine w_block ?_
              refine w_seq ?_
              obtain ⟨n33, h34, hr⟩ := bnd hr
              obtain ⟨r35, h36, hr⟩ := bnd hr
              refine w_drawn ?_
              iterate 4 refine d1 rfl ?_
              refine d1 (ix_sd h34) ?_
              iterate 5 refine d1 rfl ?_
              refine d1 (ix_sd h34) ?_
              iterate 2 refine d1 rfl ?_
              refine dc (rs := [.c (.d (.lit (.bool r35)))]) (outs := []) rfl (ref17_port_ok h36) rfl (Nat.le_of_ble_eq_true rfl) ?_
              refine d1 (v := .c (.d (.lit (.bool (!r35))))) rfl ?_
              refine d_fin (e' := [(1, .c (.op 0 0)), (5, .c (.d (.lit (.int .i64 i28)))), (99, .c (.d (.lit (.bool (!r35)))))]) (n' := 961) rfl rfl rfl rfl ?_
              refine after_n ?_
              refine w_cond (t := (!r35)) rfl (fun hb37 => ?_) (fun hb37 => ?_)
              · have hr := cnd_t hb37 hr
                refine w_seq ?_
                refine w_region ?_
                refine o1 rfl ?_
                refine o_end (e' := [(2, .c (.d (.lit (.bool false))))]) rfl rfl ?_
                refine after_n ?_
                refine w_ret ?_
                refine out_r ?_
                refine after_r ?_
                obtain rfl := Option.some.inj hr
                exact And.intro nofun (And.intro rfl (sub_ren [] [2] (by decide) rfl .nil (Nat.le_of_ble_eq_true rfl)))
              · have hr := cnd_f hb37 hr
                refine w_skip ?_
                refine out_n ?_
                refine after_n ?_
                refine w_region ?_
                refine o1 rfl ?_
                refine o1 (v := .c (.d (.lit (.int .i64 (wr .i64 (i28 + 1)))))) rfl ?_
                refine o1 rfl ?_
                refine o_end (e' := [(1, .c (.op 0 0)), (5, .c (.d (.lit (.int .i64 (wr .i64 (i28 + 1))))))]) rfl rfl ?_
                obtain rfl := Option.some.inj hr
                exact And.intro rfl (sub_ren [0] [1, 5] (by decide) rfl (.cons .nil) (Nat.le_of_ble_eq_true rfl))
            · have hr := cnd_f hb32 hr
              refine w_exit ?_
              refine after_e ?_
              obtain rfl := Option.some.inj hr
              exact And.intro nofun (And.intro rfl (sub_ren [] [] (by decide) rfl .nil (Nat.le_of_ble_eq_true rfl)))
      · exact (sub_ren [0] [1, 3] (by decide) rfl (.cons .nil) (Nat.le_of_ble_eq_true rfl))
      · rintro i7 r hr
        unfold ref17_Right_L1 at hr
        refine w_seq ?_
        refine w_seq ?_
        refine w_region ?_
        iterate 3 refine o1 rfl ?_
        refine o1 (v := .c (.d (.lit (.int .i64 (t_0.Links.l.length : Int))))) len_sd ?_
        refine o1 (v := .c (.d (.lit (.bool (decide (i7 < (t_0.Links.l.length : Int))))))) rfl ?_
        refine o_end (e' := [(1, .c (.op 0 0)), (3, .c (.d (.lit (.int .i64 i7)))), (30, .c (.d (.lit (.bool (decide (i7 < (t_0.Links.l.length : Int)))))))]) rfl rfl ?_
        refine after_n ?_
        refine w_cond (t := decide (i7 < (t_0.Links.l.length : Int))) rfl (fun hb11 => ?_) (fun hb11 => ?_)
        · have hr := cnd_t hb11 hr
          refine w_skip ?_
          refine after_n ?_
          refine w_seq ?_
          refine w_block ?_
          refine w_seq ?_
          obtain ⟨n12, h13, hr⟩ := bnd hr
          refine w_region ?_
          iterate 3 refine o1 rfl ?_
          refine o1 (ix_sd h13) ?_
          refine o1 rfl ?_
          refine o2 rfl ?_
          refine o0 rfl ?_
          refine o_end (e' := [(1, .c (.op 0 0)), (3, .c (.d (.lit (.int .i64 i7)))), (4, .c (.op 1 0))]) rfl rfl ?_
          refine after_n ?_
          refine w_seq ?_
          obtain ⟨b18, h19, hr⟩ := bnd hr
          refine w_join (J := fun s => Sub s ⟨[(1, .c (.op 0 0)), (3, .c (.d (.lit (.int .i64 i7)))), (77, .c (.d (.lit (.bool b18))))], [(0, some (.box [.d (.lit (.int .i64 t_0.Switches)), .d (slD 6 c_api_Link t_0.Links), .d (slD 2 c_api_Host t_0.Hosts)]))], 1, []⟩) ?_ ?_
          · refine w_region ?_
            iterate 4 refine o1 rfl ?_
            refine o1 (v := .c (.d (.lit (.bool (((gt t_0.Links.l n12).A) == ((gt t_0.Links.l n12).B)))))) rfl ?_
            refine o1 rfl ?_
            cases hb20 : ((((gt t_0.Links.l n12).A) == ((gt t_0.Links.l n12).B)) : Bool)
            · have h19 := cnd_f hb20 h19
              iterate 2 refine og rfl rfl rfl ?_
              refine og (v := .c (.d (.lit (.bool (decide (((gt t_0.Links.l n12).Least) < 1)))))) rfl rfl rfl ?_
              iterate 2 refine o1 rfl ?_
              cases hb21 : (decide (((gt t_0.Links.l n12).Least) < 1) : Bool)
              · have h19 := cnd_f hb21 h19
                iterate 4 refine og rfl rfl rfl ?_
                refine og (v := .c (.d (.lit (.bool (decide (((gt t_0.Links.l n12).Least) > ((gt t_0.Links.l n12).Most))))))) rfl rfl rfl ?_
                iterate 2 refine o1 rfl ?_
                cases hb22 : (decide (((gt t_0.Links.l n12).Least) > ((gt t_0.Links.l n12).Most)) : Bool)
                · have h19 := cnd_f hb22 h19
                  iterate 2 refine og rfl rfl rfl ?_
                  refine og (v := .c (.d (.lit (.bool (decide (((gt t_0.Links.l n12).Most) > 1000)))))) rfl rfl rfl ?_
                  iterate 2 refine o1 rfl ?_
                  cases hb23 : (decide (((gt t_0.Links.l n12).Most) > 1000) : Bool)
                  · have h19 := cnd_f hb23 h19
                    obtain ⟨r14, h15, h19⟩ := bnd h19
                    iterate 5 refine og rfl rfl rfl ?_
                    refine ocg (rs := [.c (.d (.lit (.bool r14)))]) (outs := []) rfl rfl rfl (ref17_port_ok h15) rfl ?_
                    refine og (v := .c (.d (.lit (.bool (!r14))))) rfl rfl rfl ?_
                    iterate 2 refine o1 rfl ?_
                    cases hb24 : ((!r14) : Bool)
                    · have h19 := cnd_f hb24 h19
                      obtain ⟨r16, h17, h19⟩ := bnd h19
                      iterate 5 refine og rfl rfl rfl ?_
                      refine ocg (rs := [.c (.d (.lit (.bool r16)))]) (outs := []) rfl rfl rfl (ref17_port_ok h17) rfl ?_
                      refine og (v := .c (.d (.lit (.bool (!r16))))) rfl rfl rfl ?_
                      refine o1 rfl ?_
                      cases h19
                      exact o_join (sub_ren [0] [1, 3, 77] (by decide) rfl (.cons .nil) (Nat.le_of_ble_eq_true rfl))
                    · have h19 := cnd_t hb24 h19
                      iterate 7 refine onot rfl rfl ?_
                      refine o1 rfl ?_
                      cases h19
                      exact o_join (sub_ren [0] [1, 3, 77] (by decide) rfl (.cons .nil) (Nat.le_of_ble_eq_true rfl))
                  · have h19 := cnd_t hb23 h19
                    iterate 7 refine onot rfl rfl ?_
                    iterate 2 refine o1 rfl ?_
                    iterate 7 refine onot rfl rfl ?_
                    refine o1 rfl ?_
                    cases h19
                    exact o_join (sub_ren [0] [1, 3, 77] (by decide) rfl (.cons .nil) (Nat.le_of_ble_eq_true rfl))
                · have h19 := cnd_t hb22 h19
                  iterate 3 refine onot rfl rfl ?_
                  iterate 2 refine o1 rfl ?_
                  iterate 7 refine onot rfl rfl ?_
                  iterate 2 refine o1 rfl ?_
                  iterate 7 refine onot rfl rfl ?_
                  refine o1 rfl ?_
                  cases h19
                  exact o_join (sub_ren [0] [1, 3, 77] (by decide) rfl (.cons .nil) (Nat.le_of_ble_eq_true rfl))
              · have h19 := cnd_t hb21 h19
                iterate 5 refine onot rfl rfl ?_
                iterate 2 refine o1 rfl ?_
                iterate 3 refine onot rfl rfl ?_
                iterate 2 refine o1 rfl ?_
                iterate 7 refine onot rfl rfl ?_
                iterate 2 refine o1 rfl ?_
                iterate 7 refine onot rfl rfl ?_
                refine o1 rfl ?_
                cases h19
                exact o_join (sub_ren [0] [1, 3, 77] (by decide) rfl (.cons .nil) (Nat.le_of_ble_eq_true rfl))
            · have h19 := cnd_t hb20 h19
              iterate 3 refine onot rfl rfl ?_
              iterate 2 refine o1 rfl ?_
              iterate 5 refine onot rfl rfl ?_
              iterate 2 refine o1 rfl ?_
              iterate 3 refine onot rfl rfl ?_
              iterate 2 refine o1 rfl ?_
              iterate 7 refine onot rfl rfl ?_
              iterate 2 refine o1 rfl ?_
              iterate 7 refine onot rfl rfl ?_
              refine o1 rfl ?_
              cases h19
              exact o_join (sub_ren [0] [1, 3, 77] (by decide) rfl (.cons .nil) (Nat.le_of_ble_eq_true rfl))
          · intro s hs25
            refine after_n ?_
            refine W.sub hs25 ?_
            refine w_cond (t := b18) rfl (fun hb26 => ?_) (fun hb26 => ?_)
            · have hr := cnd_t hb26 hr
              refine w_seq ?_
              refine w_region ?_
              refine o1 rfl ?_
              refine o_end (e' := [(2, .c (.d (.lit (.bool false))))]) rfl rfl ?_
              refine after_n ?_
              refine w_ret ?_
              refine out_r ?_
              refine after_r ?_
              obtain rfl := Option.some.inj hr
              exact And.intro nofun (And.intro rfl (sub_ren [] [2] (by decide) rfl .nil (Nat.le_of_ble_eq_true rfl)))
            · have hr := cnd_f hb26 hr
              refine w_skip ?_
              refine out_n ?_
              refine after_n ?_
              refine w_region ?_
              refine o1 rfl ?_
              refine o1 (v := .c (.d (.lit (.int .i64 (wr .i64 (i7 + 1)))))) rfl ?_
              refine o1 rfl ?_
              refine o_end (e' := [(1, .c (.op 0 0)), (3, .c (.d (.lit (.int .i64 (wr .i64 (i7 + 1))))))]) rfl rfl ?_
              obtain rfl := Option.some.inj hr
              exact And.intro rfl (sub_ren [0] [1, 3] (by decide) rfl (.cons .nil) (Nat.le_of_ble_eq_true rfl))
        · have hr := cnd_f hb11 hr
          refine w_exit ?_
          refine after_e ?_
          obtain rfl := Option.some.inj hr
          exact And.intro nofun (And.intro rfl (sub_ren [0] [1] (by decide) rfl (.cons .nil) (Nat.le_of_ble_eq_true rfl)))

/- turnout/turnoutref21.Right -/
def k16 : CC :=
  (.seq
  (.region [
    ⟨some 2, .box, [(.tmp 0)], none⟩,
    ⟨some 4, .mv, [(.const (.bool false))], none⟩] [1, 2])
  (.seq
  (.seq
  (.region [
    ⟨some 7, (.load true 3), [(.tmp 2)], none⟩,
    ⟨some 8, (.call true []), [(.func 29), (.tmp 7)], none⟩,
    ⟨some 9, (.un .not), [(.tmp 8)], none⟩,
    ⟨some 10, .mv, [(.tmp 9)], none⟩,
    ⟨some 11, .mv, [(.tmp 1)], (some (10, false))⟩,
    ⟨some 12, (.len false), [(.tmp 11)], (some (10, false))⟩,
    ⟨some 13, (.fieldAddr 0), [(.tmp 2)], (some (10, false))⟩,
    ⟨some 14, (.load false 1), [(.tmp 13)], (some (10, false))⟩,
    ⟨some 15, (.bin .neq), [(.tmp 12), (.tmp 14)], (some (10, false))⟩,
    ⟨some 16, .pick, [(.tmp 10), (.const (.bool true)), (.tmp 15)], none⟩] [1, 2, 16])
  (.cond (.tmp 16)
    (.seq
    (.region [
      ⟨some 4, .mv, [(.const (.bool false))], none⟩] [4])
    .ret)
    .skip))
  (.seq
  (.seq
  (.region [
    ⟨some 5, .mv, [(.const (.int .i64 0))], none⟩] [1, 2, 5])
  (.block 0
    (.loop [1, 2, 5]
      (.seq
      (.seq
      (.region [
        ⟨some 17, .mv, [(.tmp 5)], none⟩,
        ⟨some 18, .mv, [(.tmp 1)], none⟩,
        ⟨some 19, (.len false), [(.tmp 18)], none⟩,
        ⟨some 20, (.bin .lss), [(.tmp 17), (.tmp 19)], none⟩] [1, 2, 5, 20])
      (.cond (.tmp 20)
        .skip
        (.exit 0)))
      (.seq
      (.block 1
        (.seq
        (.seq
        (.drawn [
          ⟨some 23, .mv, [(.tmp 1)], none⟩,
          ⟨some 24, .mv, [(.tmp 5)], none⟩,
          ⟨some 25, (.indexAddr none 1), [(.tmp 23), (.tmp 24)], none⟩,
          ⟨some 26, (.load false 1), [(.tmp 25)], none⟩,
          ⟨some 27, (.len false), [(.tmp 26)], none⟩,
          ⟨some 28, (.fieldAddr 2), [(.tmp 2)], none⟩,
          ⟨some 29, (.load false 1), [(.tmp 28)], none⟩,
          ⟨some 30, (.len false), [(.tmp 29)], none⟩,
          ⟨some 31, (.bin .neq), [(.tmp 27), (.tmp 30)], none⟩] [] [1, 2, 5, 31])
        (.cond (.tmp 31)
          (.seq
          (.region [
            ⟨some 4, .mv, [(.const (.bool false))], none⟩] [4])
          .ret)
          .skip))
        (.seq
        (.region [
          ⟨some 6, .mv, [(.const (.int .i64 0))], none⟩] [1, 2, 5, 6])
        (.block 2
          (.loop [1, 2, 5, 6]
            (.seq
            (.seq
            (.region [
              ⟨some 32, .mv, [(.tmp 6)], none⟩,
              ⟨some 33, .mv, [(.tmp 1)], none⟩,
              ⟨some 34, .mv, [(.tmp 5)], none⟩,
              ⟨some 35, (.indexAddr none 1), [(.tmp 33), (.tmp 34)], none⟩,
              ⟨some 36, (.load false 1), [(.tmp 35)], none⟩,
              ⟨some 37, (.len false), [(.tmp 36)], none⟩,
              ⟨some 38, (.bin .lss), [(.tmp 32), (.tmp 37)], none⟩] [1, 2, 5, 6, 38])
            (.cond (.tmp 38)
              .skip
              (.exit 2)))
            (.seq
            (.block 3
              (.seq
              (.region [
                ⟨some 41, .mv, [(.tmp 1)], none⟩,
                ⟨some 42, .mv, [(.tmp 5)], none⟩,
                ⟨some 43, (.indexAddr none 1), [(.tmp 41), (.tmp 42)], none⟩,
                ⟨some 44, (.load false 1), [(.tmp 43)], none⟩,
                ⟨some 45, .mv, [(.tmp 6)], none⟩,
                ⟨some 46, (.indexAddr none 1), [(.tmp 44), (.tmp 45)], none⟩,
                ⟨some 47, (.load false 1), [(.tmp 46)], none⟩,
                ⟨some 48, (.bin .lss), [(.tmp 47), (.const (.int .i64 0))], none⟩,
                ⟨some 49, .mv, [(.tmp 48)], none⟩,
                ⟨some 50, .mv, [(.tmp 1)], (some (49, false))⟩,
                ⟨some 51, .mv, [(.tmp 5)], (some (49, false))⟩,
                ⟨some 52, (.indexAddr none 1), [(.tmp 50), (.tmp 51)], (some (49, false))⟩,
                ⟨some 53, (.load false 1), [(.tmp 52)], (some (49, false))⟩,
                ⟨some 54, .mv, [(.tmp 6)], (some (49, false))⟩,
                ⟨some 55, (.indexAddr none 1), [(.tmp 53), (.tmp 54)], (some (49, false))⟩,
                ⟨some 56, (.load false 1), [(.tmp 55)], (some (49, false))⟩,
                ⟨some 57, (.bin .gtr), [(.tmp 56), (.const (.int .i64 7))], (some (49, false))⟩,
                ⟨some 58, .pick, [(.tmp 49), (.const (.bool true)), (.tmp 57)], none⟩] [1, 2, 5, 6, 58])
              (.cond (.tmp 58)
                (.seq
                (.region [
                  ⟨some 4, .mv, [(.const (.bool false))], none⟩] [4])
                .ret)
                .skip)))
            (.region [
              ⟨some 39, .mv, [(.tmp 6)], none⟩,
              ⟨some 40, (.bin .add), [(.tmp 39), (.const (.int .i64 1))], none⟩,
              ⟨some 6, .mv, [(.tmp 40)], none⟩] [1, 2, 5, 6]))))))))
      (.region [
        ⟨some 21, .mv, [(.tmp 5)], none⟩,
        ⟨some 22, (.bin .add), [(.tmp 21), (.const (.int .i64 1))], none⟩,
        ⟨some 5, .mv, [(.tmp 22)], none⟩] [1, 2, 5]))))))
  (.seq
  (.region [
    ⟨some 4, .mv, [(.const (.bool true))], none⟩] [4])
  .ret))))
def f16 : Ev.Fn := ⟨2, 59, [.tmp 4], k16⟩
set_option maxRecDepth 100000 in
theorem e16 : compFn prog sig 16 2 [[1, 2], [1, 2, 16], [4], [1, 2, 5], [1, 2, 5], [1, 2, 5, 20], [1, 2, 5, 31], [4], [1, 2, 5, 6], [1, 2, 5, 6], [1, 2, 5, 6, 38], [1, 2, 5, 6, 58], [4], [1, 2, 5, 6], [1, 2, 5], [4]] = some f16 := by kernel_rfl
noncomputable def ref21_Right_L2 (r_1 : Sl (Sl Int)) (i7 : Int) : Int → Option (Sum (Int) (Sum (Unit) (Unit))) := fun i15 =>
  (ixI i7 r_1.l.length).bind fun n19 =>
  bif decide (i15 < (((gt r_1.l n19).l).length : Int)) then ((ixI i15 ((gt r_1.l n19).l).length).bind fun n22 =>
  bif ((decide ((gt ((gt r_1.l n19).l) n22) < 0)) || (decide ((gt ((gt r_1.l n19).l) n22) > 7))) then (some (.inr (.inl ()))) else
  (some (.inl (wr .i64 (i15 + 1))))) else
  (some (.inr (.inr ())))

noncomputable def ref21_Right_L1 (t_0 : api_Topo) (r_1 : Sl (Sl Int)) : Int → Option (Sum (Int) (Sum (Unit) (Unit))) := fun i7 =>
  bif decide (i7 < (r_1.l.length : Int)) then ((ixI i7 r_1.l.length).bind fun n12 =>
  bif ((((gt r_1.l n12).l).length : Int) != (t_0.Hosts.l.length : Int)) then (some (.inr (.inl ()))) else
  ((loopO (ref21_Right_L2 r_1 i7) 0).bind fun
  | .inl _ => (some (.inr (.inl ())))
  | .inr (_) => (some (.inl (wr .i64 (i7 + 1)))))) else
  (some (.inr (.inr ())))

noncomputable def ref21_Right (t_0 : api_Topo) (r_1 : Sl (Sl Int)) : Option (Bool) :=
  (ref17_Right t_0).bind fun r1 =>
  bif ((!r1) || ((r_1.l.length : Int) != t_0.Switches)) then (some false) else
  ((loopO (ref21_Right_L1 t_0 r_1) 0).bind fun
  | .inl _ => (some false)
  | .inr (_) => (some true))
theorem ref21_Right_ok {t_0 : api_Topo} {r_1 : Sl (Sl Int)} {z : Bool} (hp : ref21_Right t_0 r_1 = some z) : Good prog 16 [.agg (c_api_Topo t_0), .d (slD 1 cL_I_i64 r_1)] [.c (.d (.lit (.bool z)))] [] := by
  unfold ref21_Right at hp
  refine fn_good mixed e16 (fnS (m := [false]) (s := ⟨[(0, .agg [.d (.lit (.int .i64 t_0.Switches)), .d (slD 6 c_api_Link t_0.Links), .d (slD 2 c_api_Host t_0.Hosts)]), (1, .c (.d (slD 1 cL_I_i64 r_1)))], [], 0, []⟩) (len := 0) (c := k16) rfl (Sub.of_eq rfl) rfl rfl ?_)
  refine w_seq ?_
  refine w_region ?_
  refine o2 rfl ?_
  refine o1 rfl ?_
  refine o_end (e' := [(1, .c (.d (slD 1 cL_I_i64 r_1))), (2, .c (.op 0 0))]) rfl rfl ?_
  refine after_n ?_
  refine w_seq ?_
  refine w_seq ?_
  obtain ⟨r1, h2, hp⟩ := bnd hp
  refine w_join (J := fun s => Sub s ⟨[(1, .c (.d (slD 1 cL_I_i64 r_1))), (2, .c (.op 0 0)), (16, .c (.d (.lit (.bool ((!r1) || ((r_1.l.length : Int) != t_0.Switches))))))], [(0, some (.box [.d (.lit (.int .i64 t_0.Switches)), .d (slD 6 c_api_Link t_0.Links), .d (slD 2 c_api_Host t_0.Hosts)]))], 1, []⟩) ?_ ?_
  · refine w_region ?_
    refine o1 rfl ?_
    refine oc (rs := [.c (.d (.lit (.bool r1)))]) (outs := []) rfl (ref17_Right_ok h2) rfl ?_
    refine o1 (v := .c (.d (.lit (.bool (!r1))))) rfl ?_
    refine o1 rfl ?_
    cases hb4 : ((!r1) : Bool)
    · refine og rfl rfl rfl ?_
      refine og (v := .c (.d (.lit (.int .i64 (r_1.l.length : Int))))) rfl rfl len_sd ?_
      iterate 2 refine og rfl rfl rfl ?_
      refine og (v := .c (.d (.lit (.bool ((r_1.l.length : Int) != t_0.Switches))))) rfl rfl rfl ?_
      refine o1 rfl ?_
      exact o_join (sub_ren [0] [1, 2, 16] (by decide) rfl (.cons .nil) (Nat.le_of_ble_eq_true rfl))
    · refine onot rfl rfl ?_
      iterate 4 refine onot rfl rfl ?_
      refine o1 rfl ?_
      exact o_join (sub_ren [0] [1, 2, 16] (by decide) rfl (.cons .nil) (Nat.le_of_ble_eq_true rfl))
  · intro s hs5
    refine after_n ?_
    refine W.sub hs5 ?_
    refine w_cond (t := ((!r1) || ((r_1.l.length : Int) != t_0.Switches))) rfl (fun hb6 => ?_) (fun hb6 => ?_)
    · have hp := cnd_t hb6 hp
      refine w_seq ?_
      refine w_region ?_
      refine o1 rfl ?_
      refine o_end (e' := [(4, .c (.d (.lit (.bool false))))]) rfl rfl ?_
      refine after_n ?_
      refine w_ret ?_
      refine after_r ?_
      obtain rfl := Option.some.inj hp
      exact leave_at rfl rfl (pr_c p_d pr_nil) pc_nil rfl rfl
    · have hp := cnd_f hb6 hp
      refine w_skip ?_
      refine after_n ?_
      refine w_seq ?_
      refine w_seq ?_
      refine w_region ?_
      refine o1 rfl ?_
      refine o_end (e' := [(1, .c (.d (slD 1 cL_I_i64 r_1))), (2, .c (.op 0 0)), (5, .c (.d (.lit (.int .i64 0))))]) rfl rfl ?_
      refine after_n ?_
      refine w_block ?_
      obtain ⟨x9, h10, hp⟩ := bnd hp
      refine W.mono ?_ (w_loopS (st := fun (v : Int) => match v with | i7 => ⟨[(1, .c (.d (slD 1 cL_I_i64 r_1))), (2, .c (.op 0 0)), (5, .c (.d (.lit (.int .i64 i7))))], [(0, some (.box [.d (.lit (.int .i64 t_0.Switches)), .d (slD 6 c_api_Link t_0.Links), .d (slD 2 c_api_Host t_0.Hosts)]))], 1, []⟩) (a := 0) (Q := Jn (fun (x : Sum (Unit) (Unit)) o s => match x with | .inl _ => o = Out.ret ∧ Sub s ⟨[(4, .c (.d (.lit (.bool false))))], [], 0, []⟩ | .inr (_) => o = Out.exit 0 ∧ Sub s ⟨[], [], 0, []⟩)) ?_ h10 ?_)
      · intro o s hs29
        rcases x9 with (_ | _)
        · obtain ⟨rfl, hs29⟩ := hs29
          refine out_r ?_
          refine after_r ?_
          obtain rfl := Option.some.inj hp
          refine wk.sub hs29 ?_
          exact leave_at rfl rfl (pr_c p_d pr_nil) pc_nil rfl rfl
        · obtain ⟨rfl, hs29⟩ := hs29
          refine out_e ?_
          refine after_n ?_
          refine W.sub hs29 ?_
          refine w_seq ?_
          refine w_region ?_
          refine o1 rfl ?_
          refine o_end (e' := [(4, .c (.d (.lit (.bool true))))]) rfl rfl ?_
          refine after_n ?_
          refine w_ret ?_
          obtain rfl := Option.some.inj hp
          exact leave_at rfl rfl (pr_c p_d pr_nil) pc_nil rfl rfl
      · exact (sub_ren [0] [1, 2, 5] (by decide) rfl (.cons .nil) (Nat.le_of_ble_eq_true rfl))
      · rintro i7 r hr
        unfold ref21_Right_L1 at hr
        refine w_seq ?_
        refine w_seq ?_
        refine w_region ?_
        iterate 2 refine o1 rfl ?_
        refine o1 (v := .c (.d (.lit (.int .i64 (r_1.l.length : Int))))) len_sd ?_
        refine o1 (v := .c (.d (.lit (.bool (decide (i7 < (r_1.l.length : Int))))))) rfl ?_
        refine o_end (e' := [(1, .c (.d (slD 1 cL_I_i64 r_1))), (2, .c (.op 0 0)), (5, .c (.d (.lit (.int .i64 i7)))), (20, .c (.d (.lit (.bool (decide (i7 < (r_1.l.length : Int)))))))]) rfl rfl ?_
        refine after_n ?_
        refine w_cond (t := decide (i7 < (r_1.l.length : Int))) rfl (fun hb11 => ?_) (fun hb11 => ?_)
        · have hr := cnd_t hb11 hr
          refine w_skip ?_
          refine after_n ?_
          refine w_seq ?_
          refine w_block ?_
          refine w_seq ?_
          refine w_seq ?_
          obtain ⟨n12, h13, hr⟩ := bnd hr
          refine w_drawn ?_
          iterate 2 refine d1 rfl ?_
          refine d1 (ix_sd h13) ?_
          refine d1 rfl ?_
          refine d1 (v := .c (.d (.lit (.int .i64 (((gt r_1.l n12).l).length : Int))))) len_sd ?_
          iterate 2 refine d1 rfl ?_
          refine d1 (v := .c (.d (.lit (.int .i64 (t_0.Hosts.l.length : Int))))) len_sd ?_
          refine d1 (v := .c (.d (.lit (.bool ((((gt r_1.l n12).l).length : Int) != (t_0.Hosts.l.length : Int)))))) rfl ?_
          refine d_fin (e' := [(1, .c (.d (slD 1 cL_I_i64 r_1))), (2, .c (.op 0 0)), (5, .c (.d (.lit (.int .i64 i7)))), (31, .c (.d (.lit (.bool ((((gt r_1.l n12).l).length : Int) != (t_0.Hosts.l.length : Int))))))]) (n' := 577) rfl rfl rfl rfl ?_
          refine after_n ?_
          refine w_cond (t := ((((gt r_1.l n12).l).length : Int) != (t_0.Hosts.l.length : Int))) rfl (fun hb14 => ?_) (fun hb14 => ?_)
          · have hr := cnd_t hb14 hr
            refine w_seq ?_
            refine w_region ?_
            refine o1 rfl ?_
            refine o_end (e' := [(4, .c (.d (.lit (.bool false))))]) rfl rfl ?_
            refine after_n ?_
            refine w_ret ?_
            refine after_r ?_
            refine out_r ?_
            refine after_r ?_
            obtain rfl := Option.some.inj hr
            exact And.intro nofun (And.intro rfl (sub_ren [] [4] (by decide) rfl .nil (Nat.le_of_ble_eq_true rfl)))
          · have hr := cnd_f hb14 hr
            refine w_skip ?_
            refine after_n ?_
            refine w_seq ?_
            refine w_region ?_
            refine o1 rfl ?_
            refine o_end (e' := [(1, .c (.d (slD 1 cL_I_i64 r_1))), (2, .c (.op 0 0)), (5, .c (.d (.lit (.int .i64 i7)))), (6, .c (.d (.lit (.int .i64 0))))]) rfl rfl ?_
            refine after_n ?_
            refine w_block ?_
            obtain ⟨x17, h18, hr⟩ := bnd hr
            refine W.mono ?_ (w_loopS (st := fun (v : Int) => match v with | i15 => ⟨[(1, .c (.d (slD 1 cL_I_i64 r_1))), (2, .c (.op 0 0)), (5, .c (.d (.lit (.int .i64 i7)))), (6, .c (.d (.lit (.int .i64 i15))))], [(0, some (.box [.d (.lit (.int .i64 t_0.Switches)), .d (slD 6 c_api_Link t_0.Links), .d (slD 2 c_api_Host t_0.Hosts)]))], 1, []⟩) (a := 0) (Q := Jn (fun (x : Sum (Unit) (Unit)) o s => match x with | .inl _ => o = Out.ret ∧ Sub s ⟨[(4, .c (.d (.lit (.bool false))))], [], 0, []⟩ | .inr (_) => o = Out.exit 2 ∧ Sub s ⟨[(1, .c (.d (slD 1 cL_I_i64 r_1))), (2, .c (.op 0 0)), (5, .c (.d (.lit (.int .i64 i7))))], [(0, some (.box [.d (.lit (.int .i64 t_0.Switches)), .d (slD 6 c_api_Link t_0.Links), .d (slD 2 c_api_Host t_0.Hosts)]))], 1, []⟩)) ?_ h18 ?_)
            · intro o s hs28
              rcases x17 with (_ | _)
              · obtain ⟨rfl, hs28⟩ := hs28
                refine out_r ?_
                refine out_r ?_
                refine after_r ?_
                obtain rfl := Option.some.inj hr
                exact And.intro nofun (And.intro rfl (Sub.trans hs28 (sub_ren [] [4] (by decide) rfl .nil (Nat.le_of_ble_eq_true rfl))))
              · obtain ⟨rfl, hs28⟩ := hs28
                refine out_e ?_
                refine out_n ?_
                refine after_n ?_
                refine W.sub hs28 ?_
                refine w_region ?_
                refine o1 rfl ?_
                refine o1 (v := .c (.d (.lit (.int .i64 (wr .i64 (i7 + 1)))))) rfl ?_
                refine o1 rfl ?_
                refine o_end (e' := [(1, .c (.d (slD 1 cL_I_i64 r_1))), (2, .c (.op 0 0)), (5, .c (.d (.lit (.int .i64 (wr .i64 (i7 + 1))))))]) rfl rfl ?_
                obtain rfl := Option.some.inj hr
                exact And.intro rfl (sub_ren [0] [1, 2, 5] (by decide) rfl (.cons .nil) (Nat.le_of_ble_eq_true rfl))
            · exact (sub_ren [0] [1, 2, 5, 6] (by decide) rfl (.cons .nil) (Nat.le_of_ble_eq_true rfl))
            · rintro i15 r hr
              unfold ref21_Right_L2 at hr
              refine w_seq ?_
              refine w_seq ?_
              obtain ⟨n19, h20, hr⟩ := bnd hr
              refine w_region ?_
              iterate 3 refine o1 rfl ?_
              refine o1 (ix_sd h20) ?_
              refine o1 rfl ?_
              refine o1 (v := .c (.d (.lit (.int .i64 (((gt r_1.l n19).l).length : Int))))) len_sd ?_
              refine o1 (v := .c (.d (.lit (.bool (decide (i15 < (((gt r_1.l n19).l).length : Int))))))) rfl ?_
              refine o_end (e' := [(1, .c (.d (slD 1 cL_I_i64 r_1))), (2, .c (.op 0 0)), (5, .c (.d (.lit (.int .i64 i7)))), (6, .c (.d (.lit (.int .i64 i15)))), (38, .c (.d (.lit (.bool (decide (i15 < (((gt r_1.l n19).l).length : Int)))))))]) rfl rfl ?_
              refine after_n ?_
              refine w_cond (t := decide (i15 < (((gt r_1.l n19).l).length : Int))) rfl (fun hb21 => ?_) (fun hb21 => ?_)
              · have hr := cnd_t hb21 hr
                refine w_skip ?_
                refine after_n ?_
                refine w_seq ?_
                refine w_block ?_
                refine w_seq ?_
                obtain ⟨n22, h23, hr⟩ := bnd hr
                refine w_join (J := fun s => Sub s ⟨[(1, .c (.d (slD 1 cL_I_i64 r_1))), (2, .c (.op 0 0)), (5, .c (.d (.lit (.int .i64 i7)))), (6, .c (.d (.lit (.int .i64 i15)))), (58, .c (.d (.lit (.bool ((decide ((gt ((gt r_1.l n19).l) n22) < 0)) || (decide ((gt ((gt r_1.l n19).l) n22) > 7)))))))], [(0, some (.box [.d (.lit (.int .i64 t_0.Switches)), .d (slD 6 c_api_Link t_0.Links), .d (slD 2 c_api_Host t_0.Hosts)]))], 1, []⟩) ?_ ?_
                · refine w_region ?_
                  iterate 2 refine o1 rfl ?_
                  refine o1 (ix_sd h20) ?_
                  iterate 2 refine o1 rfl ?_
                  refine o1 (ix_sd h23) ?_
                  refine o1 rfl ?_
                  refine o1 (v := .c (.d (.lit (.bool (decide ((gt ((gt r_1.l n19).l) n22) < 0)))))) rfl ?_
                  refine o1 rfl ?_
                  cases hb25 : (decide ((gt ((gt r_1.l n19).l) n22) < 0) : Bool)
                  · refine og rfl rfl rfl ?_
                    refine og rfl rfl rfl ?_
                    refine og rfl rfl (ix_sd h20) ?_
                    iterate 2 refine og rfl rfl rfl ?_
                    refine og rfl rfl (ix_sd h23) ?_
                    refine og rfl rfl rfl ?_
                    refine og (v := .c (.d (.lit (.bool (decide ((gt ((gt r_1.l n19).l) n22) > 7)))))) rfl rfl rfl ?_
                    refine o1 rfl ?_
                    exact o_join (sub_ren [0] [1, 2, 5, 6, 58] (by decide) rfl (.cons .nil) (Nat.le_of_ble_eq_true rfl))
                  · refine onot rfl rfl ?_
                    iterate 7 refine onot rfl rfl ?_
                    refine o1 rfl ?_
                    exact o_join (sub_ren [0] [1, 2, 5, 6, 58] (by decide) rfl (.cons .nil) (Nat.le_of_ble_eq_true rfl))
                · intro s hs26
                  refine after_n ?_
                  refine W.sub hs26 ?_
                  refine w_cond (t := ((decide ((gt ((gt r_1.l n19).l) n22) < 0)) || (decide ((gt ((gt r_1.l n19).l) n22) > 7)))) rfl (fun hb27 => ?_) (fun hb27 => ?_)
                  · have hr := cnd_t hb27 hr
                    refine w_seq ?_
                    refine w_region ?_
                    refine o1 rfl ?_
                    refine o_end (e' := [(4, .c (.d (.lit (.bool false))))]) rfl rfl ?_
                    refine after_n ?_
                    refine w_ret ?_
                    refine out_r ?_
                    refine after_r ?_
                    obtain rfl := Option.some.inj hr
                    exact And.intro nofun (And.intro rfl (sub_ren [] [4] (by decide) rfl .nil (Nat.le_of_ble_eq_true rfl)))
                  · have hr := cnd_f hb27 hr
                    refine w_skip ?_
                    refine out_n ?_
                    refine after_n ?_
                    refine w_region ?_
                    refine o1 rfl ?_
                    refine o1 (v := .c (.d (.lit (.int .i64 (wr .i64 (i15 + 1)))))) rfl ?_
                    refine o1 rfl ?_
                    refine o_end (e' := [(1, .c (.d (slD 1 cL_I_i64 r_1))), (2, .c (.op 0 0)), (5, .c (.d (.lit (.int .i64 i7)))), (6, .c (.d (.lit (.int .i64 (wr .i64 (i15 + 1))))))]) rfl rfl ?_
                    obtain rfl := Option.some.inj hr
                    exact And.intro rfl (sub_ren [0] [1, 2, 5, 6] (by decide) rfl (.cons .nil) (Nat.le_of_ble_eq_true rfl))
              · have hr := cnd_f hb21 hr
                refine w_exit ?_
                refine after_e ?_
                obtain rfl := Option.some.inj hr
                exact And.intro nofun (And.intro rfl (sub_ren [0] [1, 2, 5] (by decide) rfl (.cons .nil) (Nat.le_of_ble_eq_true rfl)))
        · have hr := cnd_f hb11 hr
          refine w_exit ?_
          refine after_e ?_
          obtain rfl := Option.some.inj hr
          exact And.intro nofun (And.intro rfl (sub_ren [] [] (by decide) rfl .nil (Nat.le_of_ble_eq_true rfl)))

/- turnout/turnoutref07.Top -/
def k54 : CC :=
  (.seq
  (.region [
    ⟨some 2, .mv, [(.const (.int .i64 0))], none⟩] [0])
  (.seq
  (.seq
  (.region [
    ⟨some 3, .mv, [(.tmp 0)], none⟩,
    ⟨some 4, (.bin .eql), [(.tmp 3), (.const (.int .i64 2))], none⟩] [0, 4])
  (.cond (.tmp 4)
    (.seq
    (.region [
      ⟨some 2, .mv, [(.const (.int .i64 15))], none⟩] [2])
    .ret)
    .skip))
  (.seq
  (.seq
  (.region [
    ⟨some 5, .mv, [(.tmp 0)], none⟩,
    ⟨some 6, (.bin .eql), [(.tmp 5), (.const (.int .i64 0))], none⟩,
    ⟨some 7, .mv, [(.tmp 6)], none⟩,
    ⟨some 8, .mv, [(.tmp 0)], (some (7, false))⟩,
    ⟨some 9, (.bin .eql), [(.tmp 8), (.const (.int .i64 1))], (some (7, false))⟩,
    ⟨some 10, .pick, [(.tmp 7), (.const (.bool true)), (.tmp 9)], none⟩,
    ⟨some 11, .mv, [(.tmp 10)], none⟩,
    ⟨some 12, .mv, [(.tmp 0)], (some (11, false))⟩,
    ⟨some 13, (.bin .eql), [(.tmp 12), (.const (.int .i64 3))], (some (11, false))⟩,
    ⟨some 14, .pick, [(.tmp 11), (.const (.bool true)), (.tmp 13)], none⟩] [14])
  (.cond (.tmp 14)
    (.seq
    (.region [
      ⟨some 2, .mv, [(.const (.int .i64 255))], none⟩] [2])
    .ret)
    .skip))
  (.seq
  (.region [
    ⟨some 2, .mv, [(.const (.int .i64 0))], none⟩] [2])
  .ret))))
def f54 : Ev.Fn := ⟨1, 15, [.tmp 2], k54⟩
set_option maxRecDepth 100000 in
theorem e54 : compFn prog sig 54 1 [[0], [0, 4], [2], [14], [2], [2]] = some f54 := by kernel_rfl
noncomputable def ref07_Top (f_0 : Int) : Option (Int) :=
  bif (f_0 == 2) then (some 15) else
  (bif ((f_0 == 0) || ((f_0 == 1) || (f_0 == 3))) then (some 255) else
  (some 0))
theorem ref07_Top_ok {f_0 : Int} {z : Int} (hp : ref07_Top f_0 = some z) : Good prog 54 [.d (.lit (.int .i64 f_0))] [.c (.d (.lit (.int .i64 z)))] [] := by
  unfold ref07_Top at hp
  refine fn_good mixed e54 (fnS (m := [false]) (s := ⟨[(0, .c (.d (.lit (.int .i64 f_0))))], [], 0, []⟩) (len := 0) (c := k54) rfl (Sub.of_eq rfl) rfl rfl ?_)
  refine w_seq ?_
  refine w_region ?_
  refine o1 rfl ?_
  refine o_end (e' := [(0, .c (.d (.lit (.int .i64 f_0))))]) rfl rfl ?_
  refine after_n ?_
  refine w_seq ?_
  refine w_seq ?_
  refine w_region ?_
  refine o1 rfl ?_
  refine o1 (v := .c (.d (.lit (.bool (f_0 == 2))))) rfl ?_
  refine o_end (e' := [(0, .c (.d (.lit (.int .i64 f_0)))), (4, .c (.d (.lit (.bool (f_0 == 2)))))]) rfl rfl ?_
  refine after_n ?_
  refine w_cond (t := (f_0 == 2)) rfl (fun hb1 => ?_) (fun hb1 => ?_)
  · have hp := cnd_t hb1 hp
    refine w_seq ?_
    refine w_region ?_
    refine o1 rfl ?_
    refine o_end (e' := [(2, .c (.d (.lit (.int .i64 15))))]) rfl rfl ?_
    refine after_n ?_
    refine w_ret ?_
    refine after_r ?_
    obtain rfl := Option.some.inj hp
    exact leave_at rfl rfl (pr_c p_d pr_nil) pc_nil rfl rfl
  · have hp := cnd_f hb1 hp
    refine w_skip ?_
    refine after_n ?_
    refine w_seq ?_
    refine w_seq ?_
    refine w_join (J := fun s => Sub s ⟨[(14, .c (.d (.lit (.bool ((f_0 == 0) || ((f_0 == 1) || (f_0 == 3)))))))], [], 0, []⟩) ?_ ?_
    · refine w_region ?_
      refine o1 rfl ?_
      refine o1 (v := .c (.d (.lit (.bool (f_0 == 0))))) rfl ?_
      refine o1 rfl ?_
      cases hb3 : ((f_0 == 0) : Bool)
      · refine og rfl rfl rfl ?_
        refine og (v := .c (.d (.lit (.bool (f_0 == 1))))) rfl rfl rfl ?_
        iterate 2 refine o1 rfl ?_
        cases hb4 : ((f_0 == 1) : Bool)
        · refine og rfl rfl rfl ?_
          refine og (v := .c (.d (.lit (.bool (f_0 == 3))))) rfl rfl rfl ?_
          refine o1 rfl ?_
          exact o_join (sub_ren [] [14] (by decide) rfl .nil (Nat.le_of_ble_eq_true rfl))
        · refine onot rfl rfl ?_
          refine onot rfl rfl ?_
          refine o1 rfl ?_
          exact o_join (sub_ren [] [14] (by decide) rfl .nil (Nat.le_of_ble_eq_true rfl))
      · refine onot rfl rfl ?_
        refine onot rfl rfl ?_
        iterate 2 refine o1 rfl ?_
        iterate 2 refine onot rfl rfl ?_
        refine o1 rfl ?_
        exact o_join (sub_ren [] [14] (by decide) rfl .nil (Nat.le_of_ble_eq_true rfl))
    · intro s hs5
      refine after_n ?_
      refine W.sub hs5 ?_
      refine w_cond (t := ((f_0 == 0) || ((f_0 == 1) || (f_0 == 3)))) rfl (fun hb6 => ?_) (fun hb6 => ?_)
      · have hp := cnd_t hb6 hp
        refine w_seq ?_
        refine w_region ?_
        refine o1 rfl ?_
        refine o_end (e' := [(2, .c (.d (.lit (.int .i64 255))))]) rfl rfl ?_
        refine after_n ?_
        refine w_ret ?_
        refine after_r ?_
        obtain rfl := Option.some.inj hp
        exact leave_at rfl rfl (pr_c p_d pr_nil) pc_nil rfl rfl
      · have hp := cnd_f hb6 hp
        refine w_skip ?_
        refine after_n ?_
        refine w_seq ?_
        refine w_region ?_
        refine o1 rfl ?_
        refine o_end (e' := [(2, .c (.d (.lit (.int .i64 0))))]) rfl rfl ?_
        refine after_n ?_
        refine w_ret ?_
        obtain rfl := Option.some.inj hp
        exact leave_at rfl rfl (pr_c p_d pr_nil) pc_nil rfl rfl

/- turnout/turnoutref07.Right -/
def k17 : CC :=
  (.seq
  (.region [
    ⟨some 1, .box, [(.tmp 0)], none⟩,
    ⟨some 2, .mv, [(.const (.bool false))], none⟩] [1])
  (.seq
  (.seq
  (.region [
    ⟨some 3, .mv, [(.const (.int .i64 0))], none⟩] [1, 3])
  (.block 0
    (.loop [1, 3]
      (.seq
      (.seq
      (.region [
        ⟨some 4, .mv, [(.tmp 3)], none⟩,
        ⟨some 5, (.bin .lss), [(.tmp 4), (.const (.int .i64 4))], none⟩] [1, 3, 5])
      (.cond (.tmp 5)
        .skip
        (.exit 0)))
      (.seq
      (.block 1
        (.seq
        (.drawn [
          ⟨some 8, .mv, [(.tmp 3)], none⟩,
          ⟨some 9, (.indexAddr (some 4) 1), [(.tmp 1), (.tmp 8)], none⟩,
          ⟨some 10, (.load false 1), [(.tmp 9)], none⟩,
          ⟨some 11, (.bin .lss), [(.tmp 10), (.const (.int .i64 0))], none⟩,
          ⟨some 12, .mv, [(.tmp 11)], none⟩,
          ⟨some 13, .mv, [(.tmp 3)], (some (12, false))⟩,
          ⟨some 14, (.indexAddr (some 4) 1), [(.tmp 1), (.tmp 13)], (some (12, false))⟩,
          ⟨some 15, (.load false 1), [(.tmp 14)], (some (12, false))⟩,
          ⟨some 16, .mv, [(.tmp 3)], (some (12, false))⟩,
          ⟨some 17, (.call true []), [(.func 54), (.tmp 16)], (some (12, false))⟩,
          ⟨some 18, (.bin .gtr), [(.tmp 15), (.tmp 17)], (some (12, false))⟩,
          ⟨some 19, .pick, [(.tmp 12), (.const (.bool true)), (.tmp 18)], none⟩] [(7, 9)] [1, 3, 19])
        (.cond (.tmp 19)
          (.seq
          (.region [
            ⟨some 2, .mv, [(.const (.bool false))], none⟩] [2])
          .ret)
          .skip)))
      (.region [
        ⟨some 6, .mv, [(.tmp 3)], none⟩,
        ⟨some 7, (.bin .add), [(.tmp 6), (.const (.int .i64 1))], none⟩,
        ⟨some 3, .mv, [(.tmp 7)], none⟩] [1, 3]))))))
  (.seq
  (.region [
    ⟨some 2, .mv, [(.const (.bool true))], none⟩] [2])
  .ret)))
def f17 : Ev.Fn := ⟨1, 20, [.tmp 2], k17⟩
set_option maxRecDepth 100000 in
theorem e17 : compFn prog sig 17 1 [[1], [1, 3], [1, 3], [1, 3, 5], [1, 3, 19], [2], [1, 3], [2]] = some f17 := by kernel_rfl
noncomputable def ref07_Right_L1 (p_0 : A4_Int) : Int → Option (Sum (Int) (Sum (Unit) (Unit))) := fun i1 =>
  bif decide (i1 < 4) then ((ixI i1 4).bind fun n6 =>
  (bif decide ((gt [p_0.e0, p_0.e1, p_0.e2, p_0.e3] n6) < 0) then (some true) else ((ref07_Top i1).bind fun r8 =>
  some (decide ((gt [p_0.e0, p_0.e1, p_0.e2, p_0.e3] n6) > r8)))).bind fun b10 =>
  bif b10 then (some (.inr (.inl ()))) else
  (some (.inl (wr .i64 (i1 + 1))))) else
  (some (.inr (.inr ())))

noncomputable def ref07_Right (p_0 : A4_Int) : Option (Bool) :=
  (loopO (ref07_Right_L1 p_0) 0).bind fun
  | .inl _ => (some false)
  | .inr (_) => (some true)
theorem ref07_Right_ok {p_0 : A4_Int} {z : Bool} (hp : ref07_Right p_0 = some z) : Good prog 17 [.agg (c_A4_Int p_0)] [.c (.d (.lit (.bool z)))] [] := by
  unfold ref07_Right at hp
  refine fn_good mixed e17 (fnS (m := [false]) (s := ⟨[(0, .agg [.d (.lit (.int .i64 p_0.e0)), .d (.lit (.int .i64 p_0.e1)), .d (.lit (.int .i64 p_0.e2)), .d (.lit (.int .i64 p_0.e3))])], [], 0, []⟩) (len := 0) (c := k17) rfl (Sub.of_eq rfl) rfl rfl ?_)
  refine w_seq ?_
  refine w_region ?_
  refine o2 rfl ?_
  refine o1 rfl ?_
  refine o_end (e' := [(1, .c (.op 0 0))]) rfl rfl ?_
  refine after_n ?_
  refine w_seq ?_
  refine w_seq ?_
  refine w_region ?_
  refine o1 rfl ?_
  refine o_end (e' := [(1, .c (.op 0 0)), (3, .c (.d (.lit (.int .i64 0))))]) rfl rfl ?_
  refine after_n ?_
  refine w_block ?_
  obtain ⟨x3, h4, hp⟩ := bnd hp
  refine W.mono ?_ (w_loopS (st := fun (v : Int) => match v with | i1 => ⟨[(1, .c (.op 0 0)), (3, .c (.d (.lit (.int .i64 i1))))], [(0, some (.box [.d (.lit (.int .i64 p_0.e0)), .d (.lit (.int .i64 p_0.e1)), .d (.lit (.int .i64 p_0.e2)), .d (.lit (.int .i64 p_0.e3))]))], 1, []⟩) (a := 0) (Q := Jn (fun (x : Sum (Unit) (Unit)) o s => match x with | .inl _ => o = Out.ret ∧ Sub s ⟨[(2, .c (.d (.lit (.bool false))))], [], 0, []⟩ | .inr (_) => o = Out.exit 0 ∧ Sub s ⟨[], [], 0, []⟩)) ?_ h4 ?_)
  · intro o s hs15
    rcases x3 with (_ | _)
    · obtain ⟨rfl, hs15⟩ := hs15
      refine out_r ?_
      refine after_r ?_
      obtain rfl := Option.some.inj hp
      refine wk.sub hs15 ?_
      exact leave_at rfl rfl (pr_c p_d pr_nil) pc_nil rfl rfl
    · obtain ⟨rfl, hs15⟩ := hs15
      refine out_e ?_
      refine after_n ?_
      refine W.sub hs15 ?_
      refine w_seq ?_
      refine w_region ?_
      refine o1 rfl ?_
      refine o_end (e' := [(2, .c (.d (.lit (.bool true))))]) rfl rfl ?_
      refine after_n ?_
      refine w_ret ?_
      obtain rfl := Option.some.inj hp
      exact leave_at rfl rfl (pr_c p_d pr_nil) pc_nil rfl rfl
  · exact (sub_ren [0] [1, 3] (by decide) rfl (.cons .nil) (Nat.le_of_ble_eq_true rfl))
  · rintro i1 r hr
    unfold ref07_Right_L1 at hr
    refine w_seq ?_
    refine w_seq ?_
    refine w_region ?_
    refine o1 rfl ?_
    refine o1 (v := .c (.d (.lit (.bool (decide (i1 < 4)))))) rfl ?_
    refine o_end (e' := [(1, .c (.op 0 0)), (3, .c (.d (.lit (.int .i64 i1)))), (5, .c (.d (.lit (.bool (decide (i1 < 4))))))]) rfl rfl ?_
    refine after_n ?_
    refine w_cond (t := decide (i1 < 4)) rfl (fun hb5 => ?_) (fun hb5 => ?_)
    · have hr := cnd_t hb5 hr
      refine w_skip ?_
      refine after_n ?_
      refine w_seq ?_
      refine w_block ?_
      refine w_seq ?_
      obtain ⟨n6, h7, hr⟩ := bnd hr
      obtain ⟨b10, h11, hr⟩ := bnd hr
      refine w_join (J := fun s => Sub s ⟨[(1, .c (.op 0 0)), (3, .c (.d (.lit (.int .i64 i1)))), (19, .c (.d (.lit (.bool b10))))], [(0, some (.box [.d (.lit (.int .i64 p_0.e0)), .d (.lit (.int .i64 p_0.e1)), .d (.lit (.int .i64 p_0.e2)), .d (.lit (.int .i64 p_0.e3))]))], 1, []⟩) ?_ ?_
      · refine w_drawn ?_
        refine d1 rfl ?_
        refine d1 (ix_ar h7) ?_
        refine d1 (v := .c (.d (.lit (.int .i64 (gt [p_0.e0, p_0.e1, p_0.e2, p_0.e3] n6))))) (ids := [0]) (by apply ar4 (ixI_some.1 h7).2 <;> rfl) ?_
        refine d1 (v := .c (.d (.lit (.bool (decide ((gt [p_0.e0, p_0.e1, p_0.e2, p_0.e3] n6) < 0)))))) rfl ?_
        refine d1 rfl ?_
        cases hb12 : (decide ((gt [p_0.e0, p_0.e1, p_0.e2, p_0.e3] n6) < 0) : Bool)
        · have h11 := cnd_f hb12 h11
          obtain ⟨r8, h9, h11⟩ := bnd h11
          refine dg rfl rfl rfl ?_
          refine dg rfl rfl (ix_ar h7) ?_
          refine dg (v := .c (.d (.lit (.int .i64 (gt [p_0.e0, p_0.e1, p_0.e2, p_0.e3] n6))))) (ids := [0]) rfl rfl (by apply ar4 (ixI_some.1 h7).2 <;> rfl) ?_
          refine dg rfl rfl rfl ?_
          refine dcg (rs := [.c (.d (.lit (.int .i64 r8)))]) (outs := []) rfl rfl rfl (ref07_Top_ok h9) rfl (Nat.le_of_ble_eq_true rfl) ?_
          refine dg (v := .c (.d (.lit (.bool (decide ((gt [p_0.e0, p_0.e1, p_0.e2, p_0.e3] n6) > r8)))))) rfl rfl rfl ?_
          refine d1 rfl ?_
          cases h11
          exact d_join rfl (sub_ren [0] [1, 3, 19] (by decide) rfl (.cons .nil) (Nat.le_of_ble_eq_true rfl))
        · have h11 := cnd_t hb12 h11
          iterate 6 refine dnot rfl rfl ?_
          refine d1 rfl ?_
          cases h11
          exact d_join rfl (sub_ren [0] [1, 3, 19] (by decide) rfl (.cons .nil) (Nat.le_of_ble_eq_true rfl))
      · intro s hs13
        refine after_n ?_
        refine W.sub hs13 ?_
        refine w_cond (t := b10) rfl (fun hb14 => ?_) (fun hb14 => ?_)
        · have hr := cnd_t hb14 hr
          refine w_seq ?_
          refine w_region ?_
          refine o1 rfl ?_
          refine o_end (e' := [(2, .c (.d (.lit (.bool false))))]) rfl rfl ?_
          refine after_n ?_
          refine w_ret ?_
          refine out_r ?_
          refine after_r ?_
          obtain rfl := Option.some.inj hr
          exact And.intro nofun (And.intro rfl (sub_ren [] [2] (by decide) rfl .nil (Nat.le_of_ble_eq_true rfl)))
        · have hr := cnd_f hb14 hr
          refine w_skip ?_
          refine out_n ?_
          refine after_n ?_
          refine w_region ?_
          refine o1 rfl ?_
          refine o1 (v := .c (.d (.lit (.int .i64 (wr .i64 (i1 + 1)))))) rfl ?_
          refine o1 rfl ?_
          refine o_end (e' := [(1, .c (.op 0 0)), (3, .c (.d (.lit (.int .i64 (wr .i64 (i1 + 1))))))]) rfl rfl ?_
          obtain rfl := Option.some.inj hr
          exact And.intro rfl (sub_ren [0] [1, 3] (by decide) rfl (.cons .nil) (Nat.le_of_ble_eq_true rfl))
    · have hr := cnd_f hb5 hr
      refine w_exit ?_
      refine after_e ?_
      obtain rfl := Option.some.inj hr
      exact And.intro nofun (And.intro rfl (sub_ren [] [] (by decide) rfl .nil (Nat.le_of_ble_eq_true rfl)))

/- turnout/route.port -/
def k50 : CC :=
  (.seq
  (.region [
    ⟨some 6, .mv, [(.const (.int .i64 0))], none⟩,
    ⟨some 7, .mv, [(.const (.bool false))], none⟩] [0, 1, 2])
  (.seq
  (.seq
  (.region [
    ⟨some 8, .mv, [(.tmp 1)], none⟩,
    ⟨some 9, (.bin .lss), [(.tmp 8), (.const (.int .i64 0))], none⟩,
    ⟨some 10, .mv, [(.tmp 9)], none⟩,
    ⟨some 11, .mv, [(.tmp 1)], (some (10, false))⟩,
    ⟨some 12, .mv, [(.tmp 0)], (some (10, false))⟩,
    ⟨some 13, (.len false), [(.tmp 12)], (some (10, false))⟩,
    ⟨some 14, (.bin .geq), [(.tmp 11), (.tmp 13)], (some (10, false))⟩,
    ⟨some 15, .pick, [(.tmp 10), (.const (.bool true)), (.tmp 14)], none⟩,
    ⟨some 16, .mv, [(.tmp 15)], none⟩,
    ⟨some 17, .mv, [(.tmp 2)], (some (16, false))⟩,
    ⟨some 18, (.bin .lss), [(.tmp 17), (.const (.int .i64 0))], (some (16, false))⟩,
    ⟨some 19, .pick, [(.tmp 16), (.const (.bool true)), (.tmp 18)], none⟩,
    ⟨some 20, .mv, [(.tmp 19)], none⟩,
    ⟨some 21, .mv, [(.tmp 2)], (some (20, false))⟩,
    ⟨some 22, .mv, [(.tmp 0)], (some (20, false))⟩,
    ⟨some 23, .mv, [(.tmp 1)], (some (20, false))⟩,
    ⟨some 24, (.indexAddr none 1), [(.tmp 22), (.tmp 23)], (some (20, false))⟩,
    ⟨some 25, (.load false 1), [(.tmp 24)], (some (20, false))⟩,
    ⟨some 26, (.len false), [(.tmp 25)], (some (20, false))⟩,
    ⟨some 27, (.bin .geq), [(.tmp 21), (.tmp 26)], (some (20, false))⟩,
    ⟨some 28, .pick, [(.tmp 20), (.const (.bool true)), (.tmp 27)], none⟩] [0, 1, 2, 28])
  (.cond (.tmp 28)
    (.seq
    (.region [
      ⟨some 6, .mv, [(.const (.int .i64 0))], none⟩,
      ⟨some 7, .mv, [(.const (.bool false))], none⟩] [6, 7])
    .ret)
    .skip))
  (.seq
  (.region [
    ⟨some 29, .mv, [(.tmp 0)], none⟩,
    ⟨some 30, .mv, [(.tmp 1)], none⟩,
    ⟨some 31, (.indexAddr none 1), [(.tmp 29), (.tmp 30)], none⟩,
    ⟨some 32, (.load false 1), [(.tmp 31)], none⟩,
    ⟨some 33, .mv, [(.tmp 2)], none⟩,
    ⟨some 34, (.indexAddr none 1), [(.tmp 32), (.tmp 33)], none⟩,
    ⟨some 35, (.load false 1), [(.tmp 34)], none⟩,
    ⟨some 6, .mv, [(.tmp 35)], none⟩,
    ⟨some 7, .mv, [(.const (.bool true))], none⟩] [6, 7])
  .ret)))
def f50 : Ev.Fn := ⟨3, 36, [.tmp 6, .tmp 7], k50⟩
set_option maxRecDepth 100000 in
theorem e50 : compFn prog sig 50 3 [[0, 1, 2], [0, 1, 2, 28], [6, 7], [6, 7]] = some f50 := by kernel_rfl
noncomputable def route_port (r_0 : Sl (Sl Int)) (sw_1 : Int) (h_2 : Int) : Option ((Int × Bool)) :=
  (bif decide (sw_1 < 0) then (some true) else (bif decide (sw_1 ≥ (r_0.l.length : Int)) then (some true) else (bif decide (h_2 < 0) then (some true) else ((ixI sw_1 r_0.l.length).bind fun n1 =>
  some (decide (h_2 ≥ (((gt r_0.l n1).l).length : Int))))))).bind fun b3 =>
  bif b3 then (some (0, false)) else
  ((ixI sw_1 r_0.l.length).bind fun n10 =>
  (ixI h_2 ((gt r_0.l n10).l).length).bind fun n12 =>
  some (gt ((gt r_0.l n10).l) n12, true))
theorem route_port_ok {r_0 : Sl (Sl Int)} {sw_1 : Int} {h_2 : Int} {z : (Int × Bool)} (hp : route_port r_0 sw_1 h_2 = some z) : Good prog 50 [.d (slD 1 cL_I_i64 r_0), .d (.lit (.int .i64 sw_1)), .d (.lit (.int .i64 h_2))] [.c (.d (.lit (.int .i64 z.1))), .c (.d (.lit (.bool z.2)))] [] := by
  unfold route_port at hp
  refine fn_good mixed e50 (fnS (m := [false, false]) (s := ⟨[(0, .c (.d (slD 1 cL_I_i64 r_0))), (1, .c (.d (.lit (.int .i64 sw_1)))), (2, .c (.d (.lit (.int .i64 h_2))))], [], 0, []⟩) (len := 0) (c := k50) rfl (Sub.of_eq rfl) rfl rfl ?_)
  refine w_seq ?_
  refine w_region ?_
  iterate 2 refine o1 rfl ?_
  refine o_end (e' := [(0, .c (.d (slD 1 cL_I_i64 r_0))), (1, .c (.d (.lit (.int .i64 sw_1)))), (2, .c (.d (.lit (.int .i64 h_2))))]) rfl rfl ?_
  refine after_n ?_
  refine w_seq ?_
  refine w_seq ?_
  obtain ⟨b3, h4, hp⟩ := bnd hp
  refine w_join (J := fun s => Sub s ⟨[(0, .c (.d (slD 1 cL_I_i64 r_0))), (1, .c (.d (.lit (.int .i64 sw_1)))), (2, .c (.d (.lit (.int .i64 h_2)))), (28, .c (.d (.lit (.bool b3))))], [], 0, []⟩) ?_ ?_
  · refine w_region ?_
    refine o1 rfl ?_
    refine o1 (v := .c (.d (.lit (.bool (decide (sw_1 < 0)))))) rfl ?_
    refine o1 rfl ?_
    cases hb5 : (decide (sw_1 < 0) : Bool)
    · have h4 := cnd_f hb5 h4
      iterate 2 refine og rfl rfl rfl ?_
      refine og (v := .c (.d (.lit (.int .i64 (r_0.l.length : Int))))) rfl rfl len_sd ?_
      refine og (v := .c (.d (.lit (.bool (decide (sw_1 ≥ (r_0.l.length : Int))))))) rfl rfl rfl ?_
      iterate 2 refine o1 rfl ?_
      cases hb6 : (decide (sw_1 ≥ (r_0.l.length : Int)) : Bool)
      · have h4 := cnd_f hb6 h4
        refine og rfl rfl rfl ?_
        refine og (v := .c (.d (.lit (.bool (decide (h_2 < 0)))))) rfl rfl rfl ?_
        iterate 2 refine o1 rfl ?_
        cases hb7 : (decide (h_2 < 0) : Bool)
        · have h4 := cnd_f hb7 h4
          obtain ⟨n1, h2, h4⟩ := bnd h4
          iterate 3 refine og rfl rfl rfl ?_
          refine og rfl rfl (ix_sd h2) ?_
          refine og rfl rfl rfl ?_
          refine og (v := .c (.d (.lit (.int .i64 (((gt r_0.l n1).l).length : Int))))) rfl rfl len_sd ?_
          refine og (v := .c (.d (.lit (.bool (decide (h_2 ≥ (((gt r_0.l n1).l).length : Int))))))) rfl rfl rfl ?_
          refine o1 rfl ?_
          cases h4
          exact o_join (sub_ren [] [0, 1, 2, 28] (by decide) rfl .nil (Nat.le_of_ble_eq_true rfl))
        · have h4 := cnd_t hb7 h4
          iterate 7 refine onot rfl rfl ?_
          refine o1 rfl ?_
          cases h4
          exact o_join (sub_ren [] [0, 1, 2, 28] (by decide) rfl .nil (Nat.le_of_ble_eq_true rfl))
      · have h4 := cnd_t hb6 h4
        iterate 2 refine onot rfl rfl ?_
        iterate 2 refine o1 rfl ?_
        iterate 7 refine onot rfl rfl ?_
        refine o1 rfl ?_
        cases h4
        exact o_join (sub_ren [] [0, 1, 2, 28] (by decide) rfl .nil (Nat.le_of_ble_eq_true rfl))
    · have h4 := cnd_t hb5 h4
      iterate 4 refine onot rfl rfl ?_
      iterate 2 refine o1 rfl ?_
      iterate 2 refine onot rfl rfl ?_
      iterate 2 refine o1 rfl ?_
      iterate 7 refine onot rfl rfl ?_
      refine o1 rfl ?_
      cases h4
      exact o_join (sub_ren [] [0, 1, 2, 28] (by decide) rfl .nil (Nat.le_of_ble_eq_true rfl))
  · intro s hs8
    refine after_n ?_
    refine W.sub hs8 ?_
    refine w_cond (t := b3) rfl (fun hb9 => ?_) (fun hb9 => ?_)
    · have hp := cnd_t hb9 hp
      refine w_seq ?_
      refine w_region ?_
      iterate 2 refine o1 rfl ?_
      refine o_end (e' := [(6, .c (.d (.lit (.int .i64 0)))), (7, .c (.d (.lit (.bool false))))]) rfl rfl ?_
      refine after_n ?_
      refine w_ret ?_
      refine after_r ?_
      obtain rfl := Option.some.inj hp
      exact leave_at rfl rfl (pr_c p_d (pr_c p_d pr_nil)) pc_nil rfl rfl
    · have hp := cnd_f hb9 hp
      refine w_skip ?_
      refine after_n ?_
      refine w_seq ?_
      obtain ⟨n10, h11, hp⟩ := bnd hp
      obtain ⟨n12, h13, hp⟩ := bnd hp
      refine w_region ?_
      iterate 2 refine o1 rfl ?_
      refine o1 (ix_sd h11) ?_
      iterate 2 refine o1 rfl ?_
      refine o1 (ix_sd h13) ?_
      iterate 3 refine o1 rfl ?_
      refine o_end (e' := [(6, .c (.d (.lit (.int .i64 (gt ((gt r_0.l n10).l) n12))))), (7, .c (.d (.lit (.bool true))))]) rfl rfl ?_
      refine after_n ?_
      refine w_ret ?_
      obtain rfl := Option.some.inj hp
      exact leave_at rfl rfl (pr_c p_d (pr_c p_d pr_nil)) pc_nil rfl rfl

/- turnout/topo.places -/
def k75 : CC :=
  (.seq
  (.region [
    ⟨some 1, .box, [(.tmp 0)], none⟩,
    ⟨some 2, .mv, [(.const (.slice none 0 0))], none⟩] [1])
  (.seq
  (.region [
    ⟨some 3, .mv, [(.const (.slice none 0 0))], none⟩] [1, 3])
  (.seq
  (.seq
  (.region [
    ⟨some 8, (.fieldAddr 1), [(.tmp 1)], none⟩,
    ⟨some 9, (.load false 1), [(.tmp 8)], none⟩,
    ⟨some 10, (.len false), [(.tmp 9)], none⟩,
    ⟨some 11, .mv, [(.const (.int .i64 0))], none⟩] [1, 3, 9, 10, 11])
  (.block 0
    (.loop [1, 3, 9, 10, 11]
      (.seq
      (.region [
        ⟨some 12, (.bin .lss), [(.tmp 11), (.tmp 10)], none⟩] [1, 3, 9, 10, 11, 12])
      (.seq
      (.cond (.tmp 12)
        .skip
        (.exit 0))
      (.seq
      (.block 1
        (.seq
        (.region [
          ⟨some 13, (.indexAddr none 6), [(.tmp 9), (.tmp 11)], none⟩,
          ⟨some 14, (.load true 6), [(.tmp 13)], none⟩,
          ⟨some 5, (.alloc [(.int .i64 0), (.int .i64 0), (.int .i64 0), (.int .i64 0), (.int .i64 0), (.int .i64 0)]), [], none⟩,
          ⟨none, (.store 6), [(.tmp 5), (.tmp 14)], none⟩] [1, 3, 5, 9, 10, 11])
        (.region [
          ⟨some 15, .mv, [(.tmp 3)], none⟩,
          ⟨some 16, (.fieldAddr 0), [(.tmp 5)], none⟩,
          ⟨some 17, (.load false 1), [(.tmp 16)], none⟩,
          ⟨some 18, (.fieldAddr 1), [(.tmp 5)], none⟩,
          ⟨some 19, (.load false 1), [(.tmp 18)], none⟩,
          ⟨some 20, (.build [(.int .i64 0), (.int .i64 0)] [(0, 1), (1, 1)]), [(.tmp 17), (.tmp 19)], none⟩,
          ⟨some 21, (.fieldAddr 2), [(.tmp 5)], none⟩,
          ⟨some 22, (.load false 1), [(.tmp 21)], none⟩,
          ⟨some 23, (.fieldAddr 3), [(.tmp 5)], none⟩,
          ⟨some 24, (.load false 1), [(.tmp 23)], none⟩,
          ⟨some 25, (.build [(.int .i64 0), (.int .i64 0)] [(0, 1), (1, 1)]), [(.tmp 22), (.tmp 24)], none⟩,
          ⟨some 26, (.buildSlice 2 2 [(.int .i64 0), (.int .i64 0), (.int .i64 0), (.int .i64 0)] [0, 1]), [(.tmp 20), (.tmp 25)], none⟩,
          ⟨some 27, (.append 2), [(.tmp 15), (.tmp 26)], none⟩,
          ⟨some 3, .mv, [(.tmp 27)], none⟩] [1, 3, 9, 10, 11])))
      (.region [
        ⟨some 28, (.bin .add), [(.tmp 11), (.const (.int .i64 1))], none⟩,
        ⟨some 11, .mv, [(.tmp 28)], none⟩] [1, 3, 9, 10, 11])))))))
  (.seq
  (.seq
  (.region [
    ⟨some 29, (.fieldAddr 2), [(.tmp 1)], none⟩,
    ⟨some 30, (.load false 1), [(.tmp 29)], none⟩,
    ⟨some 31, (.len false), [(.tmp 30)], none⟩,
    ⟨some 32, .mv, [(.const (.int .i64 0))], none⟩] [3, 30, 31, 32])
  (.block 2
    (.loop [3, 30, 31, 32]
      (.seq
      (.region [
        ⟨some 33, (.bin .lss), [(.tmp 32), (.tmp 31)], none⟩] [3, 30, 31, 32, 33])
      (.seq
      (.cond (.tmp 33)
        .skip
        (.exit 2))
      (.seq
      (.block 3
        (.seq
        (.region [
          ⟨some 34, (.indexAddr none 2), [(.tmp 30), (.tmp 32)], none⟩,
          ⟨some 35, (.load true 2), [(.tmp 34)], none⟩,
          ⟨some 7, (.alloc [(.int .i64 0), (.int .i64 0)]), [], none⟩,
          ⟨none, (.store 2), [(.tmp 7), (.tmp 35)], none⟩] [3, 7, 30, 31, 32])
        (.region [
          ⟨some 36, .mv, [(.tmp 3)], none⟩,
          ⟨some 37, (.fieldAddr 0), [(.tmp 7)], none⟩,
          ⟨some 38, (.load false 1), [(.tmp 37)], none⟩,
          ⟨some 39, (.fieldAddr 1), [(.tmp 7)], none⟩,
          ⟨some 40, (.load false 1), [(.tmp 39)], none⟩,
          ⟨some 41, (.build [(.int .i64 0), (.int .i64 0)] [(0, 1), (1, 1)]), [(.tmp 38), (.tmp 40)], none⟩,
          ⟨some 42, (.buildSlice 2 1 [(.int .i64 0), (.int .i64 0)] [0]), [(.tmp 41)], none⟩,
          ⟨some 43, (.append 2), [(.tmp 36), (.tmp 42)], none⟩,
          ⟨some 3, .mv, [(.tmp 43)], none⟩] [3, 30, 31, 32])))
      (.region [
        ⟨some 44, (.bin .add), [(.tmp 32), (.const (.int .i64 1))], none⟩,
        ⟨some 32, .mv, [(.tmp 44)], none⟩] [3, 30, 31, 32])))))))
  (.seq
  (.region [
    ⟨some 45, .mv, [(.tmp 3)], none⟩,
    ⟨some 2, .mv, [(.tmp 45)], none⟩] [2])
  .ret)))))
def f75 : Ev.Fn := ⟨1, 46, [.tmp 2], k75⟩
set_option maxRecDepth 100000 in
theorem e75 : compFn prog sig 75 1 [[1], [1, 3], [1, 3, 9, 10, 11], [1, 3, 9, 10, 11], [1, 3, 9, 10, 11, 12], [1, 3, 5, 9, 10, 11], [1, 3, 9, 10, 11], [1, 3, 9, 10, 11], [3, 30, 31, 32], [3, 30, 31, 32], [3, 30, 31, 32, 33], [3, 7, 30, 31, 32], [3, 30, 31, 32], [3, 30, 31, 32], [2]] = some f75 := by kernel_rfl
noncomputable def topo_places_L1 (t_0 : api_Topo) : (Sl topo_place × Int) → Option (Sum ((Sl topo_place × Int)) (Sl topo_place)) := fun (s1, i2) =>
  bif decide (i2 < (t_0.Links.l.length : Int)) then ((ixI i2 t_0.Links.l.length).bind fun n9 =>
  (capI (s1.l ++ [(⟨(gt t_0.Links.l n9).A, (gt t_0.Links.l n9).PortA⟩ : topo_place), (⟨(gt t_0.Links.l n9).B, (gt t_0.Links.l n9).PortB⟩ : topo_place)])).bind fun l11 =>
  some (.inl ((Sl.mk l11), wr .i64 (i2 + 1)))) else
  (some (.inr s1))

noncomputable def topo_places_L2 (t_0 : api_Topo) : (Sl topo_place × Int) → Option (Sum ((Sl topo_place × Int)) (Sl topo_place)) := fun (s15, i16) =>
  bif decide (i16 < (t_0.Hosts.l.length : Int)) then ((ixI i16 t_0.Hosts.l.length).bind fun n23 =>
  (capI (s15.l ++ [(⟨(gt t_0.Hosts.l n23).At, (gt t_0.Hosts.l n23).Port⟩ : topo_place)])).bind fun l25 =>
  some (.inl ((Sl.mk l25), wr .i64 (i16 + 1)))) else
  (some (.inr s15))

noncomputable def topo_places (t_0 : api_Topo) : Option (Sl topo_place) :=
  (loopO (topo_places_L1 t_0) (Sl.nil, 0)).bind fun s5 =>
  (loopO (topo_places_L2 t_0) (s5, 0)).bind fun s19 =>
  some s19
theorem topo_places_ok {t_0 : api_Topo} {z : Sl topo_place} (hp : topo_places t_0 = some z) : Good prog 75 [.agg (c_api_Topo t_0)] [.c (.d (slD 2 c_topo_place z))] [] := by
  unfold topo_places at hp
  refine fn_good mixed e75 (fnS (m := [true]) (s := ⟨[(0, .agg [.d (.lit (.int .i64 t_0.Switches)), .d (slD 6 c_api_Link t_0.Links), .d (slD 2 c_api_Host t_0.Hosts)])], [], 0, []⟩) (len := 0) (c := k75) rfl (Sub.of_eq rfl) rfl rfl ?_)
  refine w_seq ?_
  refine w_region ?_
  refine o2 rfl ?_
  refine o1 rfl ?_
  refine o_end (e' := [(1, .c (.op 0 0))]) rfl rfl ?_
  refine after_n ?_
  refine w_seq ?_
  refine w_region ?_
  refine o1 rfl ?_
  refine o_end (e' := [(1, .c (.op 0 0)), (3, .c (.d (.lit (.slice none 0 0))))]) rfl rfl ?_
  refine after_n ?_
  refine w_seq ?_
  refine w_seq ?_
  refine w_region ?_
  iterate 2 refine o1 rfl ?_
  refine o1 (v := .c (.d (.lit (.int .i64 (t_0.Links.l.length : Int))))) len_sd ?_
  refine o1 rfl ?_
  refine o_end (e' := [(1, .c (.op 0 0)), (3, .c (.d (.lit (.slice none 0 0)))), (9, .c (.d (slD 6 c_api_Link t_0.Links))), (10, .c (.d (.lit (.int .i64 (t_0.Links.l.length : Int))))), (11, .c (.d (.lit (.int .i64 0))))]) rfl rfl ?_
  refine after_n ?_
  refine w_block ?_
  obtain ⟨s5, h7, hp⟩ := bnd hp
  refine W.mono ?_ (w_loopS (st := fun (v : (Sl topo_place × Int)) => match v with | (s1, i2) => ⟨[(1, .c (.op 0 0)), (3, .c (slC 2 c_topo_place 1 s1)), (9, .c (.d (slD 6 c_api_Link t_0.Links))), (10, .c (.d (.lit (.int .i64 (t_0.Links.l.length : Int))))), (11, .c (.d (.lit (.int .i64 i2))))], [(0, some (.box [.d (.lit (.int .i64 t_0.Switches)), .d (slD 6 c_api_Link t_0.Links), .d (slD 2 c_api_Host t_0.Hosts)])), (1, slO 2 c_topo_place s1)], 2, []⟩) (a := (Sl.nil, 0)) (Q := Jn (fun (x : Sl topo_place) o s => match x with | s5 => o = Out.exit 0 ∧ Sub s ⟨[(1, .c (.op 0 0)), (3, .c (slC 2 c_topo_place 1 s5))], [(0, some (.box [.d (.lit (.int .i64 t_0.Switches)), .d (slD 6 c_api_Link t_0.Links), .d (slD 2 c_api_Host t_0.Hosts)])), (1, slO 2 c_topo_place s5)], 2, []⟩)) ?_ h7 ?_)
  · intro o s hs14
    obtain ⟨rfl, hs14⟩ := hs14
    refine out_e ?_
    refine after_n ?_
    refine W.sub hs14 ?_
    refine w_seq ?_
    refine w_seq ?_
    refine w_region ?_
    iterate 2 refine o1 rfl ?_
    refine o1 (v := .c (.d (.lit (.int .i64 (t_0.Hosts.l.length : Int))))) len_sd ?_
    refine o1 rfl ?_
    refine o_end (e' := [(3, .c (slC 2 c_topo_place 1 s5)), (30, .c (.d (slD 2 c_api_Host t_0.Hosts))), (31, .c (.d (.lit (.int .i64 (t_0.Hosts.l.length : Int))))), (32, .c (.d (.lit (.int .i64 0))))]) rfl rfl ?_
    refine after_n ?_
    refine w_block ?_
    obtain ⟨s19, h21, hp⟩ := bnd hp
    refine W.mono ?_ (w_loopS (st := fun (v : (Sl topo_place × Int)) => match v with | (s15, i16) => ⟨[(3, .c (slC 2 c_topo_place 0 s15)), (30, .c (.d (slD 2 c_api_Host t_0.Hosts))), (31, .c (.d (.lit (.int .i64 (t_0.Hosts.l.length : Int))))), (32, .c (.d (.lit (.int .i64 i16))))], [(0, slO 2 c_topo_place s15)], 1, []⟩) (a := (s5, 0)) (Q := Jn (fun (x : Sl topo_place) o s => match x with | s19 => o = Out.exit 2 ∧ Sub s ⟨[(3, .c (slC 2 c_topo_place 0 s19))], [(0, slO 2 c_topo_place s19)], 1, []⟩)) ?_ h21 ?_)
    · intro o s hs28
      obtain ⟨rfl, hs28⟩ := hs28
      refine out_e ?_
      refine after_n ?_
      refine W.sub hs28 ?_
      refine w_seq ?_
      refine w_region ?_
      iterate 2 refine o1 rfl ?_
      refine o_end (e' := [(2, .c (slC 2 c_topo_place 0 s19))]) rfl rfl ?_
      refine after_n ?_
      refine w_ret ?_
      obtain rfl := Option.some.inj hp
      rcases s19 with _ | s19'
      · exact leave_at rfl rfl (pr_c p_d pr_nil) pc_nil rfl rfl
      · exact leave_at rfl rfl (pr_c (p_o rfl) pr_nil) pc_nil rfl rfl
    · exact (by rcases s5 with _ | _ <;> first | (exact sub_ren [9000] [3, 30, 31, 32] (by decide) rfl (.skip .nil) (Nat.le_of_ble_eq_true rfl)) | (exact sub_ren [1] [3, 30, 31, 32] (by decide) rfl (.cons .nil) (Nat.le_of_ble_eq_true rfl)))
    · rintro ⟨s15, i16⟩ r hr
      unfold topo_places_L2 at hr
      refine w_seq ?_
      refine w_region ?_
      refine o1 (v := .c (.d (.lit (.bool (decide (i16 < (t_0.Hosts.l.length : Int))))))) rfl ?_
      refine o_end (e' := [(3, .c (slC 2 c_topo_place 0 s15)), (30, .c (.d (slD 2 c_api_Host t_0.Hosts))), (31, .c (.d (.lit (.int .i64 (t_0.Hosts.l.length : Int))))), (32, .c (.d (.lit (.int .i64 i16)))), (33, .c (.d (.lit (.bool (decide (i16 < (t_0.Hosts.l.length : Int)))))))]) rfl rfl ?_
      refine after_n ?_
      refine w_seq ?_
      refine w_cond (t := decide (i16 < (t_0.Hosts.l.length : Int))) rfl (fun hb22 => ?_) (fun hb22 => ?_)
      · have hr := cnd_t hb22 hr
        refine w_skip ?_
        refine after_n ?_
        refine w_seq ?_
        refine w_block ?_
        refine w_seq ?_
        obtain ⟨n23, h24, hr⟩ := bnd hr
        refine w_region ?_
        refine o1 (ix_sd h24) ?_
        refine o1 rfl ?_
        refine o2 rfl ?_
        refine o0 rfl ?_
        refine o_end (e' := [(3, .c (slC 2 c_topo_place 0 s15)), (7, .c (.op 1 0)), (30, .c (.d (slD 2 c_api_Host t_0.Hosts))), (31, .c (.d (.lit (.int .i64 (t_0.Hosts.l.length : Int))))), (32, .c (.d (.lit (.int .i64 i16))))]) rfl rfl ?_
        refine after_n ?_
        obtain ⟨l25, h26, hr⟩ := bnd hr
        refine w_join (J := fun s => Sub s ⟨[(3, .c (slC 2 c_topo_place 0 (Sl.mk l25))), (30, .c (.d (slD 2 c_api_Host t_0.Hosts))), (31, .c (.d (.lit (.int .i64 (t_0.Hosts.l.length : Int))))), (32, .c (.d (.lit (.int .i64 i16))))], [(0, slO 2 c_topo_place (Sl.mk l25))], 1, []⟩) ?_ ?_
        · rcases s15 with _ | s15'
          · try dsimp only [slC, slO]
            refine w_region ?_
            iterate 6 refine o1 rfl ?_
            refine o2 rfl ?_
            refine o2 (app_nil (enc := c_topo_place) rfl h26) ?_
            refine o1 rfl ?_
            exact o_join (sub_ren [3] [3, 30, 31, 32] (by decide) rfl (.cons .nil) (Nat.le_of_ble_eq_true rfl))
          · try dsimp only [slC, slO]
            refine w_region ?_
            iterate 6 refine o1 rfl ?_
            refine o2 rfl ?_
            refine o2 (app_o rfl rfl h26) ?_
            refine o1 rfl ?_
            exact o_join (sub_ren [3] [3, 30, 31, 32] (by decide) rfl (.cons .nil) (Nat.le_of_ble_eq_true rfl))
        · intro s hs27
          refine out_n ?_
          refine after_n ?_
          refine W.sub hs27 ?_
          refine w_region ?_
          refine o1 (v := .c (.d (.lit (.int .i64 (wr .i64 (i16 + 1)))))) rfl ?_
          refine o1 rfl ?_
          refine o_end (e' := [(3, .c (slC 2 c_topo_place 0 (Sl.mk l25))), (30, .c (.d (slD 2 c_api_Host t_0.Hosts))), (31, .c (.d (.lit (.int .i64 (t_0.Hosts.l.length : Int))))), (32, .c (.d (.lit (.int .i64 (wr .i64 (i16 + 1))))))]) rfl rfl ?_
          obtain rfl := Option.some.inj hr
          exact And.intro rfl (sub_ren [0] [3, 30, 31, 32] (by decide) rfl (.cons .nil) (Nat.le_of_ble_eq_true rfl))
      · have hr := cnd_f hb22 hr
        refine w_exit ?_
        refine after_e ?_
        obtain rfl := Option.some.inj hr
        exact And.intro nofun (And.intro rfl (by rcases s15 with _ | _ <;> first | (exact sub_ren [9000] [3] (by decide) rfl (.skip .nil) (Nat.le_of_ble_eq_true rfl)) | (exact sub_ren [0] [3] (by decide) rfl (.cons .nil) (Nat.le_of_ble_eq_true rfl))))
  · exact (sub_ren [0, 9001] [1, 3, 9, 10, 11] (by decide) rfl (.cons (.skip .nil)) (Nat.le_of_ble_eq_true rfl))
  · rintro ⟨s1, i2⟩ r hr
    unfold topo_places_L1 at hr
    refine w_seq ?_
    refine w_region ?_
    refine o1 (v := .c (.d (.lit (.bool (decide (i2 < (t_0.Links.l.length : Int))))))) rfl ?_
    refine o_end (e' := [(1, .c (.op 0 0)), (3, .c (slC 2 c_topo_place 1 s1)), (9, .c (.d (slD 6 c_api_Link t_0.Links))), (10, .c (.d (.lit (.int .i64 (t_0.Links.l.length : Int))))), (11, .c (.d (.lit (.int .i64 i2)))), (12, .c (.d (.lit (.bool (decide (i2 < (t_0.Links.l.length : Int)))))))]) rfl rfl ?_
    refine after_n ?_
    refine w_seq ?_
    refine w_cond (t := decide (i2 < (t_0.Links.l.length : Int))) rfl (fun hb8 => ?_) (fun hb8 => ?_)
    · have hr := cnd_t hb8 hr
      refine w_skip ?_
      refine after_n ?_
      refine w_seq ?_
      refine w_block ?_
      refine w_seq ?_
      obtain ⟨n9, h10, hr⟩ := bnd hr
      refine w_region ?_
      refine o1 (ix_sd h10) ?_
      refine o1 rfl ?_
      refine o2 rfl ?_
      refine o0 rfl ?_
      refine o_end (e' := [(1, .c (.op 0 0)), (3, .c (slC 2 c_topo_place 1 s1)), (5, .c (.op 2 0)), (9, .c (.d (slD 6 c_api_Link t_0.Links))), (10, .c (.d (.lit (.int .i64 (t_0.Links.l.length : Int))))), (11, .c (.d (.lit (.int .i64 i2))))]) rfl rfl ?_
      refine after_n ?_
      obtain ⟨l11, h12, hr⟩ := bnd hr
      refine w_join (J := fun s => Sub s ⟨[(1, .c (.op 0 0)), (3, .c (slC 2 c_topo_place 1 (Sl.mk l11))), (9, .c (.d (slD 6 c_api_Link t_0.Links))), (10, .c (.d (.lit (.int .i64 (t_0.Links.l.length : Int))))), (11, .c (.d (.lit (.int .i64 i2))))], [(0, some (.box [.d (.lit (.int .i64 t_0.Switches)), .d (slD 6 c_api_Link t_0.Links), .d (slD 2 c_api_Host t_0.Hosts)])), (1, slO 2 c_topo_place (Sl.mk l11))], 2, []⟩) ?_ ?_
      · rcases s1 with _ | s1'
        · try dsimp only [slC, slO]
          refine w_region ?_
          iterate 11 refine o1 rfl ?_
          refine o2 rfl ?_
          refine o2 (app_nil (enc := c_topo_place) rfl h12) ?_
          refine o1 rfl ?_
          exact o_join (sub_ren [0, 4] [1, 3, 9, 10, 11] (by decide) rfl (.cons (.cons .nil)) (Nat.le_of_ble_eq_true rfl))
        · try dsimp only [slC, slO]
          refine w_region ?_
          iterate 11 refine o1 rfl ?_
          refine o2 rfl ?_
          refine o2 (app_o rfl rfl h12) ?_
          refine o1 rfl ?_
          exact o_join (sub_ren [0, 4] [1, 3, 9, 10, 11] (by decide) rfl (.cons (.cons .nil)) (Nat.le_of_ble_eq_true rfl))
      · intro s hs13
        refine out_n ?_
        refine after_n ?_
        refine W.sub hs13 ?_
        refine w_region ?_
        refine o1 (v := .c (.d (.lit (.int .i64 (wr .i64 (i2 + 1)))))) rfl ?_
        refine o1 rfl ?_
        refine o_end (e' := [(1, .c (.op 0 0)), (3, .c (slC 2 c_topo_place 1 (Sl.mk l11))), (9, .c (.d (slD 6 c_api_Link t_0.Links))), (10, .c (.d (.lit (.int .i64 (t_0.Links.l.length : Int))))), (11, .c (.d (.lit (.int .i64 (wr .i64 (i2 + 1))))))]) rfl rfl ?_
        obtain rfl := Option.some.inj hr
        exact And.intro rfl (sub_ren [0, 1] [1, 3, 9, 10, 11] (by decide) rfl (.cons (.cons .nil)) (Nat.le_of_ble_eq_true rfl))
    · have hr := cnd_f hb8 hr
      refine w_exit ?_
      refine after_e ?_
      obtain rfl := Option.some.inj hr
      exact And.intro nofun (And.intro rfl (by rcases s1 with _ | _ <;> first | (exact sub_ren [0, 9001] [1, 3] (by decide) rfl (.cons (.skip .nil)) (Nat.le_of_ble_eq_true rfl)) | (exact sub_ren [0, 1] [1, 3] (by decide) rfl (.cons (.cons .nil)) (Nat.le_of_ble_eq_true rfl))))

/- turnout/topo.Right -/
def k40 : CC :=
  (.seq
  (.region [
    ⟨some 1, .box, [(.tmp 0)], none⟩,
    ⟨some 2, .mv, [(.const (.bool false))], none⟩] [1])
  (.seq
  (.seq
  (.region [
    ⟨some 8, (.fieldAddr 0), [(.tmp 1)], none⟩,
    ⟨some 9, (.load false 1), [(.tmp 8)], none⟩,
    ⟨some 10, (.bin .lss), [(.tmp 9), (.const (.int .i64 1))], none⟩,
    ⟨some 11, .mv, [(.tmp 10)], none⟩,
    ⟨some 12, (.fieldAddr 0), [(.tmp 1)], (some (11, false))⟩,
    ⟨some 13, (.load false 1), [(.tmp 12)], (some (11, false))⟩,
    ⟨some 14, (.bin .gtr), [(.tmp 13), (.const (.int .i64 8))], (some (11, false))⟩,
    ⟨some 15, .pick, [(.tmp 11), (.const (.bool true)), (.tmp 14)], none⟩,
    ⟨some 16, .mv, [(.tmp 15)], none⟩,
    ⟨some 17, (.fieldAddr 1), [(.tmp 1)], (some (16, false))⟩,
    ⟨some 18, (.load false 1), [(.tmp 17)], (some (16, false))⟩,
    ⟨some 19, (.len false), [(.tmp 18)], (some (16, false))⟩,
    ⟨some 20, (.bin .gtr), [(.tmp 19), (.const (.int .i64 24))], (some (16, false))⟩,
    ⟨some 21, .pick, [(.tmp 16), (.const (.bool true)), (.tmp 20)], none⟩,
    ⟨some 22, .mv, [(.tmp 21)], none⟩,
    ⟨some 23, (.fieldAddr 2), [(.tmp 1)], (some (22, false))⟩,
    ⟨some 24, (.load false 1), [(.tmp 23)], (some (22, false))⟩,
    ⟨some 25, (.len false), [(.tmp 24)], (some (22, false))⟩,
    ⟨some 26, (.bin .gtr), [(.tmp 25), (.const (.int .i64 8))], (some (22, false))⟩,
    ⟨some 27, .pick, [(.tmp 22), (.const (.bool true)), (.tmp 26)], none⟩] [1, 27])
  (.cond (.tmp 27)
    (.seq
    (.region [
      ⟨some 2, .mv, [(.const (.bool false))], none⟩] [2])
    .ret)
    .skip))
  (.seq
  (.seq
  (.region [
    ⟨some 28, (.fieldAddr 1), [(.tmp 1)], none⟩,
    ⟨some 29, (.load false 1), [(.tmp 28)], none⟩,
    ⟨some 30, (.len false), [(.tmp 29)], none⟩,
    ⟨some 31, .mv, [(.const (.int .i64 0))], none⟩] [1, 29, 30, 31])
  (.block 0
    (.loop [1, 29, 30, 31]
      (.seq
      (.region [
        ⟨some 32, (.bin .lss), [(.tmp 31), (.tmp 30)], none⟩] [1, 29, 30, 31, 32])
      (.seq
      (.cond (.tmp 32)
        .skip
        (.exit 0))
      (.seq
      (.block 1
        (.seq
        (.region [
          ⟨some 33, (.indexAddr none 6), [(.tmp 29), (.tmp 31)], none⟩,
          ⟨some 34, (.load true 6), [(.tmp 33)], none⟩,
          ⟨some 4, (.alloc [(.int .i64 0), (.int .i64 0), (.int .i64 0), (.int .i64 0), (.int .i64 0), (.int .i64 0)]), [], none⟩,
          ⟨none, (.store 6), [(.tmp 4), (.tmp 34)], none⟩] [1, 4, 29, 30, 31])
        (.seq
        (.region [
          ⟨some 35, (.fieldAddr 0), [(.tmp 4)], none⟩,
          ⟨some 36, (.load false 1), [(.tmp 35)], none⟩,
          ⟨some 37, (.fieldAddr 2), [(.tmp 4)], none⟩,
          ⟨some 38, (.load false 1), [(.tmp 37)], none⟩,
          ⟨some 39, (.bin .eql), [(.tmp 36), (.tmp 38)], none⟩,
          ⟨some 40, .mv, [(.tmp 39)], none⟩,
          ⟨some 41, (.fieldAddr 4), [(.tmp 4)], (some (40, false))⟩,
          ⟨some 42, (.load false 1), [(.tmp 41)], (some (40, false))⟩,
          ⟨some 43, (.bin .lss), [(.tmp 42), (.const (.int .i64 1))], (some (40, false))⟩,
          ⟨some 44, .pick, [(.tmp 40), (.const (.bool true)), (.tmp 43)], none⟩,
          ⟨some 45, .mv, [(.tmp 44)], none⟩,
          ⟨some 46, (.fieldAddr 4), [(.tmp 4)], (some (45, false))⟩,
          ⟨some 47, (.load false 1), [(.tmp 46)], (some (45, false))⟩,
          ⟨some 48, (.fieldAddr 5), [(.tmp 4)], (some (45, false))⟩,
          ⟨some 49, (.load false 1), [(.tmp 48)], (some (45, false))⟩,
          ⟨some 50, (.bin .gtr), [(.tmp 47), (.tmp 49)], (some (45, false))⟩,
          ⟨some 51, .pick, [(.tmp 45), (.const (.bool true)), (.tmp 50)], none⟩,
          ⟨some 52, .mv, [(.tmp 51)], none⟩,
          ⟨some 53, (.fieldAddr 5), [(.tmp 4)], (some (52, false))⟩,
          ⟨some 54, (.load false 1), [(.tmp 53)], (some (52, false))⟩,
          ⟨some 55, (.bin .gtr), [(.tmp 54), (.const (.int .i64 1000))], (some (52, false))⟩,
          ⟨some 56, .pick, [(.tmp 52), (.const (.bool true)), (.tmp 55)], none⟩] [1, 29, 30, 31, 56])
        (.cond (.tmp 56)
          (.seq
          (.region [
            ⟨some 2, .mv, [(.const (.bool false))], none⟩] [2])
          .ret)
          .skip))))
      (.region [
        ⟨some 57, (.bin .add), [(.tmp 31), (.const (.int .i64 1))], none⟩,
        ⟨some 31, .mv, [(.tmp 57)], none⟩] [1, 29, 30, 31])))))))
  (.seq
  (.region [
    ⟨some 58, (.makeMap true false), [], none⟩,
    ⟨some 5, .mv, [(.tmp 58)], none⟩] [1, 5])
  (.seq
  (.seq
  (.region [
    ⟨some 59, (.load true 3), [(.tmp 1)], none⟩,
    ⟨some 60, (.call false []), [(.func 75), (.tmp 59)], none⟩,
    ⟨some 61, (.len false), [(.tmp 60)], none⟩,
    ⟨some 62, .mv, [(.const (.int .i64 0))], none⟩] [1, 5, 60, 61, 62])
  (.block 2
    (.loop [1, 5, 60, 61, 62]
      (.seq
      (.region [
        ⟨some 63, (.bin .lss), [(.tmp 62), (.tmp 61)], none⟩] [1, 5, 60, 61, 62, 63])
      (.seq
      (.cond (.tmp 63)
        .skip
        (.exit 2))
      (.seq
      (.block 3
        (.seq
        (.region [
          ⟨some 64, (.indexAddr none 2), [(.tmp 60), (.tmp 62)], none⟩,
          ⟨some 65, (.load true 2), [(.tmp 64)], none⟩,
          ⟨some 7, (.alloc [(.int .i64 0), (.int .i64 0)]), [], none⟩,
          ⟨none, (.store 2), [(.tmp 7), (.tmp 65)], none⟩] [1, 5, 7, 60, 61, 62])
        (.seq
        (.drawn [
          ⟨some 66, .mv, [(.tmp 5)], none⟩,
          ⟨some 67, (.load true 2), [(.tmp 7)], none⟩,
          ⟨some 68, (.lookup true [(.i .i64), (.i .i64)] false [(.int .i64 0)] false), [(.tmp 66), (.tmp 67)], none⟩,
          ⟨some 69, (.bin .add), [(.tmp 68), (.const (.int .i64 1))], none⟩,
          ⟨some 70, (.mapEntry true [(.i .i64), (.i .i64)] false [(.int .i64 0)]), [(.tmp 66), (.tmp 67)], none⟩,
          ⟨some 71, (.extract 1), [(.tmp 70)], none⟩,
          ⟨none, (.entryStore false 1), [(.tmp 66), (.tmp 71), (.tmp 69)], none⟩] [(2, 1004)] [1, 5, 7, 60, 61, 62])
        (.seq
        (.region [
          ⟨some 72, (.fieldAddr 0), [(.tmp 7)], none⟩,
          ⟨some 73, (.load false 1), [(.tmp 72)], none⟩,
          ⟨some 74, (.bin .lss), [(.tmp 73), (.const (.int .i64 0))], none⟩,
          ⟨some 75, .mv, [(.tmp 74)], none⟩,
          ⟨some 76, (.fieldAddr 0), [(.tmp 7)], (some (75, false))⟩,
          ⟨some 77, (.load false 1), [(.tmp 76)], (some (75, false))⟩,
          ⟨some 78, (.fieldAddr 0), [(.tmp 1)], (some (75, false))⟩,
          ⟨some 79, (.load false 1), [(.tmp 78)], (some (75, false))⟩,
          ⟨some 80, (.bin .geq), [(.tmp 77), (.tmp 79)], (some (75, false))⟩,
          ⟨some 81, .pick, [(.tmp 75), (.const (.bool true)), (.tmp 80)], none⟩,
          ⟨some 82, .mv, [(.tmp 81)], none⟩,
          ⟨some 83, (.fieldAddr 1), [(.tmp 7)], (some (82, false))⟩,
          ⟨some 84, (.load false 1), [(.tmp 83)], (some (82, false))⟩,
          ⟨some 85, (.bin .lss), [(.tmp 84), (.const (.int .i64 0))], (some (82, false))⟩,
          ⟨some 86, .pick, [(.tmp 82), (.const (.bool true)), (.tmp 85)], none⟩,
          ⟨some 87, .mv, [(.tmp 86)], none⟩,
          ⟨some 88, (.fieldAddr 1), [(.tmp 7)], (some (87, false))⟩,
          ⟨some 89, (.load false 1), [(.tmp 88)], (some (87, false))⟩,
          ⟨some 90, (.bin .geq), [(.tmp 89), (.const (.int .i64 8))], (some (87, false))⟩,
          ⟨some 91, .pick, [(.tmp 87), (.const (.bool true)), (.tmp 90)], none⟩,
          ⟨some 92, .mv, [(.tmp 91)], none⟩,
          ⟨some 93, .mv, [(.tmp 5)], (some (92, false))⟩,
          ⟨some 94, (.load true 2), [(.tmp 7)], (some (92, false))⟩,
          ⟨some 95, (.lookup true [(.i .i64), (.i .i64)] false [(.int .i64 0)] false), [(.tmp 93), (.tmp 94)], (some (92, false))⟩,
          ⟨some 96, (.bin .gtr), [(.tmp 95), (.const (.int .i64 1))], (some (92, false))⟩,
          ⟨some 97, .pick, [(.tmp 92), (.const (.bool true)), (.tmp 96)], none⟩] [1, 5, 60, 61, 62, 97])
        (.cond (.tmp 97)
          (.seq
          (.region [
            ⟨some 2, .mv, [(.const (.bool false))], none⟩] [2])
          .ret)
          .skip)))))
      (.region [
        ⟨some 98, (.bin .add), [(.tmp 62), (.const (.int .i64 1))], none⟩,
        ⟨some 62, .mv, [(.tmp 98)], none⟩] [1, 5, 60, 61, 62])))))))
  (.seq
  (.region [
    ⟨some 2, .mv, [(.const (.bool true))], none⟩] [2])
  .ret))))))
def f40 : Ev.Fn := ⟨1, 99, [.tmp 2], k40⟩
set_option maxRecDepth 100000 in
theorem e40 : compFn prog sig 40 1 [[1], [1, 27], [2], [1, 29, 30, 31], [1, 29, 30, 31], [1, 29, 30, 31, 32], [1, 4, 29, 30, 31], [1, 29, 30, 31, 56], [2], [1, 29, 30, 31], [1, 5], [1, 5, 60, 61, 62], [1, 5, 60, 61, 62], [1, 5, 60, 61, 62, 63], [1, 5, 7, 60, 61, 62], [1, 5, 7, 60, 61, 62], [1, 5, 60, 61, 62, 97], [2], [1, 5, 60, 61, 62], [2]] = some f40 := by kernel_rfl
noncomputable def topo_Right_L1 (t_0 : api_Topo) : Int → Option (Sum (Int) (Sum (Unit) (Unit))) := fun i7 =>
  bif decide (i7 < (t_0.Links.l.length : Int)) then ((ixI i7 t_0.Links.l.length).bind fun n12 =>
  bif ((((gt t_0.Links.l n12).A) == ((gt t_0.Links.l n12).B)) || ((decide (((gt t_0.Links.l n12).Least) < 1)) || ((decide (((gt t_0.Links.l n12).Least) > ((gt t_0.Links.l n12).Most))) || (decide (((gt t_0.Links.l n12).Most) > 1000))))) then (some (.inr (.inl ()))) else
  (some (.inl (wr .i64 (i7 + 1))))) else
  (some (.inr (.inr ())))

noncomputable def topo_Right_L2 (t_0 : api_Topo) (r21 : Sl topo_place) : (Mp topo_place Int × Int) → Option (Sum ((Mp topo_place Int × Int)) (Sum (Unit) (Unit))) := fun (m23, i24) =>
  bif decide (i24 < (r21.l.length : Int)) then ((ixI i24 r21.l.length).bind fun n30 =>
  (mpSet ((mpEnt m23 0 (gt r21.l n30)).1) ((mpEnt m23 0 (gt r21.l n30)).2.2) (wr .i64 ((mpGet m23 0 (gt r21.l n30)) + 1))).bind fun m32 =>
  bif ((decide (((gt r21.l n30).sw) < 0)) || ((decide (((gt r21.l n30).sw) ≥ t_0.Switches)) || ((decide (((gt r21.l n30).port) < 0)) || ((decide (((gt r21.l n30).port) ≥ 8)) || (decide ((mpGet m32 0 (gt r21.l n30)) > 1)))))) then (some (.inr (.inl ()))) else
  (some (.inl (m32, wr .i64 (i24 + 1))))) else
  (some (.inr (.inr ())))

noncomputable def topo_Right (t_0 : api_Topo) : Option (Bool) :=
  bif ((decide (t_0.Switches < 1)) || ((decide (t_0.Switches > 8)) || ((decide ((t_0.Links.l.length : Int) > 24)) || (decide ((t_0.Hosts.l.length : Int) > 8))))) then (some false) else
  ((loopO (topo_Right_L1 t_0) 0).bind fun
  | .inl _ => (some false)
  | .inr (_) => ((topo_places t_0).bind fun r21 =>
  (loopO (topo_Right_L2 t_0 r21) ((Mp.none : Mp topo_place Int), 0)).bind fun
  | .inl _ => (some false)
  | .inr (_) => (some true)))
theorem topo_Right_ok {t_0 : api_Topo} {z : Bool} (hp : topo_Right t_0 = some z) : Good prog 40 [.agg (c_api_Topo t_0)] [.c (.d (.lit (.bool z)))] [] := by
  unfold topo_Right at hp
  refine fn_good mixed e40 (fnS (m := [false]) (s := ⟨[(0, .agg [.d (.lit (.int .i64 t_0.Switches)), .d (slD 6 c_api_Link t_0.Links), .d (slD 2 c_api_Host t_0.Hosts)])], [], 0, []⟩) (len := 0) (c := k40) rfl (Sub.of_eq rfl) rfl rfl ?_)
  refine w_seq ?_
  refine w_region ?_
  refine o2 rfl ?_
  refine o1 rfl ?_
  refine o_end (e' := [(1, .c (.op 0 0))]) rfl rfl ?_
  refine after_n ?_
  refine w_seq ?_
  refine w_seq ?_
  refine w_join (J := fun s => Sub s ⟨[(1, .c (.op 0 0)), (27, .c (.d (.lit (.bool ((decide (t_0.Switches < 1)) || ((decide (t_0.Switches > 8)) || ((decide ((t_0.Links.l.length : Int) > 24)) || (decide ((t_0.Hosts.l.length : Int) > 8)))))))))], [(0, some (.box [.d (.lit (.int .i64 t_0.Switches)), .d (slD 6 c_api_Link t_0.Links), .d (slD 2 c_api_Host t_0.Hosts)]))], 1, []⟩) ?_ ?_
  · refine w_region ?_
    iterate 2 refine o1 rfl ?_
    refine o1 (v := .c (.d (.lit (.bool (decide (t_0.Switches < 1)))))) rfl ?_
    refine o1 rfl ?_
    cases hb2 : (decide (t_0.Switches < 1) : Bool)
    · refine og rfl rfl rfl ?_
      refine og rfl rfl rfl ?_
      refine og (v := .c (.d (.lit (.bool (decide (t_0.Switches > 8)))))) rfl rfl rfl ?_
      iterate 2 refine o1 rfl ?_
      cases hb3 : (decide (t_0.Switches > 8) : Bool)
      · refine og rfl rfl rfl ?_
        refine og rfl rfl rfl ?_
        refine og (v := .c (.d (.lit (.int .i64 (t_0.Links.l.length : Int))))) rfl rfl len_sd ?_
        refine og (v := .c (.d (.lit (.bool (decide ((t_0.Links.l.length : Int) > 24)))))) rfl rfl rfl ?_
        iterate 2 refine o1 rfl ?_
        cases hb4 : (decide ((t_0.Links.l.length : Int) > 24) : Bool)
        · refine og rfl rfl rfl ?_
          refine og rfl rfl rfl ?_
          refine og (v := .c (.d (.lit (.int .i64 (t_0.Hosts.l.length : Int))))) rfl rfl len_sd ?_
          refine og (v := .c (.d (.lit (.bool (decide ((t_0.Hosts.l.length : Int) > 8)))))) rfl rfl rfl ?_
          refine o1 rfl ?_
          exact o_join (sub_ren [0] [1, 27] (by decide) rfl (.cons .nil) (Nat.le_of_ble_eq_true rfl))
        · refine onot rfl rfl ?_
          iterate 3 refine onot rfl rfl ?_
          refine o1 rfl ?_
          exact o_join (sub_ren [0] [1, 27] (by decide) rfl (.cons .nil) (Nat.le_of_ble_eq_true rfl))
      · refine onot rfl rfl ?_
        iterate 3 refine onot rfl rfl ?_
        iterate 2 refine o1 rfl ?_
        iterate 4 refine onot rfl rfl ?_
        refine o1 rfl ?_
        exact o_join (sub_ren [0] [1, 27] (by decide) rfl (.cons .nil) (Nat.le_of_ble_eq_true rfl))
    · refine onot rfl rfl ?_
      iterate 2 refine onot rfl rfl ?_
      iterate 2 refine o1 rfl ?_
      iterate 4 refine onot rfl rfl ?_
      iterate 2 refine o1 rfl ?_
      iterate 4 refine onot rfl rfl ?_
      refine o1 rfl ?_
      exact o_join (sub_ren [0] [1, 27] (by decide) rfl (.cons .nil) (Nat.le_of_ble_eq_true rfl))
  · intro s hs5
    refine after_n ?_
    refine W.sub hs5 ?_
    refine w_cond (t := ((decide (t_0.Switches < 1)) || ((decide (t_0.Switches > 8)) || ((decide ((t_0.Links.l.length : Int) > 24)) || (decide ((t_0.Hosts.l.length : Int) > 8)))))) rfl (fun hb6 => ?_) (fun hb6 => ?_)
    · have hp := cnd_t hb6 hp
      refine w_seq ?_
      refine w_region ?_
      refine o1 rfl ?_
      refine o_end (e' := [(2, .c (.d (.lit (.bool false))))]) rfl rfl ?_
      refine after_n ?_
      refine w_ret ?_
      refine after_r ?_
      obtain rfl := Option.some.inj hp
      exact leave_at rfl rfl (pr_c p_d pr_nil) pc_nil rfl rfl
    · have hp := cnd_f hb6 hp
      refine w_skip ?_
      refine after_n ?_
      refine w_seq ?_
      refine w_seq ?_
      refine w_region ?_
      iterate 2 refine o1 rfl ?_
      refine o1 (v := .c (.d (.lit (.int .i64 (t_0.Links.l.length : Int))))) len_sd ?_
      refine o1 rfl ?_
      refine o_end (e' := [(1, .c (.op 0 0)), (29, .c (.d (slD 6 c_api_Link t_0.Links))), (30, .c (.d (.lit (.int .i64 (t_0.Links.l.length : Int))))), (31, .c (.d (.lit (.int .i64 0))))]) rfl rfl ?_
      refine after_n ?_
      refine w_block ?_
      obtain ⟨x9, h10, hp⟩ := bnd hp
      refine W.mono ?_ (w_loopS (st := fun (v : Int) => match v with | i7 => ⟨[(1, .c (.op 0 0)), (29, .c (.d (slD 6 c_api_Link t_0.Links))), (30, .c (.d (.lit (.int .i64 (t_0.Links.l.length : Int))))), (31, .c (.d (.lit (.int .i64 i7))))], [(0, some (.box [.d (.lit (.int .i64 t_0.Switches)), .d (slD 6 c_api_Link t_0.Links), .d (slD 2 c_api_Host t_0.Hosts)]))], 1, []⟩) (a := 0) (Q := Jn (fun (x : Sum (Unit) (Unit)) o s => match x with | .inl _ => o = Out.ret ∧ Sub s ⟨[(2, .c (.d (.lit (.bool false))))], [], 0, []⟩ | .inr (_) => o = Out.exit 0 ∧ Sub s ⟨[(1, .c (.op 0 0))], [(0, some (.box [.d (.lit (.int .i64 t_0.Switches)), .d (slD 6 c_api_Link t_0.Links), .d (slD 2 c_api_Host t_0.Hosts)]))], 1, []⟩)) ?_ h10 ?_)
      · intro o s hs20
        rcases x9 with (_ | _)
        · obtain ⟨rfl, hs20⟩ := hs20
          refine out_r ?_
          refine after_r ?_
          obtain rfl := Option.some.inj hp
          refine wk.sub hs20 ?_
          exact leave_at rfl rfl (pr_c p_d pr_nil) pc_nil rfl rfl
        · obtain ⟨rfl, hs20⟩ := hs20
          refine out_e ?_
          refine after_n ?_
          refine W.sub hs20 ?_
          refine w_seq ?_
          refine w_region ?_
          refine o2 (new_m (ek := kp_topo_place) (ev := cI_i64)) ?_
          refine o1 rfl ?_
          refine o_end (e' := [(1, .c (.op 0 0)), (5, .c (.om 1))]) rfl rfl ?_
          refine after_n ?_
          refine w_seq ?_
          refine w_seq ?_
          obtain ⟨r21, h22, hp⟩ := bnd hp
          refine w_region ?_
          refine o1 rfl ?_
          refine oc (rs := [.c (.d (slD 2 c_topo_place r21))]) (outs := []) rfl (topo_places_ok h22) rfl ?_
          refine o1 (v := .c (.d (.lit (.int .i64 (r21.l.length : Int))))) len_sd ?_
          refine o1 rfl ?_
          refine o_end (e' := [(1, .c (.op 0 0)), (5, .c (.om 1)), (60, .c (.d (slD 2 c_topo_place r21))), (61, .c (.d (.lit (.int .i64 (r21.l.length : Int))))), (62, .c (.d (.lit (.int .i64 0))))]) rfl rfl ?_
          refine after_n ?_
          refine w_block ?_
          obtain ⟨x27, h28, hp⟩ := bnd hp
          refine W.mono ?_ (w_loopS (st := fun (v : (Mp topo_place Int × Int)) => match v with | (m23, i24) => ⟨[(1, .c (.op 0 0)), (5, .c (.om 1)), (60, .c (.d (slD 2 c_topo_place r21))), (61, .c (.d (.lit (.int .i64 (r21.l.length : Int))))), (62, .c (.d (.lit (.int .i64 i24))))], [(0, some (.box [.d (.lit (.int .i64 t_0.Switches)), .d (slD 6 c_api_Link t_0.Links), .d (slD 2 c_api_Host t_0.Hosts)])), (1, mpO true false kp_topo_place cI_i64 m23)], 2, []⟩) (a := ((Mp.none : Mp topo_place Int), 0)) (Q := Jn (fun (x : Sum (Unit) (Unit)) o s => match x with | .inl _ => o = Out.ret ∧ Sub s ⟨[(2, .c (.d (.lit (.bool false))))], [], 0, []⟩ | .inr (_) => o = Out.exit 2 ∧ Sub s ⟨[], [], 0, []⟩)) ?_ h28 ?_)
          · intro o s hs41
            rcases x27 with (_ | _)
            · obtain ⟨rfl, hs41⟩ := hs41
              refine out_r ?_
              refine after_r ?_
              obtain rfl := Option.some.inj hp
              refine wk.sub hs41 ?_
              exact leave_at rfl rfl (pr_c p_d pr_nil) pc_nil rfl rfl
            · obtain ⟨rfl, hs41⟩ := hs41
              refine out_e ?_
              refine after_n ?_
              refine W.sub hs41 ?_
              refine w_seq ?_
              refine w_region ?_
              refine o1 rfl ?_
              refine o_end (e' := [(2, .c (.d (.lit (.bool true))))]) rfl rfl ?_
              refine after_n ?_
              refine w_ret ?_
              obtain rfl := Option.some.inj hp
              exact leave_at rfl rfl (pr_c p_d pr_nil) pc_nil rfl rfl
          · exact (sub_ren [0, 1] [1, 5, 60, 61, 62] (by decide) rfl (.cons (.cons .nil)) (Nat.le_of_ble_eq_true rfl))
          · rintro ⟨m23, i24⟩ r hr
            unfold topo_Right_L2 at hr
            refine w_seq ?_
            refine w_region ?_
            refine o1 (v := .c (.d (.lit (.bool (decide (i24 < (r21.l.length : Int))))))) rfl ?_
            refine o_end (e' := [(1, .c (.op 0 0)), (5, .c (.om 1)), (60, .c (.d (slD 2 c_topo_place r21))), (61, .c (.d (.lit (.int .i64 (r21.l.length : Int))))), (62, .c (.d (.lit (.int .i64 i24)))), (63, .c (.d (.lit (.bool (decide (i24 < (r21.l.length : Int)))))))]) rfl rfl ?_
            refine after_n ?_
            refine w_seq ?_
            refine w_cond (t := decide (i24 < (r21.l.length : Int))) rfl (fun hb29 => ?_) (fun hb29 => ?_)
            · have hr := cnd_t hb29 hr
              refine w_skip ?_
              refine after_n ?_
              refine w_seq ?_
              refine w_block ?_
              refine w_seq ?_
              obtain ⟨n30, h31, hr⟩ := bnd hr
              refine w_region ?_
              refine o1 (ix_sd h31) ?_
              refine o1 rfl ?_
              refine o2 rfl ?_
              refine o0 rfl ?_
              refine o_end (e' := [(1, .c (.op 0 0)), (5, .c (.om 1)), (7, .c (.op 2 0)), (60, .c (.d (slD 2 c_topo_place r21))), (61, .c (.d (.lit (.int .i64 (r21.l.length : Int))))), (62, .c (.d (.lit (.int .i64 i24))))]) rfl rfl ?_
              refine after_n ?_
              refine w_seq ?_
              obtain ⟨m32, h33, hr⟩ := bnd hr
              refine w_drawn ?_
              iterate 2 refine d1 rfl ?_
              refine d1 (look_m (z := 0) (k := gt r21.l n30) (tv := (fun x => .c (.d (.lit (.int .i64 x))))) rfl rfl kp_topo_place_eq rfl (fun _ => rfl)) ?_
              refine d1 (v := .c (.d (.lit (.int .i64 (wr .i64 ((mpGet m23 0 (gt r21.l n30)) + 1)))))) rfl ?_
              refine d2 (ent_m (z := 0) (k := gt r21.l n30) (tv := (fun x => .c (.d (.lit (.int .i64 x))))) rfl rfl kp_topo_place_eq rfl (fun _ => rfl)) (Nat.le_of_ble_eq_true rfl) ?_
              refine d1 rfl ?_
              refine d0 (est_m h33 rfl rfl rfl rfl) (Nat.le_of_ble_eq_true rfl) ?_
              refine d_fin (e' := [(1, .c (.op 0 0)), (5, .c (.om 1)), (7, .c (.op 2 0)), (60, .c (.d (slD 2 c_topo_place r21))), (61, .c (.d (.lit (.int .i64 (r21.l.length : Int))))), (62, .c (.d (.lit (.int .i64 i24))))]) (n' := 451) rfl rfl rfl rfl ?_
              refine after_n ?_
              refine w_seq ?_
              refine w_join (J := fun s => Sub s ⟨[(1, .c (.op 0 0)), (5, .c (.om 1)), (60, .c (.d (slD 2 c_topo_place r21))), (61, .c (.d (.lit (.int .i64 (r21.l.length : Int))))), (62, .c (.d (.lit (.int .i64 i24)))), (97, .c (.d (.lit (.bool ((decide (((gt r21.l n30).sw) < 0)) || ((decide (((gt r21.l n30).sw) ≥ t_0.Switches)) || ((decide (((gt r21.l n30).port) < 0)) || ((decide (((gt r21.l n30).port) ≥ 8)) || (decide ((mpGet m32 0 (gt r21.l n30)) > 1))))))))))], [(0, some (.box [.d (.lit (.int .i64 t_0.Switches)), .d (slD 6 c_api_Link t_0.Links), .d (slD 2 c_api_Host t_0.Hosts)])), (1, mpO true false kp_topo_place cI_i64 m32)], 2, []⟩) ?_ ?_
              · refine w_region ?_
                iterate 2 refine o1 rfl ?_
                refine o1 (v := .c (.d (.lit (.bool (decide (((gt r21.l n30).sw) < 0)))))) rfl ?_
                refine o1 rfl ?_
                cases hb35 : (decide (((gt r21.l n30).sw) < 0) : Bool)
                · refine og rfl rfl rfl ?_
                  iterate 3 refine og rfl rfl rfl ?_
                  refine og (v := .c (.d (.lit (.bool (decide (((gt r21.l n30).sw) ≥ t_0.Switches)))))) rfl rfl rfl ?_
                  iterate 2 refine o1 rfl ?_
                  cases hb36 : (decide (((gt r21.l n30).sw) ≥ t_0.Switches) : Bool)
                  · refine og rfl rfl rfl ?_
                    refine og rfl rfl rfl ?_
                    refine og (v := .c (.d (.lit (.bool (decide (((gt r21.l n30).port) < 0)))))) rfl rfl rfl ?_
                    iterate 2 refine o1 rfl ?_
                    cases hb37 : (decide (((gt r21.l n30).port) < 0) : Bool)
                    · refine og rfl rfl rfl ?_
                      refine og rfl rfl rfl ?_
                      refine og (v := .c (.d (.lit (.bool (decide (((gt r21.l n30).port) ≥ 8)))))) rfl rfl rfl ?_
                      iterate 2 refine o1 rfl ?_
                      cases hb38 : (decide (((gt r21.l n30).port) ≥ 8) : Bool)
                      · refine og rfl rfl rfl ?_
                        refine og rfl rfl rfl ?_
                        refine og rfl rfl (look_m (z := 0) (k := gt r21.l n30) (tv := (fun x => .c (.d (.lit (.int .i64 x))))) rfl rfl kp_topo_place_eq rfl (fun _ => rfl)) ?_
                        refine og (v := .c (.d (.lit (.bool (decide ((mpGet m32 0 (gt r21.l n30)) > 1)))))) rfl rfl rfl ?_
                        refine o1 rfl ?_
                        exact o_join (sub_ren [0, 1] [1, 5, 60, 61, 62, 97] (by decide) rfl (.cons (.cons .nil)) (Nat.le_of_ble_eq_true rfl))
                      · refine onot rfl rfl ?_
                        iterate 3 refine onot rfl rfl ?_
                        refine o1 rfl ?_
                        exact o_join (sub_ren [0, 1] [1, 5, 60, 61, 62, 97] (by decide) rfl (.cons (.cons .nil)) (Nat.le_of_ble_eq_true rfl))
                    · refine onot rfl rfl ?_
                      iterate 2 refine onot rfl rfl ?_
                      iterate 2 refine o1 rfl ?_
                      iterate 4 refine onot rfl rfl ?_
                      refine o1 rfl ?_
                      exact o_join (sub_ren [0, 1] [1, 5, 60, 61, 62, 97] (by decide) rfl (.cons (.cons .nil)) (Nat.le_of_ble_eq_true rfl))
                  · refine onot rfl rfl ?_
                    iterate 2 refine onot rfl rfl ?_
                    iterate 2 refine o1 rfl ?_
                    iterate 3 refine onot rfl rfl ?_
                    iterate 2 refine o1 rfl ?_
                    iterate 4 refine onot rfl rfl ?_
                    refine o1 rfl ?_
                    exact o_join (sub_ren [0, 1] [1, 5, 60, 61, 62, 97] (by decide) rfl (.cons (.cons .nil)) (Nat.le_of_ble_eq_true rfl))
                · refine onot rfl rfl ?_
                  iterate 4 refine onot rfl rfl ?_
                  iterate 2 refine o1 rfl ?_
                  iterate 3 refine onot rfl rfl ?_
                  iterate 2 refine o1 rfl ?_
                  iterate 3 refine onot rfl rfl ?_
                  iterate 2 refine o1 rfl ?_
                  iterate 4 refine onot rfl rfl ?_
                  refine o1 rfl ?_
                  exact o_join (sub_ren [0, 1] [1, 5, 60, 61, 62, 97] (by decide) rfl (.cons (.cons .nil)) (Nat.le_of_ble_eq_true rfl))
              · intro s hs39
                refine after_n ?_
                refine W.sub hs39 ?_
                refine w_cond (t := ((decide (((gt r21.l n30).sw) < 0)) || ((decide (((gt r21.l n30).sw) ≥ t_0.Switches)) || ((decide (((gt r21.l n30).port) < 0)) || ((decide (((gt r21.l n30).port) ≥ 8)) || (decide ((mpGet m32 0 (gt r21.l n30)) > 1))))))) rfl (fun hb40 => ?_) (fun hb40 => ?_)
                · have hr := cnd_t hb40 hr
                  refine w_seq ?_
                  refine w_region ?_
                  refine o1 rfl ?_
                  refine o_end (e' := [(2, .c (.d (.lit (.bool false))))]) rfl rfl ?_
                  refine after_n ?_
                  refine w_ret ?_
                  refine out_r ?_
                  refine after_r ?_
                  obtain rfl := Option.some.inj hr
                  exact And.intro nofun (And.intro rfl (sub_ren [] [2] (by decide) rfl .nil (Nat.le_of_ble_eq_true rfl)))
                · have hr := cnd_f hb40 hr
                  refine w_skip ?_
                  refine out_n ?_
                  refine after_n ?_
                  refine w_region ?_
                  refine o1 (v := .c (.d (.lit (.int .i64 (wr .i64 (i24 + 1)))))) rfl ?_
                  refine o1 rfl ?_
                  refine o_end (e' := [(1, .c (.op 0 0)), (5, .c (.om 1)), (60, .c (.d (slD 2 c_topo_place r21))), (61, .c (.d (.lit (.int .i64 (r21.l.length : Int))))), (62, .c (.d (.lit (.int .i64 (wr .i64 (i24 + 1))))))]) rfl rfl ?_
                  obtain rfl := Option.some.inj hr
                  exact And.intro rfl (sub_ren [0, 1] [1, 5, 60, 61, 62] (by decide) rfl (.cons (.cons .nil)) (Nat.le_of_ble_eq_true rfl))
            · have hr := cnd_f hb29 hr
              refine w_exit ?_
              refine after_e ?_
              obtain rfl := Option.some.inj hr
              exact And.intro nofun (And.intro rfl (sub_ren [] [] (by decide) rfl .nil (Nat.le_of_ble_eq_true rfl)))
      · exact (sub_ren [0] [1, 29, 30, 31] (by decide) rfl (.cons .nil) (Nat.le_of_ble_eq_true rfl))
      · rintro i7 r hr
        unfold topo_Right_L1 at hr
        refine w_seq ?_
        refine w_region ?_
        refine o1 (v := .c (.d (.lit (.bool (decide (i7 < (t_0.Links.l.length : Int))))))) rfl ?_
        refine o_end (e' := [(1, .c (.op 0 0)), (29, .c (.d (slD 6 c_api_Link t_0.Links))), (30, .c (.d (.lit (.int .i64 (t_0.Links.l.length : Int))))), (31, .c (.d (.lit (.int .i64 i7)))), (32, .c (.d (.lit (.bool (decide (i7 < (t_0.Links.l.length : Int)))))))]) rfl rfl ?_
        refine after_n ?_
        refine w_seq ?_
        refine w_cond (t := decide (i7 < (t_0.Links.l.length : Int))) rfl (fun hb11 => ?_) (fun hb11 => ?_)
        · have hr := cnd_t hb11 hr
          refine w_skip ?_
          refine after_n ?_
          refine w_seq ?_
          refine w_block ?_
          refine w_seq ?_
          obtain ⟨n12, h13, hr⟩ := bnd hr
          refine w_region ?_
          refine o1 (ix_sd h13) ?_
          refine o1 rfl ?_
          refine o2 rfl ?_
          refine o0 rfl ?_
          refine o_end (e' := [(1, .c (.op 0 0)), (4, .c (.op 1 0)), (29, .c (.d (slD 6 c_api_Link t_0.Links))), (30, .c (.d (.lit (.int .i64 (t_0.Links.l.length : Int))))), (31, .c (.d (.lit (.int .i64 i7))))]) rfl rfl ?_
          refine after_n ?_
          refine w_seq ?_
          refine w_join (J := fun s => Sub s ⟨[(1, .c (.op 0 0)), (29, .c (.d (slD 6 c_api_Link t_0.Links))), (30, .c (.d (.lit (.int .i64 (t_0.Links.l.length : Int))))), (31, .c (.d (.lit (.int .i64 i7)))), (56, .c (.d (.lit (.bool ((((gt t_0.Links.l n12).A) == ((gt t_0.Links.l n12).B)) || ((decide (((gt t_0.Links.l n12).Least) < 1)) || ((decide (((gt t_0.Links.l n12).Least) > ((gt t_0.Links.l n12).Most))) || (decide (((gt t_0.Links.l n12).Most) > 1000)))))))))], [(0, some (.box [.d (.lit (.int .i64 t_0.Switches)), .d (slD 6 c_api_Link t_0.Links), .d (slD 2 c_api_Host t_0.Hosts)]))], 1, []⟩) ?_ ?_
          · refine w_region ?_
            iterate 4 refine o1 rfl ?_
            refine o1 (v := .c (.d (.lit (.bool (((gt t_0.Links.l n12).A) == ((gt t_0.Links.l n12).B)))))) rfl ?_
            refine o1 rfl ?_
            cases hb15 : ((((gt t_0.Links.l n12).A) == ((gt t_0.Links.l n12).B)) : Bool)
            · refine og rfl rfl rfl ?_
              refine og rfl rfl rfl ?_
              refine og (v := .c (.d (.lit (.bool (decide (((gt t_0.Links.l n12).Least) < 1)))))) rfl rfl rfl ?_
              iterate 2 refine o1 rfl ?_
              cases hb16 : (decide (((gt t_0.Links.l n12).Least) < 1) : Bool)
              · refine og rfl rfl rfl ?_
                iterate 3 refine og rfl rfl rfl ?_
                refine og (v := .c (.d (.lit (.bool (decide (((gt t_0.Links.l n12).Least) > ((gt t_0.Links.l n12).Most))))))) rfl rfl rfl ?_
                iterate 2 refine o1 rfl ?_
                cases hb17 : (decide (((gt t_0.Links.l n12).Least) > ((gt t_0.Links.l n12).Most)) : Bool)
                · refine og rfl rfl rfl ?_
                  refine og rfl rfl rfl ?_
                  refine og (v := .c (.d (.lit (.bool (decide (((gt t_0.Links.l n12).Most) > 1000)))))) rfl rfl rfl ?_
                  refine o1 rfl ?_
                  exact o_join (sub_ren [0] [1, 29, 30, 31, 56] (by decide) rfl (.cons .nil) (Nat.le_of_ble_eq_true rfl))
                · refine onot rfl rfl ?_
                  iterate 2 refine onot rfl rfl ?_
                  refine o1 rfl ?_
                  exact o_join (sub_ren [0] [1, 29, 30, 31, 56] (by decide) rfl (.cons .nil) (Nat.le_of_ble_eq_true rfl))
              · refine onot rfl rfl ?_
                iterate 4 refine onot rfl rfl ?_
                iterate 2 refine o1 rfl ?_
                iterate 3 refine onot rfl rfl ?_
                refine o1 rfl ?_
                exact o_join (sub_ren [0] [1, 29, 30, 31, 56] (by decide) rfl (.cons .nil) (Nat.le_of_ble_eq_true rfl))
            · refine onot rfl rfl ?_
              iterate 2 refine onot rfl rfl ?_
              iterate 2 refine o1 rfl ?_
              iterate 5 refine onot rfl rfl ?_
              iterate 2 refine o1 rfl ?_
              iterate 3 refine onot rfl rfl ?_
              refine o1 rfl ?_
              exact o_join (sub_ren [0] [1, 29, 30, 31, 56] (by decide) rfl (.cons .nil) (Nat.le_of_ble_eq_true rfl))
          · intro s hs18
            refine after_n ?_
            refine W.sub hs18 ?_
            refine w_cond (t := ((((gt t_0.Links.l n12).A) == ((gt t_0.Links.l n12).B)) || ((decide (((gt t_0.Links.l n12).Least) < 1)) || ((decide (((gt t_0.Links.l n12).Least) > ((gt t_0.Links.l n12).Most))) || (decide (((gt t_0.Links.l n12).Most) > 1000)))))) rfl (fun hb19 => ?_) (fun hb19 => ?_)
            · have hr := cnd_t hb19 hr
              refine w_seq ?_
              refine w_region ?_
              refine o1 rfl ?_
              refine o_end (e' := [(2, .c (.d (.lit (.bool false))))]) rfl rfl ?_
              refine after_n ?_
              refine w_ret ?_
              refine out_r ?_
              refine after_r ?_
              obtain rfl := Option.some.inj hr
              exact And.intro nofun (And.intro rfl (sub_ren [] [2] (by decide) rfl .nil (Nat.le_of_ble_eq_true rfl)))
            · have hr := cnd_f hb19 hr
              refine w_skip ?_
              refine out_n ?_
              refine after_n ?_
              refine w_region ?_
              refine o1 (v := .c (.d (.lit (.int .i64 (wr .i64 (i7 + 1)))))) rfl ?_
              refine o1 rfl ?_
              refine o_end (e' := [(1, .c (.op 0 0)), (29, .c (.d (slD 6 c_api_Link t_0.Links))), (30, .c (.d (.lit (.int .i64 (t_0.Links.l.length : Int))))), (31, .c (.d (.lit (.int .i64 (wr .i64 (i7 + 1))))))]) rfl rfl ?_
              obtain rfl := Option.some.inj hr
              exact And.intro rfl (sub_ren [0] [1, 29, 30, 31] (by decide) rfl (.cons .nil) (Nat.le_of_ble_eq_true rfl))
        · have hr := cnd_f hb11 hr
          refine w_exit ?_
          refine after_e ?_
          obtain rfl := Option.some.inj hr
          exact And.intro nofun (And.intro rfl (sub_ren [0] [1] (by decide) rfl (.cons .nil) (Nat.le_of_ble_eq_true rfl)))

/- turnout/route.Right$1 -/
def k81 : CC :=
  (.seq
  (.region [
    ⟨some 2, .mv, [(.const (.bool false))], none⟩] [0])
  (.seq
  (.region [
    ⟨some 3, .mv, [(.tmp 0)], none⟩,
    ⟨some 4, (.bin .lss), [(.tmp 3), (.const (.int .i64 0))], none⟩,
    ⟨some 5, .mv, [(.tmp 4)], none⟩,
    ⟨some 6, .mv, [(.tmp 0)], (some (5, false))⟩,
    ⟨some 7, (.bin .geq), [(.tmp 6), (.const (.int .i64 8))], (some (5, false))⟩,
    ⟨some 8, .pick, [(.tmp 5), (.const (.bool true)), (.tmp 7)], none⟩,
    ⟨some 2, .mv, [(.tmp 8)], none⟩] [2])
  .ret))
def f81 : Ev.Fn := ⟨1, 9, [.tmp 2], k81⟩
set_option maxRecDepth 100000 in
theorem e81 : compFn prog sig 81 1 [[0], [2]] = some f81 := by kernel_rfl
noncomputable def route_Right_1 (p_0 : Int) : Option (Bool) :=
  some ((decide (p_0 < 0)) || (decide (p_0 ≥ 8)))
theorem route_Right_1_ok {p_0 : Int} {z : Bool} (hp : route_Right_1 p_0 = some z) : Good prog 81 [.d (.lit (.int .i64 p_0))] [.c (.d (.lit (.bool z)))] [] := by
  unfold route_Right_1 at hp
  refine fn_good mixed e81 (fnS (m := [false]) (s := ⟨[(0, .c (.d (.lit (.int .i64 p_0))))], [], 0, []⟩) (len := 0) (c := k81) rfl (Sub.of_eq rfl) rfl rfl ?_)
  refine w_seq ?_
  refine w_region ?_
  refine o1 rfl ?_
  refine o_end (e' := [(0, .c (.d (.lit (.int .i64 p_0))))]) rfl rfl ?_
  refine after_n ?_
  refine w_seq ?_
  refine w_join (J := fun s => Sub s ⟨[(2, .c (.d (.lit (.bool ((decide (p_0 < 0)) || (decide (p_0 ≥ 8)))))))], [], 0, []⟩) ?_ ?_
  · refine w_region ?_
    refine o1 rfl ?_
    refine o1 (v := .c (.d (.lit (.bool (decide (p_0 < 0)))))) rfl ?_
    refine o1 rfl ?_
    cases hb2 : (decide (p_0 < 0) : Bool)
    · refine og rfl rfl rfl ?_
      refine og (v := .c (.d (.lit (.bool (decide (p_0 ≥ 8)))))) rfl rfl rfl ?_
      iterate 2 refine o1 rfl ?_
      exact o_join (sub_ren [] [2] (by decide) rfl .nil (Nat.le_of_ble_eq_true rfl))
    · refine onot rfl rfl ?_
      refine onot rfl rfl ?_
      iterate 2 refine o1 rfl ?_
      exact o_join (sub_ren [] [2] (by decide) rfl .nil (Nat.le_of_ble_eq_true rfl))
  · intro s hs3
    refine after_n ?_
    refine W.sub hs3 ?_
    refine w_ret ?_
    obtain rfl := Option.some.inj hp
    exact leave_at rfl rfl (pr_c p_d pr_nil) pc_nil rfl rfl

/- slices.IndexFunc[[]int,int] -/
def k98 : CC :=
  (.seq
  (.region [
    ⟨some 4, .mv, [(.const (.int .i64 0))], none⟩] [0, 1])
  (.seq
  (.seq
  (.region [
    ⟨some 6, .mv, [(.tmp 0)], none⟩,
    ⟨some 7, (.len false), [(.tmp 6)], none⟩,
    ⟨some 8, .mv, [(.const (.int .i64 0))], none⟩] [0, 1, 7, 8])
  (.block 0
    (.loop [0, 1, 7, 8]
      (.seq
      (.region [
        ⟨some 9, (.bin .lss), [(.tmp 8), (.tmp 7)], none⟩] [0, 1, 7, 8, 9])
      (.seq
      (.cond (.tmp 9)
        .skip
        (.exit 0))
      (.seq
      (.block 1
        (.seq
        (.region [
          ⟨some 10, .mv, [(.tmp 8)], none⟩,
          ⟨some 5, .mv, [(.tmp 10)], none⟩] [0, 1, 5, 7, 8])
        (.seq
        (.region [
          ⟨some 11, .mv, [(.tmp 1)], none⟩,
          ⟨some 12, .mv, [(.tmp 0)], none⟩,
          ⟨some 13, .mv, [(.tmp 5)], none⟩,
          ⟨some 14, (.indexAddr none 1), [(.tmp 12), (.tmp 13)], none⟩,
          ⟨some 15, (.load false 1), [(.tmp 14)], none⟩,
          ⟨some 16, (.call false []), [(.tmp 11), (.tmp 15)], none⟩] [0, 1, 5, 7, 8, 16])
        (.cond (.tmp 16)
          (.seq
          (.region [
            ⟨some 17, .mv, [(.tmp 5)], none⟩,
            ⟨some 4, .mv, [(.tmp 17)], none⟩] [4])
          .ret)
          .skip))))
      (.region [
        ⟨some 18, (.bin .add), [(.tmp 8), (.const (.int .i64 1))], none⟩,
        ⟨some 8, .mv, [(.tmp 18)], none⟩] [0, 1, 7, 8])))))))
  (.seq
  (.region [
    ⟨some 4, .mv, [(.const (.int .i64 (-1)))], none⟩] [4])
  .ret)))
def f98 : Ev.Fn := ⟨2, 19, [.tmp 4], k98⟩
set_option maxRecDepth 100000 in
theorem e98 : compFn prog sig 98 2 [[0, 1], [0, 1, 7, 8], [0, 1, 7, 8], [0, 1, 7, 8, 9], [0, 1, 5, 7, 8], [0, 1, 5, 7, 8, 16], [4], [0, 1, 7, 8], [4]] = some f98 := by kernel_rfl
noncomputable def slices_IndexFunc_int_int_route_Right_1_L1 (s_0 : Sl Int) : Int → Option (Sum (Int) (Sum (Int) (Unit))) := fun i1 =>
  bif decide (i1 < (s_0.l.length : Int)) then ((ixI i1 s_0.l.length).bind fun n7 =>
  (route_Right_1 (gt s_0.l n7)).bind fun r9 =>
  bif r9 then (some (.inr (.inl i1))) else
  (some (.inl (wr .i64 (i1 + 1))))) else
  (some (.inr (.inr ())))

noncomputable def slices_IndexFunc_int_int_route_Right_1 (s_0 : Sl Int) : Option (Int) :=
  (loopO (slices_IndexFunc_int_int_route_Right_1_L1 s_0) 0).bind fun
  | .inl i3 => (some i3)
  | .inr (_) => (some (-1))
theorem slices_IndexFunc_int_int_route_Right_1_ok {s_0 : Sl Int} {z : Int} (hp : slices_IndexFunc_int_int_route_Right_1 s_0 = some z) : Good prog 98 [.d (slD 1 cI_i64 s_0), .d (.fn 81 [])] [.c (.d (.lit (.int .i64 z)))] [] := by
  unfold slices_IndexFunc_int_int_route_Right_1 at hp
  refine fn_good mixed e98 (fnS (m := [false]) (s := ⟨[(0, .c (.d (slD 1 cI_i64 s_0))), (1, .c (.d (.fn 81 [])))], [], 0, []⟩) (len := 0) (c := k98) rfl (Sub.of_eq rfl) rfl rfl ?_)
  refine w_seq ?_
  refine w_region ?_
  refine o1 rfl ?_
  refine o_end (e' := [(0, .c (.d (slD 1 cI_i64 s_0))), (1, .c (.d (.fn 81 [])))]) rfl rfl ?_
  refine after_n ?_
  refine w_seq ?_
  refine w_seq ?_
  refine w_region ?_
  refine o1 rfl ?_
  refine o1 (v := .c (.d (.lit (.int .i64 (s_0.l.length : Int))))) len_sd ?_
  refine o1 rfl ?_
  refine o_end (e' := [(0, .c (.d (slD 1 cI_i64 s_0))), (1, .c (.d (.fn 81 []))), (7, .c (.d (.lit (.int .i64 (s_0.l.length : Int))))), (8, .c (.d (.lit (.int .i64 0))))]) rfl rfl ?_
  refine after_n ?_
  refine w_block ?_
  obtain ⟨x4, h5, hp⟩ := bnd hp
  refine W.mono ?_ (w_loopS (st := fun (v : Int) => match v with | i1 => ⟨[(0, .c (.d (slD 1 cI_i64 s_0))), (1, .c (.d (.fn 81 []))), (7, .c (.d (.lit (.int .i64 (s_0.l.length : Int))))), (8, .c (.d (.lit (.int .i64 i1))))], [], 0, []⟩) (a := 0) (Q := Jn (fun (x : Sum (Int) (Unit)) o s => match x with | .inl i3 => o = Out.ret ∧ Sub s ⟨[(4, .c (.d (.lit (.int .i64 i3))))], [], 0, []⟩ | .inr (_) => o = Out.exit 0 ∧ Sub s ⟨[], [], 0, []⟩)) ?_ h5 ?_)
  · intro o s hs12
    rcases x4 with (i3 | _)
    · obtain ⟨rfl, hs12⟩ := hs12
      refine out_r ?_
      refine after_r ?_
      obtain rfl := Option.some.inj hp
      refine wk.sub hs12 ?_
      exact leave_at rfl rfl (pr_c p_d pr_nil) pc_nil rfl rfl
    · obtain ⟨rfl, hs12⟩ := hs12
      refine out_e ?_
      refine after_n ?_
      refine W.sub hs12 ?_
      refine w_seq ?_
      refine w_region ?_
      refine o1 rfl ?_
      refine o_end (e' := [(4, .c (.d (.lit (.int .i64 (-1)))))]) rfl rfl ?_
      refine after_n ?_
      refine w_ret ?_
      obtain rfl := Option.some.inj hp
      exact leave_at rfl rfl (pr_c p_d pr_nil) pc_nil rfl rfl
  · exact (sub_ren [] [0, 1, 7, 8] (by decide) rfl .nil (Nat.le_of_ble_eq_true rfl))
  · rintro i1 r hr
    unfold slices_IndexFunc_int_int_route_Right_1_L1 at hr
    refine w_seq ?_
    refine w_region ?_
    refine o1 (v := .c (.d (.lit (.bool (decide (i1 < (s_0.l.length : Int))))))) rfl ?_
    refine o_end (e' := [(0, .c (.d (slD 1 cI_i64 s_0))), (1, .c (.d (.fn 81 []))), (7, .c (.d (.lit (.int .i64 (s_0.l.length : Int))))), (8, .c (.d (.lit (.int .i64 i1)))), (9, .c (.d (.lit (.bool (decide (i1 < (s_0.l.length : Int)))))))]) rfl rfl ?_
    refine after_n ?_
    refine w_seq ?_
    refine w_cond (t := decide (i1 < (s_0.l.length : Int))) rfl (fun hb6 => ?_) (fun hb6 => ?_)
    · have hr := cnd_t hb6 hr
      refine w_skip ?_
      refine after_n ?_
      refine w_seq ?_
      refine w_block ?_
      refine w_seq ?_
      refine w_region ?_
      iterate 2 refine o1 rfl ?_
      refine o_end (e' := [(0, .c (.d (slD 1 cI_i64 s_0))), (1, .c (.d (.fn 81 []))), (5, .c (.d (.lit (.int .i64 i1)))), (7, .c (.d (.lit (.int .i64 (s_0.l.length : Int))))), (8, .c (.d (.lit (.int .i64 i1))))]) rfl rfl ?_
      refine after_n ?_
      refine w_seq ?_
      obtain ⟨n7, h8, hr⟩ := bnd hr
      obtain ⟨r9, h10, hr⟩ := bnd hr
      refine w_region ?_
      iterate 3 refine o1 rfl ?_
      refine o1 (ix_sd h8) ?_
      refine o1 rfl ?_
      refine oc (rs := [.c (.d (.lit (.bool r9)))]) (outs := []) rfl (route_Right_1_ok h10) rfl ?_
      refine o_end (e' := [(0, .c (.d (slD 1 cI_i64 s_0))), (1, .c (.d (.fn 81 []))), (5, .c (.d (.lit (.int .i64 i1)))), (7, .c (.d (.lit (.int .i64 (s_0.l.length : Int))))), (8, .c (.d (.lit (.int .i64 i1)))), (16, .c (.d (.lit (.bool r9))))]) rfl rfl ?_
      refine after_n ?_
      refine w_cond (t := r9) rfl (fun hb11 => ?_) (fun hb11 => ?_)
      · have hr := cnd_t hb11 hr
        refine w_seq ?_
        refine w_region ?_
        iterate 2 refine o1 rfl ?_
        refine o_end (e' := [(4, .c (.d (.lit (.int .i64 i1))))]) rfl rfl ?_
        refine after_n ?_
        refine w_ret ?_
        refine out_r ?_
        refine after_r ?_
        obtain rfl := Option.some.inj hr
        exact And.intro nofun (And.intro rfl (sub_ren [] [4] (by decide) rfl .nil (Nat.le_of_ble_eq_true rfl)))
      · have hr := cnd_f hb11 hr
        refine w_skip ?_
        refine out_n ?_
        refine after_n ?_
        refine w_region ?_
        refine o1 (v := .c (.d (.lit (.int .i64 (wr .i64 (i1 + 1)))))) rfl ?_
        refine o1 rfl ?_
        refine o_end (e' := [(0, .c (.d (slD 1 cI_i64 s_0))), (1, .c (.d (.fn 81 []))), (7, .c (.d (.lit (.int .i64 (s_0.l.length : Int))))), (8, .c (.d (.lit (.int .i64 (wr .i64 (i1 + 1))))))]) rfl rfl ?_
        obtain rfl := Option.some.inj hr
        exact And.intro rfl (sub_ren [] [0, 1, 7, 8] (by decide) rfl .nil (Nat.le_of_ble_eq_true rfl))
    · have hr := cnd_f hb6 hr
      refine w_exit ?_
      refine after_e ?_
      obtain rfl := Option.some.inj hr
      exact And.intro nofun (And.intro rfl (sub_ren [] [] (by decide) rfl .nil (Nat.le_of_ble_eq_true rfl)))

/- slices.ContainsFunc[[]int,int] -/
def k80 : CC :=
  (.seq
  (.region [
    ⟨some 4, .mv, [(.const (.bool false))], none⟩] [0, 1])
  (.seq
  (.region [
    ⟨some 5, .mv, [(.tmp 0)], none⟩,
    ⟨some 6, .mv, [(.tmp 1)], none⟩,
    ⟨some 7, (.call true []), [(.func 98), (.tmp 5), (.tmp 6)], none⟩,
    ⟨some 8, (.bin .geq), [(.tmp 7), (.const (.int .i64 0))], none⟩,
    ⟨some 4, .mv, [(.tmp 8)], none⟩] [4])
  .ret))
def f80 : Ev.Fn := ⟨2, 9, [.tmp 4], k80⟩
set_option maxRecDepth 100000 in
theorem e80 : compFn prog sig 80 2 [[0, 1], [4]] = some f80 := by kernel_rfl
noncomputable def slices_ContainsFunc_int_int_route_Right_1 (s_0 : Sl Int) : Option (Bool) :=
  (slices_IndexFunc_int_int_route_Right_1 s_0).bind fun r1 =>
  some (decide (r1 ≥ 0))
theorem slices_ContainsFunc_int_int_route_Right_1_ok {s_0 : Sl Int} {z : Bool} (hp : slices_ContainsFunc_int_int_route_Right_1 s_0 = some z) : Good prog 80 [.d (slD 1 cI_i64 s_0), .d (.fn 81 [])] [.c (.d (.lit (.bool z)))] [] := by
  unfold slices_ContainsFunc_int_int_route_Right_1 at hp
  refine fn_good mixed e80 (fnS (m := [false]) (s := ⟨[(0, .c (.d (slD 1 cI_i64 s_0))), (1, .c (.d (.fn 81 [])))], [], 0, []⟩) (len := 0) (c := k80) rfl (Sub.of_eq rfl) rfl rfl ?_)
  refine w_seq ?_
  refine w_region ?_
  refine o1 rfl ?_
  refine o_end (e' := [(0, .c (.d (slD 1 cI_i64 s_0))), (1, .c (.d (.fn 81 [])))]) rfl rfl ?_
  refine after_n ?_
  refine w_seq ?_
  obtain ⟨r1, h2, hp⟩ := bnd hp
  refine w_region ?_
  iterate 2 refine o1 rfl ?_
  refine oc (rs := [.c (.d (.lit (.int .i64 r1)))]) (outs := []) rfl (slices_IndexFunc_int_int_route_Right_1_ok h2) rfl ?_
  refine o1 (v := .c (.d (.lit (.bool (decide (r1 ≥ 0)))))) rfl ?_
  refine o1 rfl ?_
  refine o_end (e' := [(4, .c (.d (.lit (.bool (decide (r1 ≥ 0))))))]) rfl rfl ?_
  refine after_n ?_
  refine w_ret ?_
  obtain rfl := Option.some.inj hp
  exact leave_at rfl rfl (pr_c p_d pr_nil) pc_nil rfl rfl

/- turnout/route.Right -/
def k51 : CC :=
  (.seq
  (.region [
    ⟨some 2, .box, [(.tmp 0)], none⟩,
    ⟨some 4, .mv, [(.const (.bool false))], none⟩] [1, 2])
  (.seq
  (.seq
  (.region [
    ⟨some 7, (.load true 3), [(.tmp 2)], none⟩,
    ⟨some 8, (.call true []), [(.func 40), (.tmp 7)], none⟩,
    ⟨some 9, (.un .not), [(.tmp 8)], none⟩,
    ⟨some 10, .mv, [(.tmp 9)], none⟩,
    ⟨some 11, .mv, [(.tmp 1)], (some (10, false))⟩,
    ⟨some 12, (.len false), [(.tmp 11)], (some (10, false))⟩,
    ⟨some 13, (.fieldAddr 0), [(.tmp 2)], (some (10, false))⟩,
    ⟨some 14, (.load false 1), [(.tmp 13)], (some (10, false))⟩,
    ⟨some 15, (.bin .neq), [(.tmp 12), (.tmp 14)], (some (10, false))⟩,
    ⟨some 16, .pick, [(.tmp 10), (.const (.bool true)), (.tmp 15)], none⟩] [1, 2, 16])
  (.cond (.tmp 16)
    (.seq
    (.region [
      ⟨some 4, .mv, [(.const (.bool false))], none⟩] [4])
    .ret)
    .skip))
  (.seq
  (.seq
  (.region [
    ⟨some 17, .mv, [(.tmp 1)], none⟩,
    ⟨some 18, (.len false), [(.tmp 17)], none⟩,
    ⟨some 19, .mv, [(.const (.int .i64 0))], none⟩] [2, 17, 18, 19])
  (.block 0
    (.loop [2, 17, 18, 19]
      (.seq
      (.region [
        ⟨some 20, (.bin .lss), [(.tmp 19), (.tmp 18)], none⟩] [2, 17, 18, 19, 20])
      (.seq
      (.cond (.tmp 20)
        .skip
        (.exit 0))
      (.seq
      (.block 1
        (.seq
        (.region [
          ⟨some 21, (.indexAddr none 1), [(.tmp 17), (.tmp 19)], none⟩,
          ⟨some 22, (.load false 1), [(.tmp 21)], none⟩,
          ⟨some 6, .mv, [(.tmp 22)], none⟩] [2, 6, 17, 18, 19])
        (.seq
        (.region [
          ⟨some 23, .mv, [(.tmp 6)], none⟩,
          ⟨some 24, (.len false), [(.tmp 23)], none⟩,
          ⟨some 25, (.fieldAddr 2), [(.tmp 2)], none⟩,
          ⟨some 26, (.load false 1), [(.tmp 25)], none⟩,
          ⟨some 27, (.len false), [(.tmp 26)], none⟩,
          ⟨some 28, (.bin .neq), [(.tmp 24), (.tmp 27)], none⟩,
          ⟨some 29, .mv, [(.tmp 28)], none⟩,
          ⟨some 30, .mv, [(.tmp 6)], (some (29, false))⟩,
          ⟨some 31, (.call true []), [(.func 80), (.tmp 30), (.func 81)], (some (29, false))⟩,
          ⟨some 32, .pick, [(.tmp 29), (.const (.bool true)), (.tmp 31)], none⟩] [2, 17, 18, 19, 32])
        (.cond (.tmp 32)
          (.seq
          (.region [
            ⟨some 4, .mv, [(.const (.bool false))], none⟩] [4])
          .ret)
          .skip))))
      (.region [
        ⟨some 33, (.bin .add), [(.tmp 19), (.const (.int .i64 1))], none⟩,
        ⟨some 19, .mv, [(.tmp 33)], none⟩] [2, 17, 18, 19])))))))
  (.seq
  (.region [
    ⟨some 4, .mv, [(.const (.bool true))], none⟩] [4])
  .ret))))
def f51 : Ev.Fn := ⟨2, 34, [.tmp 4], k51⟩
set_option maxRecDepth 100000 in
theorem e51 : compFn prog sig 51 2 [[1, 2], [1, 2, 16], [4], [2, 17, 18, 19], [2, 17, 18, 19], [2, 17, 18, 19, 20], [2, 6, 17, 18, 19], [2, 17, 18, 19, 32], [4], [2, 17, 18, 19], [4]] = some f51 := by kernel_rfl
noncomputable def route_Right_L1 (t_0 : api_Topo) (r_1 : Sl (Sl Int)) : Int → Option (Sum (Int) (Sum (Unit) (Unit))) := fun i7 =>
  bif decide (i7 < (r_1.l.length : Int)) then ((ixI i7 r_1.l.length).bind fun n12 =>
  (bif ((((gt r_1.l n12).l).length : Int) != (t_0.Hosts.l.length : Int)) then (some true) else ((slices_ContainsFunc_int_int_route_Right_1 (gt r_1.l n12)).bind fun r14 =>
  some r14)).bind fun b16 =>
  bif b16 then (some (.inr (.inl ()))) else
  (some (.inl (wr .i64 (i7 + 1))))) else
  (some (.inr (.inr ())))

noncomputable def route_Right (t_0 : api_Topo) (r_1 : Sl (Sl Int)) : Option (Bool) :=
  (topo_Right t_0).bind fun r1 =>
  bif ((!r1) || ((r_1.l.length : Int) != t_0.Switches)) then (some false) else
  ((loopO (route_Right_L1 t_0 r_1) 0).bind fun
  | .inl _ => (some false)
  | .inr (_) => (some true))
theorem route_Right_ok {t_0 : api_Topo} {r_1 : Sl (Sl Int)} {z : Bool} (hp : route_Right t_0 r_1 = some z) : Good prog 51 [.agg (c_api_Topo t_0), .d (slD 1 cL_I_i64 r_1)] [.c (.d (.lit (.bool z)))] [] := by
  unfold route_Right at hp
  refine fn_good mixed e51 (fnS (m := [false]) (s := ⟨[(0, .agg [.d (.lit (.int .i64 t_0.Switches)), .d (slD 6 c_api_Link t_0.Links), .d (slD 2 c_api_Host t_0.Hosts)]), (1, .c (.d (slD 1 cL_I_i64 r_1)))], [], 0, []⟩) (len := 0) (c := k51) rfl (Sub.of_eq rfl) rfl rfl ?_)
  refine w_seq ?_
  refine w_region ?_
  refine o2 rfl ?_
  refine o1 rfl ?_
  refine o_end (e' := [(1, .c (.d (slD 1 cL_I_i64 r_1))), (2, .c (.op 0 0))]) rfl rfl ?_
  refine after_n ?_
  refine w_seq ?_
  refine w_seq ?_
  obtain ⟨r1, h2, hp⟩ := bnd hp
  refine w_join (J := fun s => Sub s ⟨[(1, .c (.d (slD 1 cL_I_i64 r_1))), (2, .c (.op 0 0)), (16, .c (.d (.lit (.bool ((!r1) || ((r_1.l.length : Int) != t_0.Switches))))))], [(0, some (.box [.d (.lit (.int .i64 t_0.Switches)), .d (slD 6 c_api_Link t_0.Links), .d (slD 2 c_api_Host t_0.Hosts)]))], 1, []⟩) ?_ ?_
  · refine w_region ?_
    refine o1 rfl ?_
    refine oc (rs := [.c (.d (.lit (.bool r1)))]) (outs := []) rfl (topo_Right_ok h2) rfl ?_
    refine o1 (v := .c (.d (.lit (.bool (!r1))))) rfl ?_
    refine o1 rfl ?_
    cases hb4 : ((!r1) : Bool)
    · refine og rfl rfl rfl ?_
      refine og (v := .c (.d (.lit (.int .i64 (r_1.l.length : Int))))) rfl rfl len_sd ?_
      iterate 2 refine og rfl rfl rfl ?_
      refine og (v := .c (.d (.lit (.bool ((r_1.l.length : Int) != t_0.Switches))))) rfl rfl rfl ?_
      refine o1 rfl ?_
      exact o_join (sub_ren [0] [1, 2, 16] (by decide) rfl (.cons .nil) (Nat.le_of_ble_eq_true rfl))
    · refine onot rfl rfl ?_
      iterate 4 refine onot rfl rfl ?_
      refine o1 rfl ?_
      exact o_join (sub_ren [0] [1, 2, 16] (by decide) rfl (.cons .nil) (Nat.le_of_ble_eq_true rfl))
  · intro s hs5
    refine after_n ?_
    refine W.sub hs5 ?_
    refine w_cond (t := ((!r1) || ((r_1.l.length : Int) != t_0.Switches))) rfl (fun hb6 => ?_) (fun hb6 => ?_)
    · have hp := cnd_t hb6 hp
      refine w_seq ?_
      refine w_region ?_
      refine o1 rfl ?_
      refine o_end (e' := [(4, .c (.d (.lit (.bool false))))]) rfl rfl ?_
      refine after_n ?_
      refine w_ret ?_
      refine after_r ?_
      obtain rfl := Option.some.inj hp
      exact leave_at rfl rfl (pr_c p_d pr_nil) pc_nil rfl rfl
    · have hp := cnd_f hb6 hp
      refine w_skip ?_
      refine after_n ?_
      refine w_seq ?_
      refine w_seq ?_
      refine w_region ?_
      refine o1 rfl ?_
      refine o1 (v := .c (.d (.lit (.int .i64 (r_1.l.length : Int))))) len_sd ?_
      refine o1 rfl ?_
      refine o_end (e' := [(2, .c (.op 0 0)), (17, .c (.d (slD 1 cL_I_i64 r_1))), (18, .c (.d (.lit (.int .i64 (r_1.l.length : Int))))), (19, .c (.d (.lit (.int .i64 0))))]) rfl rfl ?_
      refine after_n ?_
      refine w_block ?_
      obtain ⟨x9, h10, hp⟩ := bnd hp
      refine W.mono ?_ (w_loopS (st := fun (v : Int) => match v with | i7 => ⟨[(2, .c (.op 0 0)), (17, .c (.d (slD 1 cL_I_i64 r_1))), (18, .c (.d (.lit (.int .i64 (r_1.l.length : Int))))), (19, .c (.d (.lit (.int .i64 i7))))], [(0, some (.box [.d (.lit (.int .i64 t_0.Switches)), .d (slD 6 c_api_Link t_0.Links), .d (slD 2 c_api_Host t_0.Hosts)]))], 1, []⟩) (a := 0) (Q := Jn (fun (x : Sum (Unit) (Unit)) o s => match x with | .inl _ => o = Out.ret ∧ Sub s ⟨[(4, .c (.d (.lit (.bool false))))], [], 0, []⟩ | .inr (_) => o = Out.exit 0 ∧ Sub s ⟨[], [], 0, []⟩)) ?_ h10 ?_)
      · intro o s hs21
        rcases x9 with (_ | _)
        · obtain ⟨rfl, hs21⟩ := hs21
          refine out_r ?_
          refine after_r ?_
          obtain rfl := Option.some.inj hp
          refine wk.sub hs21 ?_
          exact leave_at rfl rfl (pr_c p_d pr_nil) pc_nil rfl rfl
        · obtain ⟨rfl, hs21⟩ := hs21
          refine out_e ?_
          refine after_n ?_
          refine W.sub hs21 ?_
          refine w_seq ?_
          refine w_region ?_
          refine o1 rfl ?_
          refine o_end (e' := [(4, .c (.d (.lit (.bool true))))]) rfl rfl ?_
          refine after_n ?_
          refine w_ret ?_
          obtain rfl := Option.some.inj hp
          exact leave_at rfl rfl (pr_c p_d pr_nil) pc_nil rfl rfl
      · exact (sub_ren [0] [2, 17, 18, 19] (by decide) rfl (.cons .nil) (Nat.le_of_ble_eq_true rfl))
      · rintro i7 r hr
        unfold route_Right_L1 at hr
        refine w_seq ?_
        refine w_region ?_
        refine o1 (v := .c (.d (.lit (.bool (decide (i7 < (r_1.l.length : Int))))))) rfl ?_
        refine o_end (e' := [(2, .c (.op 0 0)), (17, .c (.d (slD 1 cL_I_i64 r_1))), (18, .c (.d (.lit (.int .i64 (r_1.l.length : Int))))), (19, .c (.d (.lit (.int .i64 i7)))), (20, .c (.d (.lit (.bool (decide (i7 < (r_1.l.length : Int)))))))]) rfl rfl ?_
        refine after_n ?_
        refine w_seq ?_
        refine w_cond (t := decide (i7 < (r_1.l.length : Int))) rfl (fun hb11 => ?_) (fun hb11 => ?_)
        · have hr := cnd_t hb11 hr
          refine w_skip ?_
          refine after_n ?_
          refine w_seq ?_
          refine w_block ?_
          refine w_seq ?_
          obtain ⟨n12, h13, hr⟩ := bnd hr
          refine w_region ?_
          refine o1 (ix_sd h13) ?_
          iterate 2 refine o1 rfl ?_
          refine o_end (e' := [(2, .c (.op 0 0)), (6, .c (.d (slD 1 cI_i64 (gt r_1.l n12)))), (17, .c (.d (slD 1 cL_I_i64 r_1))), (18, .c (.d (.lit (.int .i64 (r_1.l.length : Int))))), (19, .c (.d (.lit (.int .i64 i7))))]) rfl rfl ?_
          refine after_n ?_
          refine w_seq ?_
          obtain ⟨b16, h17, hr⟩ := bnd hr
          refine w_join (J := fun s => Sub s ⟨[(2, .c (.op 0 0)), (17, .c (.d (slD 1 cL_I_i64 r_1))), (18, .c (.d (.lit (.int .i64 (r_1.l.length : Int))))), (19, .c (.d (.lit (.int .i64 i7)))), (32, .c (.d (.lit (.bool b16))))], [(0, some (.box [.d (.lit (.int .i64 t_0.Switches)), .d (slD 6 c_api_Link t_0.Links), .d (slD 2 c_api_Host t_0.Hosts)]))], 1, []⟩) ?_ ?_
          · refine w_region ?_
            refine o1 rfl ?_
            refine o1 (v := .c (.d (.lit (.int .i64 (((gt r_1.l n12).l).length : Int))))) len_sd ?_
            iterate 2 refine o1 rfl ?_
            refine o1 (v := .c (.d (.lit (.int .i64 (t_0.Hosts.l.length : Int))))) len_sd ?_
            refine o1 (v := .c (.d (.lit (.bool ((((gt r_1.l n12).l).length : Int) != (t_0.Hosts.l.length : Int)))))) rfl ?_
            refine o1 rfl ?_
            cases hb18 : (((((gt r_1.l n12).l).length : Int) != (t_0.Hosts.l.length : Int)) : Bool)
            · have h17 := cnd_f hb18 h17
              obtain ⟨r14, h15, h17⟩ := bnd h17
              refine og rfl rfl rfl ?_
              refine ocg (rs := [.c (.d (.lit (.bool r14)))]) (outs := []) rfl rfl rfl (slices_ContainsFunc_int_int_route_Right_1_ok h15) rfl ?_
              refine o1 rfl ?_
              cases h17
              exact o_join (sub_ren [0] [2, 17, 18, 19, 32] (by decide) rfl (.cons .nil) (Nat.le_of_ble_eq_true rfl))
            · have h17 := cnd_t hb18 h17
              iterate 2 refine onot rfl rfl ?_
              refine o1 rfl ?_
              cases h17
              exact o_join (sub_ren [0] [2, 17, 18, 19, 32] (by decide) rfl (.cons .nil) (Nat.le_of_ble_eq_true rfl))
          · intro s hs19
            refine after_n ?_
            refine W.sub hs19 ?_
            refine w_cond (t := b16) rfl (fun hb20 => ?_) (fun hb20 => ?_)
            · have hr := cnd_t hb20 hr
              refine w_seq ?_
              refine w_region ?_
              refine o1 rfl ?_
              refine o_end (e' := [(4, .c (.d (.lit (.bool false))))]) rfl rfl ?_
              refine after_n ?_
              refine w_ret ?_
              refine out_r ?_
              refine after_r ?_
              obtain rfl := Option.some.inj hr
              exact And.intro nofun (And.intro rfl (sub_ren [] [4] (by decide) rfl .nil (Nat.le_of_ble_eq_true rfl)))
            · have hr := cnd_f hb20 hr
              refine w_skip ?_
              refine out_n ?_
              refine after_n ?_
              refine w_region ?_
              refine o1 (v := .c (.d (.lit (.int .i64 (wr .i64 (i7 + 1)))))) rfl ?_
              refine o1 rfl ?_
              refine o_end (e' := [(2, .c (.op 0 0)), (17, .c (.d (slD 1 cL_I_i64 r_1))), (18, .c (.d (.lit (.int .i64 (r_1.l.length : Int))))), (19, .c (.d (.lit (.int .i64 (wr .i64 (i7 + 1))))))]) rfl rfl ?_
              obtain rfl := Option.some.inj hr
              exact And.intro rfl (sub_ren [0] [2, 17, 18, 19] (by decide) rfl (.cons .nil) (Nat.le_of_ble_eq_true rfl))
        · have hr := cnd_f hb11 hr
          refine w_exit ?_
          refine after_e ?_
          obtain rfl := Option.some.inj hr
          exact And.intro nofun (And.intro rfl (sub_ren [] [] (by decide) rfl .nil (Nat.le_of_ble_eq_true rfl)))

/- slices.Index[[]int,int] -/
def k97 : CC :=
  (.seq
  (.region [
    ⟨some 4, .mv, [(.const (.int .i64 0))], none⟩] [0, 1])
  (.seq
  (.seq
  (.region [
    ⟨some 6, .mv, [(.tmp 0)], none⟩,
    ⟨some 7, (.len false), [(.tmp 6)], none⟩,
    ⟨some 8, .mv, [(.const (.int .i64 0))], none⟩] [0, 1, 7, 8])
  (.block 0
    (.loop [0, 1, 7, 8]
      (.seq
      (.region [
        ⟨some 9, (.bin .lss), [(.tmp 8), (.tmp 7)], none⟩] [0, 1, 7, 8, 9])
      (.seq
      (.cond (.tmp 9)
        .skip
        (.exit 0))
      (.seq
      (.block 1
        (.seq
        (.region [
          ⟨some 10, .mv, [(.tmp 8)], none⟩,
          ⟨some 5, .mv, [(.tmp 10)], none⟩] [0, 1, 5, 7, 8])
        (.seq
        (.region [
          ⟨some 11, .mv, [(.tmp 1)], none⟩,
          ⟨some 12, .mv, [(.tmp 0)], none⟩,
          ⟨some 13, .mv, [(.tmp 5)], none⟩,
          ⟨some 14, (.indexAddr none 1), [(.tmp 12), (.tmp 13)], none⟩,
          ⟨some 15, (.load false 1), [(.tmp 14)], none⟩,
          ⟨some 16, (.bin .eql), [(.tmp 11), (.tmp 15)], none⟩] [0, 1, 5, 7, 8, 16])
        (.cond (.tmp 16)
          (.seq
          (.region [
            ⟨some 17, .mv, [(.tmp 5)], none⟩,
            ⟨some 4, .mv, [(.tmp 17)], none⟩] [4])
          .ret)
          .skip))))
      (.region [
        ⟨some 18, (.bin .add), [(.tmp 8), (.const (.int .i64 1))], none⟩,
        ⟨some 8, .mv, [(.tmp 18)], none⟩] [0, 1, 7, 8])))))))
  (.seq
  (.region [
    ⟨some 4, .mv, [(.const (.int .i64 (-1)))], none⟩] [4])
  .ret)))
def f97 : Ev.Fn := ⟨2, 19, [.tmp 4], k97⟩
set_option maxRecDepth 100000 in
theorem e97 : compFn prog sig 97 2 [[0, 1], [0, 1, 7, 8], [0, 1, 7, 8], [0, 1, 7, 8, 9], [0, 1, 5, 7, 8], [0, 1, 5, 7, 8, 16], [4], [0, 1, 7, 8], [4]] = some f97 := by kernel_rfl
noncomputable def slices_Index_int_int_L1 (s_0 : Sl Int) (v_1 : Int) : Int → Option (Sum (Int) (Sum (Int) (Unit))) := fun i1 =>
  bif decide (i1 < (s_0.l.length : Int)) then ((ixI i1 s_0.l.length).bind fun n7 =>
  bif (v_1 == (gt s_0.l n7)) then (some (.inr (.inl i1))) else
  (some (.inl (wr .i64 (i1 + 1))))) else
  (some (.inr (.inr ())))

noncomputable def slices_Index_int_int (s_0 : Sl Int) (v_1 : Int) : Option (Int) :=
  (loopO (slices_Index_int_int_L1 s_0 v_1) 0).bind fun
  | .inl i3 => (some i3)
  | .inr (_) => (some (-1))
theorem slices_Index_int_int_ok {s_0 : Sl Int} {v_1 : Int} {z : Int} (hp : slices_Index_int_int s_0 v_1 = some z) : Good prog 97 [.d (slD 1 cI_i64 s_0), .d (.lit (.int .i64 v_1))] [.c (.d (.lit (.int .i64 z)))] [] := by
  unfold slices_Index_int_int at hp
  refine fn_good mixed e97 (fnS (m := [false]) (s := ⟨[(0, .c (.d (slD 1 cI_i64 s_0))), (1, .c (.d (.lit (.int .i64 v_1))))], [], 0, []⟩) (len := 0) (c := k97) rfl (Sub.of_eq rfl) rfl rfl ?_)
  refine w_seq ?_
  refine w_region ?_
  refine o1 rfl ?_
  refine o_end (e' := [(0, .c (.d (slD 1 cI_i64 s_0))), (1, .c (.d (.lit (.int .i64 v_1))))]) rfl rfl ?_
  refine after_n ?_
  refine w_seq ?_
  refine w_seq ?_
  refine w_region ?_
  refine o1 rfl ?_
  refine o1 (v := .c (.d (.lit (.int .i64 (s_0.l.length : Int))))) len_sd ?_
  refine o1 rfl ?_
  refine o_end (e' := [(0, .c (.d (slD 1 cI_i64 s_0))), (1, .c (.d (.lit (.int .i64 v_1)))), (7, .c (.d (.lit (.int .i64 (s_0.l.length : Int))))), (8, .c (.d (.lit (.int .i64 0))))]) rfl rfl ?_
  refine after_n ?_
  refine w_block ?_
  obtain ⟨x4, h5, hp⟩ := bnd hp
  refine W.mono ?_ (w_loopS (st := fun (v : Int) => match v with | i1 => ⟨[(0, .c (.d (slD 1 cI_i64 s_0))), (1, .c (.d (.lit (.int .i64 v_1)))), (7, .c (.d (.lit (.int .i64 (s_0.l.length : Int))))), (8, .c (.d (.lit (.int .i64 i1))))], [], 0, []⟩) (a := 0) (Q := Jn (fun (x : Sum (Int) (Unit)) o s => match x with | .inl i3 => o = Out.ret ∧ Sub s ⟨[(4, .c (.d (.lit (.int .i64 i3))))], [], 0, []⟩ | .inr (_) => o = Out.exit 0 ∧ Sub s ⟨[], [], 0, []⟩)) ?_ h5 ?_)
  · intro o s hs10
    rcases x4 with (i3 | _)
    · obtain ⟨rfl, hs10⟩ := hs10
      refine out_r ?_
      refine after_r ?_
      obtain rfl := Option.some.inj hp
      refine wk.sub hs10 ?_
      exact leave_at rfl rfl (pr_c p_d pr_nil) pc_nil rfl rfl
    · obtain ⟨rfl, hs10⟩ := hs10
      refine out_e ?_
      refine after_n ?_
      refine W.sub hs10 ?_
      refine w_seq ?_
      refine w_region ?_
      refine o1 rfl ?_
      refine o_end (e' := [(4, .c (.d (.lit (.int .i64 (-1)))))]) rfl rfl ?_
      refine after_n ?_
      refine w_ret ?_
      obtain rfl := Option.some.inj hp
      exact leave_at rfl rfl (pr_c p_d pr_nil) pc_nil rfl rfl
  · exact (sub_ren [] [0, 1, 7, 8] (by decide) rfl .nil (Nat.le_of_ble_eq_true rfl))
  · rintro i1 r hr
    unfold slices_Index_int_int_L1 at hr
    refine w_seq ?_
    refine w_region ?_
    refine o1 (v := .c (.d (.lit (.bool (decide (i1 < (s_0.l.length : Int))))))) rfl ?_
    refine o_end (e' := [(0, .c (.d (slD 1 cI_i64 s_0))), (1, .c (.d (.lit (.int .i64 v_1)))), (7, .c (.d (.lit (.int .i64 (s_0.l.length : Int))))), (8, .c (.d (.lit (.int .i64 i1)))), (9, .c (.d (.lit (.bool (decide (i1 < (s_0.l.length : Int)))))))]) rfl rfl ?_
    refine after_n ?_
    refine w_seq ?_
    refine w_cond (t := decide (i1 < (s_0.l.length : Int))) rfl (fun hb6 => ?_) (fun hb6 => ?_)
    · have hr := cnd_t hb6 hr
      refine w_skip ?_
      refine after_n ?_
      refine w_seq ?_
      refine w_block ?_
      refine w_seq ?_
      refine w_region ?_
      iterate 2 refine o1 rfl ?_
      refine o_end (e' := [(0, .c (.d (slD 1 cI_i64 s_0))), (1, .c (.d (.lit (.int .i64 v_1)))), (5, .c (.d (.lit (.int .i64 i1)))), (7, .c (.d (.lit (.int .i64 (s_0.l.length : Int))))), (8, .c (.d (.lit (.int .i64 i1))))]) rfl rfl ?_
      refine after_n ?_
      refine w_seq ?_
      obtain ⟨n7, h8, hr⟩ := bnd hr
      refine w_region ?_
      iterate 3 refine o1 rfl ?_
      refine o1 (ix_sd h8) ?_
      refine o1 rfl ?_
      refine o1 (v := .c (.d (.lit (.bool (v_1 == (gt s_0.l n7)))))) rfl ?_
      refine o_end (e' := [(0, .c (.d (slD 1 cI_i64 s_0))), (1, .c (.d (.lit (.int .i64 v_1)))), (5, .c (.d (.lit (.int .i64 i1)))), (7, .c (.d (.lit (.int .i64 (s_0.l.length : Int))))), (8, .c (.d (.lit (.int .i64 i1)))), (16, .c (.d (.lit (.bool (v_1 == (gt s_0.l n7))))))]) rfl rfl ?_
      refine after_n ?_
      refine w_cond (t := (v_1 == (gt s_0.l n7))) rfl (fun hb9 => ?_) (fun hb9 => ?_)
      · have hr := cnd_t hb9 hr
        refine w_seq ?_
        refine w_region ?_
        iterate 2 refine o1 rfl ?_
        refine o_end (e' := [(4, .c (.d (.lit (.int .i64 i1))))]) rfl rfl ?_
        refine after_n ?_
        refine w_ret ?_
        refine out_r ?_
        refine after_r ?_
        obtain rfl := Option.some.inj hr
        exact And.intro nofun (And.intro rfl (sub_ren [] [4] (by decide) rfl .nil (Nat.le_of_ble_eq_true rfl)))
      · have hr := cnd_f hb9 hr
        refine w_skip ?_
        refine out_n ?_
        refine after_n ?_
        refine w_region ?_
        refine o1 (v := .c (.d (.lit (.int .i64 (wr .i64 (i1 + 1)))))) rfl ?_
        refine o1 rfl ?_
        refine o_end (e' := [(0, .c (.d (slD 1 cI_i64 s_0))), (1, .c (.d (.lit (.int .i64 v_1)))), (7, .c (.d (.lit (.int .i64 (s_0.l.length : Int))))), (8, .c (.d (.lit (.int .i64 (wr .i64 (i1 + 1))))))]) rfl rfl ?_
        obtain rfl := Option.some.inj hr
        exact And.intro rfl (sub_ren [] [0, 1, 7, 8] (by decide) rfl .nil (Nat.le_of_ble_eq_true rfl))
    · have hr := cnd_f hb6 hr
      refine w_exit ?_
      refine after_e ?_
      obtain rfl := Option.some.inj hr
      exact And.intro nofun (And.intro rfl (sub_ren [] [] (by decide) rfl .nil (Nat.le_of_ble_eq_true rfl)))

/- slices.Contains[[]int,int] -/
def k79 : CC :=
  (.seq
  (.region [
    ⟨some 4, .mv, [(.const (.bool false))], none⟩] [0, 1])
  (.seq
  (.region [
    ⟨some 5, .mv, [(.tmp 0)], none⟩,
    ⟨some 6, .mv, [(.tmp 1)], none⟩,
    ⟨some 7, (.call true []), [(.func 97), (.tmp 5), (.tmp 6)], none⟩,
    ⟨some 8, (.bin .geq), [(.tmp 7), (.const (.int .i64 0))], none⟩,
    ⟨some 4, .mv, [(.tmp 8)], none⟩] [4])
  .ret))
def f79 : Ev.Fn := ⟨2, 9, [.tmp 4], k79⟩
set_option maxRecDepth 100000 in
theorem e79 : compFn prog sig 79 2 [[0, 1], [4]] = some f79 := by kernel_rfl
noncomputable def slices_Contains_int_int (s_0 : Sl Int) (v_1 : Int) : Option (Bool) :=
  (slices_Index_int_int s_0 v_1).bind fun r1 =>
  some (decide (r1 ≥ 0))
theorem slices_Contains_int_int_ok {s_0 : Sl Int} {v_1 : Int} {z : Bool} (hp : slices_Contains_int_int s_0 v_1 = some z) : Good prog 79 [.d (slD 1 cI_i64 s_0), .d (.lit (.int .i64 v_1))] [.c (.d (.lit (.bool z)))] [] := by
  unfold slices_Contains_int_int at hp
  refine fn_good mixed e79 (fnS (m := [false]) (s := ⟨[(0, .c (.d (slD 1 cI_i64 s_0))), (1, .c (.d (.lit (.int .i64 v_1))))], [], 0, []⟩) (len := 0) (c := k79) rfl (Sub.of_eq rfl) rfl rfl ?_)
  refine w_seq ?_
  refine w_region ?_
  refine o1 rfl ?_
  refine o_end (e' := [(0, .c (.d (slD 1 cI_i64 s_0))), (1, .c (.d (.lit (.int .i64 v_1))))]) rfl rfl ?_
  refine after_n ?_
  refine w_seq ?_
  obtain ⟨r1, h2, hp⟩ := bnd hp
  refine w_region ?_
  iterate 2 refine o1 rfl ?_
  refine oc (rs := [.c (.d (.lit (.int .i64 r1)))]) (outs := []) rfl (slices_Index_int_int_ok h2) rfl ?_
  refine o1 (v := .c (.d (.lit (.bool (decide (r1 ≥ 0)))))) rfl ?_
  refine o1 rfl ?_
  refine o_end (e' := [(4, .c (.d (.lit (.bool (decide (r1 ≥ 0))))))]) rfl rfl ?_
  refine after_n ?_
  refine w_ret ?_
  obtain rfl := Option.some.inj hp
  exact leave_at rfl rfl (pr_c p_d pr_nil) pc_nil rfl rfl

/- turnout/route.twice[int] -/
def k52 : CC :=
  (.seq
  (.region [
    ⟨some 2, .mv, [(.const (.bool false))], none⟩] [0])
  (.seq
  (.drawn [
    ⟨some 3, .mv, [(.tmp 0)], none⟩,
    ⟨some 4, (.len false), [(.tmp 3)], none⟩,
    ⟨some 5, (.bin .gtr), [(.tmp 4), (.const (.int .i64 0))], none⟩,
    ⟨some 6, .mv, [(.tmp 5)], none⟩,
    ⟨some 7, .mv, [(.tmp 0)], (some (6, true))⟩,
    ⟨some 8, .mv, [(.tmp 0)], (some (6, true))⟩,
    ⟨some 9, (.len false), [(.tmp 8)], (some (6, true))⟩,
    ⟨some 10, (.bin .sub), [(.tmp 9), (.const (.int .i64 1))], (some (6, true))⟩,
    ⟨some 11, (.slice false 1 false true), [(.tmp 7), (.tmp 10)], (some (6, true))⟩,
    ⟨some 12, .mv, [(.tmp 0)], (some (6, true))⟩,
    ⟨some 13, .mv, [(.tmp 0)], (some (6, true))⟩,
    ⟨some 14, (.len false), [(.tmp 13)], (some (6, true))⟩,
    ⟨some 15, (.bin .sub), [(.tmp 14), (.const (.int .i64 1))], (some (6, true))⟩,
    ⟨some 16, (.indexAddr none 1), [(.tmp 12), (.tmp 15)], (some (6, true))⟩,
    ⟨some 17, (.load false 1), [(.tmp 16)], (some (6, true))⟩,
    ⟨some 18, (.call true []), [(.func 79), (.tmp 11), (.tmp 17)], (some (6, true))⟩,
    ⟨some 19, .pick, [(.tmp 6), (.tmp 18), (.const (.bool false))], none⟩,
    ⟨some 2, .mv, [(.tmp 19)], none⟩] [] [2])
  .ret))
def f52 : Ev.Fn := ⟨1, 20, [.tmp 2], k52⟩
set_option maxRecDepth 100000 in
theorem e52 : compFn prog sig 52 1 [[0], [2]] = some f52 := by kernel_rfl
noncomputable def route_twice_int (l_0 : Sl Int) : Option (Bool) :=
  (bif decide ((l_0.l.length : Int) > 0) then ((cutI l_0.l 0 (wr .i64 ((l_0.l.length : Int) - 1))).bind fun l1 =>
  (ixI (wr .i64 ((l_0.l.length : Int) - 1)) l_0.l.length).bind fun n3 =>
  (slices_Contains_int_int (l_0.to l1) (gt l_0.l n3)).bind fun r5 =>
  some r5) else (some false)).bind fun b7 =>
  some b7
theorem route_twice_int_ok {l_0 : Sl Int} {z : Bool} (hp : route_twice_int l_0 = some z) : Good prog 52 [.d (slD 1 cI_i64 l_0)] [.c (.d (.lit (.bool z)))] [] := by
  unfold route_twice_int at hp
  refine fn_good mixed e52 (fnS (m := [false]) (s := ⟨[(0, .c (.d (slD 1 cI_i64 l_0)))], [], 0, []⟩) (len := 0) (c := k52) rfl (Sub.of_eq rfl) rfl rfl ?_)
  refine w_seq ?_
  refine w_region ?_
  refine o1 rfl ?_
  refine o_end (e' := [(0, .c (.d (slD 1 cI_i64 l_0)))]) rfl rfl ?_
  refine after_n ?_
  refine w_seq ?_
  obtain ⟨b7, h8, hp⟩ := bnd hp
  refine w_join (J := fun s => Sub s ⟨[(2, .c (.d (.lit (.bool b7))))], [], 0, []⟩) ?_ ?_
  · refine w_drawn ?_
    refine d1 rfl ?_
    refine d1 (v := .c (.d (.lit (.int .i64 (l_0.l.length : Int))))) len_sd ?_
    refine d1 (v := .c (.d (.lit (.bool (decide ((l_0.l.length : Int) > 0)))))) rfl ?_
    refine d1 rfl ?_
    cases hb9 : (decide ((l_0.l.length : Int) > 0) : Bool)
    · have h8 := cnd_f hb9 h8
      iterate 12 refine dnot rfl rfl ?_
      iterate 2 refine d1 rfl ?_
      cases h8
      exact d_join rfl (sub_ren [] [2] (by decide) rfl .nil (Nat.le_of_ble_eq_true rfl))
    · have h8 := cnd_t hb9 h8
      obtain ⟨l1, h2, h8⟩ := bnd h8
      obtain ⟨n3, h4, h8⟩ := bnd h8
      obtain ⟨r5, h6, h8⟩ := bnd h8
      iterate 2 refine dg rfl rfl rfl ?_
      refine dg (v := .c (.d (.lit (.int .i64 (l_0.l.length : Int))))) rfl rfl len_sd ?_
      refine dg (v := .c (.d (.lit (.int .i64 (wr .i64 ((l_0.l.length : Int) - 1)))))) rfl rfl rfl ?_
      refine dg rfl rfl (cut_sdft h2) ?_
      iterate 2 refine dg rfl rfl rfl ?_
      refine dg (v := .c (.d (.lit (.int .i64 (l_0.l.length : Int))))) rfl rfl len_sd ?_
      refine dg (v := .c (.d (.lit (.int .i64 (wr .i64 ((l_0.l.length : Int) - 1)))))) rfl rfl rfl ?_
      refine dg rfl rfl (ix_sd h4) ?_
      refine dg rfl rfl rfl ?_
      refine dcg (rs := [.c (.d (.lit (.bool r5)))]) (outs := []) rfl rfl rfl (slices_Contains_int_int_ok h6) rfl (Nat.le_of_ble_eq_true rfl) ?_
      iterate 2 refine d1 rfl ?_
      cases h8
      exact d_join rfl (sub_ren [] [2] (by decide) rfl .nil (Nat.le_of_ble_eq_true rfl))
  · intro s hs10
    refine after_n ?_
    refine W.sub hs10 ?_
    refine w_ret ?_
    obtain rfl := Option.some.inj hp
    exact leave_at rfl rfl (pr_c p_d pr_nil) pc_nil rfl rfl

/- turnout/topo.Peer -/
def k37 : CC :=
  (.seq
  (.region [
    ⟨some 3, .box, [(.tmp 0)], none⟩,
    ⟨some 6, .mv, [(.const (.int .i64 0))], none⟩,
    ⟨some 7, .mv, [(.const (.int .i64 0))], none⟩,
    ⟨some 8, .mv, [(.const (.int .i64 0))], none⟩,
    ⟨some 9, .mv, [(.const (.bool false))], none⟩] [1, 2, 3])
  (.seq
  (.region [
    ⟨some 15, .mv, [(.tmp 1)], none⟩,
    ⟨some 16, .mv, [(.tmp 2)], none⟩,
    ⟨some 17, (.build [(.int .i64 0), (.int .i64 0)] [(0, 1), (1, 1)]), [(.tmp 15), (.tmp 16)], none⟩,
    ⟨some 10, (.alloc [(.int .i64 0), (.int .i64 0)]), [], none⟩,
    ⟨none, (.store 2), [(.tmp 10), (.tmp 17)], none⟩] [3, 10])
  (.seq
  (.seq
  (.region [
    ⟨some 18, (.fieldAddr 1), [(.tmp 3)], none⟩,
    ⟨some 19, (.load false 1), [(.tmp 18)], none⟩,
    ⟨some 20, (.len false), [(.tmp 19)], none⟩,
    ⟨some 21, .mv, [(.const (.int .i64 0))], none⟩] [10, 19, 20, 21])
  (.block 0
    (.loop [10, 19, 20, 21]
      (.seq
      (.region [
        ⟨some 22, (.bin .lss), [(.tmp 21), (.tmp 20)], none⟩] [10, 19, 20, 21, 22])
      (.seq
      (.cond (.tmp 22)
        .skip
        (.exit 0))
      (.seq
      (.block 1
        (.seq
        (.region [
          ⟨some 23, .mv, [(.tmp 21)], none⟩,
          ⟨some 24, (.indexAddr none 6), [(.tmp 19), (.tmp 21)], none⟩,
          ⟨some 25, (.load true 6), [(.tmp 24)], none⟩,
          ⟨some 12, (.alloc [(.int .i64 0), (.int .i64 0), (.int .i64 0), (.int .i64 0), (.int .i64 0), (.int .i64 0)]), [], none⟩,
          ⟨some 11, .mv, [(.tmp 23)], none⟩,
          ⟨none, (.store 6), [(.tmp 12), (.tmp 25)], none⟩] [10, 11, 12, 19, 20, 21])
        (.seq
        (.drawn [
          ⟨some 26, (.fieldAddr 0), [(.tmp 12)], none⟩,
          ⟨some 27, (.load false 1), [(.tmp 26)], none⟩,
          ⟨some 28, (.fieldAddr 1), [(.tmp 12)], none⟩,
          ⟨some 29, (.load false 1), [(.tmp 28)], none⟩,
          ⟨some 30, (.build [(.int .i64 0), (.int .i64 0)] [(0, 1), (1, 1)]), [(.tmp 27), (.tmp 29)], none⟩,
          ⟨some 31, (.fieldAddr 2), [(.tmp 12)], none⟩,
          ⟨some 32, (.load false 1), [(.tmp 31)], none⟩,
          ⟨some 33, (.fieldAddr 3), [(.tmp 12)], none⟩,
          ⟨some 34, (.load false 1), [(.tmp 33)], none⟩,
          ⟨some 35, (.build [(.int .i64 0), (.int .i64 0)] [(0, 1), (1, 1)]), [(.tmp 32), (.tmp 34)], none⟩,
          ⟨some 13, (.alloc [(.int .i64 0), (.int .i64 0)]), [], none⟩,
          ⟨some 14, (.alloc [(.int .i64 0), (.int .i64 0)]), [], none⟩,
          ⟨none, (.store 2), [(.tmp 13), (.tmp 30)], none⟩,
          ⟨none, (.store 2), [(.tmp 14), (.tmp 35)], none⟩] [(1, 10), (1, 11), (3, 10), (3, 11), (6, 10), (6, 11), (6, 12), (8, 10), (8, 11), (8, 12), (10, 11)] [10, 11, 13, 14, 19, 20, 21])
        (.seq
        (.region [
          ⟨some 36, (.load true 2), [(.tmp 10)], none⟩] [10, 11, 13, 14, 19, 20, 21, 36])
        (.block 2
          (.seq
          (.region [
            ⟨some 38, (.load true 2), [(.tmp 13)], none⟩,
            ⟨some 39, (.eqAgg false [(.i .i64), (.i .i64)]), [(.tmp 36), (.tmp 38)], none⟩,
            ⟨some 37, .mv, [(.tmp 39)], none⟩] [10, 11, 13, 14, 19, 20, 21, 36, 37])
          (.cond (.tmp 37)
            (.seq
            (.drawn [
              ⟨some 40, (.fieldAddr 0), [(.tmp 14)], none⟩,
              ⟨some 41, (.load false 1), [(.tmp 40)], none⟩,
              ⟨some 42, (.fieldAddr 1), [(.tmp 14)], none⟩,
              ⟨some 43, (.load false 1), [(.tmp 42)], none⟩,
              ⟨some 44, .mv, [(.tmp 11)], none⟩,
              ⟨some 6, .mv, [(.tmp 41)], none⟩,
              ⟨some 7, .mv, [(.tmp 43)], none⟩,
              ⟨some 8, .mv, [(.tmp 44)], none⟩,
              ⟨some 9, .mv, [(.const (.bool true))], none⟩] [] [6, 7, 8, 9])
            .ret)
            (.seq
            (.region [
              ⟨some 46, (.load true 2), [(.tmp 14)], none⟩,
              ⟨some 47, (.eqAgg false [(.i .i64), (.i .i64)]), [(.tmp 36), (.tmp 46)], none⟩,
              ⟨some 45, .mv, [(.tmp 47)], none⟩] [10, 11, 13, 19, 20, 21, 45])
            (.cond (.tmp 45)
              (.seq
              (.drawn [
                ⟨some 48, (.fieldAddr 0), [(.tmp 13)], none⟩,
                ⟨some 49, (.load false 1), [(.tmp 48)], none⟩,
                ⟨some 50, (.fieldAddr 1), [(.tmp 13)], none⟩,
                ⟨some 51, (.load false 1), [(.tmp 50)], none⟩,
                ⟨some 52, .mv, [(.tmp 11)], none⟩,
                ⟨some 6, .mv, [(.tmp 49)], none⟩,
                ⟨some 7, .mv, [(.tmp 51)], none⟩,
                ⟨some 8, .mv, [(.tmp 52)], none⟩,
                ⟨some 9, .mv, [(.const (.bool true))], none⟩] [] [6, 7, 8, 9])
              .ret)
              .skip)))))))))
      (.region [
        ⟨some 53, (.bin .add), [(.tmp 21), (.const (.int .i64 1))], none⟩,
        ⟨some 21, .mv, [(.tmp 53)], none⟩] [10, 19, 20, 21])))))))
  (.seq
  (.region [
    ⟨some 6, .mv, [(.const (.int .i64 0))], none⟩,
    ⟨some 7, .mv, [(.const (.int .i64 0))], none⟩,
    ⟨some 8, .mv, [(.const (.int .i64 0))], none⟩,
    ⟨some 9, .mv, [(.const (.bool false))], none⟩] [6, 7, 8, 9])
  .ret))))
def f37 : Ev.Fn := ⟨3, 54, [.tmp 6, .tmp 7, .tmp 8, .tmp 9], k37⟩
set_option maxRecDepth 100000 in
theorem e37 : compFn prog sig 37 3 [[1, 2, 3], [3, 10], [10, 19, 20, 21], [10, 19, 20, 21], [10, 19, 20, 21, 22], [10, 11, 12, 19, 20, 21], [10, 11, 13, 14, 19, 20, 21], [10, 11, 13, 14, 19, 20, 21, 36], [10, 11, 13, 14, 19, 20, 21, 36, 37], [6, 7, 8, 9], [10, 11, 13, 19, 20, 21, 45], [6, 7, 8, 9], [10, 19, 20, 21], [6, 7, 8, 9]] = some f37 := by kernel_rfl
noncomputable def topo_Peer_L1 (t_0 : api_Topo) (sw_1 : Int) (port_2 : Int) : Int → Option (Sum (Int) (Sum ((Int × Int × Int)) (Unit))) := fun i1 =>
  bif decide (i1 < (t_0.Links.l.length : Int)) then ((ixI i1 t_0.Links.l.length).bind fun n9 =>
  bif ((sw_1 == ((gt t_0.Links.l n9).A)) && ((port_2 == ((gt t_0.Links.l n9).PortA)) && true)) then (some (.inr (.inl ((gt t_0.Links.l n9).B, (gt t_0.Links.l n9).PortB, i1)))) else
  (bif ((sw_1 == ((gt t_0.Links.l n9).B)) && ((port_2 == ((gt t_0.Links.l n9).PortB)) && true)) then (some (.inr (.inl ((gt t_0.Links.l n9).A, (gt t_0.Links.l n9).PortA, i1)))) else
  (some (.inl (wr .i64 (i1 + 1)))))) else
  (some (.inr (.inr ())))

noncomputable def topo_Peer (t_0 : api_Topo) (sw_1 : Int) (port_2 : Int) : Option ((Int × Int × Int × Bool)) :=
  (loopO (topo_Peer_L1 t_0 sw_1 port_2) 0).bind fun
  | .inl (i3, i4, i5) => (some (i3, i4, i5, true))
  | .inr (_) => (some (0, 0, 0, false))
theorem topo_Peer_ok {t_0 : api_Topo} {sw_1 : Int} {port_2 : Int} {z : (Int × Int × Int × Bool)} (hp : topo_Peer t_0 sw_1 port_2 = some z) : Good prog 37 [.agg (c_api_Topo t_0), .d (.lit (.int .i64 sw_1)), .d (.lit (.int .i64 port_2))] [.c (.d (.lit (.int .i64 z.1))), .c (.d (.lit (.int .i64 z.2.1))), .c (.d (.lit (.int .i64 z.2.2.1))), .c (.d (.lit (.bool z.2.2.2)))] [] := by
  unfold topo_Peer at hp
  refine fn_good mixed e37 (fnS (m := [false, false, false, false]) (s := ⟨[(0, .agg [.d (.lit (.int .i64 t_0.Switches)), .d (slD 6 c_api_Link t_0.Links), .d (slD 2 c_api_Host t_0.Hosts)]), (1, .c (.d (.lit (.int .i64 sw_1)))), (2, .c (.d (.lit (.int .i64 port_2))))], [], 0, []⟩) (len := 0) (c := k37) rfl (Sub.of_eq rfl) rfl rfl ?_)
  refine w_seq ?_
  refine w_region ?_
  refine o2 rfl ?_
  iterate 4 refine o1 rfl ?_
  refine o_end (e' := [(1, .c (.d (.lit (.int .i64 sw_1)))), (2, .c (.d (.lit (.int .i64 port_2)))), (3, .c (.op 0 0))]) rfl rfl ?_
  refine after_n ?_
  refine w_seq ?_
  refine w_region ?_
  iterate 3 refine o1 rfl ?_
  refine o2 rfl ?_
  refine o0 rfl ?_
  refine o_end (e' := [(3, .c (.op 0 0)), (10, .c (.op 1 0))]) rfl rfl ?_
  refine after_n ?_
  refine w_seq ?_
  refine w_seq ?_
  refine w_region ?_
  iterate 2 refine o1 rfl ?_
  refine o1 (v := .c (.d (.lit (.int .i64 (t_0.Links.l.length : Int))))) len_sd ?_
  refine o1 rfl ?_
  refine o_end (e' := [(10, .c (.op 1 0)), (19, .c (.d (slD 6 c_api_Link t_0.Links))), (20, .c (.d (.lit (.int .i64 (t_0.Links.l.length : Int))))), (21, .c (.d (.lit (.int .i64 0))))]) rfl rfl ?_
  refine after_n ?_
  refine w_block ?_
  obtain ⟨x6, h7, hp⟩ := bnd hp
  refine W.mono ?_ (w_loopS (st := fun (v : Int) => match v with | i1 => ⟨[(10, .c (.op 0 0)), (19, .c (.d (slD 6 c_api_Link t_0.Links))), (20, .c (.d (.lit (.int .i64 (t_0.Links.l.length : Int))))), (21, .c (.d (.lit (.int .i64 i1))))], [(0, some (.box [.d (.lit (.int .i64 sw_1)), .d (.lit (.int .i64 port_2))]))], 1, []⟩) (a := 0) (Q := Jn (fun (x : Sum ((Int × Int × Int)) (Unit)) o s => match x with | .inl (i3, i4, i5) => o = Out.ret ∧ Sub s ⟨[(6, .c (.d (.lit (.int .i64 i3)))), (7, .c (.d (.lit (.int .i64 i4)))), (8, .c (.d (.lit (.int .i64 i5)))), (9, .c (.d (.lit (.bool true))))], [], 0, []⟩ | .inr (_) => o = Out.exit 0 ∧ Sub s ⟨[], [], 0, []⟩)) ?_ h7 ?_)
  · intro o s hs13
    rcases x6 with (⟨i3, i4, i5⟩ | _)
    · obtain ⟨rfl, hs13⟩ := hs13
      refine out_r ?_
      refine after_r ?_
      obtain rfl := Option.some.inj hp
      refine wk.sub hs13 ?_
      exact leave_at rfl rfl (pr_c p_d (pr_c p_d (pr_c p_d (pr_c p_d pr_nil)))) pc_nil rfl rfl
    · obtain ⟨rfl, hs13⟩ := hs13
      refine out_e ?_
      refine after_n ?_
      refine W.sub hs13 ?_
      refine w_seq ?_
      refine w_region ?_
      iterate 4 refine o1 rfl ?_
      refine o_end (e' := [(6, .c (.d (.lit (.int .i64 0)))), (7, .c (.d (.lit (.int .i64 0)))), (8, .c (.d (.lit (.int .i64 0)))), (9, .c (.d (.lit (.bool false))))]) rfl rfl ?_
      refine after_n ?_
      refine w_ret ?_
      obtain rfl := Option.some.inj hp
      exact leave_at rfl rfl (pr_c p_d (pr_c p_d (pr_c p_d (pr_c p_d pr_nil)))) pc_nil rfl rfl
  · exact (sub_ren [1] [10, 19, 20, 21] (by decide) rfl (.cons .nil) (Nat.le_of_ble_eq_true rfl))
  · rintro i1 r hr
    unfold topo_Peer_L1 at hr
    refine w_seq ?_
    refine w_region ?_
    refine o1 (v := .c (.d (.lit (.bool (decide (i1 < (t_0.Links.l.length : Int))))))) rfl ?_
    refine o_end (e' := [(10, .c (.op 0 0)), (19, .c (.d (slD 6 c_api_Link t_0.Links))), (20, .c (.d (.lit (.int .i64 (t_0.Links.l.length : Int))))), (21, .c (.d (.lit (.int .i64 i1)))), (22, .c (.d (.lit (.bool (decide (i1 < (t_0.Links.l.length : Int)))))))]) rfl rfl ?_
    refine after_n ?_
    refine w_seq ?_
    refine w_cond (t := decide (i1 < (t_0.Links.l.length : Int))) rfl (fun hb8 => ?_) (fun hb8 => ?_)
    · have hr := cnd_t hb8 hr
      refine w_skip ?_
      refine after_n ?_
      refine w_seq ?_
      refine w_block ?_
      refine w_seq ?_
      obtain ⟨n9, h10, hr⟩ := bnd hr
      refine w_region ?_
      refine o1 rfl ?_
      refine o1 (ix_sd h10) ?_
      refine o1 rfl ?_
      refine o2 rfl ?_
      refine o1 rfl ?_
      refine o0 rfl ?_
      refine o_end (e' := [(10, .c (.op 0 0)), (11, .c (.d (.lit (.int .i64 i1)))), (12, .c (.op 1 0)), (19, .c (.d (slD 6 c_api_Link t_0.Links))), (20, .c (.d (.lit (.int .i64 (t_0.Links.l.length : Int))))), (21, .c (.d (.lit (.int .i64 i1))))]) rfl rfl ?_
      refine after_n ?_
      refine w_seq ?_
      refine w_drawn ?_
      iterate 10 refine d1 rfl ?_
      refine d2 rfl (Nat.le_of_ble_eq_true rfl) ?_
      refine d2 rfl (Nat.le_of_ble_eq_true rfl) ?_
      refine d0 rfl (Nat.le_of_ble_eq_true rfl) ?_
      refine d0 rfl (Nat.le_of_ble_eq_true rfl) ?_
      refine d_fin (e' := [(10, .c (.op 0 0)), (11, .c (.d (.lit (.int .i64 i1)))), (13, .c (.op 642 0)), (14, .c (.op 706 0)), (19, .c (.d (slD 6 c_api_Link t_0.Links))), (20, .c (.d (.lit (.int .i64 (t_0.Links.l.length : Int))))), (21, .c (.d (.lit (.int .i64 i1))))]) (n' := 898) rfl rfl rfl rfl ?_
      refine after_n ?_
      refine w_seq ?_
      refine w_region ?_
      refine o1 rfl ?_
      refine o_end (e' := [(10, .c (.op 0 0)), (11, .c (.d (.lit (.int .i64 i1)))), (13, .c (.op 642 0)), (14, .c (.op 706 0)), (19, .c (.d (slD 6 c_api_Link t_0.Links))), (20, .c (.d (.lit (.int .i64 (t_0.Links.l.length : Int))))), (21, .c (.d (.lit (.int .i64 i1)))), (36, .agg [.d (.lit (.int .i64 sw_1)), .d (.lit (.int .i64 port_2))])]) rfl rfl ?_
      refine after_n ?_
      refine w_block ?_
      refine w_seq ?_
      refine w_region ?_
      refine o1 rfl ?_
      refine o1 (v := .c (.d (.lit (.bool ((sw_1 == ((gt t_0.Links.l n9).A)) && ((port_2 == ((gt t_0.Links.l n9).PortA)) && true)))))) rfl ?_
      refine o1 rfl ?_
      refine o_end (e' := [(10, .c (.op 0 0)), (11, .c (.d (.lit (.int .i64 i1)))), (13, .c (.op 642 0)), (14, .c (.op 706 0)), (19, .c (.d (slD 6 c_api_Link t_0.Links))), (20, .c (.d (.lit (.int .i64 (t_0.Links.l.length : Int))))), (21, .c (.d (.lit (.int .i64 i1)))), (36, .agg [.d (.lit (.int .i64 sw_1)), .d (.lit (.int .i64 port_2))]), (37, .c (.d (.lit (.bool ((sw_1 == ((gt t_0.Links.l n9).A)) && ((port_2 == ((gt t_0.Links.l n9).PortA)) && true))))))]) rfl rfl ?_
      refine after_n ?_
      refine w_cond (t := ((sw_1 == ((gt t_0.Links.l n9).A)) && ((port_2 == ((gt t_0.Links.l n9).PortA)) && true))) rfl (fun hb11 => ?_) (fun hb11 => ?_)
      · have hr := cnd_t hb11 hr
        refine w_seq ?_
        refine w_drawn ?_
        iterate 9 refine d1 rfl ?_
        refine d_fin (e' := [(6, .c (.d (.lit (.int .i64 ((gt t_0.Links.l n9).B))))), (7, .c (.d (.lit (.int .i64 ((gt t_0.Links.l n9).PortB))))), (8, .c (.d (.lit (.int .i64 i1)))), (9, .c (.d (.lit (.bool true))))]) (n' := 1474) rfl rfl rfl rfl ?_
        refine after_n ?_
        refine w_ret ?_
        refine out_r ?_
        refine out_r ?_
        refine after_r ?_
        obtain rfl := Option.some.inj hr
        exact And.intro nofun (And.intro rfl (sub_ren [] [6, 7, 8, 9] (by decide) rfl .nil (Nat.le_of_ble_eq_true rfl)))
      · have hr := cnd_f hb11 hr
        refine w_seq ?_
        refine w_region ?_
        refine o1 rfl ?_
        refine o1 (v := .c (.d (.lit (.bool ((sw_1 == ((gt t_0.Links.l n9).B)) && ((port_2 == ((gt t_0.Links.l n9).PortB)) && true)))))) rfl ?_
        refine o1 rfl ?_
        refine o_end (e' := [(10, .c (.op 0 0)), (11, .c (.d (.lit (.int .i64 i1)))), (13, .c (.op 642 0)), (19, .c (.d (slD 6 c_api_Link t_0.Links))), (20, .c (.d (.lit (.int .i64 (t_0.Links.l.length : Int))))), (21, .c (.d (.lit (.int .i64 i1)))), (45, .c (.d (.lit (.bool ((sw_1 == ((gt t_0.Links.l n9).B)) && ((port_2 == ((gt t_0.Links.l n9).PortB)) && true))))))]) rfl rfl ?_
        refine after_n ?_
        refine w_cond (t := ((sw_1 == ((gt t_0.Links.l n9).B)) && ((port_2 == ((gt t_0.Links.l n9).PortB)) && true))) rfl (fun hb12 => ?_) (fun hb12 => ?_)
        · have hr := cnd_t hb12 hr
          refine w_seq ?_
          refine w_drawn ?_
          iterate 9 refine d1 rfl ?_
          refine d_fin (e' := [(6, .c (.d (.lit (.int .i64 ((gt t_0.Links.l n9).A))))), (7, .c (.d (.lit (.int .i64 ((gt t_0.Links.l n9).PortA))))), (8, .c (.d (.lit (.int .i64 i1)))), (9, .c (.d (.lit (.bool true))))]) (n' := 1474) rfl rfl rfl rfl ?_
          refine after_n ?_
          refine w_ret ?_
          refine out_r ?_
          refine out_r ?_
          refine after_r ?_
          obtain rfl := Option.some.inj hr
          exact And.intro nofun (And.intro rfl (sub_ren [] [6, 7, 8, 9] (by decide) rfl .nil (Nat.le_of_ble_eq_true rfl)))
        · have hr := cnd_f hb12 hr
          refine w_skip ?_
          refine out_n ?_
          refine out_n ?_
          refine after_n ?_
          refine w_region ?_
          refine o1 (v := .c (.d (.lit (.int .i64 (wr .i64 (i1 + 1)))))) rfl ?_
          refine o1 rfl ?_
          refine o_end (e' := [(10, .c (.op 0 0)), (19, .c (.d (slD 6 c_api_Link t_0.Links))), (20, .c (.d (.lit (.int .i64 (t_0.Links.l.length : Int))))), (21, .c (.d (.lit (.int .i64 (wr .i64 (i1 + 1))))))]) rfl rfl ?_
          obtain rfl := Option.some.inj hr
          exact And.intro rfl (sub_ren [0] [10, 19, 20, 21] (by decide) rfl (.cons .nil) (Nat.le_of_ble_eq_true rfl))
    · have hr := cnd_f hb8 hr
      refine w_exit ?_
      refine after_e ?_
      obtain rfl := Option.some.inj hr
      exact And.intro nofun (And.intro rfl (sub_ren [] [] (by decide) rfl .nil (Nat.le_of_ble_eq_true rfl)))

/- turnout/route.Next -/
def k53 : CC :=
  (.seq
  (.region [
    ⟨some 4, .box, [(.tmp 0)], none⟩,
    ⟨some 8, .mv, [(.const (.int .i64 0))], none⟩,
    ⟨some 9, .mv, [(.const (.bool false))], none⟩] [1, 2, 3, 4])
  (.seq
  (.region [
    ⟨some 16, .mv, [(.tmp 1)], none⟩,
    ⟨some 17, .mv, [(.tmp 2)], none⟩,
    ⟨some 18, .mv, [(.tmp 3)], none⟩,
    ⟨some 19, (.call true []), [(.func 50), (.tmp 16), (.tmp 17), (.tmp 18)], none⟩,
    ⟨some 15, .mv, [(.tmp 19)], none⟩,
    ⟨some 20, (.extract 0), [(.tmp 15)], none⟩,
    ⟨some 21, (.extract 1), [(.tmp 15)], none⟩,
    ⟨some 10, .mv, [(.tmp 20)], none⟩,
    ⟨some 11, .mv, [(.tmp 21)], none⟩] [2, 4, 10, 11])
  (.seq
  (.seq
  (.region [
    ⟨some 22, .mv, [(.tmp 11)], none⟩,
    ⟨some 23, (.un .not), [(.tmp 22)], none⟩] [2, 4, 10, 23])
  (.cond (.tmp 23)
    (.seq
    (.region [
      ⟨some 8, .mv, [(.const (.int .i64 0))], none⟩,
      ⟨some 9, .mv, [(.const (.bool false))], none⟩] [8, 9])
    .ret)
    .skip))
  (.seq
  (.region [
    ⟨some 25, (.load true 3), [(.tmp 4)], none⟩,
    ⟨some 26, .mv, [(.tmp 2)], none⟩,
    ⟨some 27, .mv, [(.tmp 10)], none⟩,
    ⟨some 28, (.call true []), [(.func 37), (.tmp 25), (.tmp 26), (.tmp 27)], none⟩,
    ⟨some 24, .mv, [(.tmp 28)], none⟩,
    ⟨some 29, (.extract 0), [(.tmp 24)], none⟩,
    ⟨some 30, (.extract 1), [(.tmp 24)], none⟩,
    ⟨some 31, (.extract 2), [(.tmp 24)], none⟩,
    ⟨some 32, (.extract 3), [(.tmp 24)], none⟩,
    ⟨some 12, .mv, [(.tmp 29)], none⟩,
    ⟨some 13, .mv, [(.tmp 30)], none⟩,
    ⟨some 14, .mv, [(.tmp 31)], none⟩,
    ⟨some 11, .mv, [(.tmp 32)], none⟩] [11, 12])
  (.seq
  (.region [
    ⟨some 33, .mv, [(.tmp 12)], none⟩,
    ⟨some 34, .mv, [(.tmp 11)], none⟩,
    ⟨some 8, .mv, [(.tmp 33)], none⟩,
    ⟨some 9, .mv, [(.tmp 34)], none⟩] [8, 9])
  .ret)))))
def f53 : Ev.Fn := ⟨4, 35, [.tmp 8, .tmp 9], k53⟩
set_option maxRecDepth 100000 in
theorem e53 : compFn prog sig 53 4 [[1, 2, 3, 4], [2, 4, 10, 11], [2, 4, 10, 23], [8, 9], [11, 12], [8, 9]] = some f53 := by kernel_rfl
noncomputable def route_Next (t_0 : api_Topo) (r_1 : Sl (Sl Int)) (sw_2 : Int) (h_3 : Int) : Option ((Int × Bool)) :=
  (route_port r_1 sw_2 h_3).bind fun (r1, r2) =>
  bif (!r2) then (some (0, false)) else
  ((topo_Peer t_0 sw_2 r1).bind fun (r5, r6, r7, r8) =>
  some (r5, r8))
theorem route_Next_ok {t_0 : api_Topo} {r_1 : Sl (Sl Int)} {sw_2 : Int} {h_3 : Int} {z : (Int × Bool)} (hp : route_Next t_0 r_1 sw_2 h_3 = some z) : Good prog 53 [.agg (c_api_Topo t_0), .d (slD 1 cL_I_i64 r_1), .d (.lit (.int .i64 sw_2)), .d (.lit (.int .i64 h_3))] [.c (.d (.lit (.int .i64 z.1))), .c (.d (.lit (.bool z.2)))] [] := by
  unfold route_Next at hp
  refine fn_good mixed e53 (fnS (m := [false, false]) (s := ⟨[(0, .agg [.d (.lit (.int .i64 t_0.Switches)), .d (slD 6 c_api_Link t_0.Links), .d (slD 2 c_api_Host t_0.Hosts)]), (1, .c (.d (slD 1 cL_I_i64 r_1))), (2, .c (.d (.lit (.int .i64 sw_2)))), (3, .c (.d (.lit (.int .i64 h_3))))], [], 0, []⟩) (len := 0) (c := k53) rfl (Sub.of_eq rfl) rfl rfl ?_)
  refine w_seq ?_
  refine w_region ?_
  refine o2 rfl ?_
  iterate 2 refine o1 rfl ?_
  refine o_end (e' := [(1, .c (.d (slD 1 cL_I_i64 r_1))), (2, .c (.d (.lit (.int .i64 sw_2)))), (3, .c (.d (.lit (.int .i64 h_3)))), (4, .c (.op 0 0))]) rfl rfl ?_
  refine after_n ?_
  refine w_seq ?_
  obtain ⟨⟨r1, r2⟩, h3, hp⟩ := bnd hp
  refine w_region ?_
  iterate 3 refine o1 rfl ?_
  refine oc (rs := [.c (.d (.lit (.int .i64 r1))), .c (.d (.lit (.bool r2)))]) (outs := []) rfl (route_port_ok h3) rfl ?_
  iterate 5 refine o1 rfl ?_
  refine o_end (e' := [(2, .c (.d (.lit (.int .i64 sw_2)))), (4, .c (.op 0 0)), (10, .c (.d (.lit (.int .i64 r1)))), (11, .c (.d (.lit (.bool r2))))]) rfl rfl ?_
  refine after_n ?_
  refine w_seq ?_
  refine w_seq ?_
  refine w_region ?_
  refine o1 rfl ?_
  refine o1 (v := .c (.d (.lit (.bool (!r2))))) rfl ?_
  refine o_end (e' := [(2, .c (.d (.lit (.int .i64 sw_2)))), (4, .c (.op 0 0)), (10, .c (.d (.lit (.int .i64 r1)))), (23, .c (.d (.lit (.bool (!r2)))))]) rfl rfl ?_
  refine after_n ?_
  refine w_cond (t := (!r2)) rfl (fun hb4 => ?_) (fun hb4 => ?_)
  · have hp := cnd_t hb4 hp
    refine w_seq ?_
    refine w_region ?_
    iterate 2 refine o1 rfl ?_
    refine o_end (e' := [(8, .c (.d (.lit (.int .i64 0)))), (9, .c (.d (.lit (.bool false))))]) rfl rfl ?_
    refine after_n ?_
    refine w_ret ?_
    refine after_r ?_
    obtain rfl := Option.some.inj hp
    exact leave_at rfl rfl (pr_c p_d (pr_c p_d pr_nil)) pc_nil rfl rfl
  · have hp := cnd_f hb4 hp
    refine w_skip ?_
    refine after_n ?_
    refine w_seq ?_
    obtain ⟨⟨r5, r6, r7, r8⟩, h9, hp⟩ := bnd hp
    refine w_region ?_
    iterate 3 refine o1 rfl ?_
    refine oc (rs := [.c (.d (.lit (.int .i64 r5))), .c (.d (.lit (.int .i64 r6))), .c (.d (.lit (.int .i64 r7))), .c (.d (.lit (.bool r8)))]) (outs := []) rfl (topo_Peer_ok h9) rfl ?_
    iterate 9 refine o1 rfl ?_
    refine o_end (e' := [(11, .c (.d (.lit (.bool r8)))), (12, .c (.d (.lit (.int .i64 r5))))]) rfl rfl ?_
    refine after_n ?_
    refine w_seq ?_
    refine w_region ?_
    iterate 4 refine o1 rfl ?_
    refine o_end (e' := [(8, .c (.d (.lit (.int .i64 r5)))), (9, .c (.d (.lit (.bool r8))))]) rfl rfl ?_
    refine after_n ?_
    refine w_ret ?_
    obtain rfl := Option.some.inj hp
    exact leave_at rfl rfl (pr_c p_d (pr_c p_d pr_nil)) pc_nil rfl rfl

/- turnout/route.Walk -/
def k13 : CC :=
  (.seq
  (.region [
    ⟨some 4, .box, [(.tmp 0)], none⟩,
    ⟨some 8, .mv, [(.const (.slice none 0 0))], none⟩,
    ⟨some 9, .mv, [(.const (.int .i64 0))], none⟩] [1, 2, 3, 4])
  (.seq
  (.seq
  (.region [
    ⟨some 17, .mv, [(.tmp 1)], none⟩,
    ⟨some 18, .mv, [(.tmp 2)], none⟩,
    ⟨some 19, .mv, [(.tmp 3)], none⟩,
    ⟨some 20, (.call true []), [(.func 50), (.tmp 17), (.tmp 18), (.tmp 19)], none⟩,
    ⟨some 16, .mv, [(.tmp 20)], none⟩,
    ⟨some 21, (.extract 0), [(.tmp 16)], none⟩,
    ⟨some 22, (.extract 1), [(.tmp 16)], none⟩,
    ⟨some 10, .mv, [(.tmp 21)], none⟩,
    ⟨some 11, .mv, [(.tmp 22)], none⟩] [1, 2, 3, 4, 11])
  (.seq
  (.region [
    ⟨some 23, .mv, [(.tmp 11)], none⟩,
    ⟨some 24, (.un .not), [(.tmp 23)], none⟩,
    ⟨some 25, .mv, [(.tmp 24)], none⟩,
    ⟨some 26, (.load true 3), [(.tmp 4)], (some (25, false))⟩,
    ⟨some 27, .mv, [(.tmp 1)], (some (25, false))⟩,
    ⟨some 28, (.call true []), [(.func 51), (.tmp 26), (.tmp 27)], (some (25, false))⟩,
    ⟨some 29, (.un .not), [(.tmp 28)], (some (25, false))⟩,
    ⟨some 30, .pick, [(.tmp 25), (.const (.bool true)), (.tmp 29)], none⟩] [1, 2, 3, 4, 30])
  (.cond (.tmp 30)
    (.seq
    (.region [
      ⟨some 8, .mv, [(.const (.slice none 0 0))], none⟩,
      ⟨some 9, .mv, [(.const (.int .i64 2))], none⟩] [8, 9])
    .ret)
    .skip)))
  (.seq
  (.region [
    ⟨some 31, .mv, [(.tmp 2)], none⟩,
    ⟨some 32, (.buildSlice 1 1 [(.int .i64 0)] [0]), [(.tmp 31)], none⟩,
    ⟨some 12, .mv, [(.tmp 32)], none⟩] [1, 3, 4, 12])
  (.seq
  (.block 0
    (.loop [1, 3, 4, 12]
      (.seq
      (.seq
      (.region [
        ⟨some 33, .mv, [(.tmp 12)], none⟩,
        ⟨some 34, (.call true []), [(.func 52), (.tmp 33)], none⟩,
        ⟨some 35, (.un .not), [(.tmp 34)], none⟩] [1, 3, 4, 12, 35])
      (.cond (.tmp 35)
        .skip
        (.exit 0)))
      (.block 1
        (.seq
        (.region [
          ⟨some 36, .mv, [(.tmp 12)], none⟩,
          ⟨some 37, .mv, [(.tmp 12)], none⟩,
          ⟨some 38, (.len false), [(.tmp 37)], none⟩,
          ⟨some 39, (.bin .sub), [(.tmp 38), (.const (.int .i64 1))], none⟩,
          ⟨some 40, (.indexAddr none 1), [(.tmp 36), (.tmp 39)], none⟩,
          ⟨some 41, (.load false 1), [(.tmp 40)], none⟩,
          ⟨some 13, .mv, [(.tmp 41)], none⟩] [1, 3, 4, 12, 13])
        (.seq
        (.seq
        (.drawn [
          ⟨some 42, (.fieldAddr 2), [(.tmp 4)], none⟩,
          ⟨some 43, (.load false 1), [(.tmp 42)], none⟩,
          ⟨some 44, .mv, [(.tmp 3)], none⟩,
          ⟨some 45, (.indexAddr none 2), [(.tmp 43), (.tmp 44)], none⟩,
          ⟨some 46, (.load true 2), [(.tmp 45)], none⟩,
          ⟨some 47, .mv, [(.tmp 13)], none⟩,
          ⟨some 48, .mv, [(.tmp 1)], none⟩,
          ⟨some 49, .mv, [(.tmp 13)], none⟩,
          ⟨some 50, (.indexAddr none 1), [(.tmp 48), (.tmp 49)], none⟩,
          ⟨some 51, (.load false 1), [(.tmp 50)], none⟩,
          ⟨some 52, .mv, [(.tmp 3)], none⟩,
          ⟨some 53, (.indexAddr none 1), [(.tmp 51), (.tmp 52)], none⟩,
          ⟨some 54, (.load false 1), [(.tmp 53)], none⟩,
          ⟨some 55, (.build [(.int .i64 0), (.int .i64 0)] [(0, 1), (1, 1)]), [(.tmp 47), (.tmp 54)], none⟩,
          ⟨some 56, (.eqAgg false [(.i .i64), (.i .i64)]), [(.tmp 46), (.tmp 55)], none⟩] [] [1, 3, 4, 12, 13, 56])
        (.cond (.tmp 56)
          (.seq
          (.region [
            ⟨some 57, .mv, [(.tmp 12)], none⟩,
            ⟨some 8, .mv, [(.tmp 57)], none⟩,
            ⟨some 9, .mv, [(.const (.int .i64 0))], none⟩] [8, 9])
          .ret)
          .skip))
        (.seq
        (.region [
          ⟨some 59, (.load true 3), [(.tmp 4)], none⟩,
          ⟨some 60, .mv, [(.tmp 1)], none⟩,
          ⟨some 61, .mv, [(.tmp 13)], none⟩,
          ⟨some 62, .mv, [(.tmp 3)], none⟩,
          ⟨some 63, (.call true []), [(.func 53), (.tmp 59), (.tmp 60), (.tmp 61), (.tmp 62)], none⟩,
          ⟨some 58, .mv, [(.tmp 63)], none⟩,
          ⟨some 64, (.extract 0), [(.tmp 58)], none⟩,
          ⟨some 65, (.extract 1), [(.tmp 58)], none⟩,
          ⟨some 14, .mv, [(.tmp 64)], none⟩,
          ⟨some 15, .mv, [(.tmp 65)], none⟩] [1, 3, 4, 12, 14, 15])
        (.seq
        (.seq
        (.region [
          ⟨some 66, .mv, [(.tmp 15)], none⟩,
          ⟨some 67, (.un .not), [(.tmp 66)], none⟩] [1, 3, 4, 12, 14, 67])
        (.cond (.tmp 67)
          (.seq
          (.region [
            ⟨some 8, .mv, [(.const (.slice none 0 0))], none⟩,
            ⟨some 9, .mv, [(.const (.int .i64 13))], none⟩] [8, 9])
          .ret)
          .skip))
        (.region [
          ⟨some 68, .mv, [(.tmp 12)], none⟩,
          ⟨some 69, .mv, [(.tmp 14)], none⟩,
          ⟨some 70, (.buildSlice 1 1 [(.int .i64 0)] [0]), [(.tmp 69)], none⟩,
          ⟨some 71, (.append 1), [(.tmp 68), (.tmp 70)], none⟩,
          ⟨some 12, .mv, [(.tmp 71)], none⟩] [1, 3, 4, 12])))))))))
  (.seq
  (.region [
    ⟨some 8, .mv, [(.const (.slice none 0 0))], none⟩,
    ⟨some 9, .mv, [(.const (.int .i64 12))], none⟩] [8, 9])
  .ret)))))
def f13 : Ev.Fn := ⟨4, 72, [.tmp 8, .tmp 9], k13⟩
set_option maxRecDepth 100000 in
theorem e13 : compFn prog sig 13 4 [[1, 2, 3, 4], [1, 2, 3, 4, 11], [1, 2, 3, 4, 30], [8, 9], [1, 3, 4, 12], [1, 3, 4, 12], [1, 3, 4, 12, 35], [1, 3, 4, 12, 13], [1, 3, 4, 12, 13, 56], [8, 9], [1, 3, 4, 12, 14, 15], [1, 3, 4, 12, 14, 67], [8, 9], [1, 3, 4, 12], [8, 9]] = some f13 := by kernel_rfl
noncomputable def route_Walk_L1 (t_0 : api_Topo) (r_1 : Sl (Sl Int)) (h_3 : Int) : (List Int) → Option (Sum (List Int) (Sum ((Sl Int × Int)) (Unit))) := fun l11 =>
  (route_twice_int (Sl.mk l11)).bind fun r17 =>
  bif (!r17) then ((ixI (wr .i64 ((l11.length : Int) - 1)) l11.length).bind fun n20 =>
  (ixI h_3 t_0.Hosts.l.length).bind fun n22 =>
  (ixI (gt l11 n20) r_1.l.length).bind fun n24 =>
  (ixI h_3 ((gt r_1.l n24).l).length).bind fun n26 =>
  bif ((((gt t_0.Hosts.l n22).At) == (gt l11 n20)) && ((((gt t_0.Hosts.l n22).Port) == (gt ((gt r_1.l n24).l) n26)) && true)) then (some (.inr (.inl ((Sl.mk l11), 0)))) else
  ((route_Next t_0 r_1 (gt l11 n20) h_3).bind fun (r29, r30) =>
  bif (!r30) then (some (.inr (.inl (Sl.nil, 13)))) else
  ((capI (l11 ++ [r29])).bind fun l33 =>
  some (.inl l33)))) else
  (some (.inr (.inr ())))

noncomputable def route_Walk (t_0 : api_Topo) (r_1 : Sl (Sl Int)) (sw_2 : Int) (h_3 : Int) : Option ((Sl Int × Int)) :=
  (route_port r_1 sw_2 h_3).bind fun (r1, r2) =>
  (bif (!r2) then (some true) else ((route_Right t_0 r_1).bind fun r4 =>
  some (!r4))).bind fun b6 =>
  bif b6 then (some (Sl.nil, 2)) else
  ((loopO (route_Walk_L1 t_0 r_1 h_3) [sw_2]).bind fun
  | .inl (s13, i14) => (some (s13, i14))
  | .inr (_) => (some (Sl.nil, 12)))
theorem route_Walk_ok {t_0 : api_Topo} {r_1 : Sl (Sl Int)} {sw_2 : Int} {h_3 : Int} {z : (Sl Int × Int)} (hp : route_Walk t_0 r_1 sw_2 h_3 = some z) : Good prog 13 [.agg (c_api_Topo t_0), .d (slD 1 cL_I_i64 r_1), .d (.lit (.int .i64 sw_2)), .d (.lit (.int .i64 h_3))] [.c (.d (slD 1 cI_i64 z.1)), .c (.d (.lit (.int .i64 z.2)))] [] := by
  unfold route_Walk at hp
  refine fn_good mixed e13 (fnS (m := [true, false]) (s := ⟨[(0, .agg [.d (.lit (.int .i64 t_0.Switches)), .d (slD 6 c_api_Link t_0.Links), .d (slD 2 c_api_Host t_0.Hosts)]), (1, .c (.d (slD 1 cL_I_i64 r_1))), (2, .c (.d (.lit (.int .i64 sw_2)))), (3, .c (.d (.lit (.int .i64 h_3))))], [], 0, []⟩) (len := 0) (c := k13) rfl (Sub.of_eq rfl) rfl rfl ?_)
  refine w_seq ?_
  refine w_region ?_
  refine o2 rfl ?_
  iterate 2 refine o1 rfl ?_
  refine o_end (e' := [(1, .c (.d (slD 1 cL_I_i64 r_1))), (2, .c (.d (.lit (.int .i64 sw_2)))), (3, .c (.d (.lit (.int .i64 h_3)))), (4, .c (.op 0 0))]) rfl rfl ?_
  refine after_n ?_
  refine w_seq ?_
  refine w_seq ?_
  obtain ⟨⟨r1, r2⟩, h3, hp⟩ := bnd hp
  refine w_region ?_
  iterate 3 refine o1 rfl ?_
  refine oc (rs := [.c (.d (.lit (.int .i64 r1))), .c (.d (.lit (.bool r2)))]) (outs := []) rfl (route_port_ok h3) rfl ?_
  iterate 5 refine o1 rfl ?_
  refine o_end (e' := [(1, .c (.d (slD 1 cL_I_i64 r_1))), (2, .c (.d (.lit (.int .i64 sw_2)))), (3, .c (.d (.lit (.int .i64 h_3)))), (4, .c (.op 0 0)), (11, .c (.d (.lit (.bool r2))))]) rfl rfl ?_
  refine after_n ?_
  refine w_seq ?_
  obtain ⟨b6, h7, hp⟩ := bnd hp
  refine w_join (J := fun s => Sub s ⟨[(1, .c (.d (slD 1 cL_I_i64 r_1))), (2, .c (.d (.lit (.int .i64 sw_2)))), (3, .c (.d (.lit (.int .i64 h_3)))), (4, .c (.op 0 0)), (30, .c (.d (.lit (.bool b6))))], [(0, some (.box [.d (.lit (.int .i64 t_0.Switches)), .d (slD 6 c_api_Link t_0.Links), .d (slD 2 c_api_Host t_0.Hosts)]))], 1, []⟩) ?_ ?_
  · refine w_region ?_
    refine o1 rfl ?_
    refine o1 (v := .c (.d (.lit (.bool (!r2))))) rfl ?_
    refine o1 rfl ?_
    cases hb8 : ((!r2) : Bool)
    · have h7 := cnd_f hb8 h7
      obtain ⟨r4, h5, h7⟩ := bnd h7
      iterate 2 refine og rfl rfl rfl ?_
      refine ocg (rs := [.c (.d (.lit (.bool r4)))]) (outs := []) rfl rfl rfl (route_Right_ok h5) rfl ?_
      refine og (v := .c (.d (.lit (.bool (!r4))))) rfl rfl rfl ?_
      refine o1 rfl ?_
      cases h7
      exact o_join (sub_ren [0] [1, 2, 3, 4, 30] (by decide) rfl (.cons .nil) (Nat.le_of_ble_eq_true rfl))
    · have h7 := cnd_t hb8 h7
      iterate 4 refine onot rfl rfl ?_
      refine o1 rfl ?_
      cases h7
      exact o_join (sub_ren [0] [1, 2, 3, 4, 30] (by decide) rfl (.cons .nil) (Nat.le_of_ble_eq_true rfl))
  · intro s hs9
    refine after_n ?_
    refine W.sub hs9 ?_
    refine w_cond (t := b6) rfl (fun hb10 => ?_) (fun hb10 => ?_)
    · have hp := cnd_t hb10 hp
      refine w_seq ?_
      refine w_region ?_
      iterate 2 refine o1 rfl ?_
      refine o_end (e' := [(8, .c (.d (.lit (.slice none 0 0)))), (9, .c (.d (.lit (.int .i64 2))))]) rfl rfl ?_
      refine after_n ?_
      refine w_ret ?_
      refine after_r ?_
      obtain rfl := Option.some.inj hp
      exact leave_at rfl rfl (pr_c p_d (pr_c p_d pr_nil)) pc_nil rfl rfl
    · have hp := cnd_f hb10 hp
      refine w_skip ?_
      refine after_n ?_
      refine w_seq ?_
      refine w_region ?_
      refine o1 rfl ?_
      refine o2 rfl ?_
      refine o1 rfl ?_
      refine o_end (e' := [(1, .c (.d (slD 1 cL_I_i64 r_1))), (3, .c (.d (.lit (.int .i64 h_3)))), (4, .c (.op 0 0)), (12, .c (slC 1 cI_i64 1 (Sl.mk [sw_2])))]) rfl rfl ?_
      refine after_n ?_
      refine w_seq ?_
      refine w_block ?_
      obtain ⟨x15, h16, hp⟩ := bnd hp
      refine W.mono ?_ (w_loopS (st := fun (v : List Int) => match v with | l11 => ⟨[(1, .c (.d (slD 1 cL_I_i64 r_1))), (3, .c (.d (.lit (.int .i64 h_3)))), (4, .c (.op 0 0)), (12, .c (slC 1 cI_i64 1 (Sl.mk l11)))], [(0, some (.box [.d (.lit (.int .i64 t_0.Switches)), .d (slD 6 c_api_Link t_0.Links), .d (slD 2 c_api_Host t_0.Hosts)])), (1, slO 1 cI_i64 (Sl.mk l11))], 2, []⟩) (a := [sw_2]) (Q := Jn (fun (x : Sum ((Sl Int × Int)) (Unit)) o s => match x with | .inl (s13, i14) => o = Out.ret ∧ Sub s ⟨[(8, .c (slC 1 cI_i64 0 s13)), (9, .c (.d (.lit (.int .i64 i14))))], [(0, slO 1 cI_i64 s13)], 1, []⟩ | .inr (_) => o = Out.exit 0 ∧ Sub s ⟨[], [], 0, []⟩)) ?_ h16 ?_)
      · intro o s hs35
        rcases x15 with (⟨s13, i14⟩ | _)
        · obtain ⟨rfl, hs35⟩ := hs35
          refine out_r ?_
          refine after_r ?_
          obtain rfl := Option.some.inj hp
          refine wk.sub hs35 ?_
          rcases s13 with _ | s13'
          · exact leave_at rfl rfl (pr_c p_d (pr_c p_d pr_nil)) pc_nil rfl rfl
          · exact leave_at rfl rfl (pr_c (p_o rfl) (pr_c p_d pr_nil)) pc_nil rfl rfl
        · obtain ⟨rfl, hs35⟩ := hs35
          refine out_e ?_
          refine after_n ?_
          refine W.sub hs35 ?_
          refine w_seq ?_
          refine w_region ?_
          iterate 2 refine o1 rfl ?_
          refine o_end (e' := [(8, .c (.d (.lit (.slice none 0 0)))), (9, .c (.d (.lit (.int .i64 12))))]) rfl rfl ?_
          refine after_n ?_
          refine w_ret ?_
          obtain rfl := Option.some.inj hp
          exact leave_at rfl rfl (pr_c p_d (pr_c p_d pr_nil)) pc_nil rfl rfl
      · exact (sub_ren [0, 1] [1, 3, 4, 12] (by decide) rfl (.cons (.cons .nil)) (Nat.le_of_ble_eq_true rfl))
      · rintro l11 r hr
        unfold route_Walk_L1 at hr
        refine w_seq ?_
        refine w_seq ?_
        obtain ⟨r17, h18, hr⟩ := bnd hr
        refine w_region ?_
        refine o1 rfl ?_
        refine oc' (rs := [.c (.d (.lit (.bool r17)))]) (outs := []) (call_at rfl rfl (ea_c (v_o rfl) rfl ea_nil) wh_nil rfl rfl) (route_twice_int_ok h18) ?_
        refine o1 (v := .c (.d (.lit (.bool (!r17))))) rfl ?_
        refine o_end (e' := [(1, .c (.d (slD 1 cL_I_i64 r_1))), (3, .c (.d (.lit (.int .i64 h_3)))), (4, .c (.op 0 0)), (12, .c (slC 1 cI_i64 1 (Sl.mk l11))), (35, .c (.d (.lit (.bool (!r17)))))]) rfl rfl ?_
        refine after_n ?_
        refine w_cond (t := (!r17)) rfl (fun hb19 => ?_) (fun hb19 => ?_)
        · have hr := cnd_t hb19 hr
          refine w_skip ?_
          refine after_n ?_
          refine w_block ?_
          refine w_seq ?_
          obtain ⟨n20, h21, hr⟩ := bnd hr
          refine w_region ?_
          iterate 2 refine o1 rfl ?_
          refine o1 (v := .c (.d (.lit (.int .i64 (l11.length : Int))))) len_o ?_
          refine o1 (v := .c (.d (.lit (.int .i64 (wr .i64 ((l11.length : Int) - 1)))))) rfl ?_
          refine o1 (ix_o h21) ?_
          refine o1 (ld_row rfl (ixI_some.1 h21).2 rfl) ?_
          refine o1 rfl ?_
          refine o_end (e' := [(1, .c (.d (slD 1 cL_I_i64 r_1))), (3, .c (.d (.lit (.int .i64 h_3)))), (4, .c (.op 0 0)), (12, .c (slC 1 cI_i64 1 (Sl.mk l11))), (13, .c (.d (.lit (.int .i64 (gt l11 n20)))))]) rfl rfl ?_
          refine after_n ?_
          refine w_seq ?_
          refine w_seq ?_
          obtain ⟨n22, h23, hr⟩ := bnd hr
          obtain ⟨n24, h25, hr⟩ := bnd hr
          obtain ⟨n26, h27, hr⟩ := bnd hr
          refine w_drawn ?_
          iterate 3 refine d1 rfl ?_
          refine d1 (ix_sd h23) ?_
          iterate 4 refine d1 rfl ?_
          refine d1 (ix_sd h25) ?_
          iterate 2 refine d1 rfl ?_
          refine d1 (ix_sd h27) ?_
          iterate 2 refine d1 rfl ?_
          refine d1 (v := .c (.d (.lit (.bool ((((gt t_0.Hosts.l n22).At) == (gt l11 n20)) && ((((gt t_0.Hosts.l n22).Port) == (gt ((gt r_1.l n24).l) n26)) && true)))))) rfl ?_
          refine d_fin (e' := [(1, .c (.d (slD 1 cL_I_i64 r_1))), (3, .c (.d (.lit (.int .i64 h_3)))), (4, .c (.op 0 0)), (12, .c (slC 1 cI_i64 1 (Sl.mk l11))), (13, .c (.d (.lit (.int .i64 (gt l11 n20))))), (56, .c (.d (.lit (.bool ((((gt t_0.Hosts.l n22).At) == (gt l11 n20)) && ((((gt t_0.Hosts.l n22).Port) == (gt ((gt r_1.l n24).l) n26)) && true))))))]) (n' := 962) rfl rfl rfl rfl ?_
          refine after_n ?_
          refine w_cond (t := ((((gt t_0.Hosts.l n22).At) == (gt l11 n20)) && ((((gt t_0.Hosts.l n22).Port) == (gt ((gt r_1.l n24).l) n26)) && true))) rfl (fun hb28 => ?_) (fun hb28 => ?_)
          · have hr := cnd_t hb28 hr
            refine w_seq ?_
            refine w_region ?_
            iterate 3 refine o1 rfl ?_
            refine o_end (e' := [(8, .c (slC 1 cI_i64 1 (Sl.mk l11))), (9, .c (.d (.lit (.int .i64 0))))]) rfl rfl ?_
            refine after_n ?_
            refine w_ret ?_
            refine after_r ?_
            refine out_r ?_
            obtain rfl := Option.some.inj hr
            exact And.intro nofun (And.intro rfl (sub_ren [1] [8, 9] (by decide) rfl (.cons .nil) (Nat.le_of_ble_eq_true rfl)))
          · have hr := cnd_f hb28 hr
            refine w_skip ?_
            refine after_n ?_
            refine w_seq ?_
            obtain ⟨⟨r29, r30⟩, h31, hr⟩ := bnd hr
            refine w_region ?_
            iterate 4 refine o1 rfl ?_
            refine oc (rs := [.c (.d (.lit (.int .i64 r29))), .c (.d (.lit (.bool r30)))]) (outs := []) rfl (route_Next_ok h31) rfl ?_
            iterate 5 refine o1 rfl ?_
            refine o_end (e' := [(1, .c (.d (slD 1 cL_I_i64 r_1))), (3, .c (.d (.lit (.int .i64 h_3)))), (4, .c (.op 0 0)), (12, .c (slC 1 cI_i64 1 (Sl.mk l11))), (14, .c (.d (.lit (.int .i64 r29)))), (15, .c (.d (.lit (.bool r30))))]) rfl rfl ?_
            refine after_n ?_
            refine w_seq ?_
            refine w_seq ?_
            refine w_region ?_
            refine o1 rfl ?_
            refine o1 (v := .c (.d (.lit (.bool (!r30))))) rfl ?_
            refine o_end (e' := [(1, .c (.d (slD 1 cL_I_i64 r_1))), (3, .c (.d (.lit (.int .i64 h_3)))), (4, .c (.op 0 0)), (12, .c (slC 1 cI_i64 1 (Sl.mk l11))), (14, .c (.d (.lit (.int .i64 r29)))), (67, .c (.d (.lit (.bool (!r30)))))]) rfl rfl ?_
            refine after_n ?_
            refine w_cond (t := (!r30)) rfl (fun hb32 => ?_) (fun hb32 => ?_)
            · have hr := cnd_t hb32 hr
              refine w_seq ?_
              refine w_region ?_
              iterate 2 refine o1 rfl ?_
              refine o_end (e' := [(8, .c (.d (.lit (.slice none 0 0)))), (9, .c (.d (.lit (.int .i64 13))))]) rfl rfl ?_
              refine after_n ?_
              refine w_ret ?_
              refine after_r ?_
              refine out_r ?_
              obtain rfl := Option.some.inj hr
              exact And.intro nofun (And.intro rfl (sub_ren [9000] [8, 9] (by decide) rfl (.skip .nil) (Nat.le_of_ble_eq_true rfl)))
            · have hr := cnd_f hb32 hr
              refine w_skip ?_
              refine after_n ?_
              obtain ⟨l33, h34, hr⟩ := bnd hr
              refine w_region ?_
              iterate 2 refine o1 rfl ?_
              refine o2 rfl ?_
              refine o2 (app_o rfl rfl h34) ?_
              refine o1 rfl ?_
              refine o_end (e' := [(1, .c (.d (slD 1 cL_I_i64 r_1))), (3, .c (.d (.lit (.int .i64 h_3)))), (4, .c (.op 0 0)), (12, .c (slC 1 cI_i64 963 (Sl.mk l33)))]) rfl rfl ?_
              refine out_n ?_
              obtain rfl := Option.some.inj hr
              exact And.intro rfl (sub_ren [0, 963] [1, 3, 4, 12] (by decide) rfl (.cons (.cons .nil)) (Nat.le_of_ble_eq_true rfl))
        · have hr := cnd_f hb19 hr
          refine w_exit ?_
          refine after_e ?_
          obtain rfl := Option.some.inj hr
          exact And.intro nofun (And.intro rfl (sub_ren [] [] (by decide) rfl .nil (Nat.le_of_ble_eq_true rfl)))

/- turnout/turnoutref13.Same -/
def k15 : CC :=
  (.seq
  (.region [
    ⟨some 4, .mv, [(.const (.bool false))], none⟩] [0, 1])
  (.seq
  (.seq
  (.region [
    ⟨some 6, .mv, [(.tmp 0)], none⟩,
    ⟨some 7, (.len false), [(.tmp 6)], none⟩,
    ⟨some 8, .mv, [(.tmp 1)], none⟩,
    ⟨some 9, (.len false), [(.tmp 8)], none⟩,
    ⟨some 10, (.bin .neq), [(.tmp 7), (.tmp 9)], none⟩] [0, 1, 10])
  (.cond (.tmp 10)
    (.seq
    (.region [
      ⟨some 4, .mv, [(.const (.bool false))], none⟩] [4])
    .ret)
    .skip))
  (.seq
  (.seq
  (.region [
    ⟨some 5, .mv, [(.const (.int .i64 0))], none⟩] [0, 1, 5])
  (.block 0
    (.loop [0, 1, 5]
      (.seq
      (.seq
      (.region [
        ⟨some 11, .mv, [(.tmp 5)], none⟩,
        ⟨some 12, .mv, [(.tmp 0)], none⟩,
        ⟨some 13, (.len false), [(.tmp 12)], none⟩,
        ⟨some 14, (.bin .lss), [(.tmp 11), (.tmp 13)], none⟩] [0, 1, 5, 14])
      (.cond (.tmp 14)
        .skip
        (.exit 0)))
      (.seq
      (.block 1
        (.seq
        (.drawn [
          ⟨some 17, .mv, [(.tmp 0)], none⟩,
          ⟨some 18, .mv, [(.tmp 5)], none⟩,
          ⟨some 19, (.indexAddr none 1), [(.tmp 17), (.tmp 18)], none⟩,
          ⟨some 20, (.load false 1), [(.tmp 19)], none⟩,
          ⟨some 21, .mv, [(.tmp 1)], none⟩,
          ⟨some 22, .mv, [(.tmp 5)], none⟩,
          ⟨some 23, (.indexAddr none 1), [(.tmp 21), (.tmp 22)], none⟩,
          ⟨some 24, (.load false 1), [(.tmp 23)], none⟩,
          ⟨some 25, (.bin .neq), [(.tmp 20), (.tmp 24)], none⟩] [] [0, 1, 5, 25])
        (.cond (.tmp 25)
          (.seq
          (.region [
            ⟨some 4, .mv, [(.const (.bool false))], none⟩] [4])
          .ret)
          .skip)))
      (.region [
        ⟨some 15, .mv, [(.tmp 5)], none⟩,
        ⟨some 16, (.bin .add), [(.tmp 15), (.const (.int .i64 1))], none⟩,
        ⟨some 5, .mv, [(.tmp 16)], none⟩] [0, 1, 5]))))))
  (.seq
  (.region [
    ⟨some 4, .mv, [(.const (.bool true))], none⟩] [4])
  .ret))))
def f15 : Ev.Fn := ⟨2, 26, [.tmp 4], k15⟩
set_option maxRecDepth 100000 in
theorem e15 : compFn prog sig 15 2 [[0, 1], [0, 1, 10], [4], [0, 1, 5], [0, 1, 5], [0, 1, 5, 14], [0, 1, 5, 25], [4], [0, 1, 5], [4]] = some f15 := by kernel_rfl
noncomputable def ref13_Same_L1 (a_0 : Sl Int) (b_1 : Sl Int) : Int → Option (Sum (Int) (Sum (Unit) (Unit))) := fun i2 =>
  bif decide (i2 < (a_0.l.length : Int)) then ((ixI i2 a_0.l.length).bind fun n7 =>
  (ixI i2 b_1.l.length).bind fun n9 =>
  bif ((gt a_0.l n7) != (gt b_1.l n9)) then (some (.inr (.inl ()))) else
  (some (.inl (wr .i64 (i2 + 1))))) else
  (some (.inr (.inr ())))

noncomputable def ref13_Same (a_0 : Sl Int) (b_1 : Sl Int) : Option (Bool) :=
  bif ((a_0.l.length : Int) != (b_1.l.length : Int)) then (some false) else
  ((loopO (ref13_Same_L1 a_0 b_1) 0).bind fun
  | .inl _ => (some false)
  | .inr (_) => (some true))
theorem ref13_Same_ok {a_0 : Sl Int} {b_1 : Sl Int} {z : Bool} (hp : ref13_Same a_0 b_1 = some z) : Good prog 15 [.d (slD 1 cI_i64 a_0), .d (slD 1 cI_i64 b_1)] [.c (.d (.lit (.bool z)))] [] := by
  unfold ref13_Same at hp
  refine fn_good mixed e15 (fnS (m := [false]) (s := ⟨[(0, .c (.d (slD 1 cI_i64 a_0))), (1, .c (.d (slD 1 cI_i64 b_1)))], [], 0, []⟩) (len := 0) (c := k15) rfl (Sub.of_eq rfl) rfl rfl ?_)
  refine w_seq ?_
  refine w_region ?_
  refine o1 rfl ?_
  refine o_end (e' := [(0, .c (.d (slD 1 cI_i64 a_0))), (1, .c (.d (slD 1 cI_i64 b_1)))]) rfl rfl ?_
  refine after_n ?_
  refine w_seq ?_
  refine w_seq ?_
  refine w_region ?_
  refine o1 rfl ?_
  refine o1 (v := .c (.d (.lit (.int .i64 (a_0.l.length : Int))))) len_sd ?_
  refine o1 rfl ?_
  refine o1 (v := .c (.d (.lit (.int .i64 (b_1.l.length : Int))))) len_sd ?_
  refine o1 (v := .c (.d (.lit (.bool ((a_0.l.length : Int) != (b_1.l.length : Int)))))) rfl ?_
  refine o_end (e' := [(0, .c (.d (slD 1 cI_i64 a_0))), (1, .c (.d (slD 1 cI_i64 b_1))), (10, .c (.d (.lit (.bool ((a_0.l.length : Int) != (b_1.l.length : Int))))))]) rfl rfl ?_
  refine after_n ?_
  refine w_cond (t := ((a_0.l.length : Int) != (b_1.l.length : Int))) rfl (fun hb1 => ?_) (fun hb1 => ?_)
  · have hp := cnd_t hb1 hp
    refine w_seq ?_
    refine w_region ?_
    refine o1 rfl ?_
    refine o_end (e' := [(4, .c (.d (.lit (.bool false))))]) rfl rfl ?_
    refine after_n ?_
    refine w_ret ?_
    refine after_r ?_
    obtain rfl := Option.some.inj hp
    exact leave_at rfl rfl (pr_c p_d pr_nil) pc_nil rfl rfl
  · have hp := cnd_f hb1 hp
    refine w_skip ?_
    refine after_n ?_
    refine w_seq ?_
    refine w_seq ?_
    refine w_region ?_
    refine o1 rfl ?_
    refine o_end (e' := [(0, .c (.d (slD 1 cI_i64 a_0))), (1, .c (.d (slD 1 cI_i64 b_1))), (5, .c (.d (.lit (.int .i64 0))))]) rfl rfl ?_
    refine after_n ?_
    refine w_block ?_
    obtain ⟨x4, h5, hp⟩ := bnd hp
    refine W.mono ?_ (w_loopS (st := fun (v : Int) => match v with | i2 => ⟨[(0, .c (.d (slD 1 cI_i64 a_0))), (1, .c (.d (slD 1 cI_i64 b_1))), (5, .c (.d (.lit (.int .i64 i2))))], [], 0, []⟩) (a := 0) (Q := Jn (fun (x : Sum (Unit) (Unit)) o s => match x with | .inl _ => o = Out.ret ∧ Sub s ⟨[(4, .c (.d (.lit (.bool false))))], [], 0, []⟩ | .inr (_) => o = Out.exit 0 ∧ Sub s ⟨[], [], 0, []⟩)) ?_ h5 ?_)
    · intro o s hs12
      rcases x4 with (_ | _)
      · obtain ⟨rfl, hs12⟩ := hs12
        refine out_r ?_
        refine after_r ?_
        obtain rfl := Option.some.inj hp
        refine wk.sub hs12 ?_
        exact leave_at rfl rfl (pr_c p_d pr_nil) pc_nil rfl rfl
      · obtain ⟨rfl, hs12⟩ := hs12
        refine out_e ?_
        refine after_n ?_
        refine W.sub hs12 ?_
        refine w_seq ?_
        refine w_region ?_
        refine o1 rfl ?_
        refine o_end (e' := [(4, .c (.d (.lit (.bool true))))]) rfl rfl ?_
        refine after_n ?_
        refine w_ret ?_
        obtain rfl := Option.some.inj hp
        exact leave_at rfl rfl (pr_c p_d pr_nil) pc_nil rfl rfl
    · exact (sub_ren [] [0, 1, 5] (by decide) rfl .nil (Nat.le_of_ble_eq_true rfl))
    · rintro i2 r hr
      unfold ref13_Same_L1 at hr
      refine w_seq ?_
      refine w_seq ?_
      refine w_region ?_
      iterate 2 refine o1 rfl ?_
      refine o1 (v := .c (.d (.lit (.int .i64 (a_0.l.length : Int))))) len_sd ?_
      refine o1 (v := .c (.d (.lit (.bool (decide (i2 < (a_0.l.length : Int))))))) rfl ?_
      refine o_end (e' := [(0, .c (.d (slD 1 cI_i64 a_0))), (1, .c (.d (slD 1 cI_i64 b_1))), (5, .c (.d (.lit (.int .i64 i2)))), (14, .c (.d (.lit (.bool (decide (i2 < (a_0.l.length : Int)))))))]) rfl rfl ?_
      refine after_n ?_
      refine w_cond (t := decide (i2 < (a_0.l.length : Int))) rfl (fun hb6 => ?_) (fun hb6 => ?_)
      · have hr := cnd_t hb6 hr
        refine w_skip ?_
        refine after_n ?_
        refine w_seq ?_
        refine w_block ?_
        refine w_seq ?_
        obtain ⟨n7, h8, hr⟩ := bnd hr
        obtain ⟨n9, h10, hr⟩ := bnd hr
        refine w_drawn ?_
        iterate 2 refine d1 rfl ?_
        refine d1 (ix_sd h8) ?_
        iterate 3 refine d1 rfl ?_
        refine d1 (ix_sd h10) ?_
        refine d1 rfl ?_
        refine d1 (v := .c (.d (.lit (.bool ((gt a_0.l n7) != (gt b_1.l n9)))))) rfl ?_
        refine d_fin (e' := [(0, .c (.d (slD 1 cI_i64 a_0))), (1, .c (.d (slD 1 cI_i64 b_1))), (5, .c (.d (.lit (.int .i64 i2)))), (25, .c (.d (.lit (.bool ((gt a_0.l n7) != (gt b_1.l n9))))))]) (n' := 576) rfl rfl rfl rfl ?_
        refine after_n ?_
        refine w_cond (t := ((gt a_0.l n7) != (gt b_1.l n9))) rfl (fun hb11 => ?_) (fun hb11 => ?_)
        · have hr := cnd_t hb11 hr
          refine w_seq ?_
          refine w_region ?_
          refine o1 rfl ?_
          refine o_end (e' := [(4, .c (.d (.lit (.bool false))))]) rfl rfl ?_
          refine after_n ?_
          refine w_ret ?_
          refine out_r ?_
          refine after_r ?_
          obtain rfl := Option.some.inj hr
          exact And.intro nofun (And.intro rfl (sub_ren [] [4] (by decide) rfl .nil (Nat.le_of_ble_eq_true rfl)))
        · have hr := cnd_f hb11 hr
          refine w_skip ?_
          refine out_n ?_
          refine after_n ?_
          refine w_region ?_
          refine o1 rfl ?_
          refine o1 (v := .c (.d (.lit (.int .i64 (wr .i64 (i2 + 1)))))) rfl ?_
          refine o1 rfl ?_
          refine o_end (e' := [(0, .c (.d (slD 1 cI_i64 a_0))), (1, .c (.d (slD 1 cI_i64 b_1))), (5, .c (.d (.lit (.int .i64 (wr .i64 (i2 + 1))))))]) rfl rfl ?_
          obtain rfl := Option.some.inj hr
          exact And.intro rfl (sub_ren [] [0, 1, 5] (by decide) rfl .nil (Nat.le_of_ble_eq_true rfl))
      · have hr := cnd_f hb6 hr
        refine w_exit ?_
        refine after_e ?_
        obtain rfl := Option.some.inj hr
        exact And.intro nofun (And.intro rfl (sub_ren [] [] (by decide) rfl .nil (Nat.le_of_ble_eq_true rfl)))

/- turnout/route.Far -/
def k14 : CC :=
  (.seq
  (.region [
    ⟨some 3, .box, [(.tmp 0)], none⟩,
    ⟨some 6, .mv, [(.const (.slice none 0 0))], none⟩] [1, 2, 3])
  (.seq
  (.seq
  (.region [
    ⟨some 11, (.load true 3), [(.tmp 3)], none⟩,
    ⟨some 12, .mv, [(.tmp 1)], none⟩,
    ⟨some 13, (.call true []), [(.func 51), (.tmp 11), (.tmp 12)], none⟩,
    ⟨some 14, (.un .not), [(.tmp 13)], none⟩,
    ⟨some 15, .mv, [(.tmp 14)], none⟩,
    ⟨some 16, .mv, [(.tmp 2)], (some (15, false))⟩,
    ⟨some 17, (.bin .lss), [(.tmp 16), (.const (.int .i64 0))], (some (15, false))⟩,
    ⟨some 18, .pick, [(.tmp 15), (.const (.bool true)), (.tmp 17)], none⟩,
    ⟨some 19, .mv, [(.tmp 18)], none⟩,
    ⟨some 20, .mv, [(.tmp 2)], (some (19, false))⟩,
    ⟨some 21, (.fieldAddr 2), [(.tmp 3)], (some (19, false))⟩,
    ⟨some 22, (.load false 1), [(.tmp 21)], (some (19, false))⟩,
    ⟨some 23, (.len false), [(.tmp 22)], (some (19, false))⟩,
    ⟨some 24, (.bin .geq), [(.tmp 20), (.tmp 23)], (some (19, false))⟩,
    ⟨some 25, .pick, [(.tmp 19), (.const (.bool true)), (.tmp 24)], none⟩] [1, 2, 3, 25])
  (.cond (.tmp 25)
    (.seq
    (.region [
      ⟨some 6, .mv, [(.const (.slice none 0 0))], none⟩] [6])
    .ret)
    .skip))
  (.seq
  (.region [
    ⟨some 7, .mv, [(.const (.slice none 0 0))], none⟩] [1, 2, 3, 7])
  (.seq
  (.seq
  (.region [
    ⟨some 26, .mv, [(.tmp 1)], none⟩,
    ⟨some 27, (.len false), [(.tmp 26)], none⟩,
    ⟨some 28, .mv, [(.const (.int .i64 0))], none⟩] [1, 2, 3, 7, 27, 28])
  (.block 0
    (.loop [1, 2, 3, 7, 27, 28]
      (.seq
      (.region [
        ⟨some 29, (.bin .lss), [(.tmp 28), (.tmp 27)], none⟩] [1, 2, 3, 7, 27, 28, 29])
      (.seq
      (.cond (.tmp 29)
        .skip
        (.exit 0))
      (.seq
      (.block 1
        (.seq
        (.region [
          ⟨some 30, .mv, [(.tmp 28)], none⟩,
          ⟨some 8, .mv, [(.tmp 30)], none⟩] [1, 2, 3, 7, 8, 27, 28])
        (.seq
        (.region [
          ⟨some 32, (.load true 3), [(.tmp 3)], none⟩,
          ⟨some 33, .mv, [(.tmp 1)], none⟩,
          ⟨some 34, .mv, [(.tmp 8)], none⟩,
          ⟨some 35, .mv, [(.tmp 2)], none⟩,
          ⟨some 36, (.call false []), [(.func 13), (.tmp 32), (.tmp 33), (.tmp 34), (.tmp 35)], none⟩,
          ⟨some 31, .mv, [(.tmp 36)], none⟩,
          ⟨some 37, (.extract 0), [(.tmp 31)], none⟩,
          ⟨some 38, (.extract 1), [(.tmp 31)], none⟩,
          ⟨some 9, .mv, [(.tmp 37)], none⟩,
          ⟨some 10, .mv, [(.tmp 38)], none⟩] [1, 2, 3, 7, 9, 27, 28])
        (.region [
          ⟨some 39, .mv, [(.tmp 7)], none⟩,
          ⟨some 40, .mv, [(.tmp 9)], none⟩,
          ⟨some 41, (.len false), [(.tmp 40)], none⟩,
          ⟨some 42, (.bin .sub), [(.tmp 41), (.const (.int .i64 1))], none⟩,
          ⟨some 43, (.buildSlice 1 1 [(.int .i64 0)] [0]), [(.tmp 42)], none⟩,
          ⟨some 44, (.append 1), [(.tmp 39), (.tmp 43)], none⟩,
          ⟨some 7, .mv, [(.tmp 44)], none⟩] [1, 2, 3, 7, 27, 28]))))
      (.region [
        ⟨some 45, (.bin .add), [(.tmp 28), (.const (.int .i64 1))], none⟩,
        ⟨some 28, .mv, [(.tmp 45)], none⟩] [1, 2, 3, 7, 27, 28])))))))
  (.seq
  (.region [
    ⟨some 46, .mv, [(.tmp 7)], none⟩,
    ⟨some 6, .mv, [(.tmp 46)], none⟩] [6])
  .ret)))))
def f14 : Ev.Fn := ⟨3, 47, [.tmp 6], k14⟩
set_option maxRecDepth 100000 in
theorem e14 : compFn prog sig 14 3 [[1, 2, 3], [1, 2, 3, 25], [6], [1, 2, 3, 7], [1, 2, 3, 7, 27, 28], [1, 2, 3, 7, 27, 28], [1, 2, 3, 7, 27, 28, 29], [1, 2, 3, 7, 8, 27, 28], [1, 2, 3, 7, 9, 27, 28], [1, 2, 3, 7, 27, 28], [1, 2, 3, 7, 27, 28], [6]] = some f14 := by kernel_rfl
noncomputable def route_Far_L1 (t_0 : api_Topo) (r_1 : Sl (Sl Int)) (h_2 : Int) : (Sl Int × Int) → Option (Sum ((Sl Int × Int)) (Sl Int)) := fun (s8, i9) =>
  bif decide (i9 < (r_1.l.length : Int)) then ((route_Walk t_0 r_1 i9 h_2).bind fun (r16, r17) =>
  (capI (s8.l ++ [wr .i64 ((r16.l.length : Int) - 1)])).bind fun l19 =>
  some (.inl ((Sl.mk l19), wr .i64 (i9 + 1)))) else
  (some (.inr s8))

noncomputable def route_Far (t_0 : api_Topo) (r_1 : Sl (Sl Int)) (h_2 : Int) : Option (Sl Int) :=
  (route_Right t_0 r_1).bind fun r1 =>
  bif ((!r1) || ((decide (h_2 < 0)) || (decide (h_2 ≥ (t_0.Hosts.l.length : Int))))) then (some Sl.nil) else
  ((loopO (route_Far_L1 t_0 r_1 h_2) (Sl.nil, 0)).bind fun s12 =>
  some s12)
theorem route_Far_ok {t_0 : api_Topo} {r_1 : Sl (Sl Int)} {h_2 : Int} {z : Sl Int} (hp : route_Far t_0 r_1 h_2 = some z) : Good prog 14 [.agg (c_api_Topo t_0), .d (slD 1 cL_I_i64 r_1), .d (.lit (.int .i64 h_2))] [.c (.d (slD 1 cI_i64 z))] [] := by
  unfold route_Far at hp
  refine fn_good mixed e14 (fnS (m := [true]) (s := ⟨[(0, .agg [.d (.lit (.int .i64 t_0.Switches)), .d (slD 6 c_api_Link t_0.Links), .d (slD 2 c_api_Host t_0.Hosts)]), (1, .c (.d (slD 1 cL_I_i64 r_1))), (2, .c (.d (.lit (.int .i64 h_2))))], [], 0, []⟩) (len := 0) (c := k14) rfl (Sub.of_eq rfl) rfl rfl ?_)
  refine w_seq ?_
  refine w_region ?_
  refine o2 rfl ?_
  refine o1 rfl ?_
  refine o_end (e' := [(1, .c (.d (slD 1 cL_I_i64 r_1))), (2, .c (.d (.lit (.int .i64 h_2)))), (3, .c (.op 0 0))]) rfl rfl ?_
  refine after_n ?_
  refine w_seq ?_
  refine w_seq ?_
  obtain ⟨r1, h2, hp⟩ := bnd hp
  refine w_join (J := fun s => Sub s ⟨[(1, .c (.d (slD 1 cL_I_i64 r_1))), (2, .c (.d (.lit (.int .i64 h_2)))), (3, .c (.op 0 0)), (25, .c (.d (.lit (.bool ((!r1) || ((decide (h_2 < 0)) || (decide (h_2 ≥ (t_0.Hosts.l.length : Int)))))))))], [(0, some (.box [.d (.lit (.int .i64 t_0.Switches)), .d (slD 6 c_api_Link t_0.Links), .d (slD 2 c_api_Host t_0.Hosts)]))], 1, []⟩) ?_ ?_
  · refine w_region ?_
    iterate 2 refine o1 rfl ?_
    refine oc (rs := [.c (.d (.lit (.bool r1)))]) (outs := []) rfl (route_Right_ok h2) rfl ?_
    refine o1 (v := .c (.d (.lit (.bool (!r1))))) rfl ?_
    refine o1 rfl ?_
    cases hb4 : ((!r1) : Bool)
    · refine og rfl rfl rfl ?_
      refine og (v := .c (.d (.lit (.bool (decide (h_2 < 0)))))) rfl rfl rfl ?_
      iterate 2 refine o1 rfl ?_
      cases hb5 : (decide (h_2 < 0) : Bool)
      · refine og rfl rfl rfl ?_
        iterate 2 refine og rfl rfl rfl ?_
        refine og (v := .c (.d (.lit (.int .i64 (t_0.Hosts.l.length : Int))))) rfl rfl len_sd ?_
        refine og (v := .c (.d (.lit (.bool (decide (h_2 ≥ (t_0.Hosts.l.length : Int))))))) rfl rfl rfl ?_
        refine o1 rfl ?_
        exact o_join (sub_ren [0] [1, 2, 3, 25] (by decide) rfl (.cons .nil) (Nat.le_of_ble_eq_true rfl))
      · refine onot rfl rfl ?_
        iterate 4 refine onot rfl rfl ?_
        refine o1 rfl ?_
        exact o_join (sub_ren [0] [1, 2, 3, 25] (by decide) rfl (.cons .nil) (Nat.le_of_ble_eq_true rfl))
    · refine onot rfl rfl ?_
      refine onot rfl rfl ?_
      iterate 2 refine o1 rfl ?_
      iterate 5 refine onot rfl rfl ?_
      refine o1 rfl ?_
      exact o_join (sub_ren [0] [1, 2, 3, 25] (by decide) rfl (.cons .nil) (Nat.le_of_ble_eq_true rfl))
  · intro s hs6
    refine after_n ?_
    refine W.sub hs6 ?_
    refine w_cond (t := ((!r1) || ((decide (h_2 < 0)) || (decide (h_2 ≥ (t_0.Hosts.l.length : Int)))))) rfl (fun hb7 => ?_) (fun hb7 => ?_)
    · have hp := cnd_t hb7 hp
      refine w_seq ?_
      refine w_region ?_
      refine o1 rfl ?_
      refine o_end (e' := [(6, .c (.d (.lit (.slice none 0 0))))]) rfl rfl ?_
      refine after_n ?_
      refine w_ret ?_
      refine after_r ?_
      obtain rfl := Option.some.inj hp
      exact leave_at rfl rfl (pr_c p_d pr_nil) pc_nil rfl rfl
    · have hp := cnd_f hb7 hp
      refine w_skip ?_
      refine after_n ?_
      refine w_seq ?_
      refine w_region ?_
      refine o1 rfl ?_
      refine o_end (e' := [(1, .c (.d (slD 1 cL_I_i64 r_1))), (2, .c (.d (.lit (.int .i64 h_2)))), (3, .c (.op 0 0)), (7, .c (.d (.lit (.slice none 0 0))))]) rfl rfl ?_
      refine after_n ?_
      refine w_seq ?_
      refine w_seq ?_
      refine w_region ?_
      refine o1 rfl ?_
      refine o1 (v := .c (.d (.lit (.int .i64 (r_1.l.length : Int))))) len_sd ?_
      refine o1 rfl ?_
      refine o_end (e' := [(1, .c (.d (slD 1 cL_I_i64 r_1))), (2, .c (.d (.lit (.int .i64 h_2)))), (3, .c (.op 0 0)), (7, .c (.d (.lit (.slice none 0 0)))), (27, .c (.d (.lit (.int .i64 (r_1.l.length : Int))))), (28, .c (.d (.lit (.int .i64 0))))]) rfl rfl ?_
      refine after_n ?_
      refine w_block ?_
      obtain ⟨s12, h14, hp⟩ := bnd hp
      refine W.mono ?_ (w_loopS (st := fun (v : (Sl Int × Int)) => match v with | (s8, i9) => ⟨[(1, .c (.d (slD 1 cL_I_i64 r_1))), (2, .c (.d (.lit (.int .i64 h_2)))), (3, .c (.op 0 0)), (7, .c (slC 1 cI_i64 1 s8)), (27, .c (.d (.lit (.int .i64 (r_1.l.length : Int))))), (28, .c (.d (.lit (.int .i64 i9))))], [(0, some (.box [.d (.lit (.int .i64 t_0.Switches)), .d (slD 6 c_api_Link t_0.Links), .d (slD 2 c_api_Host t_0.Hosts)])), (1, slO 1 cI_i64 s8)], 2, []⟩) (a := (Sl.nil, 0)) (Q := Jn (fun (x : Sl Int) o s => match x with | s12 => o = Out.exit 0 ∧ Sub s ⟨[(7, .c (slC 1 cI_i64 0 s12))], [(0, slO 1 cI_i64 s12)], 1, []⟩)) ?_ h14 ?_)
      · intro o s hs22
        obtain ⟨rfl, hs22⟩ := hs22
        refine out_e ?_
        refine after_n ?_
        refine W.sub hs22 ?_
        refine w_seq ?_
        refine w_region ?_
        iterate 2 refine o1 rfl ?_
        refine o_end (e' := [(6, .c (slC 1 cI_i64 0 s12))]) rfl rfl ?_
        refine after_n ?_
        refine w_ret ?_
        obtain rfl := Option.some.inj hp
        rcases s12 with _ | s12'
        · exact leave_at rfl rfl (pr_c p_d pr_nil) pc_nil rfl rfl
        · exact leave_at rfl rfl (pr_c (p_o rfl) pr_nil) pc_nil rfl rfl
      · exact (sub_ren [0, 9001] [1, 2, 3, 7, 27, 28] (by decide) rfl (.cons (.skip .nil)) (Nat.le_of_ble_eq_true rfl))
      · rintro ⟨s8, i9⟩ r hr
        unfold route_Far_L1 at hr
        refine w_seq ?_
        refine w_region ?_
        refine o1 (v := .c (.d (.lit (.bool (decide (i9 < (r_1.l.length : Int))))))) rfl ?_
        refine o_end (e' := [(1, .c (.d (slD 1 cL_I_i64 r_1))), (2, .c (.d (.lit (.int .i64 h_2)))), (3, .c (.op 0 0)), (7, .c (slC 1 cI_i64 1 s8)), (27, .c (.d (.lit (.int .i64 (r_1.l.length : Int))))), (28, .c (.d (.lit (.int .i64 i9)))), (29, .c (.d (.lit (.bool (decide (i9 < (r_1.l.length : Int)))))))]) rfl rfl ?_
        refine after_n ?_
        refine w_seq ?_
        refine w_cond (t := decide (i9 < (r_1.l.length : Int))) rfl (fun hb15 => ?_) (fun hb15 => ?_)
        · have hr := cnd_t hb15 hr
          refine w_skip ?_
          refine after_n ?_
          refine w_seq ?_
          refine w_block ?_
          refine w_seq ?_
          refine w_region ?_
          iterate 2 refine o1 rfl ?_
          refine o_end (e' := [(1, .c (.d (slD 1 cL_I_i64 r_1))), (2, .c (.d (.lit (.int .i64 h_2)))), (3, .c (.op 0 0)), (7, .c (slC 1 cI_i64 1 s8)), (8, .c (.d (.lit (.int .i64 i9)))), (27, .c (.d (.lit (.int .i64 (r_1.l.length : Int))))), (28, .c (.d (.lit (.int .i64 i9))))]) rfl rfl ?_
          refine after_n ?_
          refine w_seq ?_
          obtain ⟨⟨r16, r17⟩, h18, hr⟩ := bnd hr
          refine w_region ?_
          iterate 4 refine o1 rfl ?_
          refine oc (rs := [.c (.d (slD 1 cI_i64 r16)), .c (.d (.lit (.int .i64 r17)))]) (outs := []) rfl (route_Walk_ok h18) rfl ?_
          iterate 5 refine o1 rfl ?_
          refine o_end (e' := [(1, .c (.d (slD 1 cL_I_i64 r_1))), (2, .c (.d (.lit (.int .i64 h_2)))), (3, .c (.op 0 0)), (7, .c (slC 1 cI_i64 1 s8)), (9, .c (.d (slD 1 cI_i64 r16))), (27, .c (.d (.lit (.int .i64 (r_1.l.length : Int))))), (28, .c (.d (.lit (.int .i64 i9))))]) rfl rfl ?_
          refine after_n ?_
          obtain ⟨l19, h20, hr⟩ := bnd hr
          refine w_join (J := fun s => Sub s ⟨[(1, .c (.d (slD 1 cL_I_i64 r_1))), (2, .c (.d (.lit (.int .i64 h_2)))), (3, .c (.op 0 0)), (7, .c (slC 1 cI_i64 1 (Sl.mk l19))), (27, .c (.d (.lit (.int .i64 (r_1.l.length : Int))))), (28, .c (.d (.lit (.int .i64 i9))))], [(0, some (.box [.d (.lit (.int .i64 t_0.Switches)), .d (slD 6 c_api_Link t_0.Links), .d (slD 2 c_api_Host t_0.Hosts)])), (1, slO 1 cI_i64 (Sl.mk l19))], 2, []⟩) ?_ ?_
          · rcases s8 with _ | s8'
            · try dsimp only [slC, slO]
              refine w_region ?_
              iterate 2 refine o1 rfl ?_
              refine o1 (v := .c (.d (.lit (.int .i64 (r16.l.length : Int))))) len_sd ?_
              refine o1 (v := .c (.d (.lit (.int .i64 (wr .i64 ((r16.l.length : Int) - 1)))))) rfl ?_
              refine o2 rfl ?_
              refine o2 (app_nil (enc := cI_i64) rfl h20) ?_
              refine o1 rfl ?_
              exact o_join (sub_ren [0, 3] [1, 2, 3, 7, 27, 28] (by decide) rfl (.cons (.cons .nil)) (Nat.le_of_ble_eq_true rfl))
            · try dsimp only [slC, slO]
              refine w_region ?_
              iterate 2 refine o1 rfl ?_
              refine o1 (v := .c (.d (.lit (.int .i64 (r16.l.length : Int))))) len_sd ?_
              refine o1 (v := .c (.d (.lit (.int .i64 (wr .i64 ((r16.l.length : Int) - 1)))))) rfl ?_
              refine o2 rfl ?_
              refine o2 (app_o rfl rfl h20) ?_
              refine o1 rfl ?_
              exact o_join (sub_ren [0, 3] [1, 2, 3, 7, 27, 28] (by decide) rfl (.cons (.cons .nil)) (Nat.le_of_ble_eq_true rfl))
          · intro s hs21
            refine out_n ?_
            refine after_n ?_
            refine W.sub hs21 ?_
            refine w_region ?_
            refine o1 (v := .c (.d (.lit (.int .i64 (wr .i64 (i9 + 1)))))) rfl ?_
            refine o1 rfl ?_
            refine o_end (e' := [(1, .c (.d (slD 1 cL_I_i64 r_1))), (2, .c (.d (.lit (.int .i64 h_2)))), (3, .c (.op 0 0)), (7, .c (slC 1 cI_i64 1 (Sl.mk l19))), (27, .c (.d (.lit (.int .i64 (r_1.l.length : Int))))), (28, .c (.d (.lit (.int .i64 (wr .i64 (i9 + 1))))))]) rfl rfl ?_
            obtain rfl := Option.some.inj hr
            exact And.intro rfl (sub_ren [0, 1] [1, 2, 3, 7, 27, 28] (by decide) rfl (.cons (.cons .nil)) (Nat.le_of_ble_eq_true rfl))
        · have hr := cnd_f hb15 hr
          refine w_exit ?_
          refine after_e ?_
          obtain rfl := Option.some.inj hr
          exact And.intro nofun (And.intro rfl (by rcases s8 with _ | _ <;> first | (exact sub_ren [9000] [7] (by decide) rfl (.skip .nil) (Nat.le_of_ble_eq_true rfl)) | (exact sub_ren [1] [7] (by decide) rfl (.cons .nil) (Nat.le_of_ble_eq_true rfl))))

/- turnout/route.Good -/
def k49 : CC :=
  (.seq
  (.region [
    ⟨some 2, .box, [(.tmp 0)], none⟩,
    ⟨some 4, .mv, [(.const (.bool false))], none⟩] [1, 2])
  (.seq
  (.seq
  (.region [
    ⟨some 6, (.load true 3), [(.tmp 2)], none⟩,
    ⟨some 7, .mv, [(.tmp 1)], none⟩,
    ⟨some 8, (.call true []), [(.func 51), (.tmp 6), (.tmp 7)], none⟩,
    ⟨some 9, (.un .not), [(.tmp 8)], none⟩] [1, 2, 9])
  (.cond (.tmp 9)
    (.seq
    (.region [
      ⟨some 4, .mv, [(.const (.bool false))], none⟩] [4])
    .ret)
    .skip))
  (.seq
  (.seq
  (.region [
    ⟨some 10, (.fieldAddr 2), [(.tmp 2)], none⟩,
    ⟨some 11, (.load false 1), [(.tmp 10)], none⟩,
    ⟨some 12, (.len false), [(.tmp 11)], none⟩,
    ⟨some 13, .mv, [(.const (.int .i64 0))], none⟩] [1, 2, 12, 13])
  (.block 0
    (.loop [1, 2, 12, 13]
      (.seq
      (.region [
        ⟨some 14, (.bin .lss), [(.tmp 13), (.tmp 12)], none⟩] [1, 2, 12, 13, 14])
      (.seq
      (.cond (.tmp 14)
        .skip
        (.exit 0))
      (.seq
      (.block 1
        (.seq
        (.region [
          ⟨some 15, .mv, [(.tmp 13)], none⟩,
          ⟨some 5, .mv, [(.tmp 15)], none⟩] [1, 2, 5, 12, 13])
        (.seq
        (.region [
          ⟨some 16, (.load true 3), [(.tmp 2)], none⟩,
          ⟨some 17, .mv, [(.tmp 1)], none⟩,
          ⟨some 18, .mv, [(.tmp 5)], none⟩,
          ⟨some 19, (.call false []), [(.func 14), (.tmp 16), (.tmp 17), (.tmp 18)], none⟩,
          ⟨some 20, (.call true []), [(.func 79), (.tmp 19), (.const (.int .i64 (-1)))], none⟩] [1, 2, 12, 13, 20])
        (.cond (.tmp 20)
          (.seq
          (.region [
            ⟨some 4, .mv, [(.const (.bool false))], none⟩] [4])
          .ret)
          .skip))))
      (.region [
        ⟨some 21, (.bin .add), [(.tmp 13), (.const (.int .i64 1))], none⟩,
        ⟨some 13, .mv, [(.tmp 21)], none⟩] [1, 2, 12, 13])))))))
  (.seq
  (.region [
    ⟨some 4, .mv, [(.const (.bool true))], none⟩] [4])
  .ret))))
def f49 : Ev.Fn := ⟨2, 22, [.tmp 4], k49⟩
set_option maxRecDepth 100000 in
theorem e49 : compFn prog sig 49 2 [[1, 2], [1, 2, 9], [4], [1, 2, 12, 13], [1, 2, 12, 13], [1, 2, 12, 13, 14], [1, 2, 5, 12, 13], [1, 2, 12, 13, 20], [4], [1, 2, 12, 13], [4]] = some f49 := by kernel_rfl
noncomputable def route_Good_L1 (t_0 : api_Topo) (r_1 : Sl (Sl Int)) : Int → Option (Sum (Int) (Sum (Unit) (Unit))) := fun i4 =>
  bif decide (i4 < (t_0.Hosts.l.length : Int)) then ((route_Far t_0 r_1 i4).bind fun r9 =>
  (slices_Contains_int_int r9 (-1)).bind fun r11 =>
  bif r11 then (some (.inr (.inl ()))) else
  (some (.inl (wr .i64 (i4 + 1))))) else
  (some (.inr (.inr ())))

noncomputable def route_Good (t_0 : api_Topo) (r_1 : Sl (Sl Int)) : Option (Bool) :=
  (route_Right t_0 r_1).bind fun r1 =>
  bif (!r1) then (some false) else
  ((loopO (route_Good_L1 t_0 r_1) 0).bind fun
  | .inl _ => (some false)
  | .inr (_) => (some true))
theorem route_Good_ok {t_0 : api_Topo} {r_1 : Sl (Sl Int)} {z : Bool} (hp : route_Good t_0 r_1 = some z) : Good prog 49 [.agg (c_api_Topo t_0), .d (slD 1 cL_I_i64 r_1)] [.c (.d (.lit (.bool z)))] [] := by
  unfold route_Good at hp
  refine fn_good mixed e49 (fnS (m := [false]) (s := ⟨[(0, .agg [.d (.lit (.int .i64 t_0.Switches)), .d (slD 6 c_api_Link t_0.Links), .d (slD 2 c_api_Host t_0.Hosts)]), (1, .c (.d (slD 1 cL_I_i64 r_1)))], [], 0, []⟩) (len := 0) (c := k49) rfl (Sub.of_eq rfl) rfl rfl ?_)
  refine w_seq ?_
  refine w_region ?_
  refine o2 rfl ?_
  refine o1 rfl ?_
  refine o_end (e' := [(1, .c (.d (slD 1 cL_I_i64 r_1))), (2, .c (.op 0 0))]) rfl rfl ?_
  refine after_n ?_
  refine w_seq ?_
  refine w_seq ?_
  obtain ⟨r1, h2, hp⟩ := bnd hp
  refine w_region ?_
  iterate 2 refine o1 rfl ?_
  refine oc (rs := [.c (.d (.lit (.bool r1)))]) (outs := []) rfl (route_Right_ok h2) rfl ?_
  refine o1 (v := .c (.d (.lit (.bool (!r1))))) rfl ?_
  refine o_end (e' := [(1, .c (.d (slD 1 cL_I_i64 r_1))), (2, .c (.op 0 0)), (9, .c (.d (.lit (.bool (!r1)))))]) rfl rfl ?_
  refine after_n ?_
  refine w_cond (t := (!r1)) rfl (fun hb3 => ?_) (fun hb3 => ?_)
  · have hp := cnd_t hb3 hp
    refine w_seq ?_
    refine w_region ?_
    refine o1 rfl ?_
    refine o_end (e' := [(4, .c (.d (.lit (.bool false))))]) rfl rfl ?_
    refine after_n ?_
    refine w_ret ?_
    refine after_r ?_
    obtain rfl := Option.some.inj hp
    exact leave_at rfl rfl (pr_c p_d pr_nil) pc_nil rfl rfl
  · have hp := cnd_f hb3 hp
    refine w_skip ?_
    refine after_n ?_
    refine w_seq ?_
    refine w_seq ?_
    refine w_region ?_
    iterate 2 refine o1 rfl ?_
    refine o1 (v := .c (.d (.lit (.int .i64 (t_0.Hosts.l.length : Int))))) len_sd ?_
    refine o1 rfl ?_
    refine o_end (e' := [(1, .c (.d (slD 1 cL_I_i64 r_1))), (2, .c (.op 0 0)), (12, .c (.d (.lit (.int .i64 (t_0.Hosts.l.length : Int))))), (13, .c (.d (.lit (.int .i64 0))))]) rfl rfl ?_
    refine after_n ?_
    refine w_block ?_
    obtain ⟨x6, h7, hp⟩ := bnd hp
    refine W.mono ?_ (w_loopS (st := fun (v : Int) => match v with | i4 => ⟨[(1, .c (.d (slD 1 cL_I_i64 r_1))), (2, .c (.op 0 0)), (12, .c (.d (.lit (.int .i64 (t_0.Hosts.l.length : Int))))), (13, .c (.d (.lit (.int .i64 i4))))], [(0, some (.box [.d (.lit (.int .i64 t_0.Switches)), .d (slD 6 c_api_Link t_0.Links), .d (slD 2 c_api_Host t_0.Hosts)]))], 1, []⟩) (a := 0) (Q := Jn (fun (x : Sum (Unit) (Unit)) o s => match x with | .inl _ => o = Out.ret ∧ Sub s ⟨[(4, .c (.d (.lit (.bool false))))], [], 0, []⟩ | .inr (_) => o = Out.exit 0 ∧ Sub s ⟨[], [], 0, []⟩)) ?_ h7 ?_)
    · intro o s hs14
      rcases x6 with (_ | _)
      · obtain ⟨rfl, hs14⟩ := hs14
        refine out_r ?_
        refine after_r ?_
        obtain rfl := Option.some.inj hp
        refine wk.sub hs14 ?_
        exact leave_at rfl rfl (pr_c p_d pr_nil) pc_nil rfl rfl
      · obtain ⟨rfl, hs14⟩ := hs14
        refine out_e ?_
        refine after_n ?_
        refine W.sub hs14 ?_
        refine w_seq ?_
        refine w_region ?_
        refine o1 rfl ?_
        refine o_end (e' := [(4, .c (.d (.lit (.bool true))))]) rfl rfl ?_
        refine after_n ?_
        refine w_ret ?_
        obtain rfl := Option.some.inj hp
        exact leave_at rfl rfl (pr_c p_d pr_nil) pc_nil rfl rfl
    · exact (sub_ren [0] [1, 2, 12, 13] (by decide) rfl (.cons .nil) (Nat.le_of_ble_eq_true rfl))
    · rintro i4 r hr
      unfold route_Good_L1 at hr
      refine w_seq ?_
      refine w_region ?_
      refine o1 (v := .c (.d (.lit (.bool (decide (i4 < (t_0.Hosts.l.length : Int))))))) rfl ?_
      refine o_end (e' := [(1, .c (.d (slD 1 cL_I_i64 r_1))), (2, .c (.op 0 0)), (12, .c (.d (.lit (.int .i64 (t_0.Hosts.l.length : Int))))), (13, .c (.d (.lit (.int .i64 i4)))), (14, .c (.d (.lit (.bool (decide (i4 < (t_0.Hosts.l.length : Int)))))))]) rfl rfl ?_
      refine after_n ?_
      refine w_seq ?_
      refine w_cond (t := decide (i4 < (t_0.Hosts.l.length : Int))) rfl (fun hb8 => ?_) (fun hb8 => ?_)
      · have hr := cnd_t hb8 hr
        refine w_skip ?_
        refine after_n ?_
        refine w_seq ?_
        refine w_block ?_
        refine w_seq ?_
        refine w_region ?_
        iterate 2 refine o1 rfl ?_
        refine o_end (e' := [(1, .c (.d (slD 1 cL_I_i64 r_1))), (2, .c (.op 0 0)), (5, .c (.d (.lit (.int .i64 i4)))), (12, .c (.d (.lit (.int .i64 (t_0.Hosts.l.length : Int))))), (13, .c (.d (.lit (.int .i64 i4))))]) rfl rfl ?_
        refine after_n ?_
        refine w_seq ?_
        obtain ⟨r9, h10, hr⟩ := bnd hr
        obtain ⟨r11, h12, hr⟩ := bnd hr
        refine w_region ?_
        iterate 3 refine o1 rfl ?_
        refine oc (rs := [.c (.d (slD 1 cI_i64 r9))]) (outs := []) rfl (route_Far_ok h10) rfl ?_
        refine oc (rs := [.c (.d (.lit (.bool r11)))]) (outs := []) rfl (slices_Contains_int_int_ok h12) rfl ?_
        refine o_end (e' := [(1, .c (.d (slD 1 cL_I_i64 r_1))), (2, .c (.op 0 0)), (12, .c (.d (.lit (.int .i64 (t_0.Hosts.l.length : Int))))), (13, .c (.d (.lit (.int .i64 i4)))), (20, .c (.d (.lit (.bool r11))))]) rfl rfl ?_
        refine after_n ?_
        refine w_cond (t := r11) rfl (fun hb13 => ?_) (fun hb13 => ?_)
        · have hr := cnd_t hb13 hr
          refine w_seq ?_
          refine w_region ?_
          refine o1 rfl ?_
          refine o_end (e' := [(4, .c (.d (.lit (.bool false))))]) rfl rfl ?_
          refine after_n ?_
          refine w_ret ?_
          refine out_r ?_
          refine after_r ?_
          obtain rfl := Option.some.inj hr
          exact And.intro nofun (And.intro rfl (sub_ren [] [4] (by decide) rfl .nil (Nat.le_of_ble_eq_true rfl)))
        · have hr := cnd_f hb13 hr
          refine w_skip ?_
          refine out_n ?_
          refine after_n ?_
          refine w_region ?_
          refine o1 (v := .c (.d (.lit (.int .i64 (wr .i64 (i4 + 1)))))) rfl ?_
          refine o1 rfl ?_
          refine o_end (e' := [(1, .c (.d (slD 1 cL_I_i64 r_1))), (2, .c (.op 0 0)), (12, .c (.d (.lit (.int .i64 (t_0.Hosts.l.length : Int))))), (13, .c (.d (.lit (.int .i64 (wr .i64 (i4 + 1))))))]) rfl rfl ?_
          obtain rfl := Option.some.inj hr
          exact And.intro rfl (sub_ren [0] [1, 2, 12, 13] (by decide) rfl (.cons .nil) (Nat.le_of_ble_eq_true rfl))
      · have hr := cnd_f hb8 hr
        refine w_exit ?_
        refine after_e ?_
        obtain rfl := Option.some.inj hr
        exact And.intro nofun (And.intro rfl (sub_ren [] [] (by decide) rfl .nil (Nat.le_of_ble_eq_true rfl)))

end Go.Proofs.Ytjfhiochcdjkhaa.R
