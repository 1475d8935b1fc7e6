/- What functions of the program compute, and that the model's run computes it. Conditions: as stated. -/
import Derived.Test.YtjfhiochcdjkhaaEvX
import Derived.Test.YtjfhiochcdjkhaaChecked
import Derived.KernelRfl
open Go.Ev Go
namespace Go.Proofs.Ytjfhiochcdjkhaa.T

noncomputable abbrev prog : Program := Try.prog
theorem mixed : prog.follows .mixedOrders = true := by kernel_rfl
def sig : Sig := fun f =>
  if f = 2 then (true, []) else if f = 3 then (true, []) else if f = 4 then (true, []) else if f = 5 then (true, []) else if f = 6 then (true, []) else if f = 7 then (true, []) else if f = 8 then (true, []) else if f = 9 then (true, []) else if f = 10 then (true, []) else if f = 11 then (true, []) else if f = 12 then (true, []) else if f = 15 then (true, []) else if f = 16 then (true, []) else if f = 17 then (true, []) else if f = 20 then (true, []) else if f = 21 then (true, []) else if f = 24 then (true, []) else if f = 25 then (false, [true, true, false]) else if f = 26 then (true, []) else if f = 27 then (true, []) else if f = 28 then (true, []) else if f = 29 then (true, []) else if f = 30 then (false, [true, false]) else if f = 31 then (false, [true, false, false]) else if f = 32 then (true, []) else if f = 33 then (false, [true, false, false, false, false, false]) else if f = 34 then (true, []) else if f = 35 then (true, []) else if f = 36 then (true, []) else if f = 37 then (true, []) else if f = 38 then (true, []) else if f = 40 then (true, []) else if f = 41 then (true, []) else if f = 42 then (true, []) else if f = 43 then (true, []) else if f = 44 then (true, []) else if f = 48 then (true, []) else if f = 49 then (true, []) else if f = 50 then (true, []) else if f = 51 then (true, []) else if f = 52 then (true, []) else if f = 53 then (true, []) else if f = 54 then (true, []) else if f = 56 then (true, []) else if f = 58 then (true, []) else if f = 59 then (true, []) else if f = 60 then (true, []) else if f = 61 then (false, [true, false, false, false, false, false]) else if f = 62 then (false, [true, false, false]) else if f = 63 then (true, []) else if f = 64 then (true, []) else if f = 65 then (false, [true, false]) else if f = 66 then (true, []) else if f = 67 then (true, []) else if f = 68 then (true, []) else if f = 69 then (true, []) else if f = 70 then (false, [true, false]) else if f = 71 then (false, [true, false, false]) else if f = 73 then (true, []) else if f = 76 then (false, [true, false]) else if f = 77 then (true, []) else if f = 78 then (true, []) else if f = 79 then (true, []) else if f = 80 then (true, []) else if f = 81 then (true, []) else if f = 83 then (true, []) else if f = 84 then (true, []) else if f = 85 then (true, []) else if f = 86 then (true, []) else if f = 87 then (true, []) else if f = 88 then (true, []) else if f = 89 then (true, []) else if f = 90 then (true, []) else if f = 91 then (false, [true, false]) else if f = 92 then (false, [true, false, false]) else if f = 93 then (true, []) else if f = 94 then (false, [true, false, false, false, false]) else if f = 95 then (true, []) else if f = 96 then (true, []) else if f = 97 then (true, []) else if f = 98 then (true, []) else if f = 99 then (true, []) else if f = 100 then (true, []) else if f = 101 then (true, []) else if f = 102 then (true, []) else if f = 103 then (true, []) else if f = 104 then (true, []) else if f = 105 then (false, [true, false, false, false]) else if f = 106 then (false, [true, false, false, false, false]) else if f = 107 then (true, []) else if f = 108 then (true, []) else if f = 109 then (false, [true, false, false, false]) else if f = 110 then (false, [true, false, false, false]) else if f = 111 then (false, [true, false, false, false]) else if f = 112 then (true, []) else if f = 113 then (false, [true, false, false, false]) else if f = 114 then (false, [true, false, false, false]) else if f = 115 then (false, [true, false, false, false, false]) else if f = 116 then (false, [true, false, false, false, false]) else if f = 117 then (true, []) else if f = 118 then (true, []) else if f = 119 then (true, []) else if f = 120 then (true, []) else if f = 121 then (true, []) else if f = 122 then (false, [true, false, false, false, false]) else if f = 123 then (false, [true, false, false, false, false]) else if f = 124 then (true, []) else if f = 125 then (false, [true]) else if f = 126 then (false, [false, false, true, false]) else if f = 127 then (false, [false, false, false, false, true, false]) else if f = 128 then (false, [true, false, false, false, false]) else if f = 129 then (false, [false, false, false, true, false]) else (false, [])

structure api_Link where
  A : Int
  PortA : Int
  B : Int
  PortB : Int
  Least : Int
  Most : Int
  deriving Inhabited, DecidableEq

structure api_Host where
  At : Int
  Port : Int
  deriving Inhabited, DecidableEq

structure api_Topo where
  Switches : Int
  Links : Sl api_Link
  Hosts : Sl api_Host
  deriving Inhabited, DecidableEq

def c_api_Link (x : api_Link) : List D := [.lit (.int .i64 x.A), .lit (.int .i64 x.PortA), .lit (.int .i64 x.B), .lit (.int .i64 x.PortB), .lit (.int .i64 x.Least), .lit (.int .i64 x.Most)]

def c_api_Host (x : api_Host) : List D := [.lit (.int .i64 x.At), .lit (.int .i64 x.Port)]

def c_api_Topo (x : api_Topo) : List D := [.lit (.int .i64 x.Switches), slD 6 c_api_Link x.Links, slD 2 c_api_Host x.Hosts]

structure topo_place where
  sw : Int
  port : Int
  deriving Inhabited, DecidableEq

def c_topo_place (x : topo_place) : List D := [.lit (.int .i64 x.sw), .lit (.int .i64 x.port)]

def kp_topo_place (x : topo_place) : List Value := [(.int .i64 x.sw), (.int .i64 x.port)]

theorem kp_topo_place_eq (a b : topo_place) : eqVs [(.i .i64), (.i .i64)] (kp_topo_place a) (kp_topo_place b) = some (decide (a = b)) := by
  obtain ⟨a0, a1⟩ := a
  obtain ⟨b0, b1⟩ := b
  simp only [kp_topo_place, eqVs, eqK, and_self, if_true, Option.some.injEq]
  rw [Bool.eq_iff_iff]
  simp

def cI_i64 (x : Int) : List D := [.lit (.int .i64 x)]

structure topo_Side where
  Port : Int
  To : Int
  Link : Int
  deriving Inhabited, DecidableEq

def c_topo_Side (x : topo_Side) : List D := [.lit (.int .i64 x.Port), .lit (.int .i64 x.To), .lit (.int .i64 x.Link)]

structure ref17_Side where
  Port : Int
  To : Int
  Link : Int
  deriving Inhabited, DecidableEq

def c_ref17_Side (x : ref17_Side) : List D := [.lit (.int .i64 x.Port), .lit (.int .i64 x.To), .lit (.int .i64 x.Link)]

/- turnout/turnoutlaw17.small -/
def k35 : CC :=
  (.seq
  (.region [
    ⟨some 1, .box, [(.tmp 0)], none⟩,
    ⟨some 2, .mv, [(.const (.bool false))], none⟩] [1])
  (.seq
  (.region [
    ⟨some 3, (.fieldAddr 1), [(.tmp 1)], none⟩,
    ⟨some 4, (.load false 1), [(.tmp 3)], none⟩,
    ⟨some 5, (.len false), [(.tmp 4)], none⟩,
    ⟨some 6, (.bin .leq), [(.tmp 5), (.const (.int .i64 30))], none⟩,
    ⟨some 7, .mv, [(.tmp 6)], none⟩,
    ⟨some 8, (.fieldAddr 2), [(.tmp 1)], (some (7, true))⟩,
    ⟨some 9, (.load false 1), [(.tmp 8)], (some (7, true))⟩,
    ⟨some 10, (.len false), [(.tmp 9)], (some (7, true))⟩,
    ⟨some 11, (.bin .leq), [(.tmp 10), (.const (.int .i64 12))], (some (7, true))⟩,
    ⟨some 12, .pick, [(.tmp 7), (.tmp 11), (.const (.bool false))], none⟩,
    ⟨some 2, .mv, [(.tmp 12)], none⟩] [2])
  .ret))
def f35 : Ev.Fn := ⟨1, 13, [.tmp 2], k35⟩
set_option maxRecDepth 100000 in
theorem e35 : compFn prog sig 35 1 [[1], [2]] = some f35 := by kernel_rfl
noncomputable def law17_small (t_0 : api_Topo) : Option (Bool) :=
  some ((decide ((t_0.Links.l.length : Int) ≤ 30)) && (decide ((t_0.Hosts.l.length : Int) ≤ 12)))
theorem law17_small_ok {t_0 : api_Topo} {z : Bool} (hp : law17_small t_0 = some z) : Good prog 35 [.agg (c_api_Topo t_0)] [.c (.d (.lit (.bool z)))] [] := by
  unfold law17_small at hp
  refine fn_good mixed e35 (fnS (m := [false]) (s := ⟨[(0, .agg [.d (.lit (.int .i64 t_0.Switches)), .d (slD 6 c_api_Link t_0.Links), .d (slD 2 c_api_Host t_0.Hosts)])], [], 0, []⟩) (len := 0) (c := k35) rfl (Sub.of_eq rfl) rfl rfl ?_)
  refine w_seq ?_
  refine w_region ?_
  refine o2 rfl ?_
  refine o1 rfl ?_
  refine o_end (e' := [(1, .c (.op 0 0))]) rfl rfl ?_
  refine after_n ?_
  refine w_seq ?_
  refine w_join (J := fun s => Sub s ⟨[(2, .c (.d (.lit (.bool ((decide ((t_0.Links.l.length : Int) ≤ 30)) && (decide ((t_0.Hosts.l.length : Int) ≤ 12)))))))], [], 0, []⟩) ?_ ?_
  · refine w_region ?_
    iterate 2 refine o1 rfl ?_
    refine o1 (v := .c (.d (.lit (.int .i64 (t_0.Links.l.length : Int))))) len_sd ?_
    refine o1 (v := .c (.d (.lit (.bool (decide ((t_0.Links.l.length : Int) ≤ 30)))))) rfl ?_
    refine o1 rfl ?_
    cases hb2 : (decide ((t_0.Links.l.length : Int) ≤ 30) : Bool)
    · refine onot rfl (by first | rfl | exact hb2) ?_
      refine onot rfl (by first | rfl | exact hb2) ?_
      refine onot rfl (by first | rfl | exact hb2) ?_
      refine onot rfl (by first | rfl | exact hb2) ?_
      refine o1 (pk_f (by first | rfl | exact hb2)) ?_
      refine o1 rfl ?_
      exact o_join (sub_ren [] [2] (by decide) rfl .nil (Nat.le_of_ble_eq_true rfl))
    · refine og rfl (by first | rfl | exact hb2) rfl ?_
      refine og rfl (by first | rfl | exact hb2) rfl ?_
      refine og (v := .c (.d (.lit (.int .i64 (t_0.Hosts.l.length : Int))))) rfl (by first | rfl | exact hb2) len_sd ?_
      refine og (v := .c (.d (.lit (.bool (decide ((t_0.Hosts.l.length : Int) ≤ 12)))))) rfl (by first | rfl | exact hb2) rfl ?_
      refine o1 (pk_t (by first | rfl | exact hb2)) ?_
      refine o1 rfl ?_
      exact o_join (sub_ren [] [2] (by decide) rfl .nil (Nat.le_of_ble_eq_true rfl))
  · intro s hs3
    refine after_n ?_
    refine W.sub hs3 ?_
    refine w_ret ?_
    obtain rfl := Option.some.inj hp
    exact leave_at rfl rfl (pr_c p_d pr_nil) pc_nil rfl rfl

/- turnout/turnoutref17.port -/
def k69 : CC :=
  (.seq
  (.region [
    ⟨some 3, .box, [(.tmp 0)], none⟩,
    ⟨some 6, .mv, [(.const (.bool false))], none⟩] [1, 2, 3])
  (.seq
  (.region [
    ⟨some 7, .mv, [(.const (.int .i64 0))], none⟩] [1, 2, 3, 7])
  (.seq
  (.seq
  (.region [
    ⟨some 8, .mv, [(.const (.int .i64 0))], none⟩] [1, 2, 3, 7, 8])
  (.block 0
    (.loop [1, 2, 3, 7, 8]
      (.seq
      (.seq
      (.region [
        ⟨some 11, .mv, [(.tmp 8)], none⟩,
        ⟨some 12, (.fieldAddr 1), [(.tmp 3)], none⟩,
        ⟨some 13, (.load false 1), [(.tmp 12)], none⟩,
        ⟨some 14, (.len false), [(.tmp 13)], none⟩,
        ⟨some 15, (.bin .lss), [(.tmp 11), (.tmp 14)], none⟩] [1, 2, 3, 7, 8, 15])
      (.cond (.tmp 15)
        .skip
        (.exit 0)))
      (.seq
      (.block 1
        (.seq
        (.region [
          ⟨some 18, (.fieldAddr 1), [(.tmp 3)], none⟩,
          ⟨some 19, (.load false 1), [(.tmp 18)], none⟩,
          ⟨some 20, .mv, [(.tmp 8)], none⟩,
          ⟨some 21, (.indexAddr none 6), [(.tmp 19), (.tmp 20)], none⟩,
          ⟨some 22, (.load true 6), [(.tmp 21)], none⟩,
          ⟨some 9, (.alloc [(.int .i64 0), (.int .i64 0), (.int .i64 0), (.int .i64 0), (.int .i64 0), (.int .i64 0)]), [], none⟩,
          ⟨none, (.store 6), [(.tmp 9), (.tmp 22)], none⟩] [1, 2, 3, 7, 8, 9])
        (.seq
        (.seq
        (.region [
          ⟨some 23, (.fieldAddr 0), [(.tmp 9)], none⟩,
          ⟨some 24, (.load false 1), [(.tmp 23)], none⟩,
          ⟨some 25, .mv, [(.tmp 1)], none⟩,
          ⟨some 26, (.bin .eql), [(.tmp 24), (.tmp 25)], none⟩,
          ⟨some 27, .mv, [(.tmp 26)], none⟩,
          ⟨some 28, (.fieldAddr 1), [(.tmp 9)], (some (27, true))⟩,
          ⟨some 29, (.load false 1), [(.tmp 28)], (some (27, true))⟩,
          ⟨some 30, .mv, [(.tmp 2)], (some (27, true))⟩,
          ⟨some 31, (.bin .eql), [(.tmp 29), (.tmp 30)], (some (27, true))⟩,
          ⟨some 32, .pick, [(.tmp 27), (.tmp 31), (.const (.bool false))], none⟩] [1, 2, 3, 7, 8, 9, 32])
        (.cond (.tmp 32)
          (.region [
            ⟨some 33, .mv, [(.tmp 7)], none⟩,
            ⟨some 34, (.bin .add), [(.tmp 33), (.const (.int .i64 1))], none⟩,
            ⟨some 7, .mv, [(.tmp 34)], none⟩] [1, 2, 3, 7, 8, 9])
          .skip))
        (.seq
        (.region [
          ⟨some 35, (.fieldAddr 2), [(.tmp 9)], none⟩,
          ⟨some 36, (.load false 1), [(.tmp 35)], none⟩,
          ⟨some 37, .mv, [(.tmp 1)], none⟩,
          ⟨some 38, (.bin .eql), [(.tmp 36), (.tmp 37)], none⟩,
          ⟨some 39, .mv, [(.tmp 38)], none⟩,
          ⟨some 40, (.fieldAddr 3), [(.tmp 9)], (some (39, true))⟩,
          ⟨some 41, (.load false 1), [(.tmp 40)], (some (39, true))⟩,
          ⟨some 42, .mv, [(.tmp 2)], (some (39, true))⟩,
          ⟨some 43, (.bin .eql), [(.tmp 41), (.tmp 42)], (some (39, true))⟩,
          ⟨some 44, .pick, [(.tmp 39), (.tmp 43), (.const (.bool false))], none⟩] [1, 2, 3, 7, 8, 44])
        (.cond (.tmp 44)
          (.region [
            ⟨some 45, .mv, [(.tmp 7)], none⟩,
            ⟨some 46, (.bin .add), [(.tmp 45), (.const (.int .i64 1))], none⟩,
            ⟨some 7, .mv, [(.tmp 46)], none⟩] [1, 2, 3, 7, 8])
          .skip)))))
      (.region [
        ⟨some 16, .mv, [(.tmp 8)], none⟩,
        ⟨some 17, (.bin .add), [(.tmp 16), (.const (.int .i64 1))], none⟩,
        ⟨some 8, .mv, [(.tmp 17)], none⟩] [1, 2, 3, 7, 8]))))))
  (.seq
  (.seq
  (.region [
    ⟨some 10, .mv, [(.const (.int .i64 0))], none⟩] [1, 2, 3, 7, 10])
  (.block 2
    (.loop [1, 2, 3, 7, 10]
      (.seq
      (.seq
      (.region [
        ⟨some 47, .mv, [(.tmp 10)], none⟩,
        ⟨some 48, (.fieldAddr 2), [(.tmp 3)], none⟩,
        ⟨some 49, (.load false 1), [(.tmp 48)], none⟩,
        ⟨some 50, (.len false), [(.tmp 49)], none⟩,
        ⟨some 51, (.bin .lss), [(.tmp 47), (.tmp 50)], none⟩] [1, 2, 3, 7, 10, 51])
      (.cond (.tmp 51)
        .skip
        (.exit 2)))
      (.seq
      (.block 3
        (.seq
        (.region [
          ⟨some 54, (.fieldAddr 2), [(.tmp 3)], none⟩,
          ⟨some 55, (.load false 1), [(.tmp 54)], none⟩,
          ⟨some 56, .mv, [(.tmp 10)], none⟩,
          ⟨some 57, (.indexAddr none 2), [(.tmp 55), (.tmp 56)], none⟩,
          ⟨some 58, (.fieldAddr 0), [(.tmp 57)], none⟩,
          ⟨some 59, (.load false 1), [(.tmp 58)], none⟩,
          ⟨some 60, .mv, [(.tmp 1)], none⟩,
          ⟨some 61, (.bin .eql), [(.tmp 59), (.tmp 60)], none⟩,
          ⟨some 62, .mv, [(.tmp 61)], none⟩,
          ⟨some 63, (.fieldAddr 2), [(.tmp 3)], (some (62, true))⟩,
          ⟨some 64, (.load false 1), [(.tmp 63)], (some (62, true))⟩,
          ⟨some 65, .mv, [(.tmp 10)], (some (62, true))⟩,
          ⟨some 66, (.indexAddr none 2), [(.tmp 64), (.tmp 65)], (some (62, true))⟩,
          ⟨some 67, (.fieldAddr 1), [(.tmp 66)], (some (62, true))⟩,
          ⟨some 68, (.load false 1), [(.tmp 67)], (some (62, true))⟩,
          ⟨some 69, .mv, [(.tmp 2)], (some (62, true))⟩,
          ⟨some 70, (.bin .eql), [(.tmp 68), (.tmp 69)], (some (62, true))⟩,
          ⟨some 71, .pick, [(.tmp 62), (.tmp 70), (.const (.bool false))], none⟩] [1, 2, 3, 7, 10, 71])
        (.cond (.tmp 71)
          (.region [
            ⟨some 72, .mv, [(.tmp 7)], none⟩,
            ⟨some 73, (.bin .add), [(.tmp 72), (.const (.int .i64 1))], none⟩,
            ⟨some 7, .mv, [(.tmp 73)], none⟩] [1, 2, 3, 7, 10])
          .skip)))
      (.region [
        ⟨some 52, .mv, [(.tmp 10)], none⟩,
        ⟨some 53, (.bin .add), [(.tmp 52), (.const (.int .i64 1))], none⟩,
        ⟨some 10, .mv, [(.tmp 53)], none⟩] [1, 2, 3, 7, 10]))))))
  (.seq
  (.region [
    ⟨some 74, .mv, [(.tmp 1)], none⟩,
    ⟨some 75, (.bin .geq), [(.tmp 74), (.const (.int .i64 0))], none⟩,
    ⟨some 76, .mv, [(.tmp 75)], none⟩,
    ⟨some 77, .mv, [(.tmp 1)], (some (76, true))⟩,
    ⟨some 78, (.fieldAddr 0), [(.tmp 3)], (some (76, true))⟩,
    ⟨some 79, (.load false 1), [(.tmp 78)], (some (76, true))⟩,
    ⟨some 80, (.bin .lss), [(.tmp 77), (.tmp 79)], (some (76, true))⟩,
    ⟨some 81, .pick, [(.tmp 76), (.tmp 80), (.const (.bool false))], none⟩,
    ⟨some 82, .mv, [(.tmp 81)], none⟩,
    ⟨some 83, .mv, [(.tmp 2)], (some (82, true))⟩,
    ⟨some 84, (.bin .geq), [(.tmp 83), (.const (.int .i64 0))], (some (82, true))⟩,
    ⟨some 85, .pick, [(.tmp 82), (.tmp 84), (.const (.bool false))], none⟩,
    ⟨some 86, .mv, [(.tmp 85)], none⟩,
    ⟨some 87, .mv, [(.tmp 2)], (some (86, true))⟩,
    ⟨some 88, (.bin .leq), [(.tmp 87), (.const (.int .i64 7))], (some (86, true))⟩,
    ⟨some 89, .pick, [(.tmp 86), (.tmp 88), (.const (.bool false))], none⟩,
    ⟨some 90, .mv, [(.tmp 89)], none⟩,
    ⟨some 91, .mv, [(.tmp 7)], (some (90, true))⟩,
    ⟨some 92, (.bin .eql), [(.tmp 91), (.const (.int .i64 1))], (some (90, true))⟩,
    ⟨some 93, .pick, [(.tmp 90), (.tmp 92), (.const (.bool false))], none⟩,
    ⟨some 6, .mv, [(.tmp 93)], none⟩] [6])
  .ret)))))
def f69 : Ev.Fn := ⟨3, 94, [.tmp 6], k69⟩
set_option maxRecDepth 100000 in
theorem e69 : compFn prog sig 69 3 [[1, 2, 3], [1, 2, 3, 7], [1, 2, 3, 7, 8], [1, 2, 3, 7, 8], [1, 2, 3, 7, 8, 15], [1, 2, 3, 7, 8, 9], [1, 2, 3, 7, 8, 9, 32], [1, 2, 3, 7, 8, 9], [1, 2, 3, 7, 8, 44], [1, 2, 3, 7, 8], [1, 2, 3, 7, 8], [1, 2, 3, 7, 10], [1, 2, 3, 7, 10], [1, 2, 3, 7, 10, 51], [1, 2, 3, 7, 10, 71], [1, 2, 3, 7, 10], [1, 2, 3, 7, 10], [6]] = some f69 := by kernel_rfl
noncomputable def ref17_port_L1 (t_0 : api_Topo) (sw_1 : Int) (p_2 : Int) : (Int × Int) → Option (Sum ((Int × Int)) (Int)) := fun (i1, i2) =>
  bif decide (i2 < (t_0.Links.l.length : Int)) then (((ixI i2 t_0.Links.l.length).bind fun n12 =>
  (bif ((((gt t_0.Links.l n12).A) == sw_1) && (((gt t_0.Links.l n12).PortA) == p_2)) then (some (wr .i64 (i1 + 1))) else
  (some i1) : Option (Int)).bind fun i14 =>
  bif ((((gt t_0.Links.l n12).B) == sw_1) && (((gt t_0.Links.l n12).PortB) == p_2)) then (some (wr .i64 (i14 + 1))) else
  (some i14) : Option (Int)).bind fun i9 =>
  some (.inl (i9, wr .i64 (i2 + 1)))) else
  (some (.inr i1))

noncomputable def ref17_port_L2 (t_0 : api_Topo) (sw_1 : Int) (p_2 : Int) : (Int × Int) → Option (Sum ((Int × Int)) (Int)) := fun (i28, i29) =>
  bif decide (i29 < (t_0.Hosts.l.length : Int)) then (((ixI i29 t_0.Hosts.l.length).bind fun n39 =>
  bif ((((gt t_0.Hosts.l n39).At) == sw_1) && (((gt t_0.Hosts.l n39).Port) == p_2)) then (some (wr .i64 (i28 + 1))) else
  (some i28) : Option (Int)).bind fun i36 =>
  some (.inl (i36, wr .i64 (i29 + 1)))) else
  (some (.inr i28))

noncomputable def ref17_port (t_0 : api_Topo) (sw_1 : Int) (p_2 : Int) : Option (Bool) :=
  (loopO (ref17_port_L1 t_0 sw_1 p_2) (0, 0)).bind fun i5 =>
  (loopO (ref17_port_L2 t_0 sw_1 p_2) (i5, 0)).bind fun i32 =>
  some ((decide (sw_1 ≥ 0)) && ((decide (sw_1 < t_0.Switches)) && ((decide (p_2 ≥ 0)) && ((decide (p_2 ≤ 7)) && (i32 == 1)))))
theorem ref17_port_ok {t_0 : api_Topo} {sw_1 : Int} {p_2 : Int} {z : Bool} (hp : ref17_port t_0 sw_1 p_2 = some z) : Good prog 69 [.agg (c_api_Topo t_0), .d (.lit (.int .i64 sw_1)), .d (.lit (.int .i64 p_2))] [.c (.d (.lit (.bool z)))] [] := by
  unfold ref17_port at hp
  refine fn_good mixed e69 (fnS (m := [false]) (s := ⟨[(0, .agg [.d (.lit (.int .i64 t_0.Switches)), .d (slD 6 c_api_Link t_0.Links), .d (slD 2 c_api_Host t_0.Hosts)]), (1, .c (.d (.lit (.int .i64 sw_1)))), (2, .c (.d (.lit (.int .i64 p_2))))], [], 0, []⟩) (len := 0) (c := k69) rfl (Sub.of_eq rfl) rfl rfl ?_)
  refine w_seq ?_
  refine w_region ?_
  refine o2 rfl ?_
  refine o1 rfl ?_
  refine o_end (e' := [(1, .c (.d (.lit (.int .i64 sw_1)))), (2, .c (.d (.lit (.int .i64 p_2)))), (3, .c (.op 0 0))]) rfl rfl ?_
  refine after_n ?_
  refine w_seq ?_
  refine w_region ?_
  refine o1 rfl ?_
  refine o_end (e' := [(1, .c (.d (.lit (.int .i64 sw_1)))), (2, .c (.d (.lit (.int .i64 p_2)))), (3, .c (.op 0 0)), (7, .c (.d (.lit (.int .i64 0))))]) rfl rfl ?_
  refine after_n ?_
  refine w_seq ?_
  refine w_seq ?_
  refine w_region ?_
  refine o1 rfl ?_
  refine o_end (e' := [(1, .c (.d (.lit (.int .i64 sw_1)))), (2, .c (.d (.lit (.int .i64 p_2)))), (3, .c (.op 0 0)), (7, .c (.d (.lit (.int .i64 0)))), (8, .c (.d (.lit (.int .i64 0))))]) rfl rfl ?_
  refine after_n ?_
  refine w_block ?_
  obtain ⟨i5, h7, hp⟩ := bnd hp
  refine W.mono ?_ (w_loopS (st := fun (v : (Int × Int)) => match v with | (i1, i2) => ⟨[(1, .c (.d (.lit (.int .i64 sw_1)))), (2, .c (.d (.lit (.int .i64 p_2)))), (3, .c (.op 0 0)), (7, .c (.d (.lit (.int .i64 i1)))), (8, .c (.d (.lit (.int .i64 i2))))], [(0, some (.box [.d (.lit (.int .i64 t_0.Switches)), .d (slD 6 c_api_Link t_0.Links), .d (slD 2 c_api_Host t_0.Hosts)]))], 1, []⟩) (a := (0, 0)) (Q := Jn (fun (x : Int) o s => match x with | i5 => o = Out.exit 0 ∧ Sub s ⟨[(1, .c (.d (.lit (.int .i64 sw_1)))), (2, .c (.d (.lit (.int .i64 p_2)))), (3, .c (.op 0 0)), (7, .c (.d (.lit (.int .i64 i5))))], [(0, some (.box [.d (.lit (.int .i64 t_0.Switches)), .d (slD 6 c_api_Link t_0.Links), .d (slD 2 c_api_Host t_0.Hosts)]))], 1, []⟩)) ?_ h7 ?_)
  · intro o s hs27
    obtain ⟨rfl, hs27⟩ := hs27
    refine out_e ?_
    refine after_n ?_
    refine W.sub hs27 ?_
    refine w_seq ?_
    refine w_seq ?_
    refine w_region ?_
    refine o1 rfl ?_
    refine o_end (e' := [(1, .c (.d (.lit (.int .i64 sw_1)))), (2, .c (.d (.lit (.int .i64 p_2)))), (3, .c (.op 0 0)), (7, .c (.d (.lit (.int .i64 i5)))), (10, .c (.d (.lit (.int .i64 0))))]) rfl rfl ?_
    refine after_n ?_
    refine w_block ?_
    obtain ⟨i32, h34, hp⟩ := bnd hp
    refine W.mono ?_ (w_loopS (st := fun (v : (Int × Int)) => match v with | (i28, i29) => ⟨[(1, .c (.d (.lit (.int .i64 sw_1)))), (2, .c (.d (.lit (.int .i64 p_2)))), (3, .c (.op 0 0)), (7, .c (.d (.lit (.int .i64 i28)))), (10, .c (.d (.lit (.int .i64 i29))))], [(0, some (.box [.d (.lit (.int .i64 t_0.Switches)), .d (slD 6 c_api_Link t_0.Links), .d (slD 2 c_api_Host t_0.Hosts)]))], 1, []⟩) (a := (i5, 0)) (Q := Jn (fun (x : Int) o s => match x with | i32 => o = Out.exit 2 ∧ Sub s ⟨[(1, .c (.d (.lit (.int .i64 sw_1)))), (2, .c (.d (.lit (.int .i64 p_2)))), (3, .c (.op 0 0)), (7, .c (.d (.lit (.int .i64 i32))))], [(0, some (.box [.d (.lit (.int .i64 t_0.Switches)), .d (slD 6 c_api_Link t_0.Links), .d (slD 2 c_api_Host t_0.Hosts)]))], 1, []⟩)) ?_ h34 ?_)
    · intro o s hs46
      obtain ⟨rfl, hs46⟩ := hs46
      refine out_e ?_
      refine after_n ?_
      refine W.sub hs46 ?_
      refine w_seq ?_
      refine w_join (J := fun s => Sub s ⟨[(6, .c (.d (.lit (.bool ((decide (sw_1 ≥ 0)) && ((decide (sw_1 < t_0.Switches)) && ((decide (p_2 ≥ 0)) && ((decide (p_2 ≤ 7)) && (i32 == 1)))))))))], [], 0, []⟩) ?_ ?_
      · refine w_region ?_
        refine o1 rfl ?_
        refine o1 (v := .c (.d (.lit (.bool (decide (sw_1 ≥ 0)))))) rfl ?_
        refine o1 rfl ?_
        cases hb48 : (decide (sw_1 ≥ 0) : Bool)
        · refine onot rfl (by first | rfl | exact hb48) ?_
          refine onot rfl (by first | rfl | exact hb48) ?_
          refine onot rfl (by first | rfl | exact hb48) ?_
          refine onot rfl (by first | rfl | exact hb48) ?_
          refine o1 (pk_f (by first | rfl | exact hb48)) ?_
          refine o1 rfl ?_
          iterate 2 refine onot rfl rfl ?_
          iterate 2 refine o1 rfl ?_
          iterate 2 refine onot rfl rfl ?_
          iterate 2 refine o1 rfl ?_
          iterate 2 refine onot rfl rfl ?_
          iterate 2 refine o1 rfl ?_
          exact o_join (sub_ren [] [6] (by decide) rfl .nil (Nat.le_of_ble_eq_true rfl))
        · refine og rfl (by first | rfl | exact hb48) rfl ?_
          refine og rfl (by first | rfl | exact hb48) rfl ?_
          refine og rfl (by first | rfl | exact hb48) rfl ?_
          refine og (v := .c (.d (.lit (.bool (decide (sw_1 < t_0.Switches)))))) rfl (by first | rfl | exact hb48) rfl ?_
          refine o1 (pk_t (by first | rfl | exact hb48)) ?_
          refine o1 rfl ?_
          cases hb49 : (decide (sw_1 < t_0.Switches) : Bool)
          · refine onot rfl (by first | rfl | exact hb49) ?_
            refine onot rfl (by first | rfl | exact hb49) ?_
            refine o1 (pk_f (by first | rfl | exact hb49)) ?_
            refine o1 rfl ?_
            iterate 2 refine onot rfl rfl ?_
            iterate 2 refine o1 rfl ?_
            iterate 2 refine onot rfl rfl ?_
            iterate 2 refine o1 rfl ?_
            exact o_join (sub_ren [] [6] (by decide) rfl .nil (Nat.le_of_ble_eq_true rfl))
          · refine og rfl (by first | rfl | exact hb49) rfl ?_
            refine og (v := .c (.d (.lit (.bool (decide (p_2 ≥ 0)))))) rfl (by first | rfl | exact hb49) rfl ?_
            refine o1 (pk_t (by first | rfl | exact hb49)) ?_
            refine o1 rfl ?_
            cases hb50 : (decide (p_2 ≥ 0) : Bool)
            · refine onot rfl (by first | rfl | exact hb50) ?_
              refine onot rfl (by first | rfl | exact hb50) ?_
              refine o1 (pk_f (by first | rfl | exact hb50)) ?_
              refine o1 rfl ?_
              iterate 2 refine onot rfl rfl ?_
              iterate 2 refine o1 rfl ?_
              exact o_join (sub_ren [] [6] (by decide) rfl .nil (Nat.le_of_ble_eq_true rfl))
            · refine og rfl (by first | rfl | exact hb50) rfl ?_
              refine og (v := .c (.d (.lit (.bool (decide (p_2 ≤ 7)))))) rfl (by first | rfl | exact hb50) rfl ?_
              refine o1 (pk_t (by first | rfl | exact hb50)) ?_
              refine o1 rfl ?_
              cases hb51 : (decide (p_2 ≤ 7) : Bool)
              · refine onot rfl (by first | rfl | exact hb51) ?_
                refine onot rfl (by first | rfl | exact hb51) ?_
                refine o1 (pk_f (by first | rfl | exact hb51)) ?_
                refine o1 rfl ?_
                exact o_join (sub_ren [] [6] (by decide) rfl .nil (Nat.le_of_ble_eq_true rfl))
              · refine og rfl (by first | rfl | exact hb51) rfl ?_
                refine og (v := .c (.d (.lit (.bool (i32 == 1))))) rfl (by first | rfl | exact hb51) rfl ?_
                refine o1 (pk_t (by first | rfl | exact hb51)) ?_
                refine o1 rfl ?_
                exact o_join (sub_ren [] [6] (by decide) rfl .nil (Nat.le_of_ble_eq_true rfl))
      · intro s hs52
        refine after_n ?_
        refine W.sub hs52 ?_
        refine w_ret ?_
        obtain rfl := Option.some.inj hp
        exact leave_at rfl rfl (pr_c p_d pr_nil) pc_nil rfl rfl
    · exact (sub_ren [0] [1, 2, 3, 7, 10] (by decide) rfl (.cons .nil) (Nat.le_of_ble_eq_true rfl))
    · rintro ⟨i28, i29⟩ r hr
      unfold ref17_port_L2 at hr
      refine w_seq ?_
      refine w_seq ?_
      refine w_region ?_
      iterate 3 refine o1 rfl ?_
      refine o1 (v := .c (.d (.lit (.int .i64 (t_0.Hosts.l.length : Int))))) len_sd ?_
      refine o1 (v := .c (.d (.lit (.bool (decide (i29 < (t_0.Hosts.l.length : Int))))))) rfl ?_
      refine o_end (e' := [(1, .c (.d (.lit (.int .i64 sw_1)))), (2, .c (.d (.lit (.int .i64 p_2)))), (3, .c (.op 0 0)), (7, .c (.d (.lit (.int .i64 i28)))), (10, .c (.d (.lit (.int .i64 i29)))), (51, .c (.d (.lit (.bool (decide (i29 < (t_0.Hosts.l.length : Int)))))))]) rfl rfl ?_
      refine after_n ?_
      refine w_cond (t := decide (i29 < (t_0.Hosts.l.length : Int))) rfl (fun hb35 => ?_) (fun hb35 => ?_)
      · have hr := cnd_t hb35 hr
        refine w_skip ?_
        refine after_n ?_
        refine w_seq ?_
        obtain ⟨i36, h37, hr⟩ := bnd hr
        refine W.mono (Q := Jn (fun (x : Int) o s => match x with | i36 => o = Out.normal ∧ Sub s ⟨[(1, .c (.d (.lit (.int .i64 sw_1)))), (2, .c (.d (.lit (.int .i64 p_2)))), (3, .c (.op 0 0)), (7, .c (.d (.lit (.int .i64 i36)))), (10, .c (.d (.lit (.int .i64 i29))))], [(0, some (.box [.d (.lit (.int .i64 t_0.Switches)), .d (slD 6 c_api_Link t_0.Links), .d (slD 2 c_api_Host t_0.Hosts)]))], 1, []⟩) i36) ?_ ?_
        · intro o s hs45
          obtain ⟨rfl, hs45⟩ := hs45
          refine after_n ?_
          refine W.sub hs45 ?_
          refine w_region ?_
          refine o1 rfl ?_
          refine o1 (v := .c (.d (.lit (.int .i64 (wr .i64 (i29 + 1)))))) rfl ?_
          refine o1 rfl ?_
          refine o_end (e' := [(1, .c (.d (.lit (.int .i64 sw_1)))), (2, .c (.d (.lit (.int .i64 p_2)))), (3, .c (.op 0 0)), (7, .c (.d (.lit (.int .i64 i36)))), (10, .c (.d (.lit (.int .i64 (wr .i64 (i29 + 1))))))]) rfl rfl ?_
          obtain rfl := Option.some.inj hr
          exact And.intro rfl (sub_ren [0] [1, 2, 3, 7, 10] (by decide) rfl (.cons .nil) (Nat.le_of_ble_eq_true rfl))
        · refine w_block ?_
          refine w_seq ?_
          obtain ⟨n39, h40, h37⟩ := bnd h37
          refine w_join (J := fun s => Sub s ⟨[(1, .c (.d (.lit (.int .i64 sw_1)))), (2, .c (.d (.lit (.int .i64 p_2)))), (3, .c (.op 0 0)), (7, .c (.d (.lit (.int .i64 i28)))), (10, .c (.d (.lit (.int .i64 i29)))), (71, .c (.d (.lit (.bool ((((gt t_0.Hosts.l n39).At) == sw_1) && (((gt t_0.Hosts.l n39).Port) == p_2))))))], [(0, some (.box [.d (.lit (.int .i64 t_0.Switches)), .d (slD 6 c_api_Link t_0.Links), .d (slD 2 c_api_Host t_0.Hosts)]))], 1, []⟩) ?_ ?_
          · refine w_region ?_
            iterate 3 refine o1 rfl ?_
            refine o1 (ix_sd h40) ?_
            iterate 3 refine o1 rfl ?_
            refine o1 (v := .c (.d (.lit (.bool (((gt t_0.Hosts.l n39).At) == sw_1))))) rfl ?_
            refine o1 rfl ?_
            cases hb42 : ((((gt t_0.Hosts.l n39).At) == sw_1) : Bool)
            · refine onot rfl (by first | rfl | exact hb42) ?_
              refine onot rfl (by first | rfl | exact hb42) ?_
              refine onot rfl (by first | rfl | exact hb42) ?_
              refine onot rfl (by first | rfl | exact hb42) ?_
              refine onot rfl (by first | rfl | exact hb42) ?_
              refine onot rfl (by first | rfl | exact hb42) ?_
              refine onot rfl (by first | rfl | exact hb42) ?_
              refine onot rfl (by first | rfl | exact hb42) ?_
              refine o1 (pk_f (by first | rfl | exact hb42)) ?_
              exact o_join (sub_ren [0] [1, 2, 3, 7, 10, 71] (by decide) rfl (.cons .nil) (Nat.le_of_ble_eq_true rfl))
            · refine og rfl (by first | rfl | exact hb42) rfl ?_
              refine og rfl (by first | rfl | exact hb42) rfl ?_
              refine og rfl (by first | rfl | exact hb42) rfl ?_
              refine og rfl (by first | rfl | exact hb42) (ix_sd h40) ?_
              refine og rfl (by first | rfl | exact hb42) rfl ?_
              refine og rfl (by first | rfl | exact hb42) rfl ?_
              refine og rfl (by first | rfl | exact hb42) rfl ?_
              refine og (v := .c (.d (.lit (.bool (((gt t_0.Hosts.l n39).Port) == p_2))))) rfl (by first | rfl | exact hb42) rfl ?_
              refine o1 (pk_t (by first | rfl | exact hb42)) ?_
              exact o_join (sub_ren [0] [1, 2, 3, 7, 10, 71] (by decide) rfl (.cons .nil) (Nat.le_of_ble_eq_true rfl))
          · intro s hs43
            refine after_n ?_
            refine W.sub hs43 ?_
            refine w_cond (t := ((((gt t_0.Hosts.l n39).At) == sw_1) && (((gt t_0.Hosts.l n39).Port) == p_2))) rfl (fun hb44 => ?_) (fun hb44 => ?_)
            · have h37 := cnd_t hb44 h37
              refine w_region ?_
              refine o1 rfl ?_
              refine o1 (v := .c (.d (.lit (.int .i64 (wr .i64 (i28 + 1)))))) rfl ?_
              refine o1 rfl ?_
              refine o_end (e' := [(1, .c (.d (.lit (.int .i64 sw_1)))), (2, .c (.d (.lit (.int .i64 p_2)))), (3, .c (.op 0 0)), (7, .c (.d (.lit (.int .i64 (wr .i64 (i28 + 1)))))), (10, .c (.d (.lit (.int .i64 i29))))]) rfl rfl ?_
              refine out_n ?_
              obtain rfl := Option.some.inj h37
              exact And.intro rfl (sub_ren [0] [1, 2, 3, 7, 10] (by decide) rfl (.cons .nil) (Nat.le_of_ble_eq_true rfl))
            · have h37 := cnd_f hb44 h37
              refine w_skip ?_
              refine out_n ?_
              obtain rfl := Option.some.inj h37
              exact And.intro rfl (sub_ren [0] [1, 2, 3, 7, 10] (by decide) rfl (.cons .nil) (Nat.le_of_ble_eq_true rfl))
      · have hr := cnd_f hb35 hr
        refine w_exit ?_
        refine after_e ?_
        obtain rfl := Option.some.inj hr
        exact And.intro nofun (And.intro rfl (sub_ren [0] [1, 2, 3, 7] (by decide) rfl (.cons .nil) (Nat.le_of_ble_eq_true rfl)))
  · exact (sub_ren [0] [1, 2, 3, 7, 8] (by decide) rfl (.cons .nil) (Nat.le_of_ble_eq_true rfl))
  · rintro ⟨i1, i2⟩ r hr
    unfold ref17_port_L1 at hr
    refine w_seq ?_
    refine w_seq ?_
    refine w_region ?_
    iterate 3 refine o1 rfl ?_
    refine o1 (v := .c (.d (.lit (.int .i64 (t_0.Links.l.length : Int))))) len_sd ?_
    refine o1 (v := .c (.d (.lit (.bool (decide (i2 < (t_0.Links.l.length : Int))))))) rfl ?_
    refine o_end (e' := [(1, .c (.d (.lit (.int .i64 sw_1)))), (2, .c (.d (.lit (.int .i64 p_2)))), (3, .c (.op 0 0)), (7, .c (.d (.lit (.int .i64 i1)))), (8, .c (.d (.lit (.int .i64 i2)))), (15, .c (.d (.lit (.bool (decide (i2 < (t_0.Links.l.length : Int)))))))]) rfl rfl ?_
    refine after_n ?_
    refine w_cond (t := decide (i2 < (t_0.Links.l.length : Int))) rfl (fun hb8 => ?_) (fun hb8 => ?_)
    · have hr := cnd_t hb8 hr
      refine w_skip ?_
      refine after_n ?_
      refine w_seq ?_
      obtain ⟨i9, h10, hr⟩ := bnd hr
      refine W.mono (Q := Jn (fun (x : Int) o s => match x with | i9 => o = Out.normal ∧ Sub s ⟨[(1, .c (.d (.lit (.int .i64 sw_1)))), (2, .c (.d (.lit (.int .i64 p_2)))), (3, .c (.op 0 0)), (7, .c (.d (.lit (.int .i64 i9)))), (8, .c (.d (.lit (.int .i64 i2))))], [(0, some (.box [.d (.lit (.int .i64 t_0.Switches)), .d (slD 6 c_api_Link t_0.Links), .d (slD 2 c_api_Host t_0.Hosts)]))], 1, []⟩) i9) ?_ ?_
      · intro o s hs26
        obtain ⟨rfl, hs26⟩ := hs26
        refine after_n ?_
        refine W.sub hs26 ?_
        refine w_region ?_
        refine o1 rfl ?_
        refine o1 (v := .c (.d (.lit (.int .i64 (wr .i64 (i2 + 1)))))) rfl ?_
        refine o1 rfl ?_
        refine o_end (e' := [(1, .c (.d (.lit (.int .i64 sw_1)))), (2, .c (.d (.lit (.int .i64 p_2)))), (3, .c (.op 0 0)), (7, .c (.d (.lit (.int .i64 i9)))), (8, .c (.d (.lit (.int .i64 (wr .i64 (i2 + 1))))))]) rfl rfl ?_
        obtain rfl := Option.some.inj hr
        exact And.intro rfl (sub_ren [0] [1, 2, 3, 7, 8] (by decide) rfl (.cons .nil) (Nat.le_of_ble_eq_true rfl))
      · refine w_block ?_
        refine w_seq ?_
        obtain ⟨n12, h13, h10⟩ := bnd h10
        refine w_region ?_
        iterate 3 refine o1 rfl ?_
        refine o1 (ix_sd h13) ?_
        refine o1 rfl ?_
        refine o2 rfl ?_
        refine o0 rfl ?_
        refine o_end (e' := [(1, .c (.d (.lit (.int .i64 sw_1)))), (2, .c (.d (.lit (.int .i64 p_2)))), (3, .c (.op 0 0)), (7, .c (.d (.lit (.int .i64 i1)))), (8, .c (.d (.lit (.int .i64 i2)))), (9, .c (.op 1 0))]) rfl rfl ?_
        refine after_n ?_
        refine w_seq ?_
        obtain ⟨i14, h15, h10⟩ := bnd h10
        refine W.mono (Q := Jn (fun (x : Int) o s => match x with | i14 => o = Out.normal ∧ Sub s ⟨[(1, .c (.d (.lit (.int .i64 sw_1)))), (2, .c (.d (.lit (.int .i64 p_2)))), (3, .c (.op 0 0)), (7, .c (.d (.lit (.int .i64 i14)))), (8, .c (.d (.lit (.int .i64 i2)))), (9, .c (.op 1 0))], [(0, some (.box [.d (.lit (.int .i64 t_0.Switches)), .d (slD 6 c_api_Link t_0.Links), .d (slD 2 c_api_Host t_0.Hosts)])), (1, some (.box [.d (.lit (.int .i64 ((gt t_0.Links.l n12).A))), .d (.lit (.int .i64 ((gt t_0.Links.l n12).PortA))), .d (.lit (.int .i64 ((gt t_0.Links.l n12).B))), .d (.lit (.int .i64 ((gt t_0.Links.l n12).PortB))), .d (.lit (.int .i64 ((gt t_0.Links.l n12).Least))), .d (.lit (.int .i64 ((gt t_0.Links.l n12).Most)))]))], 2, []⟩) i14) ?_ ?_
        · intro o s hs21
          obtain ⟨rfl, hs21⟩ := hs21
          refine after_n ?_
          refine W.sub hs21 ?_
          refine w_seq ?_
          refine w_join (J := fun s => Sub s ⟨[(1, .c (.d (.lit (.int .i64 sw_1)))), (2, .c (.d (.lit (.int .i64 p_2)))), (3, .c (.op 0 0)), (7, .c (.d (.lit (.int .i64 i14)))), (8, .c (.d (.lit (.int .i64 i2)))), (44, .c (.d (.lit (.bool ((((gt t_0.Links.l n12).B) == sw_1) && (((gt t_0.Links.l n12).PortB) == p_2))))))], [(0, some (.box [.d (.lit (.int .i64 t_0.Switches)), .d (slD 6 c_api_Link t_0.Links), .d (slD 2 c_api_Host t_0.Hosts)]))], 1, []⟩) ?_ ?_
          · refine w_region ?_
            iterate 3 refine o1 rfl ?_
            refine o1 (v := .c (.d (.lit (.bool (((gt t_0.Links.l n12).B) == sw_1))))) rfl ?_
            refine o1 rfl ?_
            cases hb23 : ((((gt t_0.Links.l n12).B) == sw_1) : Bool)
            · refine onot rfl (by first | rfl | exact hb23) ?_
              refine onot rfl (by first | rfl | exact hb23) ?_
              refine onot rfl (by first | rfl | exact hb23) ?_
              refine onot rfl (by first | rfl | exact hb23) ?_
              refine o1 (pk_f (by first | rfl | exact hb23)) ?_
              exact o_join (sub_ren [0] [1, 2, 3, 7, 8, 44] (by decide) rfl (.cons .nil) (Nat.le_of_ble_eq_true rfl))
            · refine og rfl (by first | rfl | exact hb23) rfl ?_
              refine og rfl (by first | rfl | exact hb23) rfl ?_
              refine og rfl (by first | rfl | exact hb23) rfl ?_
              refine og (v := .c (.d (.lit (.bool (((gt t_0.Links.l n12).PortB) == p_2))))) rfl (by first | rfl | exact hb23) rfl ?_
              refine o1 (pk_t (by first | rfl | exact hb23)) ?_
              exact o_join (sub_ren [0] [1, 2, 3, 7, 8, 44] (by decide) rfl (.cons .nil) (Nat.le_of_ble_eq_true rfl))
          · intro s hs24
            refine after_n ?_
            refine W.sub hs24 ?_
            refine w_cond (t := ((((gt t_0.Links.l n12).B) == sw_1) && (((gt t_0.Links.l n12).PortB) == p_2))) rfl (fun hb25 => ?_) (fun hb25 => ?_)
            · have h10 := cnd_t hb25 h10
              refine w_region ?_
              refine o1 rfl ?_
              refine o1 (v := .c (.d (.lit (.int .i64 (wr .i64 (i14 + 1)))))) rfl ?_
              refine o1 rfl ?_
              refine o_end (e' := [(1, .c (.d (.lit (.int .i64 sw_1)))), (2, .c (.d (.lit (.int .i64 p_2)))), (3, .c (.op 0 0)), (7, .c (.d (.lit (.int .i64 (wr .i64 (i14 + 1)))))), (8, .c (.d (.lit (.int .i64 i2))))]) rfl rfl ?_
              refine out_n ?_
              obtain rfl := Option.some.inj h10
              exact And.intro rfl (sub_ren [0] [1, 2, 3, 7, 8] (by decide) rfl (.cons .nil) (Nat.le_of_ble_eq_true rfl))
            · have h10 := cnd_f hb25 h10
              refine w_skip ?_
              refine out_n ?_
              obtain rfl := Option.some.inj h10
              exact And.intro rfl (sub_ren [0] [1, 2, 3, 7, 8] (by decide) rfl (.cons .nil) (Nat.le_of_ble_eq_true rfl))
        · refine w_seq ?_
          refine w_join (J := fun s => Sub s ⟨[(1, .c (.d (.lit (.int .i64 sw_1)))), (2, .c (.d (.lit (.int .i64 p_2)))), (3, .c (.op 0 0)), (7, .c (.d (.lit (.int .i64 i1)))), (8, .c (.d (.lit (.int .i64 i2)))), (9, .c (.op 1 0)), (32, .c (.d (.lit (.bool ((((gt t_0.Links.l n12).A) == sw_1) && (((gt t_0.Links.l n12).PortA) == p_2))))))], [(0, some (.box [.d (.lit (.int .i64 t_0.Switches)), .d (slD 6 c_api_Link t_0.Links), .d (slD 2 c_api_Host t_0.Hosts)])), (1, some (.box [.d (.lit (.int .i64 ((gt t_0.Links.l n12).A))), .d (.lit (.int .i64 ((gt t_0.Links.l n12).PortA))), .d (.lit (.int .i64 ((gt t_0.Links.l n12).B))), .d (.lit (.int .i64 ((gt t_0.Links.l n12).PortB))), .d (.lit (.int .i64 ((gt t_0.Links.l n12).Least))), .d (.lit (.int .i64 ((gt t_0.Links.l n12).Most)))]))], 2, []⟩) ?_ ?_
          · refine w_region ?_
            iterate 3 refine o1 rfl ?_
            refine o1 (v := .c (.d (.lit (.bool (((gt t_0.Links.l n12).A) == sw_1))))) rfl ?_
            refine o1 rfl ?_
            cases hb18 : ((((gt t_0.Links.l n12).A) == sw_1) : Bool)
            · refine onot rfl (by first | rfl | exact hb18) ?_
              refine onot rfl (by first | rfl | exact hb18) ?_
              refine onot rfl (by first | rfl | exact hb18) ?_
              refine onot rfl (by first | rfl | exact hb18) ?_
              refine o1 (pk_f (by first | rfl | exact hb18)) ?_
              exact o_join (sub_ren [0, 1] [1, 2, 3, 7, 8, 9, 32] (by decide) rfl (.cons (.cons .nil)) (Nat.le_of_ble_eq_true rfl))
            · refine og rfl (by first | rfl | exact hb18) rfl ?_
              refine og rfl (by first | rfl | exact hb18) rfl ?_
              refine og rfl (by first | rfl | exact hb18) rfl ?_
              refine og (v := .c (.d (.lit (.bool (((gt t_0.Links.l n12).PortA) == p_2))))) rfl (by first | rfl | exact hb18) rfl ?_
              refine o1 (pk_t (by first | rfl | exact hb18)) ?_
              exact o_join (sub_ren [0, 1] [1, 2, 3, 7, 8, 9, 32] (by decide) rfl (.cons (.cons .nil)) (Nat.le_of_ble_eq_true rfl))
          · intro s hs19
            refine after_n ?_
            refine W.sub hs19 ?_
            refine w_cond (t := ((((gt t_0.Links.l n12).A) == sw_1) && (((gt t_0.Links.l n12).PortA) == p_2))) rfl (fun hb20 => ?_) (fun hb20 => ?_)
            · have h15 := cnd_t hb20 h15
              refine w_region ?_
              refine o1 rfl ?_
              refine o1 (v := .c (.d (.lit (.int .i64 (wr .i64 (i1 + 1)))))) rfl ?_
              refine o1 rfl ?_
              refine o_end (e' := [(1, .c (.d (.lit (.int .i64 sw_1)))), (2, .c (.d (.lit (.int .i64 p_2)))), (3, .c (.op 0 0)), (7, .c (.d (.lit (.int .i64 (wr .i64 (i1 + 1)))))), (8, .c (.d (.lit (.int .i64 i2)))), (9, .c (.op 1 0))]) rfl rfl ?_
              obtain rfl := Option.some.inj h15
              exact And.intro rfl (sub_ren [0, 1] [1, 2, 3, 7, 8, 9] (by decide) rfl (.cons (.cons .nil)) (Nat.le_of_ble_eq_true rfl))
            · have h15 := cnd_f hb20 h15
              refine w_skip ?_
              obtain rfl := Option.some.inj h15
              exact And.intro rfl (sub_ren [0, 1] [1, 2, 3, 7, 8, 9] (by decide) rfl (.cons (.cons .nil)) (Nat.le_of_ble_eq_true rfl))
    · have hr := cnd_f hb8 hr
      refine w_exit ?_
      refine after_e ?_
      obtain rfl := Option.some.inj hr
      exact And.intro nofun (And.intro rfl (sub_ren [0] [1, 2, 3, 7] (by decide) rfl (.cons .nil) (Nat.le_of_ble_eq_true rfl)))

/- turnout/turnoutref17.Right -/
def k29 : CC :=
  (.seq
  (.region [
    ⟨some 1, .box, [(.tmp 0)], none⟩,
    ⟨some 2, .mv, [(.const (.bool false))], none⟩] [1])
  (.seq
  (.seq
  (.region [
    ⟨some 6, (.fieldAddr 0), [(.tmp 1)], none⟩,
    ⟨some 7, (.load false 1), [(.tmp 6)], none⟩,
    ⟨some 8, (.bin .lss), [(.tmp 7), (.const (.int .i64 1))], none⟩,
    ⟨some 9, .mv, [(.tmp 8)], none⟩,
    ⟨some 10, (.fieldAddr 0), [(.tmp 1)], (some (9, false))⟩,
    ⟨some 11, (.load false 1), [(.tmp 10)], (some (9, false))⟩,
    ⟨some 12, (.bin .gtr), [(.tmp 11), (.const (.int .i64 8))], (some (9, false))⟩,
    ⟨some 13, .pick, [(.tmp 9), (.const (.bool true)), (.tmp 12)], none⟩,
    ⟨some 14, .mv, [(.tmp 13)], none⟩,
    ⟨some 15, (.fieldAddr 1), [(.tmp 1)], (some (14, false))⟩,
    ⟨some 16, (.load false 1), [(.tmp 15)], (some (14, false))⟩,
    ⟨some 17, (.len false), [(.tmp 16)], (some (14, false))⟩,
    ⟨some 18, (.bin .gtr), [(.tmp 17), (.const (.int .i64 24))], (some (14, false))⟩,
    ⟨some 19, .pick, [(.tmp 14), (.const (.bool true)), (.tmp 18)], none⟩,
    ⟨some 20, .mv, [(.tmp 19)], none⟩,
    ⟨some 21, (.fieldAddr 2), [(.tmp 1)], (some (20, false))⟩,
    ⟨some 22, (.load false 1), [(.tmp 21)], (some (20, false))⟩,
    ⟨some 23, (.len false), [(.tmp 22)], (some (20, false))⟩,
    ⟨some 24, (.bin .gtr), [(.tmp 23), (.const (.int .i64 8))], (some (20, false))⟩,
    ⟨some 25, .pick, [(.tmp 20), (.const (.bool true)), (.tmp 24)], none⟩] [1, 25])
  (.cond (.tmp 25)
    (.seq
    (.region [
      ⟨some 2, .mv, [(.const (.bool false))], none⟩] [2])
    .ret)
    .skip))
  (.seq
  (.seq
  (.region [
    ⟨some 3, .mv, [(.const (.int .i64 0))], none⟩] [1, 3])
  (.block 0
    (.loop [1, 3]
      (.seq
      (.seq
      (.region [
        ⟨some 26, .mv, [(.tmp 3)], none⟩,
        ⟨some 27, (.fieldAddr 1), [(.tmp 1)], none⟩,
        ⟨some 28, (.load false 1), [(.tmp 27)], none⟩,
        ⟨some 29, (.len false), [(.tmp 28)], none⟩,
        ⟨some 30, (.bin .lss), [(.tmp 26), (.tmp 29)], none⟩] [1, 3, 30])
      (.cond (.tmp 30)
        .skip
        (.exit 0)))
      (.seq
      (.block 1
        (.seq
        (.region [
          ⟨some 33, (.fieldAddr 1), [(.tmp 1)], none⟩,
          ⟨some 34, (.load false 1), [(.tmp 33)], none⟩,
          ⟨some 35, .mv, [(.tmp 3)], none⟩,
          ⟨some 36, (.indexAddr none 6), [(.tmp 34), (.tmp 35)], none⟩,
          ⟨some 37, (.load true 6), [(.tmp 36)], none⟩,
          ⟨some 4, (.alloc [(.int .i64 0), (.int .i64 0), (.int .i64 0), (.int .i64 0), (.int .i64 0), (.int .i64 0)]), [], none⟩,
          ⟨none, (.store 6), [(.tmp 4), (.tmp 37)], none⟩] [1, 3, 4])
        (.seq
        (.region [
          ⟨some 38, (.fieldAddr 0), [(.tmp 4)], none⟩,
          ⟨some 39, (.load false 1), [(.tmp 38)], none⟩,
          ⟨some 40, (.fieldAddr 2), [(.tmp 4)], none⟩,
          ⟨some 41, (.load false 1), [(.tmp 40)], none⟩,
          ⟨some 42, (.bin .eql), [(.tmp 39), (.tmp 41)], none⟩,
          ⟨some 43, .mv, [(.tmp 42)], none⟩,
          ⟨some 44, (.fieldAddr 4), [(.tmp 4)], (some (43, false))⟩,
          ⟨some 45, (.load false 1), [(.tmp 44)], (some (43, false))⟩,
          ⟨some 46, (.bin .lss), [(.tmp 45), (.const (.int .i64 1))], (some (43, false))⟩,
          ⟨some 47, .pick, [(.tmp 43), (.const (.bool true)), (.tmp 46)], none⟩,
          ⟨some 48, .mv, [(.tmp 47)], none⟩,
          ⟨some 49, (.fieldAddr 4), [(.tmp 4)], (some (48, false))⟩,
          ⟨some 50, (.load false 1), [(.tmp 49)], (some (48, false))⟩,
          ⟨some 51, (.fieldAddr 5), [(.tmp 4)], (some (48, false))⟩,
          ⟨some 52, (.load false 1), [(.tmp 51)], (some (48, false))⟩,
          ⟨some 53, (.bin .gtr), [(.tmp 50), (.tmp 52)], (some (48, false))⟩,
          ⟨some 54, .pick, [(.tmp 48), (.const (.bool true)), (.tmp 53)], none⟩,
          ⟨some 55, .mv, [(.tmp 54)], none⟩,
          ⟨some 56, (.fieldAddr 5), [(.tmp 4)], (some (55, false))⟩,
          ⟨some 57, (.load false 1), [(.tmp 56)], (some (55, false))⟩,
          ⟨some 58, (.bin .gtr), [(.tmp 57), (.const (.int .i64 1000))], (some (55, false))⟩,
          ⟨some 59, .pick, [(.tmp 55), (.const (.bool true)), (.tmp 58)], none⟩,
          ⟨some 60, .mv, [(.tmp 59)], none⟩,
          ⟨some 61, (.load true 3), [(.tmp 1)], (some (60, false))⟩,
          ⟨some 62, (.fieldAddr 0), [(.tmp 4)], (some (60, false))⟩,
          ⟨some 63, (.load false 1), [(.tmp 62)], (some (60, false))⟩,
          ⟨some 64, (.fieldAddr 1), [(.tmp 4)], (some (60, false))⟩,
          ⟨some 65, (.load false 1), [(.tmp 64)], (some (60, false))⟩,
          ⟨some 66, (.call true []), [(.func 69), (.tmp 61), (.tmp 63), (.tmp 65)], (some (60, false))⟩,
          ⟨some 67, (.un .not), [(.tmp 66)], (some (60, false))⟩,
          ⟨some 68, .pick, [(.tmp 60), (.const (.bool true)), (.tmp 67)], none⟩,
          ⟨some 69, .mv, [(.tmp 68)], none⟩,
          ⟨some 70, (.load true 3), [(.tmp 1)], (some (69, false))⟩,
          ⟨some 71, (.fieldAddr 2), [(.tmp 4)], (some (69, false))⟩,
          ⟨some 72, (.load false 1), [(.tmp 71)], (some (69, false))⟩,
          ⟨some 73, (.fieldAddr 3), [(.tmp 4)], (some (69, false))⟩,
          ⟨some 74, (.load false 1), [(.tmp 73)], (some (69, false))⟩,
          ⟨some 75, (.call true []), [(.func 69), (.tmp 70), (.tmp 72), (.tmp 74)], (some (69, false))⟩,
          ⟨some 76, (.un .not), [(.tmp 75)], (some (69, false))⟩,
          ⟨some 77, .pick, [(.tmp 69), (.const (.bool true)), (.tmp 76)], none⟩] [1, 3, 77])
        (.cond (.tmp 77)
          (.seq
          (.region [
            ⟨some 2, .mv, [(.const (.bool false))], none⟩] [2])
          .ret)
          .skip))))
      (.region [
        ⟨some 31, .mv, [(.tmp 3)], none⟩,
        ⟨some 32, (.bin .add), [(.tmp 31), (.const (.int .i64 1))], none⟩,
        ⟨some 3, .mv, [(.tmp 32)], none⟩] [1, 3]))))))
  (.seq
  (.seq
  (.region [
    ⟨some 5, .mv, [(.const (.int .i64 0))], none⟩] [1, 5])
  (.block 2
    (.loop [1, 5]
      (.seq
      (.seq
      (.region [
        ⟨some 78, .mv, [(.tmp 5)], none⟩,
        ⟨some 79, (.fieldAddr 2), [(.tmp 1)], none⟩,
        ⟨some 80, (.load false 1), [(.tmp 79)], none⟩,
        ⟨some 81, (.len false), [(.tmp 80)], none⟩,
        ⟨some 82, (.bin .lss), [(.tmp 78), (.tmp 81)], none⟩] [1, 5, 82])
      (.cond (.tmp 82)
        .skip
        (.exit 2)))
      (.seq
      (.block 3
        (.seq
        (.drawn [
          ⟨some 85, (.load true 3), [(.tmp 1)], none⟩,
          ⟨some 86, (.fieldAddr 2), [(.tmp 1)], none⟩,
          ⟨some 87, (.load false 1), [(.tmp 86)], none⟩,
          ⟨some 88, .mv, [(.tmp 5)], none⟩,
          ⟨some 89, (.indexAddr none 2), [(.tmp 87), (.tmp 88)], none⟩,
          ⟨some 90, (.fieldAddr 0), [(.tmp 89)], none⟩,
          ⟨some 91, (.load false 1), [(.tmp 90)], none⟩,
          ⟨some 92, (.fieldAddr 2), [(.tmp 1)], none⟩,
          ⟨some 93, (.load false 1), [(.tmp 92)], none⟩,
          ⟨some 94, .mv, [(.tmp 5)], none⟩,
          ⟨some 95, (.indexAddr none 2), [(.tmp 93), (.tmp 94)], none⟩,
          ⟨some 96, (.fieldAddr 1), [(.tmp 95)], none⟩,
          ⟨some 97, (.load false 1), [(.tmp 96)], none⟩,
          ⟨some 98, (.call true []), [(.func 69), (.tmp 85), (.tmp 91), (.tmp 97)], none⟩,
          ⟨some 99, (.un .not), [(.tmp 98)], none⟩] [] [1, 5, 99])
        (.cond (.tmp 99)
          (.seq
          (.region [
            ⟨some 2, .mv, [(.const (.bool false))], none⟩] [2])
          .ret)
          .skip)))
      (.region [
        ⟨some 83, .mv, [(.tmp 5)], none⟩,
        ⟨some 84, (.bin .add), [(.tmp 83), (.const (.int .i64 1))], none⟩,
        ⟨some 5, .mv, [(.tmp 84)], none⟩] [1, 5]))))))
  (.seq
  (.region [
    ⟨some 2, .mv, [(.const (.bool true))], none⟩] [2])
  .ret)))))
def f29 : Ev.Fn := ⟨1, 100, [.tmp 2], k29⟩
set_option maxRecDepth 100000 in
theorem e29 : compFn prog sig 29 1 [[1], [1, 25], [2], [1, 3], [1, 3], [1, 3, 30], [1, 3, 4], [1, 3, 77], [2], [1, 3], [1, 5], [1, 5], [1, 5, 82], [1, 5, 99], [2], [1, 5], [2]] = some f29 := by kernel_rfl
noncomputable def ref17_Right_L1 (t_0 : api_Topo) : Int → Option (Sum (Int) (Sum (Unit) (Unit))) := fun i7 =>
  bif decide (i7 < (t_0.Links.l.length : Int)) then ((ixI i7 t_0.Links.l.length).bind fun n12 =>
  (bif (((gt t_0.Links.l n12).A) == ((gt t_0.Links.l n12).B)) then (some true) else (bif decide (((gt t_0.Links.l n12).Least) < 1) then (some true) else (bif decide (((gt t_0.Links.l n12).Least) > ((gt t_0.Links.l n12).Most)) then (some true) else (bif decide (((gt t_0.Links.l n12).Most) > 1000) then (some true) else ((ref17_port t_0 ((gt t_0.Links.l n12).A) ((gt t_0.Links.l n12).PortA)).bind fun r14 =>
  bif (!r14) then (some true) else ((ref17_port t_0 ((gt t_0.Links.l n12).B) ((gt t_0.Links.l n12).PortB)).bind fun r16 =>
  some (!r16))))))).bind fun b18 =>
  bif b18 then (some (.inr (.inl ()))) else
  (some (.inl (wr .i64 (i7 + 1))))) else
  (some (.inr (.inr ())))

noncomputable def ref17_Right_L2 (t_0 : api_Topo) : Int → Option (Sum (Int) (Sum (Unit) (Unit))) := fun i28 =>
  bif decide (i28 < (t_0.Hosts.l.length : Int)) then ((ixI i28 t_0.Hosts.l.length).bind fun n33 =>
  (ref17_port t_0 ((gt t_0.Hosts.l n33).At) ((gt t_0.Hosts.l n33).Port)).bind fun r35 =>
  bif (!r35) then (some (.inr (.inl ()))) else
  (some (.inl (wr .i64 (i28 + 1))))) else
  (some (.inr (.inr ())))

noncomputable def ref17_Right (t_0 : api_Topo) : Option (Bool) :=
  bif ((decide (t_0.Switches < 1)) || ((decide (t_0.Switches > 8)) || ((decide ((t_0.Links.l.length : Int) > 24)) || (decide ((t_0.Hosts.l.length : Int) > 8))))) then (some false) else
  ((loopO (ref17_Right_L1 t_0) 0).bind fun
  | .inl _ => (some false)
  | .inr (_) => ((loopO (ref17_Right_L2 t_0) 0).bind fun
  | .inl _ => (some false)
  | .inr (_) => (some true)))
theorem ref17_Right_ok {t_0 : api_Topo} {z : Bool} (hp : ref17_Right t_0 = some z) : Good prog 29 [.agg (c_api_Topo t_0)] [.c (.d (.lit (.bool z)))] [] := by
  unfold ref17_Right at hp
  refine fn_good mixed e29 (fnS (m := [false]) (s := ⟨[(0, .agg [.d (.lit (.int .i64 t_0.Switches)), .d (slD 6 c_api_Link t_0.Links), .d (slD 2 c_api_Host t_0.Hosts)])], [], 0, []⟩) (len := 0) (c := k29) rfl (Sub.of_eq rfl) rfl rfl ?_)
  refine w_seq ?_
  refine w_region ?_
  refine o2 rfl ?_
  refine o1 rfl ?_
  refine o_end (e' := [(1, .c (.op 0 0))]) rfl rfl ?_
  refine after_n ?_
  refine w_seq ?_
  refine w_seq ?_
  refine w_join (J := fun s => Sub s ⟨[(1, .c (.op 0 0)), (25, .c (.d (.lit (.bool ((decide (t_0.Switches < 1)) || ((decide (t_0.Switches > 8)) || ((decide ((t_0.Links.l.length : Int) > 24)) || (decide ((t_0.Hosts.l.length : Int) > 8)))))))))], [(0, some (.box [.d (.lit (.int .i64 t_0.Switches)), .d (slD 6 c_api_Link t_0.Links), .d (slD 2 c_api_Host t_0.Hosts)]))], 1, []⟩) ?_ ?_
  · refine w_region ?_
    iterate 2 refine o1 rfl ?_
    refine o1 (v := .c (.d (.lit (.bool (decide (t_0.Switches < 1)))))) rfl ?_
    refine o1 rfl ?_
    cases hb2 : (decide (t_0.Switches < 1) : Bool)
    · refine og rfl (by first | rfl | exact hb2) rfl ?_
      refine og rfl (by first | rfl | exact hb2) rfl ?_
      refine og (v := .c (.d (.lit (.bool (decide (t_0.Switches > 8)))))) rfl (by first | rfl | exact hb2) rfl ?_
      refine o1 (pk_f (by first | rfl | exact hb2)) ?_
      refine o1 rfl ?_
      cases hb3 : (decide (t_0.Switches > 8) : Bool)
      · refine og rfl (by first | rfl | exact hb3) rfl ?_
        refine og rfl (by first | rfl | exact hb3) rfl ?_
        refine og (v := .c (.d (.lit (.int .i64 (t_0.Links.l.length : Int))))) rfl (by first | rfl | exact hb3) len_sd ?_
        refine og (v := .c (.d (.lit (.bool (decide ((t_0.Links.l.length : Int) > 24)))))) rfl (by first | rfl | exact hb3) rfl ?_
        refine o1 (pk_f (by first | rfl | exact hb3)) ?_
        refine o1 rfl ?_
        cases hb4 : (decide ((t_0.Links.l.length : Int) > 24) : Bool)
        · refine og rfl (by first | rfl | exact hb4) rfl ?_
          refine og rfl (by first | rfl | exact hb4) rfl ?_
          refine og (v := .c (.d (.lit (.int .i64 (t_0.Hosts.l.length : Int))))) rfl (by first | rfl | exact hb4) len_sd ?_
          refine og (v := .c (.d (.lit (.bool (decide ((t_0.Hosts.l.length : Int) > 8)))))) rfl (by first | rfl | exact hb4) rfl ?_
          refine o1 (pk_f (by first | rfl | exact hb4)) ?_
          exact o_join (sub_ren [0] [1, 25] (by decide) rfl (.cons .nil) (Nat.le_of_ble_eq_true rfl))
        · refine onot rfl (by first | rfl | exact hb4) ?_
          refine onot rfl (by first | rfl | exact hb4) ?_
          refine onot rfl (by first | rfl | exact hb4) ?_
          refine onot rfl (by first | rfl | exact hb4) ?_
          refine o1 (pk_t (by first | rfl | exact hb4)) ?_
          exact o_join (sub_ren [0] [1, 25] (by decide) rfl (.cons .nil) (Nat.le_of_ble_eq_true rfl))
      · refine onot rfl (by first | rfl | exact hb3) ?_
        refine onot rfl (by first | rfl | exact hb3) ?_
        refine onot rfl (by first | rfl | exact hb3) ?_
        refine onot rfl (by first | rfl | exact hb3) ?_
        refine o1 (pk_t (by first | rfl | exact hb3)) ?_
        refine o1 rfl ?_
        iterate 4 refine onot rfl rfl ?_
        refine o1 rfl ?_
        exact o_join (sub_ren [0] [1, 25] (by decide) rfl (.cons .nil) (Nat.le_of_ble_eq_true rfl))
    · refine onot rfl (by first | rfl | exact hb2) ?_
      refine onot rfl (by first | rfl | exact hb2) ?_
      refine onot rfl (by first | rfl | exact hb2) ?_
      refine o1 (pk_t (by first | rfl | exact hb2)) ?_
      refine o1 rfl ?_
      iterate 4 refine onot rfl rfl ?_
      iterate 2 refine o1 rfl ?_
      iterate 4 refine onot rfl rfl ?_
      refine o1 rfl ?_
      exact o_join (sub_ren [0] [1, 25] (by decide) rfl (.cons .nil) (Nat.le_of_ble_eq_true rfl))
  · intro s hs5
    refine after_n ?_
    refine W.sub hs5 ?_
    refine w_cond (t := ((decide (t_0.Switches < 1)) || ((decide (t_0.Switches > 8)) || ((decide ((t_0.Links.l.length : Int) > 24)) || (decide ((t_0.Hosts.l.length : Int) > 8)))))) rfl (fun hb6 => ?_) (fun hb6 => ?_)
    · have hp := cnd_t hb6 hp
      refine w_seq ?_
      refine w_region ?_
      refine o1 rfl ?_
      refine o_end (e' := [(2, .c (.d (.lit (.bool false))))]) rfl rfl ?_
      refine after_n ?_
      refine w_ret ?_
      refine after_r ?_
      obtain rfl := Option.some.inj hp
      exact leave_at rfl rfl (pr_c p_d pr_nil) pc_nil rfl rfl
    · have hp := cnd_f hb6 hp
      refine w_skip ?_
      refine after_n ?_
      refine w_seq ?_
      refine w_seq ?_
      refine w_region ?_
      refine o1 rfl ?_
      refine o_end (e' := [(1, .c (.op 0 0)), (3, .c (.d (.lit (.int .i64 0))))]) rfl rfl ?_
      refine after_n ?_
      refine w_block ?_
      obtain ⟨x9, h10, hp⟩ := bnd hp
      refine W.mono ?_ (w_loopS (st := fun (v : Int) => match v with | i7 => ⟨[(1, .c (.op 0 0)), (3, .c (.d (.lit (.int .i64 i7))))], [(0, some (.box [.d (.lit (.int .i64 t_0.Switches)), .d (slD 6 c_api_Link t_0.Links), .d (slD 2 c_api_Host t_0.Hosts)]))], 1, []⟩) (a := 0) (Q := Jn (fun (x : Sum (Unit) (Unit)) o s => match x with | .inl _ => o = Out.ret ∧ Sub s ⟨[(2, .c (.d (.lit (.bool false))))], [], 0, []⟩ | .inr (_) => o = Out.exit 0 ∧ Sub s ⟨[(1, .c (.op 0 0))], [(0, some (.box [.d (.lit (.int .i64 t_0.Switches)), .d (slD 6 c_api_Link t_0.Links), .d (slD 2 c_api_Host t_0.Hosts)]))], 1, []⟩)) ?_ h10 ?_)
      · intro o s hs27
        rcases x9 with (_ | _)
        · obtain ⟨rfl, hs27⟩ := hs27
          refine out_r ?_
          refine after_r ?_
          obtain rfl := Option.some.inj hp
          refine wk.sub hs27 ?_
          exact leave_at rfl rfl (pr_c p_d pr_nil) pc_nil rfl rfl
        · obtain ⟨rfl, hs27⟩ := hs27
          refine out_e ?_
          refine after_n ?_
          refine W.sub hs27 ?_
          refine w_seq ?_
          refine w_seq ?_
          refine w_region ?_
          refine o1 rfl ?_
          refine o_end (e' := [(1, .c (.op 0 0)), (5, .c (.d (.lit (.int .i64 0))))]) rfl rfl ?_
          refine after_n ?_
          refine w_block ?_
          obtain ⟨x30, h31, hp⟩ := bnd hp
          refine W.mono ?_ (w_loopS (st := fun (v : Int) => match v with | i28 => ⟨[(1, .c (.op 0 0)), (5, .c (.d (.lit (.int .i64 i28))))], [(0, some (.box [.d (.lit (.int .i64 t_0.Switches)), .d (slD 6 c_api_Link t_0.Links), .d (slD 2 c_api_Host t_0.Hosts)]))], 1, []⟩) (a := 0) (Q := Jn (fun (x : Sum (Unit) (Unit)) o s => match x with | .inl _ => o = Out.ret ∧ Sub s ⟨[(2, .c (.d (.lit (.bool false))))], [], 0, []⟩ | .inr (_) => o = Out.exit 2 ∧ Sub s ⟨[], [], 0, []⟩)) ?_ h31 ?_)
          · intro o s hs38
            rcases x30 with (_ | _)
            · obtain ⟨rfl, hs38⟩ := hs38
              refine out_r ?_
              refine after_r ?_
              obtain rfl := Option.some.inj hp
              refine wk.sub hs38 ?_
              exact leave_at rfl rfl (pr_c p_d pr_nil) pc_nil rfl rfl
            · obtain ⟨rfl, hs38⟩ := hs38
              refine out_e ?_
              refine after_n ?_
              refine W.sub hs38 ?_
              refine w_seq ?_
              refine w_region ?_
              refine o1 rfl ?_
              refine o_end (e' := [(2, .c (.d (.lit (.bool true))))]) rfl rfl ?_
              refine after_n ?_
              refine w_ret ?_
              obtain rfl := Option.some.inj hp
              exact leave_at rfl rfl (pr_c p_d pr_nil) pc_nil rfl rfl
          · exact (sub_ren [0] [1, 5] (by decide) rfl (.cons .nil) (Nat.le_of_ble_eq_true rfl))
          · rintro i28 r hr
            unfold ref17_Right_L2 at hr
            refine w_seq ?_
            refine w_seq ?_
            refine w_region ?_
            iterate 3 refine o1 rfl ?_
            refine o1 (v := .c (.d (.lit (.int .i64 (t_0.Hosts.l.length : Int))))) len_sd ?_
            refine o1 (v := .c (.d (.lit (.bool (decide (i28 < (t_0.Hosts.l.length : Int))))))) rfl ?_
            refine o_end (e' := [(1, .c (.op 0 0)), (5, .c (.d (.lit (.int .i64 i28)))), (82, .c (.d (.lit (.bool (decide (i28 < (t_0.Hosts.l.length : Int)))))))]) rfl rfl ?_
            refine after_n ?_
            refine w_cond (t := decide (i28 < (t_0.Hosts.l.length : Int))) rfl (fun hb32 => ?_) (fun hb32 => ?_)
            · have hr := cnd_t hb32 hr
              refine w_skip ?_
              refine after_n ?_
              refine w_seq ?_
              refine w_block ?_
              refine w_seq ?_
              obtain ⟨n33, h34, hr⟩ := bnd hr
              obtain ⟨r35, h36, hr⟩ := bnd hr
              refine w_drawn ?_
              iterate 4 refine d1 rfl ?_
              refine d1 (ix_sd h34) ?_
              iterate 5 refine d1 rfl ?_
              refine d1 (ix_sd h34) ?_
              iterate 2 refine d1 rfl ?_
              refine dc (rs := [.c (.d (.lit (.bool r35)))]) (outs := []) rfl (ref17_port_ok h36) rfl (Nat.le_of_ble_eq_true rfl) ?_
              refine d1 (v := .c (.d (.lit (.bool (!r35))))) rfl ?_
              refine d_fin (e' := [(1, .c (.op 0 0)), (5, .c (.d (.lit (.int .i64 i28)))), (99, .c (.d (.lit (.bool (!r35)))))]) (n' := 961) rfl rfl rfl rfl ?_
              refine after_n ?_
              refine w_cond (t := (!r35)) rfl (fun hb37 => ?_) (fun hb37 => ?_)
              · have hr := cnd_t hb37 hr
                refine w_seq ?_
                refine w_region ?_
                refine o1 rfl ?_
                refine o_end (e' := [(2, .c (.d (.lit (.bool false))))]) rfl rfl ?_
                refine after_n ?_
                refine w_ret ?_
                refine out_r ?_
                refine after_r ?_
                obtain rfl := Option.some.inj hr
                exact And.intro nofun (And.intro rfl (sub_ren [] [2] (by decide) rfl .nil (Nat.le_of_ble_eq_true rfl)))
              · have hr := cnd_f hb37 hr
                refine w_skip ?_
                refine out_n ?_
                refine after_n ?_
                refine w_region ?_
                refine o1 rfl ?_
                refine o1 (v := .c (.d (.lit (.int .i64 (wr .i64 (i28 + 1)))))) rfl ?_
                refine o1 rfl ?_
                refine o_end (e' := [(1, .c (.op 0 0)), (5, .c (.d (.lit (.int .i64 (wr .i64 (i28 + 1))))))]) rfl rfl ?_
                obtain rfl := Option.some.inj hr
                exact And.intro rfl (sub_ren [0] [1, 5] (by decide) rfl (.cons .nil) (Nat.le_of_ble_eq_true rfl))
            · have hr := cnd_f hb32 hr
              refine w_exit ?_
              refine after_e ?_
              obtain rfl := Option.some.inj hr
              exact And.intro nofun (And.intro rfl (sub_ren [] [] (by decide) rfl .nil (Nat.le_of_ble_eq_true rfl)))
      · exact (sub_ren [0] [1, 3] (by decide) rfl (.cons .nil) (Nat.le_of_ble_eq_true rfl))
      · rintro i7 r hr
        unfold ref17_Right_L1 at hr
        refine w_seq ?_
        refine w_seq ?_
        refine w_region ?_
        iterate 3 refine o1 rfl ?_
        refine o1 (v := .c (.d (.lit (.int .i64 (t_0.Links.l.length : Int))))) len_sd ?_
        refine o1 (v := .c (.d (.lit (.bool (decide (i7 < (t_0.Links.l.length : Int))))))) rfl ?_
        refine o_end (e' := [(1, .c (.op 0 0)), (3, .c (.d (.lit (.int .i64 i7)))), (30, .c (.d (.lit (.bool (decide (i7 < (t_0.Links.l.length : Int)))))))]) rfl rfl ?_
        refine after_n ?_
        refine w_cond (t := decide (i7 < (t_0.Links.l.length : Int))) rfl (fun hb11 => ?_) (fun hb11 => ?_)
        · have hr := cnd_t hb11 hr
          refine w_skip ?_
          refine after_n ?_
          refine w_seq ?_
          refine w_block ?_
          refine w_seq ?_
          obtain ⟨n12, h13, hr⟩ := bnd hr
          refine w_region ?_
          iterate 3 refine o1 rfl ?_
          refine o1 (ix_sd h13) ?_
          refine o1 rfl ?_
          refine o2 rfl ?_
          refine o0 rfl ?_
          refine o_end (e' := [(1, .c (.op 0 0)), (3, .c (.d (.lit (.int .i64 i7)))), (4, .c (.op 1 0))]) rfl rfl ?_
          refine after_n ?_
          refine w_seq ?_
          obtain ⟨b18, h19, hr⟩ := bnd hr
          refine w_join (J := fun s => Sub s ⟨[(1, .c (.op 0 0)), (3, .c (.d (.lit (.int .i64 i7)))), (77, .c (.d (.lit (.bool b18))))], [(0, some (.box [.d (.lit (.int .i64 t_0.Switches)), .d (slD 6 c_api_Link t_0.Links), .d (slD 2 c_api_Host t_0.Hosts)]))], 1, []⟩) ?_ ?_
          · refine w_region ?_
            iterate 4 refine o1 rfl ?_
            refine o1 (v := .c (.d (.lit (.bool (((gt t_0.Links.l n12).A) == ((gt t_0.Links.l n12).B)))))) rfl ?_
            refine o1 rfl ?_
            cases hb20 : ((((gt t_0.Links.l n12).A) == ((gt t_0.Links.l n12).B)) : Bool)
            · have h19 := cnd_f hb20 h19
              refine og rfl (by first | rfl | exact hb20) rfl ?_
              refine og rfl (by first | rfl | exact hb20) rfl ?_
              refine og (v := .c (.d (.lit (.bool (decide (((gt t_0.Links.l n12).Least) < 1)))))) rfl (by first | rfl | exact hb20) rfl ?_
              refine o1 (pk_f (by first | rfl | exact hb20)) ?_
              refine o1 rfl ?_
              cases hb21 : (decide (((gt t_0.Links.l n12).Least) < 1) : Bool)
              · have h19 := cnd_f hb21 h19
                refine og rfl (by first | rfl | exact hb21) rfl ?_
                refine og rfl (by first | rfl | exact hb21) rfl ?_
                refine og rfl (by first | rfl | exact hb21) rfl ?_
                refine og rfl (by first | rfl | exact hb21) rfl ?_
                refine og (v := .c (.d (.lit (.bool (decide (((gt t_0.Links.l n12).Least) > ((gt t_0.Links.l n12).Most))))))) rfl (by first | rfl | exact hb21) rfl ?_
                refine o1 (pk_f (by first | rfl | exact hb21)) ?_
                refine o1 rfl ?_
                cases hb22 : (decide (((gt t_0.Links.l n12).Least) > ((gt t_0.Links.l n12).Most)) : Bool)
                · have h19 := cnd_f hb22 h19
                  refine og rfl (by first | rfl | exact hb22) rfl ?_
                  refine og rfl (by first | rfl | exact hb22) rfl ?_
                  refine og (v := .c (.d (.lit (.bool (decide (((gt t_0.Links.l n12).Most) > 1000)))))) rfl (by first | rfl | exact hb22) rfl ?_
                  refine o1 (pk_f (by first | rfl | exact hb22)) ?_
                  refine o1 rfl ?_
                  cases hb23 : (decide (((gt t_0.Links.l n12).Most) > 1000) : Bool)
                  · have h19 := cnd_f hb23 h19
                    obtain ⟨r14, h15, h19⟩ := bnd h19
                    refine og rfl (by first | rfl | exact hb23) rfl ?_
                    refine og rfl (by first | rfl | exact hb23) rfl ?_
                    refine og rfl (by first | rfl | exact hb23) rfl ?_
                    refine og rfl (by first | rfl | exact hb23) rfl ?_
                    refine og rfl (by first | rfl | exact hb23) rfl ?_
                    refine ocg (rs := [.c (.d (.lit (.bool r14)))]) (outs := []) rfl (by first | rfl | exact hb23) rfl (ref17_port_ok h15) rfl ?_
                    refine og (v := .c (.d (.lit (.bool (!r14))))) rfl (by first | rfl | exact hb23) rfl ?_
                    refine o1 (pk_f (by first | rfl | exact hb23)) ?_
                    refine o1 rfl ?_
                    cases hb24 : ((!r14) : Bool)
                    · have h19 := cnd_f hb24 h19
                      obtain ⟨r16, h17, h19⟩ := bnd h19
                      refine og rfl (by first | rfl | exact hb24) rfl ?_
                      refine og rfl (by first | rfl | exact hb24) rfl ?_
                      refine og rfl (by first | rfl | exact hb24) rfl ?_
                      refine og rfl (by first | rfl | exact hb24) rfl ?_
                      refine og rfl (by first | rfl | exact hb24) rfl ?_
                      refine ocg (rs := [.c (.d (.lit (.bool r16)))]) (outs := []) rfl (by first | rfl | exact hb24) rfl (ref17_port_ok h17) rfl ?_
                      refine og (v := .c (.d (.lit (.bool (!r16))))) rfl (by first | rfl | exact hb24) rfl ?_
                      refine o1 (pk_f (by first | rfl | exact hb24)) ?_
                      cases h19
                      exact o_join (sub_ren [0] [1, 3, 77] (by decide) rfl (.cons .nil) (Nat.le_of_ble_eq_true rfl))
                    · have h19 := cnd_t hb24 h19
                      refine onot rfl (by first | rfl | exact hb24) ?_
                      refine onot rfl (by first | rfl | exact hb24) ?_
                      refine onot rfl (by first | rfl | exact hb24) ?_
                      refine onot rfl (by first | rfl | exact hb24) ?_
                      refine onot rfl (by first | rfl | exact hb24) ?_
                      refine onot rfl (by first | rfl | exact hb24) ?_
                      refine onot rfl (by first | rfl | exact hb24) ?_
                      refine o1 (pk_t (by first | rfl | exact hb24)) ?_
                      cases h19
                      exact o_join (sub_ren [0] [1, 3, 77] (by decide) rfl (.cons .nil) (Nat.le_of_ble_eq_true rfl))
                  · have h19 := cnd_t hb23 h19
                    refine onot rfl (by first | rfl | exact hb23) ?_
                    refine onot rfl (by first | rfl | exact hb23) ?_
                    refine onot rfl (by first | rfl | exact hb23) ?_
                    refine onot rfl (by first | rfl | exact hb23) ?_
                    refine onot rfl (by first | rfl | exact hb23) ?_
                    refine onot rfl (by first | rfl | exact hb23) ?_
                    refine onot rfl (by first | rfl | exact hb23) ?_
                    refine o1 (pk_t (by first | rfl | exact hb23)) ?_
                    refine o1 rfl ?_
                    iterate 7 refine onot rfl rfl ?_
                    refine o1 rfl ?_
                    cases h19
                    exact o_join (sub_ren [0] [1, 3, 77] (by decide) rfl (.cons .nil) (Nat.le_of_ble_eq_true rfl))
                · have h19 := cnd_t hb22 h19
                  refine onot rfl (by first | rfl | exact hb22) ?_
                  refine onot rfl (by first | rfl | exact hb22) ?_
                  refine onot rfl (by first | rfl | exact hb22) ?_
                  refine o1 (pk_t (by first | rfl | exact hb22)) ?_
                  refine o1 rfl ?_
                  iterate 7 refine onot rfl rfl ?_
                  iterate 2 refine o1 rfl ?_
                  iterate 7 refine onot rfl rfl ?_
                  refine o1 rfl ?_
                  cases h19
                  exact o_join (sub_ren [0] [1, 3, 77] (by decide) rfl (.cons .nil) (Nat.le_of_ble_eq_true rfl))
              · have h19 := cnd_t hb21 h19
                refine onot rfl (by first | rfl | exact hb21) ?_
                refine onot rfl (by first | rfl | exact hb21) ?_
                refine onot rfl (by first | rfl | exact hb21) ?_
                refine onot rfl (by first | rfl | exact hb21) ?_
                refine onot rfl (by first | rfl | exact hb21) ?_
                refine o1 (pk_t (by first | rfl | exact hb21)) ?_
                refine o1 rfl ?_
                iterate 3 refine onot rfl rfl ?_
                iterate 2 refine o1 rfl ?_
                iterate 7 refine onot rfl rfl ?_
                iterate 2 refine o1 rfl ?_
                iterate 7 refine onot rfl rfl ?_
                refine o1 rfl ?_
                cases h19
                exact o_join (sub_ren [0] [1, 3, 77] (by decide) rfl (.cons .nil) (Nat.le_of_ble_eq_true rfl))
            · have h19 := cnd_t hb20 h19
              refine onot rfl (by first | rfl | exact hb20) ?_
              refine onot rfl (by first | rfl | exact hb20) ?_
              refine onot rfl (by first | rfl | exact hb20) ?_
              refine o1 (pk_t (by first | rfl | exact hb20)) ?_
              refine o1 rfl ?_
              iterate 5 refine onot rfl rfl ?_
              iterate 2 refine o1 rfl ?_
              iterate 3 refine onot rfl rfl ?_
              iterate 2 refine o1 rfl ?_
              iterate 7 refine onot rfl rfl ?_
              iterate 2 refine o1 rfl ?_
              iterate 7 refine onot rfl rfl ?_
              refine o1 rfl ?_
              cases h19
              exact o_join (sub_ren [0] [1, 3, 77] (by decide) rfl (.cons .nil) (Nat.le_of_ble_eq_true rfl))
          · intro s hs25
            refine after_n ?_
            refine W.sub hs25 ?_
            refine w_cond (t := b18) rfl (fun hb26 => ?_) (fun hb26 => ?_)
            · have hr := cnd_t hb26 hr
              refine w_seq ?_
              refine w_region ?_
              refine o1 rfl ?_
              refine o_end (e' := [(2, .c (.d (.lit (.bool false))))]) rfl rfl ?_
              refine after_n ?_
              refine w_ret ?_
              refine out_r ?_
              refine after_r ?_
              obtain rfl := Option.some.inj hr
              exact And.intro nofun (And.intro rfl (sub_ren [] [2] (by decide) rfl .nil (Nat.le_of_ble_eq_true rfl)))
            · have hr := cnd_f hb26 hr
              refine w_skip ?_
              refine out_n ?_
              refine after_n ?_
              refine w_region ?_
              refine o1 rfl ?_
              refine o1 (v := .c (.d (.lit (.int .i64 (wr .i64 (i7 + 1)))))) rfl ?_
              refine o1 rfl ?_
              refine o_end (e' := [(1, .c (.op 0 0)), (3, .c (.d (.lit (.int .i64 (wr .i64 (i7 + 1))))))]) rfl rfl ?_
              obtain rfl := Option.some.inj hr
              exact And.intro rfl (sub_ren [0] [1, 3] (by decide) rfl (.cons .nil) (Nat.le_of_ble_eq_true rfl))
        · have hr := cnd_f hb11 hr
          refine w_exit ?_
          refine after_e ?_
          obtain rfl := Option.some.inj hr
          exact And.intro nofun (And.intro rfl (sub_ren [0] [1] (by decide) rfl (.cons .nil) (Nat.le_of_ble_eq_true rfl)))

/- turnout/topo.Peer -/
def k37 : CC :=
  (.seq
  (.region [
    ⟨some 3, .box, [(.tmp 0)], none⟩,
    ⟨some 6, .mv, [(.const (.int .i64 0))], none⟩,
    ⟨some 7, .mv, [(.const (.int .i64 0))], none⟩,
    ⟨some 8, .mv, [(.const (.int .i64 0))], none⟩,
    ⟨some 9, .mv, [(.const (.bool false))], none⟩] [1, 2, 3])
  (.seq
  (.region [
    ⟨some 15, .mv, [(.tmp 1)], none⟩,
    ⟨some 16, .mv, [(.tmp 2)], none⟩,
    ⟨some 17, (.build [(.int .i64 0), (.int .i64 0)] [(0, 1), (1, 1)]), [(.tmp 15), (.tmp 16)], none⟩,
    ⟨some 10, (.alloc [(.int .i64 0), (.int .i64 0)]), [], none⟩,
    ⟨none, (.store 2), [(.tmp 10), (.tmp 17)], none⟩] [3, 10])
  (.seq
  (.seq
  (.region [
    ⟨some 18, (.fieldAddr 1), [(.tmp 3)], none⟩,
    ⟨some 19, (.load false 1), [(.tmp 18)], none⟩,
    ⟨some 20, (.len false), [(.tmp 19)], none⟩,
    ⟨some 21, .mv, [(.const (.int .i64 0))], none⟩] [10, 19, 20, 21])
  (.block 0
    (.loop [10, 19, 20, 21]
      (.seq
      (.region [
        ⟨some 22, (.bin .lss), [(.tmp 21), (.tmp 20)], none⟩] [10, 19, 20, 21, 22])
      (.seq
      (.cond (.tmp 22)
        .skip
        (.exit 0))
      (.seq
      (.block 1
        (.seq
        (.region [
          ⟨some 23, .mv, [(.tmp 21)], none⟩,
          ⟨some 24, (.indexAddr none 6), [(.tmp 19), (.tmp 21)], none⟩,
          ⟨some 25, (.load true 6), [(.tmp 24)], none⟩,
          ⟨some 12, (.alloc [(.int .i64 0), (.int .i64 0), (.int .i64 0), (.int .i64 0), (.int .i64 0), (.int .i64 0)]), [], none⟩,
          ⟨some 11, .mv, [(.tmp 23)], none⟩,
          ⟨none, (.store 6), [(.tmp 12), (.tmp 25)], none⟩] [10, 11, 12, 19, 20, 21])
        (.seq
        (.drawn [
          ⟨some 26, (.fieldAddr 0), [(.tmp 12)], none⟩,
          ⟨some 27, (.load false 1), [(.tmp 26)], none⟩,
          ⟨some 28, (.fieldAddr 1), [(.tmp 12)], none⟩,
          ⟨some 29, (.load false 1), [(.tmp 28)], none⟩,
          ⟨some 30, (.build [(.int .i64 0), (.int .i64 0)] [(0, 1), (1, 1)]), [(.tmp 27), (.tmp 29)], none⟩,
          ⟨some 31, (.fieldAddr 2), [(.tmp 12)], none⟩,
          ⟨some 32, (.load false 1), [(.tmp 31)], none⟩,
          ⟨some 33, (.fieldAddr 3), [(.tmp 12)], none⟩,
          ⟨some 34, (.load false 1), [(.tmp 33)], none⟩,
          ⟨some 35, (.build [(.int .i64 0), (.int .i64 0)] [(0, 1), (1, 1)]), [(.tmp 32), (.tmp 34)], none⟩,
          ⟨some 13, (.alloc [(.int .i64 0), (.int .i64 0)]), [], none⟩,
          ⟨some 14, (.alloc [(.int .i64 0), (.int .i64 0)]), [], none⟩,
          ⟨none, (.store 2), [(.tmp 13), (.tmp 30)], none⟩,
          ⟨none, (.store 2), [(.tmp 14), (.tmp 35)], none⟩] [(1, 10), (1, 11), (3, 10), (3, 11), (6, 10), (6, 11), (6, 12), (8, 10), (8, 11), (8, 12), (10, 11)] [10, 11, 13, 14, 19, 20, 21])
        (.seq
        (.region [
          ⟨some 36, (.load true 2), [(.tmp 10)], none⟩] [10, 11, 13, 14, 19, 20, 21, 36])
        (.block 2
          (.seq
          (.region [
            ⟨some 38, (.load true 2), [(.tmp 13)], none⟩,
            ⟨some 39, (.eqAgg false [(.i .i64), (.i .i64)]), [(.tmp 36), (.tmp 38)], none⟩,
            ⟨some 37, .mv, [(.tmp 39)], none⟩] [10, 11, 13, 14, 19, 20, 21, 36, 37])
          (.cond (.tmp 37)
            (.seq
            (.drawn [
              ⟨some 40, (.fieldAddr 0), [(.tmp 14)], none⟩,
              ⟨some 41, (.load false 1), [(.tmp 40)], none⟩,
              ⟨some 42, (.fieldAddr 1), [(.tmp 14)], none⟩,
              ⟨some 43, (.load false 1), [(.tmp 42)], none⟩,
              ⟨some 44, .mv, [(.tmp 11)], none⟩,
              ⟨some 6, .mv, [(.tmp 41)], none⟩,
              ⟨some 7, .mv, [(.tmp 43)], none⟩,
              ⟨some 8, .mv, [(.tmp 44)], none⟩,
              ⟨some 9, .mv, [(.const (.bool true))], none⟩] [] [6, 7, 8, 9])
            .ret)
            (.seq
            (.region [
              ⟨some 46, (.load true 2), [(.tmp 14)], none⟩,
              ⟨some 47, (.eqAgg false [(.i .i64), (.i .i64)]), [(.tmp 36), (.tmp 46)], none⟩,
              ⟨some 45, .mv, [(.tmp 47)], none⟩] [10, 11, 13, 19, 20, 21, 45])
            (.cond (.tmp 45)
              (.seq
              (.drawn [
                ⟨some 48, (.fieldAddr 0), [(.tmp 13)], none⟩,
                ⟨some 49, (.load false 1), [(.tmp 48)], none⟩,
                ⟨some 50, (.fieldAddr 1), [(.tmp 13)], none⟩,
                ⟨some 51, (.load false 1), [(.tmp 50)], none⟩,
                ⟨some 52, .mv, [(.tmp 11)], none⟩,
                ⟨some 6, .mv, [(.tmp 49)], none⟩,
                ⟨some 7, .mv, [(.tmp 51)], none⟩,
                ⟨some 8, .mv, [(.tmp 52)], none⟩,
                ⟨some 9, .mv, [(.const (.bool true))], none⟩] [] [6, 7, 8, 9])
              .ret)
              .skip)))))))))
      (.region [
        ⟨some 53, (.bin .add), [(.tmp 21), (.const (.int .i64 1))], none⟩,
        ⟨some 21, .mv, [(.tmp 53)], none⟩] [10, 19, 20, 21])))))))
  (.seq
  (.region [
    ⟨some 6, .mv, [(.const (.int .i64 0))], none⟩,
    ⟨some 7, .mv, [(.const (.int .i64 0))], none⟩,
    ⟨some 8, .mv, [(.const (.int .i64 0))], none⟩,
    ⟨some 9, .mv, [(.const (.bool false))], none⟩] [6, 7, 8, 9])
  .ret))))
def f37 : Ev.Fn := ⟨3, 54, [.tmp 6, .tmp 7, .tmp 8, .tmp 9], k37⟩
set_option maxRecDepth 100000 in
theorem e37 : compFn prog sig 37 3 [[1, 2, 3], [3, 10], [10, 19, 20, 21], [10, 19, 20, 21], [10, 19, 20, 21, 22], [10, 11, 12, 19, 20, 21], [10, 11, 13, 14, 19, 20, 21], [10, 11, 13, 14, 19, 20, 21, 36], [10, 11, 13, 14, 19, 20, 21, 36, 37], [6, 7, 8, 9], [10, 11, 13, 19, 20, 21, 45], [6, 7, 8, 9], [10, 19, 20, 21], [6, 7, 8, 9]] = some f37 := by kernel_rfl
noncomputable def topo_Peer_L1 (t_0 : api_Topo) (sw_1 : Int) (port_2 : Int) : Int → Option (Sum (Int) (Sum ((Int × Int × Int)) (Unit))) := fun i1 =>
  bif decide (i1 < (t_0.Links.l.length : Int)) then ((ixI i1 t_0.Links.l.length).bind fun n9 =>
  bif ((sw_1 == ((gt t_0.Links.l n9).A)) && ((port_2 == ((gt t_0.Links.l n9).PortA)) && true)) then (some (.inr (.inl ((gt t_0.Links.l n9).B, (gt t_0.Links.l n9).PortB, i1)))) else
  (bif ((sw_1 == ((gt t_0.Links.l n9).B)) && ((port_2 == ((gt t_0.Links.l n9).PortB)) && true)) then (some (.inr (.inl ((gt t_0.Links.l n9).A, (gt t_0.Links.l n9).PortA, i1)))) else
  (some (.inl (wr .i64 (i1 + 1)))))) else
  (some (.inr (.inr ())))

noncomputable def topo_Peer (t_0 : api_Topo) (sw_1 : Int) (port_2 : Int) : Option ((Int × Int × Int × Bool)) :=
  (loopO (topo_Peer_L1 t_0 sw_1 port_2) 0).bind fun
  | .inl (i3, i4, i5) => (some (i3, i4, i5, true))
  | .inr (_) => (some (0, 0, 0, false))
theorem topo_Peer_ok {t_0 : api_Topo} {sw_1 : Int} {port_2 : Int} {z : (Int × Int × Int × Bool)} (hp : topo_Peer t_0 sw_1 port_2 = some z) : Good prog 37 [.agg (c_api_Topo t_0), .d (.lit (.int .i64 sw_1)), .d (.lit (.int .i64 port_2))] [.c (.d (.lit (.int .i64 z.1))), .c (.d (.lit (.int .i64 z.2.1))), .c (.d (.lit (.int .i64 z.2.2.1))), .c (.d (.lit (.bool z.2.2.2)))] [] := by
  unfold topo_Peer at hp
  refine fn_good mixed e37 (fnS (m := [false, false, false, false]) (s := ⟨[(0, .agg [.d (.lit (.int .i64 t_0.Switches)), .d (slD 6 c_api_Link t_0.Links), .d (slD 2 c_api_Host t_0.Hosts)]), (1, .c (.d (.lit (.int .i64 sw_1)))), (2, .c (.d (.lit (.int .i64 port_2))))], [], 0, []⟩) (len := 0) (c := k37) rfl (Sub.of_eq rfl) rfl rfl ?_)
  refine w_seq ?_
  refine w_region ?_
  refine o2 rfl ?_
  iterate 4 refine o1 rfl ?_
  refine o_end (e' := [(1, .c (.d (.lit (.int .i64 sw_1)))), (2, .c (.d (.lit (.int .i64 port_2)))), (3, .c (.op 0 0))]) rfl rfl ?_
  refine after_n ?_
  refine w_seq ?_
  refine w_region ?_
  iterate 3 refine o1 rfl ?_
  refine o2 rfl ?_
  refine o0 rfl ?_
  refine o_end (e' := [(3, .c (.op 0 0)), (10, .c (.op 1 0))]) rfl rfl ?_
  refine after_n ?_
  refine w_seq ?_
  refine w_seq ?_
  refine w_region ?_
  iterate 2 refine o1 rfl ?_
  refine o1 (v := .c (.d (.lit (.int .i64 (t_0.Links.l.length : Int))))) len_sd ?_
  refine o1 rfl ?_
  refine o_end (e' := [(10, .c (.op 1 0)), (19, .c (.d (slD 6 c_api_Link t_0.Links))), (20, .c (.d (.lit (.int .i64 (t_0.Links.l.length : Int))))), (21, .c (.d (.lit (.int .i64 0))))]) rfl rfl ?_
  refine after_n ?_
  refine w_block ?_
  obtain ⟨x6, h7, hp⟩ := bnd hp
  refine W.mono ?_ (w_loopS (st := fun (v : Int) => match v with | i1 => ⟨[(10, .c (.op 0 0)), (19, .c (.d (slD 6 c_api_Link t_0.Links))), (20, .c (.d (.lit (.int .i64 (t_0.Links.l.length : Int))))), (21, .c (.d (.lit (.int .i64 i1))))], [(0, some (.box [.d (.lit (.int .i64 sw_1)), .d (.lit (.int .i64 port_2))]))], 1, []⟩) (a := 0) (Q := Jn (fun (x : Sum ((Int × Int × Int)) (Unit)) o s => match x with | .inl (i3, i4, i5) => o = Out.ret ∧ Sub s ⟨[(6, .c (.d (.lit (.int .i64 i3)))), (7, .c (.d (.lit (.int .i64 i4)))), (8, .c (.d (.lit (.int .i64 i5)))), (9, .c (.d (.lit (.bool true))))], [], 0, []⟩ | .inr (_) => o = Out.exit 0 ∧ Sub s ⟨[], [], 0, []⟩)) ?_ h7 ?_)
  · intro o s hs13
    rcases x6 with (⟨i3, i4, i5⟩ | _)
    · obtain ⟨rfl, hs13⟩ := hs13
      refine out_r ?_
      refine after_r ?_
      obtain rfl := Option.some.inj hp
      refine wk.sub hs13 ?_
      exact leave_at rfl rfl (pr_c p_d (pr_c p_d (pr_c p_d (pr_c p_d pr_nil)))) pc_nil rfl rfl
    · obtain ⟨rfl, hs13⟩ := hs13
      refine out_e ?_
      refine after_n ?_
      refine W.sub hs13 ?_
      refine w_seq ?_
      refine w_region ?_
      iterate 4 refine o1 rfl ?_
      refine o_end (e' := [(6, .c (.d (.lit (.int .i64 0)))), (7, .c (.d (.lit (.int .i64 0)))), (8, .c (.d (.lit (.int .i64 0)))), (9, .c (.d (.lit (.bool false))))]) rfl rfl ?_
      refine after_n ?_
      refine w_ret ?_
      obtain rfl := Option.some.inj hp
      exact leave_at rfl rfl (pr_c p_d (pr_c p_d (pr_c p_d (pr_c p_d pr_nil)))) pc_nil rfl rfl
  · exact (sub_ren [1] [10, 19, 20, 21] (by decide) rfl (.cons .nil) (Nat.le_of_ble_eq_true rfl))
  · rintro i1 r hr
    unfold topo_Peer_L1 at hr
    refine w_seq ?_
    refine w_region ?_
    refine o1 (v := .c (.d (.lit (.bool (decide (i1 < (t_0.Links.l.length : Int))))))) rfl ?_
    refine o_end (e' := [(10, .c (.op 0 0)), (19, .c (.d (slD 6 c_api_Link t_0.Links))), (20, .c (.d (.lit (.int .i64 (t_0.Links.l.length : Int))))), (21, .c (.d (.lit (.int .i64 i1)))), (22, .c (.d (.lit (.bool (decide (i1 < (t_0.Links.l.length : Int)))))))]) rfl rfl ?_
    refine after_n ?_
    refine w_seq ?_
    refine w_cond (t := decide (i1 < (t_0.Links.l.length : Int))) rfl (fun hb8 => ?_) (fun hb8 => ?_)
    · have hr := cnd_t hb8 hr
      refine w_skip ?_
      refine after_n ?_
      refine w_seq ?_
      refine w_block ?_
      refine w_seq ?_
      obtain ⟨n9, h10, hr⟩ := bnd hr
      refine w_region ?_
      refine o1 rfl ?_
      refine o1 (ix_sd h10) ?_
      refine o1 rfl ?_
      refine o2 rfl ?_
      refine o1 rfl ?_
      refine o0 rfl ?_
      refine o_end (e' := [(10, .c (.op 0 0)), (11, .c (.d (.lit (.int .i64 i1)))), (12, .c (.op 1 0)), (19, .c (.d (slD 6 c_api_Link t_0.Links))), (20, .c (.d (.lit (.int .i64 (t_0.Links.l.length : Int))))), (21, .c (.d (.lit (.int .i64 i1))))]) rfl rfl ?_
      refine after_n ?_
      refine w_seq ?_
      refine w_drawn ?_
      iterate 10 refine d1 rfl ?_
      refine d2 rfl (Nat.le_of_ble_eq_true rfl) ?_
      refine d2 rfl (Nat.le_of_ble_eq_true rfl) ?_
      refine d0 rfl (Nat.le_of_ble_eq_true rfl) ?_
      refine d0 rfl (Nat.le_of_ble_eq_true rfl) ?_
      refine d_fin (e' := [(10, .c (.op 0 0)), (11, .c (.d (.lit (.int .i64 i1)))), (13, .c (.op 642 0)), (14, .c (.op 706 0)), (19, .c (.d (slD 6 c_api_Link t_0.Links))), (20, .c (.d (.lit (.int .i64 (t_0.Links.l.length : Int))))), (21, .c (.d (.lit (.int .i64 i1))))]) (n' := 898) rfl rfl rfl rfl ?_
      refine after_n ?_
      refine w_seq ?_
      refine w_region ?_
      refine o1 rfl ?_
      refine o_end (e' := [(10, .c (.op 0 0)), (11, .c (.d (.lit (.int .i64 i1)))), (13, .c (.op 642 0)), (14, .c (.op 706 0)), (19, .c (.d (slD 6 c_api_Link t_0.Links))), (20, .c (.d (.lit (.int .i64 (t_0.Links.l.length : Int))))), (21, .c (.d (.lit (.int .i64 i1)))), (36, .agg [.d (.lit (.int .i64 sw_1)), .d (.lit (.int .i64 port_2))])]) rfl rfl ?_
      refine after_n ?_
      refine w_block ?_
      refine w_seq ?_
      refine w_region ?_
      refine o1 rfl ?_
      refine o1 (v := .c (.d (.lit (.bool ((sw_1 == ((gt t_0.Links.l n9).A)) && ((port_2 == ((gt t_0.Links.l n9).PortA)) && true)))))) rfl ?_
      refine o1 rfl ?_
      refine o_end (e' := [(10, .c (.op 0 0)), (11, .c (.d (.lit (.int .i64 i1)))), (13, .c (.op 642 0)), (14, .c (.op 706 0)), (19, .c (.d (slD 6 c_api_Link t_0.Links))), (20, .c (.d (.lit (.int .i64 (t_0.Links.l.length : Int))))), (21, .c (.d (.lit (.int .i64 i1)))), (36, .agg [.d (.lit (.int .i64 sw_1)), .d (.lit (.int .i64 port_2))]), (37, .c (.d (.lit (.bool ((sw_1 == ((gt t_0.Links.l n9).A)) && ((port_2 == ((gt t_0.Links.l n9).PortA)) && true))))))]) rfl rfl ?_
      refine after_n ?_
      refine w_cond (t := ((sw_1 == ((gt t_0.Links.l n9).A)) && ((port_2 == ((gt t_0.Links.l n9).PortA)) && true))) rfl (fun hb11 => ?_) (fun hb11 => ?_)
      · have hr := cnd_t hb11 hr
        refine w_seq ?_
        refine w_drawn ?_
        iterate 9 refine d1 rfl ?_
        refine d_fin (e' := [(6, .c (.d (.lit (.int .i64 ((gt t_0.Links.l n9).B))))), (7, .c (.d (.lit (.int .i64 ((gt t_0.Links.l n9).PortB))))), (8, .c (.d (.lit (.int .i64 i1)))), (9, .c (.d (.lit (.bool true))))]) (n' := 1474) rfl rfl rfl rfl ?_
        refine after_n ?_
        refine w_ret ?_
        refine out_r ?_
        refine out_r ?_
        refine after_r ?_
        obtain rfl := Option.some.inj hr
        exact And.intro nofun (And.intro rfl (sub_ren [] [6, 7, 8, 9] (by decide) rfl .nil (Nat.le_of_ble_eq_true rfl)))
      · have hr := cnd_f hb11 hr
        refine w_seq ?_
        refine w_region ?_
        refine o1 rfl ?_
        refine o1 (v := .c (.d (.lit (.bool ((sw_1 == ((gt t_0.Links.l n9).B)) && ((port_2 == ((gt t_0.Links.l n9).PortB)) && true)))))) rfl ?_
        refine o1 rfl ?_
        refine o_end (e' := [(10, .c (.op 0 0)), (11, .c (.d (.lit (.int .i64 i1)))), (13, .c (.op 642 0)), (19, .c (.d (slD 6 c_api_Link t_0.Links))), (20, .c (.d (.lit (.int .i64 (t_0.Links.l.length : Int))))), (21, .c (.d (.lit (.int .i64 i1)))), (45, .c (.d (.lit (.bool ((sw_1 == ((gt t_0.Links.l n9).B)) && ((port_2 == ((gt t_0.Links.l n9).PortB)) && true))))))]) rfl rfl ?_
        refine after_n ?_
        refine w_cond (t := ((sw_1 == ((gt t_0.Links.l n9).B)) && ((port_2 == ((gt t_0.Links.l n9).PortB)) && true))) rfl (fun hb12 => ?_) (fun hb12 => ?_)
        · have hr := cnd_t hb12 hr
          refine w_seq ?_
          refine w_drawn ?_
          iterate 9 refine d1 rfl ?_
          refine d_fin (e' := [(6, .c (.d (.lit (.int .i64 ((gt t_0.Links.l n9).A))))), (7, .c (.d (.lit (.int .i64 ((gt t_0.Links.l n9).PortA))))), (8, .c (.d (.lit (.int .i64 i1)))), (9, .c (.d (.lit (.bool true))))]) (n' := 1474) rfl rfl rfl rfl ?_
          refine after_n ?_
          refine w_ret ?_
          refine out_r ?_
          refine out_r ?_
          refine after_r ?_
          obtain rfl := Option.some.inj hr
          exact And.intro nofun (And.intro rfl (sub_ren [] [6, 7, 8, 9] (by decide) rfl .nil (Nat.le_of_ble_eq_true rfl)))
        · have hr := cnd_f hb12 hr
          refine w_skip ?_
          refine out_n ?_
          refine out_n ?_
          refine after_n ?_
          refine w_region ?_
          refine o1 (v := .c (.d (.lit (.int .i64 (wr .i64 (i1 + 1)))))) rfl ?_
          refine o1 rfl ?_
          refine o_end (e' := [(10, .c (.op 0 0)), (19, .c (.d (slD 6 c_api_Link t_0.Links))), (20, .c (.d (.lit (.int .i64 (t_0.Links.l.length : Int))))), (21, .c (.d (.lit (.int .i64 (wr .i64 (i1 + 1))))))]) rfl rfl ?_
          obtain rfl := Option.some.inj hr
          exact And.intro rfl (sub_ren [0] [10, 19, 20, 21] (by decide) rfl (.cons .nil) (Nat.le_of_ble_eq_true rfl))
    · have hr := cnd_f hb8 hr
      refine w_exit ?_
      refine after_e ?_
      obtain rfl := Option.some.inj hr
      exact And.intro nofun (And.intro rfl (sub_ren [] [] (by decide) rfl .nil (Nat.le_of_ble_eq_true rfl)))

/- turnout/topo.places -/
def k75 : CC :=
  (.seq
  (.region [
    ⟨some 1, .box, [(.tmp 0)], none⟩,
    ⟨some 2, .mv, [(.const (.slice none 0 0))], none⟩] [1])
  (.seq
  (.region [
    ⟨some 3, .mv, [(.const (.slice none 0 0))], none⟩] [1, 3])
  (.seq
  (.seq
  (.region [
    ⟨some 8, (.fieldAddr 1), [(.tmp 1)], none⟩,
    ⟨some 9, (.load false 1), [(.tmp 8)], none⟩,
    ⟨some 10, (.len false), [(.tmp 9)], none⟩,
    ⟨some 11, .mv, [(.const (.int .i64 0))], none⟩] [1, 3, 9, 10, 11])
  (.block 0
    (.loop [1, 3, 9, 10, 11]
      (.seq
      (.region [
        ⟨some 12, (.bin .lss), [(.tmp 11), (.tmp 10)], none⟩] [1, 3, 9, 10, 11, 12])
      (.seq
      (.cond (.tmp 12)
        .skip
        (.exit 0))
      (.seq
      (.block 1
        (.seq
        (.region [
          ⟨some 13, (.indexAddr none 6), [(.tmp 9), (.tmp 11)], none⟩,
          ⟨some 14, (.load true 6), [(.tmp 13)], none⟩,
          ⟨some 5, (.alloc [(.int .i64 0), (.int .i64 0), (.int .i64 0), (.int .i64 0), (.int .i64 0), (.int .i64 0)]), [], none⟩,
          ⟨none, (.store 6), [(.tmp 5), (.tmp 14)], none⟩] [1, 3, 5, 9, 10, 11])
        (.region [
          ⟨some 15, .mv, [(.tmp 3)], none⟩,
          ⟨some 16, (.fieldAddr 0), [(.tmp 5)], none⟩,
          ⟨some 17, (.load false 1), [(.tmp 16)], none⟩,
          ⟨some 18, (.fieldAddr 1), [(.tmp 5)], none⟩,
          ⟨some 19, (.load false 1), [(.tmp 18)], none⟩,
          ⟨some 20, (.build [(.int .i64 0), (.int .i64 0)] [(0, 1), (1, 1)]), [(.tmp 17), (.tmp 19)], none⟩,
          ⟨some 21, (.fieldAddr 2), [(.tmp 5)], none⟩,
          ⟨some 22, (.load false 1), [(.tmp 21)], none⟩,
          ⟨some 23, (.fieldAddr 3), [(.tmp 5)], none⟩,
          ⟨some 24, (.load false 1), [(.tmp 23)], none⟩,
          ⟨some 25, (.build [(.int .i64 0), (.int .i64 0)] [(0, 1), (1, 1)]), [(.tmp 22), (.tmp 24)], none⟩,
          ⟨some 26, (.buildSlice 2 2 [(.int .i64 0), (.int .i64 0), (.int .i64 0), (.int .i64 0)] [0, 1]), [(.tmp 20), (.tmp 25)], none⟩,
          ⟨some 27, (.append 2), [(.tmp 15), (.tmp 26)], none⟩,
          ⟨some 3, .mv, [(.tmp 27)], none⟩] [1, 3, 9, 10, 11])))
      (.region [
        ⟨some 28, (.bin .add), [(.tmp 11), (.const (.int .i64 1))], none⟩,
        ⟨some 11, .mv, [(.tmp 28)], none⟩] [1, 3, 9, 10, 11])))))))
  (.seq
  (.seq
  (.region [
    ⟨some 29, (.fieldAddr 2), [(.tmp 1)], none⟩,
    ⟨some 30, (.load false 1), [(.tmp 29)], none⟩,
    ⟨some 31, (.len false), [(.tmp 30)], none⟩,
    ⟨some 32, .mv, [(.const (.int .i64 0))], none⟩] [3, 30, 31, 32])
  (.block 2
    (.loop [3, 30, 31, 32]
      (.seq
      (.region [
        ⟨some 33, (.bin .lss), [(.tmp 32), (.tmp 31)], none⟩] [3, 30, 31, 32, 33])
      (.seq
      (.cond (.tmp 33)
        .skip
        (.exit 2))
      (.seq
      (.block 3
        (.seq
        (.region [
          ⟨some 34, (.indexAddr none 2), [(.tmp 30), (.tmp 32)], none⟩,
          ⟨some 35, (.load true 2), [(.tmp 34)], none⟩,
          ⟨some 7, (.alloc [(.int .i64 0), (.int .i64 0)]), [], none⟩,
          ⟨none, (.store 2), [(.tmp 7), (.tmp 35)], none⟩] [3, 7, 30, 31, 32])
        (.region [
          ⟨some 36, .mv, [(.tmp 3)], none⟩,
          ⟨some 37, (.fieldAddr 0), [(.tmp 7)], none⟩,
          ⟨some 38, (.load false 1), [(.tmp 37)], none⟩,
          ⟨some 39, (.fieldAddr 1), [(.tmp 7)], none⟩,
          ⟨some 40, (.load false 1), [(.tmp 39)], none⟩,
          ⟨some 41, (.build [(.int .i64 0), (.int .i64 0)] [(0, 1), (1, 1)]), [(.tmp 38), (.tmp 40)], none⟩,
          ⟨some 42, (.buildSlice 2 1 [(.int .i64 0), (.int .i64 0)] [0]), [(.tmp 41)], none⟩,
          ⟨some 43, (.append 2), [(.tmp 36), (.tmp 42)], none⟩,
          ⟨some 3, .mv, [(.tmp 43)], none⟩] [3, 30, 31, 32])))
      (.region [
        ⟨some 44, (.bin .add), [(.tmp 32), (.const (.int .i64 1))], none⟩,
        ⟨some 32, .mv, [(.tmp 44)], none⟩] [3, 30, 31, 32])))))))
  (.seq
  (.region [
    ⟨some 45, .mv, [(.tmp 3)], none⟩,
    ⟨some 2, .mv, [(.tmp 45)], none⟩] [2])
  .ret)))))
def f75 : Ev.Fn := ⟨1, 46, [.tmp 2], k75⟩
set_option maxRecDepth 100000 in
theorem e75 : compFn prog sig 75 1 [[1], [1, 3], [1, 3, 9, 10, 11], [1, 3, 9, 10, 11], [1, 3, 9, 10, 11, 12], [1, 3, 5, 9, 10, 11], [1, 3, 9, 10, 11], [1, 3, 9, 10, 11], [3, 30, 31, 32], [3, 30, 31, 32], [3, 30, 31, 32, 33], [3, 7, 30, 31, 32], [3, 30, 31, 32], [3, 30, 31, 32], [2]] = some f75 := by kernel_rfl
noncomputable def topo_places_L1 (t_0 : api_Topo) : (Sl topo_place × Int) → Option (Sum ((Sl topo_place × Int)) (Sl topo_place)) := fun (s1, i2) =>
  bif decide (i2 < (t_0.Links.l.length : Int)) then ((ixI i2 t_0.Links.l.length).bind fun n9 =>
  (capI (s1.l ++ [(⟨(gt t_0.Links.l n9).A, (gt t_0.Links.l n9).PortA⟩ : topo_place), (⟨(gt t_0.Links.l n9).B, (gt t_0.Links.l n9).PortB⟩ : topo_place)])).bind fun l11 =>
  some (.inl ((Sl.mk l11), wr .i64 (i2 + 1)))) else
  (some (.inr s1))

noncomputable def topo_places_L2 (t_0 : api_Topo) : (Sl topo_place × Int) → Option (Sum ((Sl topo_place × Int)) (Sl topo_place)) := fun (s15, i16) =>
  bif decide (i16 < (t_0.Hosts.l.length : Int)) then ((ixI i16 t_0.Hosts.l.length).bind fun n23 =>
  (capI (s15.l ++ [(⟨(gt t_0.Hosts.l n23).At, (gt t_0.Hosts.l n23).Port⟩ : topo_place)])).bind fun l25 =>
  some (.inl ((Sl.mk l25), wr .i64 (i16 + 1)))) else
  (some (.inr s15))

noncomputable def topo_places (t_0 : api_Topo) : Option (Sl topo_place) :=
  (loopO (topo_places_L1 t_0) (Sl.nil, 0)).bind fun s5 =>
  (loopO (topo_places_L2 t_0) (s5, 0)).bind fun s19 =>
  some s19
theorem topo_places_ok {t_0 : api_Topo} {z : Sl topo_place} (hp : topo_places t_0 = some z) : Good prog 75 [.agg (c_api_Topo t_0)] [.c (.d (slD 2 c_topo_place z))] [] := by
  unfold topo_places at hp
  refine fn_good mixed e75 (fnS (m := [true]) (s := ⟨[(0, .agg [.d (.lit (.int .i64 t_0.Switches)), .d (slD 6 c_api_Link t_0.Links), .d (slD 2 c_api_Host t_0.Hosts)])], [], 0, []⟩) (len := 0) (c := k75) rfl (Sub.of_eq rfl) rfl rfl ?_)
  refine w_seq ?_
  refine w_region ?_
  refine o2 rfl ?_
  refine o1 rfl ?_
  refine o_end (e' := [(1, .c (.op 0 0))]) rfl rfl ?_
  refine after_n ?_
  refine w_seq ?_
  refine w_region ?_
  refine o1 rfl ?_
  refine o_end (e' := [(1, .c (.op 0 0)), (3, .c (.d (.lit (.slice none 0 0))))]) rfl rfl ?_
  refine after_n ?_
  refine w_seq ?_
  refine w_seq ?_
  refine w_region ?_
  iterate 2 refine o1 rfl ?_
  refine o1 (v := .c (.d (.lit (.int .i64 (t_0.Links.l.length : Int))))) len_sd ?_
  refine o1 rfl ?_
  refine o_end (e' := [(1, .c (.op 0 0)), (3, .c (.d (.lit (.slice none 0 0)))), (9, .c (.d (slD 6 c_api_Link t_0.Links))), (10, .c (.d (.lit (.int .i64 (t_0.Links.l.length : Int))))), (11, .c (.d (.lit (.int .i64 0))))]) rfl rfl ?_
  refine after_n ?_
  refine w_block ?_
  obtain ⟨s5, h7, hp⟩ := bnd hp
  refine W.mono ?_ (w_loopS (st := fun (v : (Sl topo_place × Int)) => match v with | (s1, i2) => ⟨[(1, .c (.op 0 0)), (3, .c (slC 2 c_topo_place 1 s1)), (9, .c (.d (slD 6 c_api_Link t_0.Links))), (10, .c (.d (.lit (.int .i64 (t_0.Links.l.length : Int))))), (11, .c (.d (.lit (.int .i64 i2))))], [(0, some (.box [.d (.lit (.int .i64 t_0.Switches)), .d (slD 6 c_api_Link t_0.Links), .d (slD 2 c_api_Host t_0.Hosts)])), (1, slO 2 c_topo_place s1)], 2, []⟩) (a := (Sl.nil, 0)) (Q := Jn (fun (x : Sl topo_place) o s => match x with | s5 => o = Out.exit 0 ∧ Sub s ⟨[(1, .c (.op 0 0)), (3, .c (slC 2 c_topo_place 1 s5))], [(0, some (.box [.d (.lit (.int .i64 t_0.Switches)), .d (slD 6 c_api_Link t_0.Links), .d (slD 2 c_api_Host t_0.Hosts)])), (1, slO 2 c_topo_place s5)], 2, []⟩)) ?_ h7 ?_)
  · intro o s hs14
    obtain ⟨rfl, hs14⟩ := hs14
    refine out_e ?_
    refine after_n ?_
    refine W.sub hs14 ?_
    refine w_seq ?_
    refine w_seq ?_
    refine w_region ?_
    iterate 2 refine o1 rfl ?_
    refine o1 (v := .c (.d (.lit (.int .i64 (t_0.Hosts.l.length : Int))))) len_sd ?_
    refine o1 rfl ?_
    refine o_end (e' := [(3, .c (slC 2 c_topo_place 1 s5)), (30, .c (.d (slD 2 c_api_Host t_0.Hosts))), (31, .c (.d (.lit (.int .i64 (t_0.Hosts.l.length : Int))))), (32, .c (.d (.lit (.int .i64 0))))]) rfl rfl ?_
    refine after_n ?_
    refine w_block ?_
    obtain ⟨s19, h21, hp⟩ := bnd hp
    refine W.mono ?_ (w_loopS (st := fun (v : (Sl topo_place × Int)) => match v with | (s15, i16) => ⟨[(3, .c (slC 2 c_topo_place 0 s15)), (30, .c (.d (slD 2 c_api_Host t_0.Hosts))), (31, .c (.d (.lit (.int .i64 (t_0.Hosts.l.length : Int))))), (32, .c (.d (.lit (.int .i64 i16))))], [(0, slO 2 c_topo_place s15)], 1, []⟩) (a := (s5, 0)) (Q := Jn (fun (x : Sl topo_place) o s => match x with | s19 => o = Out.exit 2 ∧ Sub s ⟨[(3, .c (slC 2 c_topo_place 0 s19))], [(0, slO 2 c_topo_place s19)], 1, []⟩)) ?_ h21 ?_)
    · intro o s hs28
      obtain ⟨rfl, hs28⟩ := hs28
      refine out_e ?_
      refine after_n ?_
      refine W.sub hs28 ?_
      refine w_seq ?_
      refine w_region ?_
      iterate 2 refine o1 rfl ?_
      refine o_end (e' := [(2, .c (slC 2 c_topo_place 0 s19))]) rfl rfl ?_
      refine after_n ?_
      refine w_ret ?_
      obtain rfl := Option.some.inj hp
      rcases s19 with _ | s19'
      · exact leave_at rfl rfl (pr_c p_d pr_nil) pc_nil rfl rfl
      · exact leave_at rfl rfl (pr_c (p_o rfl) pr_nil) pc_nil rfl rfl
    · exact (by rcases s5 with _ | _ <;> first | (exact sub_ren [9000] [3, 30, 31, 32] (by decide) rfl (.skip .nil) (Nat.le_of_ble_eq_true rfl)) | (exact sub_ren [1] [3, 30, 31, 32] (by decide) rfl (.cons .nil) (Nat.le_of_ble_eq_true rfl)))
    · rintro ⟨s15, i16⟩ r hr
      unfold topo_places_L2 at hr
      refine w_seq ?_
      refine w_region ?_
      refine o1 (v := .c (.d (.lit (.bool (decide (i16 < (t_0.Hosts.l.length : Int))))))) rfl ?_
      refine o_end (e' := [(3, .c (slC 2 c_topo_place 0 s15)), (30, .c (.d (slD 2 c_api_Host t_0.Hosts))), (31, .c (.d (.lit (.int .i64 (t_0.Hosts.l.length : Int))))), (32, .c (.d (.lit (.int .i64 i16)))), (33, .c (.d (.lit (.bool (decide (i16 < (t_0.Hosts.l.length : Int)))))))]) rfl rfl ?_
      refine after_n ?_
      refine w_seq ?_
      refine w_cond (t := decide (i16 < (t_0.Hosts.l.length : Int))) rfl (fun hb22 => ?_) (fun hb22 => ?_)
      · have hr := cnd_t hb22 hr
        refine w_skip ?_
        refine after_n ?_
        refine w_seq ?_
        refine w_block ?_
        refine w_seq ?_
        obtain ⟨n23, h24, hr⟩ := bnd hr
        refine w_region ?_
        refine o1 (ix_sd h24) ?_
        refine o1 rfl ?_
        refine o2 rfl ?_
        refine o0 rfl ?_
        refine o_end (e' := [(3, .c (slC 2 c_topo_place 0 s15)), (7, .c (.op 1 0)), (30, .c (.d (slD 2 c_api_Host t_0.Hosts))), (31, .c (.d (.lit (.int .i64 (t_0.Hosts.l.length : Int))))), (32, .c (.d (.lit (.int .i64 i16))))]) rfl rfl ?_
        refine after_n ?_
        obtain ⟨l25, h26, hr⟩ := bnd hr
        refine w_join (J := fun s => Sub s ⟨[(3, .c (slC 2 c_topo_place 0 (Sl.mk l25))), (30, .c (.d (slD 2 c_api_Host t_0.Hosts))), (31, .c (.d (.lit (.int .i64 (t_0.Hosts.l.length : Int))))), (32, .c (.d (.lit (.int .i64 i16))))], [(0, slO 2 c_topo_place (Sl.mk l25))], 1, []⟩) ?_ ?_
        · rcases s15 with _ | s15'
          · try dsimp only [slC, slO]
            refine w_region ?_
            iterate 6 refine o1 rfl ?_
            refine o2 rfl ?_
            refine o2 (app_nil (enc := c_topo_place) rfl h26) ?_
            refine o1 rfl ?_
            exact o_join (sub_ren [3] [3, 30, 31, 32] (by decide) rfl (.cons .nil) (Nat.le_of_ble_eq_true rfl))
          · try dsimp only [slC, slO]
            refine w_region ?_
            iterate 6 refine o1 rfl ?_
            refine o2 rfl ?_
            refine o2 (app_o rfl rfl h26) ?_
            refine o1 rfl ?_
            exact o_join (sub_ren [3] [3, 30, 31, 32] (by decide) rfl (.cons .nil) (Nat.le_of_ble_eq_true rfl))
        · intro s hs27
          refine out_n ?_
          refine after_n ?_
          refine W.sub hs27 ?_
          refine w_region ?_
          refine o1 (v := .c (.d (.lit (.int .i64 (wr .i64 (i16 + 1)))))) rfl ?_
          refine o1 rfl ?_
          refine o_end (e' := [(3, .c (slC 2 c_topo_place 0 (Sl.mk l25))), (30, .c (.d (slD 2 c_api_Host t_0.Hosts))), (31, .c (.d (.lit (.int .i64 (t_0.Hosts.l.length : Int))))), (32, .c (.d (.lit (.int .i64 (wr .i64 (i16 + 1))))))]) rfl rfl ?_
          obtain rfl := Option.some.inj hr
          exact And.intro rfl (sub_ren [0] [3, 30, 31, 32] (by decide) rfl (.cons .nil) (Nat.le_of_ble_eq_true rfl))
      · have hr := cnd_f hb22 hr
        refine w_exit ?_
        refine after_e ?_
        obtain rfl := Option.some.inj hr
        exact And.intro nofun (And.intro rfl (by rcases s15 with _ | _ <;> first | (exact sub_ren [9000] [3] (by decide) rfl (.skip .nil) (Nat.le_of_ble_eq_true rfl)) | (exact sub_ren [0] [3] (by decide) rfl (.cons .nil) (Nat.le_of_ble_eq_true rfl))))
  · exact (sub_ren [0, 9001] [1, 3, 9, 10, 11] (by decide) rfl (.cons (.skip .nil)) (Nat.le_of_ble_eq_true rfl))
  · rintro ⟨s1, i2⟩ r hr
    unfold topo_places_L1 at hr
    refine w_seq ?_
    refine w_region ?_
    refine o1 (v := .c (.d (.lit (.bool (decide (i2 < (t_0.Links.l.length : Int))))))) rfl ?_
    refine o_end (e' := [(1, .c (.op 0 0)), (3, .c (slC 2 c_topo_place 1 s1)), (9, .c (.d (slD 6 c_api_Link t_0.Links))), (10, .c (.d (.lit (.int .i64 (t_0.Links.l.length : Int))))), (11, .c (.d (.lit (.int .i64 i2)))), (12, .c (.d (.lit (.bool (decide (i2 < (t_0.Links.l.length : Int)))))))]) rfl rfl ?_
    refine after_n ?_
    refine w_seq ?_
    refine w_cond (t := decide (i2 < (t_0.Links.l.length : Int))) rfl (fun hb8 => ?_) (fun hb8 => ?_)
    · have hr := cnd_t hb8 hr
      refine w_skip ?_
      refine after_n ?_
      refine w_seq ?_
      refine w_block ?_
      refine w_seq ?_
      obtain ⟨n9, h10, hr⟩ := bnd hr
      refine w_region ?_
      refine o1 (ix_sd h10) ?_
      refine o1 rfl ?_
      refine o2 rfl ?_
      refine o0 rfl ?_
      refine o_end (e' := [(1, .c (.op 0 0)), (3, .c (slC 2 c_topo_place 1 s1)), (5, .c (.op 2 0)), (9, .c (.d (slD 6 c_api_Link t_0.Links))), (10, .c (.d (.lit (.int .i64 (t_0.Links.l.length : Int))))), (11, .c (.d (.lit (.int .i64 i2))))]) rfl rfl ?_
      refine after_n ?_
      obtain ⟨l11, h12, hr⟩ := bnd hr
      refine w_join (J := fun s => Sub s ⟨[(1, .c (.op 0 0)), (3, .c (slC 2 c_topo_place 1 (Sl.mk l11))), (9, .c (.d (slD 6 c_api_Link t_0.Links))), (10, .c (.d (.lit (.int .i64 (t_0.Links.l.length : Int))))), (11, .c (.d (.lit (.int .i64 i2))))], [(0, some (.box [.d (.lit (.int .i64 t_0.Switches)), .d (slD 6 c_api_Link t_0.Links), .d (slD 2 c_api_Host t_0.Hosts)])), (1, slO 2 c_topo_place (Sl.mk l11))], 2, []⟩) ?_ ?_
      · rcases s1 with _ | s1'
        · try dsimp only [slC, slO]
          refine w_region ?_
          iterate 11 refine o1 rfl ?_
          refine o2 rfl ?_
          refine o2 (app_nil (enc := c_topo_place) rfl h12) ?_
          refine o1 rfl ?_
          exact o_join (sub_ren [0, 4] [1, 3, 9, 10, 11] (by decide) rfl (.cons (.cons .nil)) (Nat.le_of_ble_eq_true rfl))
        · try dsimp only [slC, slO]
          refine w_region ?_
          iterate 11 refine o1 rfl ?_
          refine o2 rfl ?_
          refine o2 (app_o rfl rfl h12) ?_
          refine o1 rfl ?_
          exact o_join (sub_ren [0, 4] [1, 3, 9, 10, 11] (by decide) rfl (.cons (.cons .nil)) (Nat.le_of_ble_eq_true rfl))
      · intro s hs13
        refine out_n ?_
        refine after_n ?_
        refine W.sub hs13 ?_
        refine w_region ?_
        refine o1 (v := .c (.d (.lit (.int .i64 (wr .i64 (i2 + 1)))))) rfl ?_
        refine o1 rfl ?_
        refine o_end (e' := [(1, .c (.op 0 0)), (3, .c (slC 2 c_topo_place 1 (Sl.mk l11))), (9, .c (.d (slD 6 c_api_Link t_0.Links))), (10, .c (.d (.lit (.int .i64 (t_0.Links.l.length : Int))))), (11, .c (.d (.lit (.int .i64 (wr .i64 (i2 + 1))))))]) rfl rfl ?_
        obtain rfl := Option.some.inj hr
        exact And.intro rfl (sub_ren [0, 1] [1, 3, 9, 10, 11] (by decide) rfl (.cons (.cons .nil)) (Nat.le_of_ble_eq_true rfl))
    · have hr := cnd_f hb8 hr
      refine w_exit ?_
      refine after_e ?_
      obtain rfl := Option.some.inj hr
      exact And.intro nofun (And.intro rfl (by rcases s1 with _ | _ <;> first | (exact sub_ren [0, 9001] [1, 3] (by decide) rfl (.cons (.skip .nil)) (Nat.le_of_ble_eq_true rfl)) | (exact sub_ren [0, 1] [1, 3] (by decide) rfl (.cons (.cons .nil)) (Nat.le_of_ble_eq_true rfl))))

/- turnout/topo.Right -/
def k40 : CC :=
  (.seq
  (.region [
    ⟨some 1, .box, [(.tmp 0)], none⟩,
    ⟨some 2, .mv, [(.const (.bool false))], none⟩] [1])
  (.seq
  (.seq
  (.region [
    ⟨some 8, (.fieldAddr 0), [(.tmp 1)], none⟩,
    ⟨some 9, (.load false 1), [(.tmp 8)], none⟩,
    ⟨some 10, (.bin .lss), [(.tmp 9), (.const (.int .i64 1))], none⟩,
    ⟨some 11, .mv, [(.tmp 10)], none⟩,
    ⟨some 12, (.fieldAddr 0), [(.tmp 1)], (some (11, false))⟩,
    ⟨some 13, (.load false 1), [(.tmp 12)], (some (11, false))⟩,
    ⟨some 14, (.bin .gtr), [(.tmp 13), (.const (.int .i64 8))], (some (11, false))⟩,
    ⟨some 15, .pick, [(.tmp 11), (.const (.bool true)), (.tmp 14)], none⟩,
    ⟨some 16, .mv, [(.tmp 15)], none⟩,
    ⟨some 17, (.fieldAddr 1), [(.tmp 1)], (some (16, false))⟩,
    ⟨some 18, (.load false 1), [(.tmp 17)], (some (16, false))⟩,
    ⟨some 19, (.len false), [(.tmp 18)], (some (16, false))⟩,
    ⟨some 20, (.bin .gtr), [(.tmp 19), (.const (.int .i64 24))], (some (16, false))⟩,
    ⟨some 21, .pick, [(.tmp 16), (.const (.bool true)), (.tmp 20)], none⟩,
    ⟨some 22, .mv, [(.tmp 21)], none⟩,
    ⟨some 23, (.fieldAddr 2), [(.tmp 1)], (some (22, false))⟩,
    ⟨some 24, (.load false 1), [(.tmp 23)], (some (22, false))⟩,
    ⟨some 25, (.len false), [(.tmp 24)], (some (22, false))⟩,
    ⟨some 26, (.bin .gtr), [(.tmp 25), (.const (.int .i64 8))], (some (22, false))⟩,
    ⟨some 27, .pick, [(.tmp 22), (.const (.bool true)), (.tmp 26)], none⟩] [1, 27])
  (.cond (.tmp 27)
    (.seq
    (.region [
      ⟨some 2, .mv, [(.const (.bool false))], none⟩] [2])
    .ret)
    .skip))
  (.seq
  (.seq
  (.region [
    ⟨some 28, (.fieldAddr 1), [(.tmp 1)], none⟩,
    ⟨some 29, (.load false 1), [(.tmp 28)], none⟩,
    ⟨some 30, (.len false), [(.tmp 29)], none⟩,
    ⟨some 31, .mv, [(.const (.int .i64 0))], none⟩] [1, 29, 30, 31])
  (.block 0
    (.loop [1, 29, 30, 31]
      (.seq
      (.region [
        ⟨some 32, (.bin .lss), [(.tmp 31), (.tmp 30)], none⟩] [1, 29, 30, 31, 32])
      (.seq
      (.cond (.tmp 32)
        .skip
        (.exit 0))
      (.seq
      (.block 1
        (.seq
        (.region [
          ⟨some 33, (.indexAddr none 6), [(.tmp 29), (.tmp 31)], none⟩,
          ⟨some 34, (.load true 6), [(.tmp 33)], none⟩,
          ⟨some 4, (.alloc [(.int .i64 0), (.int .i64 0), (.int .i64 0), (.int .i64 0), (.int .i64 0), (.int .i64 0)]), [], none⟩,
          ⟨none, (.store 6), [(.tmp 4), (.tmp 34)], none⟩] [1, 4, 29, 30, 31])
        (.seq
        (.region [
          ⟨some 35, (.fieldAddr 0), [(.tmp 4)], none⟩,
          ⟨some 36, (.load false 1), [(.tmp 35)], none⟩,
          ⟨some 37, (.fieldAddr 2), [(.tmp 4)], none⟩,
          ⟨some 38, (.load false 1), [(.tmp 37)], none⟩,
          ⟨some 39, (.bin .eql), [(.tmp 36), (.tmp 38)], none⟩,
          ⟨some 40, .mv, [(.tmp 39)], none⟩,
          ⟨some 41, (.fieldAddr 4), [(.tmp 4)], (some (40, false))⟩,
          ⟨some 42, (.load false 1), [(.tmp 41)], (some (40, false))⟩,
          ⟨some 43, (.bin .lss), [(.tmp 42), (.const (.int .i64 1))], (some (40, false))⟩,
          ⟨some 44, .pick, [(.tmp 40), (.const (.bool true)), (.tmp 43)], none⟩,
          ⟨some 45, .mv, [(.tmp 44)], none⟩,
          ⟨some 46, (.fieldAddr 4), [(.tmp 4)], (some (45, false))⟩,
          ⟨some 47, (.load false 1), [(.tmp 46)], (some (45, false))⟩,
          ⟨some 48, (.fieldAddr 5), [(.tmp 4)], (some (45, false))⟩,
          ⟨some 49, (.load false 1), [(.tmp 48)], (some (45, false))⟩,
          ⟨some 50, (.bin .gtr), [(.tmp 47), (.tmp 49)], (some (45, false))⟩,
          ⟨some 51, .pick, [(.tmp 45), (.const (.bool true)), (.tmp 50)], none⟩,
          ⟨some 52, .mv, [(.tmp 51)], none⟩,
          ⟨some 53, (.fieldAddr 5), [(.tmp 4)], (some (52, false))⟩,
          ⟨some 54, (.load false 1), [(.tmp 53)], (some (52, false))⟩,
          ⟨some 55, (.bin .gtr), [(.tmp 54), (.const (.int .i64 1000))], (some (52, false))⟩,
          ⟨some 56, .pick, [(.tmp 52), (.const (.bool true)), (.tmp 55)], none⟩] [1, 29, 30, 31, 56])
        (.cond (.tmp 56)
          (.seq
          (.region [
            ⟨some 2, .mv, [(.const (.bool false))], none⟩] [2])
          .ret)
          .skip))))
      (.region [
        ⟨some 57, (.bin .add), [(.tmp 31), (.const (.int .i64 1))], none⟩,
        ⟨some 31, .mv, [(.tmp 57)], none⟩] [1, 29, 30, 31])))))))
  (.seq
  (.region [
    ⟨some 58, (.makeMap true false), [], none⟩,
    ⟨some 5, .mv, [(.tmp 58)], none⟩] [1, 5])
  (.seq
  (.seq
  (.region [
    ⟨some 59, (.load true 3), [(.tmp 1)], none⟩,
    ⟨some 60, (.call false []), [(.func 75), (.tmp 59)], none⟩,
    ⟨some 61, (.len false), [(.tmp 60)], none⟩,
    ⟨some 62, .mv, [(.const (.int .i64 0))], none⟩] [1, 5, 60, 61, 62])
  (.block 2
    (.loop [1, 5, 60, 61, 62]
      (.seq
      (.region [
        ⟨some 63, (.bin .lss), [(.tmp 62), (.tmp 61)], none⟩] [1, 5, 60, 61, 62, 63])
      (.seq
      (.cond (.tmp 63)
        .skip
        (.exit 2))
      (.seq
      (.block 3
        (.seq
        (.region [
          ⟨some 64, (.indexAddr none 2), [(.tmp 60), (.tmp 62)], none⟩,
          ⟨some 65, (.load true 2), [(.tmp 64)], none⟩,
          ⟨some 7, (.alloc [(.int .i64 0), (.int .i64 0)]), [], none⟩,
          ⟨none, (.store 2), [(.tmp 7), (.tmp 65)], none⟩] [1, 5, 7, 60, 61, 62])
        (.seq
        (.drawn [
          ⟨some 66, .mv, [(.tmp 5)], none⟩,
          ⟨some 67, (.load true 2), [(.tmp 7)], none⟩,
          ⟨some 68, (.lookup true [(.i .i64), (.i .i64)] false [(.int .i64 0)] false), [(.tmp 66), (.tmp 67)], none⟩,
          ⟨some 69, (.bin .add), [(.tmp 68), (.const (.int .i64 1))], none⟩,
          ⟨some 70, (.mapEntry true [(.i .i64), (.i .i64)] false [(.int .i64 0)]), [(.tmp 66), (.tmp 67)], none⟩,
          ⟨some 71, (.extract 1), [(.tmp 70)], none⟩,
          ⟨none, (.entryStore false 1), [(.tmp 66), (.tmp 71), (.tmp 69)], none⟩] [(2, 1004)] [1, 5, 7, 60, 61, 62])
        (.seq
        (.region [
          ⟨some 72, (.fieldAddr 0), [(.tmp 7)], none⟩,
          ⟨some 73, (.load false 1), [(.tmp 72)], none⟩,
          ⟨some 74, (.bin .lss), [(.tmp 73), (.const (.int .i64 0))], none⟩,
          ⟨some 75, .mv, [(.tmp 74)], none⟩,
          ⟨some 76, (.fieldAddr 0), [(.tmp 7)], (some (75, false))⟩,
          ⟨some 77, (.load false 1), [(.tmp 76)], (some (75, false))⟩,
          ⟨some 78, (.fieldAddr 0), [(.tmp 1)], (some (75, false))⟩,
          ⟨some 79, (.load false 1), [(.tmp 78)], (some (75, false))⟩,
          ⟨some 80, (.bin .geq), [(.tmp 77), (.tmp 79)], (some (75, false))⟩,
          ⟨some 81, .pick, [(.tmp 75), (.const (.bool true)), (.tmp 80)], none⟩,
          ⟨some 82, .mv, [(.tmp 81)], none⟩,
          ⟨some 83, (.fieldAddr 1), [(.tmp 7)], (some (82, false))⟩,
          ⟨some 84, (.load false 1), [(.tmp 83)], (some (82, false))⟩,
          ⟨some 85, (.bin .lss), [(.tmp 84), (.const (.int .i64 0))], (some (82, false))⟩,
          ⟨some 86, .pick, [(.tmp 82), (.const (.bool true)), (.tmp 85)], none⟩,
          ⟨some 87, .mv, [(.tmp 86)], none⟩,
          ⟨some 88, (.fieldAddr 1), [(.tmp 7)], (some (87, false))⟩,
          ⟨some 89, (.load false 1), [(.tmp 88)], (some (87, false))⟩,
          ⟨some 90, (.bin .geq), [(.tmp 89), (.const (.int .i64 8))], (some (87, false))⟩,
          ⟨some 91, .pick, [(.tmp 87), (.const (.bool true)), (.tmp 90)], none⟩,
          ⟨some 92, .mv, [(.tmp 91)], none⟩,
          ⟨some 93, .mv, [(.tmp 5)], (some (92, false))⟩,
          ⟨some 94, (.load true 2), [(.tmp 7)], (some (92, false))⟩,
          ⟨some 95, (.lookup true [(.i .i64), (.i .i64)] false [(.int .i64 0)] false), [(.tmp 93), (.tmp 94)], (some (92, false))⟩,
          ⟨some 96, (.bin .gtr), [(.tmp 95), (.const (.int .i64 1))], (some (92, false))⟩,
          ⟨some 97, .pick, [(.tmp 92), (.const (.bool true)), (.tmp 96)], none⟩] [1, 5, 60, 61, 62, 97])
        (.cond (.tmp 97)
          (.seq
          (.region [
            ⟨some 2, .mv, [(.const (.bool false))], none⟩] [2])
          .ret)
          .skip)))))
      (.region [
        ⟨some 98, (.bin .add), [(.tmp 62), (.const (.int .i64 1))], none⟩,
        ⟨some 62, .mv, [(.tmp 98)], none⟩] [1, 5, 60, 61, 62])))))))
  (.seq
  (.region [
    ⟨some 2, .mv, [(.const (.bool true))], none⟩] [2])
  .ret))))))
def f40 : Ev.Fn := ⟨1, 99, [.tmp 2], k40⟩
set_option maxRecDepth 100000 in
theorem e40 : compFn prog sig 40 1 [[1], [1, 27], [2], [1, 29, 30, 31], [1, 29, 30, 31], [1, 29, 30, 31, 32], [1, 4, 29, 30, 31], [1, 29, 30, 31, 56], [2], [1, 29, 30, 31], [1, 5], [1, 5, 60, 61, 62], [1, 5, 60, 61, 62], [1, 5, 60, 61, 62, 63], [1, 5, 7, 60, 61, 62], [1, 5, 7, 60, 61, 62], [1, 5, 60, 61, 62, 97], [2], [1, 5, 60, 61, 62], [2]] = some f40 := by kernel_rfl
noncomputable def topo_Right_L1 (t_0 : api_Topo) : Int → Option (Sum (Int) (Sum (Unit) (Unit))) := fun i7 =>
  bif decide (i7 < (t_0.Links.l.length : Int)) then ((ixI i7 t_0.Links.l.length).bind fun n12 =>
  bif ((((gt t_0.Links.l n12).A) == ((gt t_0.Links.l n12).B)) || ((decide (((gt t_0.Links.l n12).Least) < 1)) || ((decide (((gt t_0.Links.l n12).Least) > ((gt t_0.Links.l n12).Most))) || (decide (((gt t_0.Links.l n12).Most) > 1000))))) then (some (.inr (.inl ()))) else
  (some (.inl (wr .i64 (i7 + 1))))) else
  (some (.inr (.inr ())))

noncomputable def topo_Right_L2 (t_0 : api_Topo) (r21 : Sl topo_place) : (Mp topo_place Int × Int) → Option (Sum ((Mp topo_place Int × Int)) (Sum (Unit) (Unit))) := fun (m23, i24) =>
  bif decide (i24 < (r21.l.length : Int)) then ((ixI i24 r21.l.length).bind fun n30 =>
  (mpSet ((mpEnt m23 0 (gt r21.l n30)).1) ((mpEnt m23 0 (gt r21.l n30)).2.2) (wr .i64 ((mpGet m23 0 (gt r21.l n30)) + 1))).bind fun m32 =>
  bif ((decide (((gt r21.l n30).sw) < 0)) || ((decide (((gt r21.l n30).sw) ≥ t_0.Switches)) || ((decide (((gt r21.l n30).port) < 0)) || ((decide (((gt r21.l n30).port) ≥ 8)) || (decide ((mpGet m32 0 (gt r21.l n30)) > 1)))))) then (some (.inr (.inl ()))) else
  (some (.inl (m32, wr .i64 (i24 + 1))))) else
  (some (.inr (.inr ())))

noncomputable def topo_Right (t_0 : api_Topo) : Option (Bool) :=
  bif ((decide (t_0.Switches < 1)) || ((decide (t_0.Switches > 8)) || ((decide ((t_0.Links.l.length : Int) > 24)) || (decide ((t_0.Hosts.l.length : Int) > 8))))) then (some false) else
  ((loopO (topo_Right_L1 t_0) 0).bind fun
  | .inl _ => (some false)
  | .inr (_) => ((topo_places t_0).bind fun r21 =>
  (loopO (topo_Right_L2 t_0 r21) ((Mp.none : Mp topo_place Int), 0)).bind fun
  | .inl _ => (some false)
  | .inr (_) => (some true)))
theorem topo_Right_ok {t_0 : api_Topo} {z : Bool} (hp : topo_Right t_0 = some z) : Good prog 40 [.agg (c_api_Topo t_0)] [.c (.d (.lit (.bool z)))] [] := by
  unfold topo_Right at hp
  refine fn_good mixed e40 (fnS (m := [false]) (s := ⟨[(0, .agg [.d (.lit (.int .i64 t_0.Switches)), .d (slD 6 c_api_Link t_0.Links), .d (slD 2 c_api_Host t_0.Hosts)])], [], 0, []⟩) (len := 0) (c := k40) rfl (Sub.of_eq rfl) rfl rfl ?_)
  refine w_seq ?_
  refine w_region ?_
  refine o2 rfl ?_
  refine o1 rfl ?_
  refine o_end (e' := [(1, .c (.op 0 0))]) rfl rfl ?_
  refine after_n ?_
  refine w_seq ?_
  refine w_seq ?_
  refine w_join (J := fun s => Sub s ⟨[(1, .c (.op 0 0)), (27, .c (.d (.lit (.bool ((decide (t_0.Switches < 1)) || ((decide (t_0.Switches > 8)) || ((decide ((t_0.Links.l.length : Int) > 24)) || (decide ((t_0.Hosts.l.length : Int) > 8)))))))))], [(0, some (.box [.d (.lit (.int .i64 t_0.Switches)), .d (slD 6 c_api_Link t_0.Links), .d (slD 2 c_api_Host t_0.Hosts)]))], 1, []⟩) ?_ ?_
  · refine w_region ?_
    iterate 2 refine o1 rfl ?_
    refine o1 (v := .c (.d (.lit (.bool (decide (t_0.Switches < 1)))))) rfl ?_
    refine o1 rfl ?_
    cases hb2 : (decide (t_0.Switches < 1) : Bool)
    · refine og rfl (by first | rfl | exact hb2) rfl ?_
      refine og rfl (by first | rfl | exact hb2) rfl ?_
      refine og (v := .c (.d (.lit (.bool (decide (t_0.Switches > 8)))))) rfl (by first | rfl | exact hb2) rfl ?_
      refine o1 (pk_f (by first | rfl | exact hb2)) ?_
      refine o1 rfl ?_
      cases hb3 : (decide (t_0.Switches > 8) : Bool)
      · refine og rfl (by first | rfl | exact hb3) rfl ?_
        refine og rfl (by first | rfl | exact hb3) rfl ?_
        refine og (v := .c (.d (.lit (.int .i64 (t_0.Links.l.length : Int))))) rfl (by first | rfl | exact hb3) len_sd ?_
        refine og (v := .c (.d (.lit (.bool (decide ((t_0.Links.l.length : Int) > 24)))))) rfl (by first | rfl | exact hb3) rfl ?_
        refine o1 (pk_f (by first | rfl | exact hb3)) ?_
        refine o1 rfl ?_
        cases hb4 : (decide ((t_0.Links.l.length : Int) > 24) : Bool)
        · refine og rfl (by first | rfl | exact hb4) rfl ?_
          refine og rfl (by first | rfl | exact hb4) rfl ?_
          refine og (v := .c (.d (.lit (.int .i64 (t_0.Hosts.l.length : Int))))) rfl (by first | rfl | exact hb4) len_sd ?_
          refine og (v := .c (.d (.lit (.bool (decide ((t_0.Hosts.l.length : Int) > 8)))))) rfl (by first | rfl | exact hb4) rfl ?_
          refine o1 (pk_f (by first | rfl | exact hb4)) ?_
          exact o_join (sub_ren [0] [1, 27] (by decide) rfl (.cons .nil) (Nat.le_of_ble_eq_true rfl))
        · refine onot rfl (by first | rfl | exact hb4) ?_
          refine onot rfl (by first | rfl | exact hb4) ?_
          refine onot rfl (by first | rfl | exact hb4) ?_
          refine onot rfl (by first | rfl | exact hb4) ?_
          refine o1 (pk_t (by first | rfl | exact hb4)) ?_
          exact o_join (sub_ren [0] [1, 27] (by decide) rfl (.cons .nil) (Nat.le_of_ble_eq_true rfl))
      · refine onot rfl (by first | rfl | exact hb3) ?_
        refine onot rfl (by first | rfl | exact hb3) ?_
        refine onot rfl (by first | rfl | exact hb3) ?_
        refine onot rfl (by first | rfl | exact hb3) ?_
        refine o1 (pk_t (by first | rfl | exact hb3)) ?_
        refine o1 rfl ?_
        iterate 4 refine onot rfl rfl ?_
        refine o1 rfl ?_
        exact o_join (sub_ren [0] [1, 27] (by decide) rfl (.cons .nil) (Nat.le_of_ble_eq_true rfl))
    · refine onot rfl (by first | rfl | exact hb2) ?_
      refine onot rfl (by first | rfl | exact hb2) ?_
      refine onot rfl (by first | rfl | exact hb2) ?_
      refine o1 (pk_t (by first | rfl | exact hb2)) ?_
      refine o1 rfl ?_
      iterate 4 refine onot rfl rfl ?_
      iterate 2 refine o1 rfl ?_
      iterate 4 refine onot rfl rfl ?_
      refine o1 rfl ?_
      exact o_join (sub_ren [0] [1, 27] (by decide) rfl (.cons .nil) (Nat.le_of_ble_eq_true rfl))
  · intro s hs5
    refine after_n ?_
    refine W.sub hs5 ?_
    refine w_cond (t := ((decide (t_0.Switches < 1)) || ((decide (t_0.Switches > 8)) || ((decide ((t_0.Links.l.length : Int) > 24)) || (decide ((t_0.Hosts.l.length : Int) > 8)))))) rfl (fun hb6 => ?_) (fun hb6 => ?_)
    · have hp := cnd_t hb6 hp
      refine w_seq ?_
      refine w_region ?_
      refine o1 rfl ?_
      refine o_end (e' := [(2, .c (.d (.lit (.bool false))))]) rfl rfl ?_
      refine after_n ?_
      refine w_ret ?_
      refine after_r ?_
      obtain rfl := Option.some.inj hp
      exact leave_at rfl rfl (pr_c p_d pr_nil) pc_nil rfl rfl
    · have hp := cnd_f hb6 hp
      refine w_skip ?_
      refine after_n ?_
      refine w_seq ?_
      refine w_seq ?_
      refine w_region ?_
      iterate 2 refine o1 rfl ?_
      refine o1 (v := .c (.d (.lit (.int .i64 (t_0.Links.l.length : Int))))) len_sd ?_
      refine o1 rfl ?_
      refine o_end (e' := [(1, .c (.op 0 0)), (29, .c (.d (slD 6 c_api_Link t_0.Links))), (30, .c (.d (.lit (.int .i64 (t_0.Links.l.length : Int))))), (31, .c (.d (.lit (.int .i64 0))))]) rfl rfl ?_
      refine after_n ?_
      refine w_block ?_
      obtain ⟨x9, h10, hp⟩ := bnd hp
      refine W.mono ?_ (w_loopS (st := fun (v : Int) => match v with | i7 => ⟨[(1, .c (.op 0 0)), (29, .c (.d (slD 6 c_api_Link t_0.Links))), (30, .c (.d (.lit (.int .i64 (t_0.Links.l.length : Int))))), (31, .c (.d (.lit (.int .i64 i7))))], [(0, some (.box [.d (.lit (.int .i64 t_0.Switches)), .d (slD 6 c_api_Link t_0.Links), .d (slD 2 c_api_Host t_0.Hosts)]))], 1, []⟩) (a := 0) (Q := Jn (fun (x : Sum (Unit) (Unit)) o s => match x with | .inl _ => o = Out.ret ∧ Sub s ⟨[(2, .c (.d (.lit (.bool false))))], [], 0, []⟩ | .inr (_) => o = Out.exit 0 ∧ Sub s ⟨[(1, .c (.op 0 0))], [(0, some (.box [.d (.lit (.int .i64 t_0.Switches)), .d (slD 6 c_api_Link t_0.Links), .d (slD 2 c_api_Host t_0.Hosts)]))], 1, []⟩)) ?_ h10 ?_)
      · intro o s hs20
        rcases x9 with (_ | _)
        · obtain ⟨rfl, hs20⟩ := hs20
          refine out_r ?_
          refine after_r ?_
          obtain rfl := Option.some.inj hp
          refine wk.sub hs20 ?_
          exact leave_at rfl rfl (pr_c p_d pr_nil) pc_nil rfl rfl
        · obtain ⟨rfl, hs20⟩ := hs20
          refine out_e ?_
          refine after_n ?_
          refine W.sub hs20 ?_
          refine w_seq ?_
          refine w_region ?_
          refine o2 (new_m (ek := kp_topo_place) (ev := cI_i64)) ?_
          refine o1 rfl ?_
          refine o_end (e' := [(1, .c (.op 0 0)), (5, .c (.om 1))]) rfl rfl ?_
          refine after_n ?_
          refine w_seq ?_
          refine w_seq ?_
          obtain ⟨r21, h22, hp⟩ := bnd hp
          refine w_region ?_
          refine o1 rfl ?_
          refine oc (rs := [.c (.d (slD 2 c_topo_place r21))]) (outs := []) rfl (topo_places_ok h22) rfl ?_
          refine o1 (v := .c (.d (.lit (.int .i64 (r21.l.length : Int))))) len_sd ?_
          refine o1 rfl ?_
          refine o_end (e' := [(1, .c (.op 0 0)), (5, .c (.om 1)), (60, .c (.d (slD 2 c_topo_place r21))), (61, .c (.d (.lit (.int .i64 (r21.l.length : Int))))), (62, .c (.d (.lit (.int .i64 0))))]) rfl rfl ?_
          refine after_n ?_
          refine w_block ?_
          obtain ⟨x27, h28, hp⟩ := bnd hp
          refine W.mono ?_ (w_loopS (st := fun (v : (Mp topo_place Int × Int)) => match v with | (m23, i24) => ⟨[(1, .c (.op 0 0)), (5, .c (.om 1)), (60, .c (.d (slD 2 c_topo_place r21))), (61, .c (.d (.lit (.int .i64 (r21.l.length : Int))))), (62, .c (.d (.lit (.int .i64 i24))))], [(0, some (.box [.d (.lit (.int .i64 t_0.Switches)), .d (slD 6 c_api_Link t_0.Links), .d (slD 2 c_api_Host t_0.Hosts)])), (1, mpO true false kp_topo_place cI_i64 m23)], 2, []⟩) (a := ((Mp.none : Mp topo_place Int), 0)) (Q := Jn (fun (x : Sum (Unit) (Unit)) o s => match x with | .inl _ => o = Out.ret ∧ Sub s ⟨[(2, .c (.d (.lit (.bool false))))], [], 0, []⟩ | .inr (_) => o = Out.exit 2 ∧ Sub s ⟨[], [], 0, []⟩)) ?_ h28 ?_)
          · intro o s hs41
            rcases x27 with (_ | _)
            · obtain ⟨rfl, hs41⟩ := hs41
              refine out_r ?_
              refine after_r ?_
              obtain rfl := Option.some.inj hp
              refine wk.sub hs41 ?_
              exact leave_at rfl rfl (pr_c p_d pr_nil) pc_nil rfl rfl
            · obtain ⟨rfl, hs41⟩ := hs41
              refine out_e ?_
              refine after_n ?_
              refine W.sub hs41 ?_
              refine w_seq ?_
              refine w_region ?_
              refine o1 rfl ?_
              refine o_end (e' := [(2, .c (.d (.lit (.bool true))))]) rfl rfl ?_
              refine after_n ?_
              refine w_ret ?_
              obtain rfl := Option.some.inj hp
              exact leave_at rfl rfl (pr_c p_d pr_nil) pc_nil rfl rfl
          · exact (sub_ren [0, 1] [1, 5, 60, 61, 62] (by decide) rfl (.cons (.cons .nil)) (Nat.le_of_ble_eq_true rfl))
          · rintro ⟨m23, i24⟩ r hr
            unfold topo_Right_L2 at hr
            refine w_seq ?_
            refine w_region ?_
            refine o1 (v := .c (.d (.lit (.bool (decide (i24 < (r21.l.length : Int))))))) rfl ?_
            refine o_end (e' := [(1, .c (.op 0 0)), (5, .c (.om 1)), (60, .c (.d (slD 2 c_topo_place r21))), (61, .c (.d (.lit (.int .i64 (r21.l.length : Int))))), (62, .c (.d (.lit (.int .i64 i24)))), (63, .c (.d (.lit (.bool (decide (i24 < (r21.l.length : Int)))))))]) rfl rfl ?_
            refine after_n ?_
            refine w_seq ?_
            refine w_cond (t := decide (i24 < (r21.l.length : Int))) rfl (fun hb29 => ?_) (fun hb29 => ?_)
            · have hr := cnd_t hb29 hr
              refine w_skip ?_
              refine after_n ?_
              refine w_seq ?_
              refine w_block ?_
              refine w_seq ?_
              obtain ⟨n30, h31, hr⟩ := bnd hr
              refine w_region ?_
              refine o1 (ix_sd h31) ?_
              refine o1 rfl ?_
              refine o2 rfl ?_
              refine o0 rfl ?_
              refine o_end (e' := [(1, .c (.op 0 0)), (5, .c (.om 1)), (7, .c (.op 2 0)), (60, .c (.d (slD 2 c_topo_place r21))), (61, .c (.d (.lit (.int .i64 (r21.l.length : Int))))), (62, .c (.d (.lit (.int .i64 i24))))]) rfl rfl ?_
              refine after_n ?_
              refine w_seq ?_
              obtain ⟨m32, h33, hr⟩ := bnd hr
              refine w_drawn ?_
              iterate 2 refine d1 rfl ?_
              refine d1 (look_m (z := 0) (k := gt r21.l n30) (tv := (fun x => .c (.d (.lit (.int .i64 x))))) rfl rfl kp_topo_place_eq rfl (fun _ => rfl)) ?_
              refine d1 (v := .c (.d (.lit (.int .i64 (wr .i64 ((mpGet m23 0 (gt r21.l n30)) + 1)))))) rfl ?_
              refine d2 (ent_m (z := 0) (k := gt r21.l n30) (tv := (fun x => .c (.d (.lit (.int .i64 x))))) rfl rfl kp_topo_place_eq rfl (fun _ => rfl)) (Nat.le_of_ble_eq_true rfl) ?_
              refine d1 rfl ?_
              refine d0 (est_m h33 rfl rfl rfl rfl) (Nat.le_of_ble_eq_true rfl) ?_
              refine d_fin (e' := [(1, .c (.op 0 0)), (5, .c (.om 1)), (7, .c (.op 2 0)), (60, .c (.d (slD 2 c_topo_place r21))), (61, .c (.d (.lit (.int .i64 (r21.l.length : Int))))), (62, .c (.d (.lit (.int .i64 i24))))]) (n' := 451) rfl rfl rfl rfl ?_
              refine after_n ?_
              refine w_seq ?_
              refine w_join (J := fun s => Sub s ⟨[(1, .c (.op 0 0)), (5, .c (.om 1)), (60, .c (.d (slD 2 c_topo_place r21))), (61, .c (.d (.lit (.int .i64 (r21.l.length : Int))))), (62, .c (.d (.lit (.int .i64 i24)))), (97, .c (.d (.lit (.bool ((decide (((gt r21.l n30).sw) < 0)) || ((decide (((gt r21.l n30).sw) ≥ t_0.Switches)) || ((decide (((gt r21.l n30).port) < 0)) || ((decide (((gt r21.l n30).port) ≥ 8)) || (decide ((mpGet m32 0 (gt r21.l n30)) > 1))))))))))], [(0, some (.box [.d (.lit (.int .i64 t_0.Switches)), .d (slD 6 c_api_Link t_0.Links), .d (slD 2 c_api_Host t_0.Hosts)])), (1, mpO true false kp_topo_place cI_i64 m32)], 2, []⟩) ?_ ?_
              · refine w_region ?_
                iterate 2 refine o1 rfl ?_
                refine o1 (v := .c (.d (.lit (.bool (decide (((gt r21.l n30).sw) < 0)))))) rfl ?_
                refine o1 rfl ?_
                cases hb35 : (decide (((gt r21.l n30).sw) < 0) : Bool)
                · refine og rfl (by first | rfl | exact hb35) rfl ?_
                  refine og rfl (by first | rfl | exact hb35) rfl ?_
                  refine og rfl (by first | rfl | exact hb35) rfl ?_
                  refine og rfl (by first | rfl | exact hb35) rfl ?_
                  refine og (v := .c (.d (.lit (.bool (decide (((gt r21.l n30).sw) ≥ t_0.Switches)))))) rfl (by first | rfl | exact hb35) rfl ?_
                  refine o1 (pk_f (by first | rfl | exact hb35)) ?_
                  refine o1 rfl ?_
                  cases hb36 : (decide (((gt r21.l n30).sw) ≥ t_0.Switches) : Bool)
                  · refine og rfl (by first | rfl | exact hb36) rfl ?_
                    refine og rfl (by first | rfl | exact hb36) rfl ?_
                    refine og (v := .c (.d (.lit (.bool (decide (((gt r21.l n30).port) < 0)))))) rfl (by first | rfl | exact hb36) rfl ?_
                    refine o1 (pk_f (by first | rfl | exact hb36)) ?_
                    refine o1 rfl ?_
                    cases hb37 : (decide (((gt r21.l n30).port) < 0) : Bool)
                    · refine og rfl (by first | rfl | exact hb37) rfl ?_
                      refine og rfl (by first | rfl | exact hb37) rfl ?_
                      refine og (v := .c (.d (.lit (.bool (decide (((gt r21.l n30).port) ≥ 8)))))) rfl (by first | rfl | exact hb37) rfl ?_
                      refine o1 (pk_f (by first | rfl | exact hb37)) ?_
                      refine o1 rfl ?_
                      cases hb38 : (decide (((gt r21.l n30).port) ≥ 8) : Bool)
                      · refine og rfl (by first | rfl | exact hb38) rfl ?_
                        refine og rfl (by first | rfl | exact hb38) rfl ?_
                        refine og rfl (by first | rfl | exact hb38) (look_m (z := 0) (k := gt r21.l n30) (tv := (fun x => .c (.d (.lit (.int .i64 x))))) rfl rfl kp_topo_place_eq rfl (fun _ => rfl)) ?_
                        refine og (v := .c (.d (.lit (.bool (decide ((mpGet m32 0 (gt r21.l n30)) > 1)))))) rfl (by first | rfl | exact hb38) rfl ?_
                        refine o1 (pk_f (by first | rfl | exact hb38)) ?_
                        exact o_join (sub_ren [0, 1] [1, 5, 60, 61, 62, 97] (by decide) rfl (.cons (.cons .nil)) (Nat.le_of_ble_eq_true rfl))
                      · refine onot rfl (by first | rfl | exact hb38) ?_
                        refine onot rfl (by first | rfl | exact hb38) ?_
                        refine onot rfl (by first | rfl | exact hb38) ?_
                        refine onot rfl (by first | rfl | exact hb38) ?_
                        refine o1 (pk_t (by first | rfl | exact hb38)) ?_
                        exact o_join (sub_ren [0, 1] [1, 5, 60, 61, 62, 97] (by decide) rfl (.cons (.cons .nil)) (Nat.le_of_ble_eq_true rfl))
                    · refine onot rfl (by first | rfl | exact hb37) ?_
                      refine onot rfl (by first | rfl | exact hb37) ?_
                      refine onot rfl (by first | rfl | exact hb37) ?_
                      refine o1 (pk_t (by first | rfl | exact hb37)) ?_
                      refine o1 rfl ?_
                      iterate 4 refine onot rfl rfl ?_
                      refine o1 rfl ?_
                      exact o_join (sub_ren [0, 1] [1, 5, 60, 61, 62, 97] (by decide) rfl (.cons (.cons .nil)) (Nat.le_of_ble_eq_true rfl))
                  · refine onot rfl (by first | rfl | exact hb36) ?_
                    refine onot rfl (by first | rfl | exact hb36) ?_
                    refine onot rfl (by first | rfl | exact hb36) ?_
                    refine o1 (pk_t (by first | rfl | exact hb36)) ?_
                    refine o1 rfl ?_
                    iterate 3 refine onot rfl rfl ?_
                    iterate 2 refine o1 rfl ?_
                    iterate 4 refine onot rfl rfl ?_
                    refine o1 rfl ?_
                    exact o_join (sub_ren [0, 1] [1, 5, 60, 61, 62, 97] (by decide) rfl (.cons (.cons .nil)) (Nat.le_of_ble_eq_true rfl))
                · refine onot rfl (by first | rfl | exact hb35) ?_
                  refine onot rfl (by first | rfl | exact hb35) ?_
                  refine onot rfl (by first | rfl | exact hb35) ?_
                  refine onot rfl (by first | rfl | exact hb35) ?_
                  refine onot rfl (by first | rfl | exact hb35) ?_
                  refine o1 (pk_t (by first | rfl | exact hb35)) ?_
                  refine o1 rfl ?_
                  iterate 3 refine onot rfl rfl ?_
                  iterate 2 refine o1 rfl ?_
                  iterate 3 refine onot rfl rfl ?_
                  iterate 2 refine o1 rfl ?_
                  iterate 4 refine onot rfl rfl ?_
                  refine o1 rfl ?_
                  exact o_join (sub_ren [0, 1] [1, 5, 60, 61, 62, 97] (by decide) rfl (.cons (.cons .nil)) (Nat.le_of_ble_eq_true rfl))
              · intro s hs39
                refine after_n ?_
                refine W.sub hs39 ?_
                refine w_cond (t := ((decide (((gt r21.l n30).sw) < 0)) || ((decide (((gt r21.l n30).sw) ≥ t_0.Switches)) || ((decide (((gt r21.l n30).port) < 0)) || ((decide (((gt r21.l n30).port) ≥ 8)) || (decide ((mpGet m32 0 (gt r21.l n30)) > 1))))))) rfl (fun hb40 => ?_) (fun hb40 => ?_)
                · have hr := cnd_t hb40 hr
                  refine w_seq ?_
                  refine w_region ?_
                  refine o1 rfl ?_
                  refine o_end (e' := [(2, .c (.d (.lit (.bool false))))]) rfl rfl ?_
                  refine after_n ?_
                  refine w_ret ?_
                  refine out_r ?_
                  refine after_r ?_
                  obtain rfl := Option.some.inj hr
                  exact And.intro nofun (And.intro rfl (sub_ren [] [2] (by decide) rfl .nil (Nat.le_of_ble_eq_true rfl)))
                · have hr := cnd_f hb40 hr
                  refine w_skip ?_
                  refine out_n ?_
                  refine after_n ?_
                  refine w_region ?_
                  refine o1 (v := .c (.d (.lit (.int .i64 (wr .i64 (i24 + 1)))))) rfl ?_
                  refine o1 rfl ?_
                  refine o_end (e' := [(1, .c (.op 0 0)), (5, .c (.om 1)), (60, .c (.d (slD 2 c_topo_place r21))), (61, .c (.d (.lit (.int .i64 (r21.l.length : Int))))), (62, .c (.d (.lit (.int .i64 (wr .i64 (i24 + 1))))))]) rfl rfl ?_
                  obtain rfl := Option.some.inj hr
                  exact And.intro rfl (sub_ren [0, 1] [1, 5, 60, 61, 62] (by decide) rfl (.cons (.cons .nil)) (Nat.le_of_ble_eq_true rfl))
            · have hr := cnd_f hb29 hr
              refine w_exit ?_
              refine after_e ?_
              obtain rfl := Option.some.inj hr
              exact And.intro nofun (And.intro rfl (sub_ren [] [] (by decide) rfl .nil (Nat.le_of_ble_eq_true rfl)))
      · exact (sub_ren [0] [1, 29, 30, 31] (by decide) rfl (.cons .nil) (Nat.le_of_ble_eq_true rfl))
      · rintro i7 r hr
        unfold topo_Right_L1 at hr
        refine w_seq ?_
        refine w_region ?_
        refine o1 (v := .c (.d (.lit (.bool (decide (i7 < (t_0.Links.l.length : Int))))))) rfl ?_
        refine o_end (e' := [(1, .c (.op 0 0)), (29, .c (.d (slD 6 c_api_Link t_0.Links))), (30, .c (.d (.lit (.int .i64 (t_0.Links.l.length : Int))))), (31, .c (.d (.lit (.int .i64 i7)))), (32, .c (.d (.lit (.bool (decide (i7 < (t_0.Links.l.length : Int)))))))]) rfl rfl ?_
        refine after_n ?_
        refine w_seq ?_
        refine w_cond (t := decide (i7 < (t_0.Links.l.length : Int))) rfl (fun hb11 => ?_) (fun hb11 => ?_)
        · have hr := cnd_t hb11 hr
          refine w_skip ?_
          refine after_n ?_
          refine w_seq ?_
          refine w_block ?_
          refine w_seq ?_
          obtain ⟨n12, h13, hr⟩ := bnd hr
          refine w_region ?_
          refine o1 (ix_sd h13) ?_
          refine o1 rfl ?_
          refine o2 rfl ?_
          refine o0 rfl ?_
          refine o_end (e' := [(1, .c (.op 0 0)), (4, .c (.op 1 0)), (29, .c (.d (slD 6 c_api_Link t_0.Links))), (30, .c (.d (.lit (.int .i64 (t_0.Links.l.length : Int))))), (31, .c (.d (.lit (.int .i64 i7))))]) rfl rfl ?_
          refine after_n ?_
          refine w_seq ?_
          refine w_join (J := fun s => Sub s ⟨[(1, .c (.op 0 0)), (29, .c (.d (slD 6 c_api_Link t_0.Links))), (30, .c (.d (.lit (.int .i64 (t_0.Links.l.length : Int))))), (31, .c (.d (.lit (.int .i64 i7)))), (56, .c (.d (.lit (.bool ((((gt t_0.Links.l n12).A) == ((gt t_0.Links.l n12).B)) || ((decide (((gt t_0.Links.l n12).Least) < 1)) || ((decide (((gt t_0.Links.l n12).Least) > ((gt t_0.Links.l n12).Most))) || (decide (((gt t_0.Links.l n12).Most) > 1000)))))))))], [(0, some (.box [.d (.lit (.int .i64 t_0.Switches)), .d (slD 6 c_api_Link t_0.Links), .d (slD 2 c_api_Host t_0.Hosts)]))], 1, []⟩) ?_ ?_
          · refine w_region ?_
            iterate 4 refine o1 rfl ?_
            refine o1 (v := .c (.d (.lit (.bool (((gt t_0.Links.l n12).A) == ((gt t_0.Links.l n12).B)))))) rfl ?_
            refine o1 rfl ?_
            cases hb15 : ((((gt t_0.Links.l n12).A) == ((gt t_0.Links.l n12).B)) : Bool)
            · refine og rfl (by first | rfl | exact hb15) rfl ?_
              refine og rfl (by first | rfl | exact hb15) rfl ?_
              refine og (v := .c (.d (.lit (.bool (decide (((gt t_0.Links.l n12).Least) < 1)))))) rfl (by first | rfl | exact hb15) rfl ?_
              refine o1 (pk_f (by first | rfl | exact hb15)) ?_
              refine o1 rfl ?_
              cases hb16 : (decide (((gt t_0.Links.l n12).Least) < 1) : Bool)
              · refine og rfl (by first | rfl | exact hb16) rfl ?_
                refine og rfl (by first | rfl | exact hb16) rfl ?_
                refine og rfl (by first | rfl | exact hb16) rfl ?_
                refine og rfl (by first | rfl | exact hb16) rfl ?_
                refine og (v := .c (.d (.lit (.bool (decide (((gt t_0.Links.l n12).Least) > ((gt t_0.Links.l n12).Most))))))) rfl (by first | rfl | exact hb16) rfl ?_
                refine o1 (pk_f (by first | rfl | exact hb16)) ?_
                refine o1 rfl ?_
                cases hb17 : (decide (((gt t_0.Links.l n12).Least) > ((gt t_0.Links.l n12).Most)) : Bool)
                · refine og rfl (by first | rfl | exact hb17) rfl ?_
                  refine og rfl (by first | rfl | exact hb17) rfl ?_
                  refine og (v := .c (.d (.lit (.bool (decide (((gt t_0.Links.l n12).Most) > 1000)))))) rfl (by first | rfl | exact hb17) rfl ?_
                  refine o1 (pk_f (by first | rfl | exact hb17)) ?_
                  exact o_join (sub_ren [0] [1, 29, 30, 31, 56] (by decide) rfl (.cons .nil) (Nat.le_of_ble_eq_true rfl))
                · refine onot rfl (by first | rfl | exact hb17) ?_
                  refine onot rfl (by first | rfl | exact hb17) ?_
                  refine onot rfl (by first | rfl | exact hb17) ?_
                  refine o1 (pk_t (by first | rfl | exact hb17)) ?_
                  exact o_join (sub_ren [0] [1, 29, 30, 31, 56] (by decide) rfl (.cons .nil) (Nat.le_of_ble_eq_true rfl))
              · refine onot rfl (by first | rfl | exact hb16) ?_
                refine onot rfl (by first | rfl | exact hb16) ?_
                refine onot rfl (by first | rfl | exact hb16) ?_
                refine onot rfl (by first | rfl | exact hb16) ?_
                refine onot rfl (by first | rfl | exact hb16) ?_
                refine o1 (pk_t (by first | rfl | exact hb16)) ?_
                refine o1 rfl ?_
                iterate 3 refine onot rfl rfl ?_
                refine o1 rfl ?_
                exact o_join (sub_ren [0] [1, 29, 30, 31, 56] (by decide) rfl (.cons .nil) (Nat.le_of_ble_eq_true rfl))
            · refine onot rfl (by first | rfl | exact hb15) ?_
              refine onot rfl (by first | rfl | exact hb15) ?_
              refine onot rfl (by first | rfl | exact hb15) ?_
              refine o1 (pk_t (by first | rfl | exact hb15)) ?_
              refine o1 rfl ?_
              iterate 5 refine onot rfl rfl ?_
              iterate 2 refine o1 rfl ?_
              iterate 3 refine onot rfl rfl ?_
              refine o1 rfl ?_
              exact o_join (sub_ren [0] [1, 29, 30, 31, 56] (by decide) rfl (.cons .nil) (Nat.le_of_ble_eq_true rfl))
          · intro s hs18
            refine after_n ?_
            refine W.sub hs18 ?_
            refine w_cond (t := ((((gt t_0.Links.l n12).A) == ((gt t_0.Links.l n12).B)) || ((decide (((gt t_0.Links.l n12).Least) < 1)) || ((decide (((gt t_0.Links.l n12).Least) > ((gt t_0.Links.l n12).Most))) || (decide (((gt t_0.Links.l n12).Most) > 1000)))))) rfl (fun hb19 => ?_) (fun hb19 => ?_)
            · have hr := cnd_t hb19 hr
              refine w_seq ?_
              refine w_region ?_
              refine o1 rfl ?_
              refine o_end (e' := [(2, .c (.d (.lit (.bool false))))]) rfl rfl ?_
              refine after_n ?_
              refine w_ret ?_
              refine out_r ?_
              refine after_r ?_
              obtain rfl := Option.some.inj hr
              exact And.intro nofun (And.intro rfl (sub_ren [] [2] (by decide) rfl .nil (Nat.le_of_ble_eq_true rfl)))
            · have hr := cnd_f hb19 hr
              refine w_skip ?_
              refine out_n ?_
              refine after_n ?_
              refine w_region ?_
              refine o1 (v := .c (.d (.lit (.int .i64 (wr .i64 (i7 + 1)))))) rfl ?_
              refine o1 rfl ?_
              refine o_end (e' := [(1, .c (.op 0 0)), (29, .c (.d (slD 6 c_api_Link t_0.Links))), (30, .c (.d (.lit (.int .i64 (t_0.Links.l.length : Int))))), (31, .c (.d (.lit (.int .i64 (wr .i64 (i7 + 1))))))]) rfl rfl ?_
              obtain rfl := Option.some.inj hr
              exact And.intro rfl (sub_ren [0] [1, 29, 30, 31] (by decide) rfl (.cons .nil) (Nat.le_of_ble_eq_true rfl))
        · have hr := cnd_f hb11 hr
          refine w_exit ?_
          refine after_e ?_
          obtain rfl := Option.some.inj hr
          exact And.intro nofun (And.intro rfl (sub_ren [0] [1] (by decide) rfl (.cons .nil) (Nat.le_of_ble_eq_true rfl)))

/- slices.Index[[]turnout/api.Host,turnout/api.Host] -/
def k73 : CC :=
  (.seq
  (.region [
    ⟨some 3, .box, [(.tmp 1)], none⟩,
    ⟨some 4, .mv, [(.const (.int .i64 0))], none⟩] [0, 3])
  (.seq
  (.seq
  (.region [
    ⟨some 6, .mv, [(.tmp 0)], none⟩,
    ⟨some 7, (.len false), [(.tmp 6)], none⟩,
    ⟨some 8, .mv, [(.const (.int .i64 0))], none⟩] [0, 3, 7, 8])
  (.block 0
    (.loop [0, 3, 7, 8]
      (.seq
      (.region [
        ⟨some 9, (.bin .lss), [(.tmp 8), (.tmp 7)], none⟩] [0, 3, 7, 8, 9])
      (.seq
      (.cond (.tmp 9)
        .skip
        (.exit 0))
      (.seq
      (.block 1
        (.seq
        (.region [
          ⟨some 10, .mv, [(.tmp 8)], none⟩,
          ⟨some 5, .mv, [(.tmp 10)], none⟩] [0, 3, 5, 7, 8])
        (.seq
        (.drawn [
          ⟨some 11, (.load true 2), [(.tmp 3)], none⟩,
          ⟨some 12, .mv, [(.tmp 0)], none⟩,
          ⟨some 13, .mv, [(.tmp 5)], none⟩,
          ⟨some 14, (.indexAddr none 2), [(.tmp 12), (.tmp 13)], none⟩,
          ⟨some 15, (.load true 2), [(.tmp 14)], none⟩,
          ⟨some 16, (.eqAgg false [(.i .i64), (.i .i64)]), [(.tmp 11), (.tmp 15)], none⟩] [] [0, 3, 5, 7, 8, 16])
        (.cond (.tmp 16)
          (.seq
          (.region [
            ⟨some 17, .mv, [(.tmp 5)], none⟩,
            ⟨some 4, .mv, [(.tmp 17)], none⟩] [4])
          .ret)
          .skip))))
      (.region [
        ⟨some 18, (.bin .add), [(.tmp 8), (.const (.int .i64 1))], none⟩,
        ⟨some 8, .mv, [(.tmp 18)], none⟩] [0, 3, 7, 8])))))))
  (.seq
  (.region [
    ⟨some 4, .mv, [(.const (.int .i64 (-1)))], none⟩] [4])
  .ret)))
def f73 : Ev.Fn := ⟨2, 19, [.tmp 4], k73⟩
set_option maxRecDepth 100000 in
theorem e73 : compFn prog sig 73 2 [[0, 3], [0, 3, 7, 8], [0, 3, 7, 8], [0, 3, 7, 8, 9], [0, 3, 5, 7, 8], [0, 3, 5, 7, 8, 16], [4], [0, 3, 7, 8], [4]] = some f73 := by kernel_rfl
noncomputable def slices_Index_api_Host_api_Host_L1 (s_0 : Sl api_Host) (v_1 : api_Host) : Int → Option (Sum (Int) (Sum (Int) (Unit))) := fun i1 =>
  bif decide (i1 < (s_0.l.length : Int)) then ((ixI i1 s_0.l.length).bind fun n7 =>
  bif ((v_1.At == ((gt s_0.l n7).At)) && ((v_1.Port == ((gt s_0.l n7).Port)) && true)) then (some (.inr (.inl i1))) else
  (some (.inl (wr .i64 (i1 + 1))))) else
  (some (.inr (.inr ())))

noncomputable def slices_Index_api_Host_api_Host (s_0 : Sl api_Host) (v_1 : api_Host) : Option (Int) :=
  (loopO (slices_Index_api_Host_api_Host_L1 s_0 v_1) 0).bind fun
  | .inl i3 => (some i3)
  | .inr (_) => (some (-1))
theorem slices_Index_api_Host_api_Host_ok {s_0 : Sl api_Host} {v_1 : api_Host} {z : Int} (hp : slices_Index_api_Host_api_Host s_0 v_1 = some z) : Good prog 73 [.d (slD 2 c_api_Host s_0), .agg (c_api_Host v_1)] [.c (.d (.lit (.int .i64 z)))] [] := by
  unfold slices_Index_api_Host_api_Host at hp
  refine fn_good mixed e73 (fnS (m := [false]) (s := ⟨[(0, .c (.d (slD 2 c_api_Host s_0))), (1, .agg [.d (.lit (.int .i64 v_1.At)), .d (.lit (.int .i64 v_1.Port))])], [], 0, []⟩) (len := 0) (c := k73) rfl (Sub.of_eq rfl) rfl rfl ?_)
  refine w_seq ?_
  refine w_region ?_
  refine o2 rfl ?_
  refine o1 rfl ?_
  refine o_end (e' := [(0, .c (.d (slD 2 c_api_Host s_0))), (3, .c (.op 0 0))]) rfl rfl ?_
  refine after_n ?_
  refine w_seq ?_
  refine w_seq ?_
  refine w_region ?_
  refine o1 rfl ?_
  refine o1 (v := .c (.d (.lit (.int .i64 (s_0.l.length : Int))))) len_sd ?_
  refine o1 rfl ?_
  refine o_end (e' := [(0, .c (.d (slD 2 c_api_Host s_0))), (3, .c (.op 0 0)), (7, .c (.d (.lit (.int .i64 (s_0.l.length : Int))))), (8, .c (.d (.lit (.int .i64 0))))]) rfl rfl ?_
  refine after_n ?_
  refine w_block ?_
  obtain ⟨x4, h5, hp⟩ := bnd hp
  refine W.mono ?_ (w_loopS (st := fun (v : Int) => match v with | i1 => ⟨[(0, .c (.d (slD 2 c_api_Host s_0))), (3, .c (.op 0 0)), (7, .c (.d (.lit (.int .i64 (s_0.l.length : Int))))), (8, .c (.d (.lit (.int .i64 i1))))], [(0, some (.box [.d (.lit (.int .i64 v_1.At)), .d (.lit (.int .i64 v_1.Port))]))], 1, []⟩) (a := 0) (Q := Jn (fun (x : Sum (Int) (Unit)) o s => match x with | .inl i3 => o = Out.ret ∧ Sub s ⟨[(4, .c (.d (.lit (.int .i64 i3))))], [], 0, []⟩ | .inr (_) => o = Out.exit 0 ∧ Sub s ⟨[], [], 0, []⟩)) ?_ h5 ?_)
  · intro o s hs10
    rcases x4 with (i3 | _)
    · obtain ⟨rfl, hs10⟩ := hs10
      refine out_r ?_
      refine after_r ?_
      obtain rfl := Option.some.inj hp
      refine wk.sub hs10 ?_
      exact leave_at rfl rfl (pr_c p_d pr_nil) pc_nil rfl rfl
    · obtain ⟨rfl, hs10⟩ := hs10
      refine out_e ?_
      refine after_n ?_
      refine W.sub hs10 ?_
      refine w_seq ?_
      refine w_region ?_
      refine o1 rfl ?_
      refine o_end (e' := [(4, .c (.d (.lit (.int .i64 (-1)))))]) rfl rfl ?_
      refine after_n ?_
      refine w_ret ?_
      obtain rfl := Option.some.inj hp
      exact leave_at rfl rfl (pr_c p_d pr_nil) pc_nil rfl rfl
  · exact (sub_ren [0] [0, 3, 7, 8] (by decide) rfl (.cons .nil) (Nat.le_of_ble_eq_true rfl))
  · rintro i1 r hr
    unfold slices_Index_api_Host_api_Host_L1 at hr
    refine w_seq ?_
    refine w_region ?_
    refine o1 (v := .c (.d (.lit (.bool (decide (i1 < (s_0.l.length : Int))))))) rfl ?_
    refine o_end (e' := [(0, .c (.d (slD 2 c_api_Host s_0))), (3, .c (.op 0 0)), (7, .c (.d (.lit (.int .i64 (s_0.l.length : Int))))), (8, .c (.d (.lit (.int .i64 i1)))), (9, .c (.d (.lit (.bool (decide (i1 < (s_0.l.length : Int)))))))]) rfl rfl ?_
    refine after_n ?_
    refine w_seq ?_
    refine w_cond (t := decide (i1 < (s_0.l.length : Int))) rfl (fun hb6 => ?_) (fun hb6 => ?_)
    · have hr := cnd_t hb6 hr
      refine w_skip ?_
      refine after_n ?_
      refine w_seq ?_
      refine w_block ?_
      refine w_seq ?_
      refine w_region ?_
      iterate 2 refine o1 rfl ?_
      refine o_end (e' := [(0, .c (.d (slD 2 c_api_Host s_0))), (3, .c (.op 0 0)), (5, .c (.d (.lit (.int .i64 i1)))), (7, .c (.d (.lit (.int .i64 (s_0.l.length : Int))))), (8, .c (.d (.lit (.int .i64 i1))))]) rfl rfl ?_
      refine after_n ?_
      refine w_seq ?_
      obtain ⟨n7, h8, hr⟩ := bnd hr
      refine w_drawn ?_
      iterate 3 refine d1 rfl ?_
      refine d1 (ix_sd h8) ?_
      refine d1 rfl ?_
      refine d1 (v := .c (.d (.lit (.bool ((v_1.At == ((gt s_0.l n7).At)) && ((v_1.Port == ((gt s_0.l n7).Port)) && true)))))) rfl ?_
      refine d_fin (e' := [(0, .c (.d (slD 2 c_api_Host s_0))), (3, .c (.op 0 0)), (5, .c (.d (.lit (.int .i64 i1)))), (7, .c (.d (.lit (.int .i64 (s_0.l.length : Int))))), (8, .c (.d (.lit (.int .i64 i1)))), (16, .c (.d (.lit (.bool ((v_1.At == ((gt s_0.l n7).At)) && ((v_1.Port == ((gt s_0.l n7).Port)) && true))))))]) (n' := 385) rfl rfl rfl rfl ?_
      refine after_n ?_
      refine w_cond (t := ((v_1.At == ((gt s_0.l n7).At)) && ((v_1.Port == ((gt s_0.l n7).Port)) && true))) rfl (fun hb9 => ?_) (fun hb9 => ?_)
      · have hr := cnd_t hb9 hr
        refine w_seq ?_
        refine w_region ?_
        iterate 2 refine o1 rfl ?_
        refine o_end (e' := [(4, .c (.d (.lit (.int .i64 i1))))]) rfl rfl ?_
        refine after_n ?_
        refine w_ret ?_
        refine out_r ?_
        refine after_r ?_
        obtain rfl := Option.some.inj hr
        exact And.intro nofun (And.intro rfl (sub_ren [] [4] (by decide) rfl .nil (Nat.le_of_ble_eq_true rfl)))
      · have hr := cnd_f hb9 hr
        refine w_skip ?_
        refine out_n ?_
        refine after_n ?_
        refine w_region ?_
        refine o1 (v := .c (.d (.lit (.int .i64 (wr .i64 (i1 + 1)))))) rfl ?_
        refine o1 rfl ?_
        refine o_end (e' := [(0, .c (.d (slD 2 c_api_Host s_0))), (3, .c (.op 0 0)), (7, .c (.d (.lit (.int .i64 (s_0.l.length : Int))))), (8, .c (.d (.lit (.int .i64 (wr .i64 (i1 + 1))))))]) rfl rfl ?_
        obtain rfl := Option.some.inj hr
        exact And.intro rfl (sub_ren [0] [0, 3, 7, 8] (by decide) rfl (.cons .nil) (Nat.le_of_ble_eq_true rfl))
    · have hr := cnd_f hb6 hr
      refine w_exit ?_
      refine after_e ?_
      obtain rfl := Option.some.inj hr
      exact And.intro nofun (And.intro rfl (sub_ren [] [] (by decide) rfl .nil (Nat.le_of_ble_eq_true rfl)))

/- turnout/topo.HostAt -/
def k38 : CC :=
  (.seq
  (.region [
    ⟨some 3, .box, [(.tmp 0)], none⟩,
    ⟨some 6, .mv, [(.const (.int .i64 0))], none⟩] [1, 2, 3])
  (.seq
  (.region [
    ⟨some 7, (.fieldAddr 2), [(.tmp 3)], none⟩,
    ⟨some 8, (.load false 1), [(.tmp 7)], none⟩,
    ⟨some 9, .mv, [(.tmp 1)], none⟩,
    ⟨some 10, .mv, [(.tmp 2)], none⟩,
    ⟨some 11, (.build [(.int .i64 0), (.int .i64 0)] [(0, 1), (1, 1)]), [(.tmp 9), (.tmp 10)], none⟩,
    ⟨some 12, (.call true []), [(.func 73), (.tmp 8), (.tmp 11)], none⟩,
    ⟨some 6, .mv, [(.tmp 12)], none⟩] [6])
  .ret))
def f38 : Ev.Fn := ⟨3, 13, [.tmp 6], k38⟩
set_option maxRecDepth 100000 in
theorem e38 : compFn prog sig 38 3 [[1, 2, 3], [6]] = some f38 := by kernel_rfl
noncomputable def topo_HostAt (t_0 : api_Topo) (sw_1 : Int) (port_2 : Int) : Option (Int) :=
  (slices_Index_api_Host_api_Host t_0.Hosts (⟨sw_1, port_2⟩ : api_Host)).bind fun r1 =>
  some r1
theorem topo_HostAt_ok {t_0 : api_Topo} {sw_1 : Int} {port_2 : Int} {z : Int} (hp : topo_HostAt t_0 sw_1 port_2 = some z) : Good prog 38 [.agg (c_api_Topo t_0), .d (.lit (.int .i64 sw_1)), .d (.lit (.int .i64 port_2))] [.c (.d (.lit (.int .i64 z)))] [] := by
  unfold topo_HostAt at hp
  refine fn_good mixed e38 (fnS (m := [false]) (s := ⟨[(0, .agg [.d (.lit (.int .i64 t_0.Switches)), .d (slD 6 c_api_Link t_0.Links), .d (slD 2 c_api_Host t_0.Hosts)]), (1, .c (.d (.lit (.int .i64 sw_1)))), (2, .c (.d (.lit (.int .i64 port_2))))], [], 0, []⟩) (len := 0) (c := k38) rfl (Sub.of_eq rfl) rfl rfl ?_)
  refine w_seq ?_
  refine w_region ?_
  refine o2 rfl ?_
  refine o1 rfl ?_
  refine o_end (e' := [(1, .c (.d (.lit (.int .i64 sw_1)))), (2, .c (.d (.lit (.int .i64 port_2)))), (3, .c (.op 0 0))]) rfl rfl ?_
  refine after_n ?_
  refine w_seq ?_
  obtain ⟨r1, h2, hp⟩ := bnd hp
  refine w_region ?_
  iterate 5 refine o1 rfl ?_
  refine oc (rs := [.c (.d (.lit (.int .i64 r1)))]) (outs := []) rfl (slices_Index_api_Host_api_Host_ok h2) rfl ?_
  refine o1 rfl ?_
  refine o_end (e' := [(6, .c (.d (.lit (.int .i64 r1))))]) rfl rfl ?_
  refine after_n ?_
  refine w_ret ?_
  obtain rfl := Option.some.inj hp
  exact leave_at rfl rfl (pr_c p_d pr_nil) pc_nil rfl rfl

/- math/bits.Mul64 -/
def k108 : CC :=
  (.seq
  (.region [
    ⟨some 4, .mv, [(.const (.int .u64 0))], none⟩,
    ⟨some 5, .mv, [(.const (.int .u64 0))], none⟩] [0, 1])
  (.seq
  (.region [
    ⟨some 14, .mv, [(.tmp 0)], none⟩,
    ⟨some 15, (.bin .and), [(.tmp 14), (.const (.int .u64 4294967295))], none⟩,
    ⟨some 6, .mv, [(.tmp 15)], none⟩] [0, 1, 6])
  (.seq
  (.region [
    ⟨some 16, .mv, [(.tmp 0)], none⟩,
    ⟨some 17, (.bin .shr), [(.tmp 16), (.const (.int .u64 32))], none⟩,
    ⟨some 7, .mv, [(.tmp 17)], none⟩] [0, 1, 6, 7])
  (.seq
  (.region [
    ⟨some 18, .mv, [(.tmp 1)], none⟩,
    ⟨some 19, (.bin .and), [(.tmp 18), (.const (.int .u64 4294967295))], none⟩,
    ⟨some 8, .mv, [(.tmp 19)], none⟩] [0, 1, 6, 7, 8])
  (.seq
  (.region [
    ⟨some 20, .mv, [(.tmp 1)], none⟩,
    ⟨some 21, (.bin .shr), [(.tmp 20), (.const (.int .u64 32))], none⟩,
    ⟨some 9, .mv, [(.tmp 21)], none⟩] [0, 1, 6, 7, 8, 9])
  (.seq
  (.region [
    ⟨some 22, .mv, [(.tmp 6)], none⟩,
    ⟨some 23, .mv, [(.tmp 8)], none⟩,
    ⟨some 24, (.bin .mul), [(.tmp 22), (.tmp 23)], none⟩,
    ⟨some 10, .mv, [(.tmp 24)], none⟩] [0, 1, 6, 7, 8, 9, 10])
  (.seq
  (.region [
    ⟨some 25, .mv, [(.tmp 7)], none⟩,
    ⟨some 26, .mv, [(.tmp 8)], none⟩,
    ⟨some 27, (.bin .mul), [(.tmp 25), (.tmp 26)], none⟩,
    ⟨some 28, .mv, [(.tmp 10)], none⟩,
    ⟨some 29, (.bin .shr), [(.tmp 28), (.const (.int .u64 32))], none⟩,
    ⟨some 30, (.bin .add), [(.tmp 27), (.tmp 29)], none⟩,
    ⟨some 11, .mv, [(.tmp 30)], none⟩] [0, 1, 6, 7, 9, 11])
  (.seq
  (.region [
    ⟨some 31, .mv, [(.tmp 11)], none⟩,
    ⟨some 32, (.bin .and), [(.tmp 31), (.const (.int .u64 4294967295))], none⟩,
    ⟨some 12, .mv, [(.tmp 32)], none⟩] [0, 1, 6, 7, 9, 11, 12])
  (.seq
  (.region [
    ⟨some 33, .mv, [(.tmp 11)], none⟩,
    ⟨some 34, (.bin .shr), [(.tmp 33), (.const (.int .u64 32))], none⟩,
    ⟨some 13, .mv, [(.tmp 34)], none⟩] [0, 1, 6, 7, 9, 12, 13])
  (.seq
  (.region [
    ⟨some 35, .mv, [(.tmp 12)], none⟩,
    ⟨some 36, .mv, [(.tmp 6)], none⟩,
    ⟨some 37, .mv, [(.tmp 9)], none⟩,
    ⟨some 38, (.bin .mul), [(.tmp 36), (.tmp 37)], none⟩,
    ⟨some 39, (.bin .add), [(.tmp 35), (.tmp 38)], none⟩,
    ⟨some 12, .mv, [(.tmp 39)], none⟩] [0, 1, 7, 9, 12, 13])
  (.seq
  (.region [
    ⟨some 40, .mv, [(.tmp 7)], none⟩,
    ⟨some 41, .mv, [(.tmp 9)], none⟩,
    ⟨some 42, (.bin .mul), [(.tmp 40), (.tmp 41)], none⟩,
    ⟨some 43, .mv, [(.tmp 13)], none⟩,
    ⟨some 44, (.bin .add), [(.tmp 42), (.tmp 43)], none⟩,
    ⟨some 45, .mv, [(.tmp 12)], none⟩,
    ⟨some 46, (.bin .shr), [(.tmp 45), (.const (.int .u64 32))], none⟩,
    ⟨some 47, (.bin .add), [(.tmp 44), (.tmp 46)], none⟩,
    ⟨some 4, .mv, [(.tmp 47)], none⟩] [0, 1, 4])
  (.seq
  (.region [
    ⟨some 48, .mv, [(.tmp 0)], none⟩,
    ⟨some 49, .mv, [(.tmp 1)], none⟩,
    ⟨some 50, (.bin .mul), [(.tmp 48), (.tmp 49)], none⟩,
    ⟨some 5, .mv, [(.tmp 50)], none⟩] [4, 5])
  .ret))))))))))))
def f108 : Ev.Fn := ⟨2, 51, [.tmp 4, .tmp 5], k108⟩
set_option maxRecDepth 100000 in
theorem e108 : compFn prog sig 108 2 [[0, 1], [0, 1, 6], [0, 1, 6, 7], [0, 1, 6, 7, 8], [0, 1, 6, 7, 8, 9], [0, 1, 6, 7, 8, 9, 10], [0, 1, 6, 7, 9, 11], [0, 1, 6, 7, 9, 11, 12], [0, 1, 6, 7, 9, 12, 13], [0, 1, 7, 9, 12, 13], [0, 1, 4], [4, 5]] = some f108 := by kernel_rfl
noncomputable def math_bits_Mul64 (x_0 : Int) (y_1 : Int) : Option ((Int × Int)) :=
  some (wr .u64 ((wr .u64 ((wr .u64 ((bShr .u64 x_0 32) * (bShr .u64 y_1 32))) + (bShr .u64 (wr .u64 ((wr .u64 ((bShr .u64 x_0 32) * (bAnd .u64 y_1 4294967295))) + (bShr .u64 (wr .u64 ((bAnd .u64 x_0 4294967295) * (bAnd .u64 y_1 4294967295))) 32))) 32))) + (bShr .u64 (wr .u64 ((bAnd .u64 (wr .u64 ((wr .u64 ((bShr .u64 x_0 32) * (bAnd .u64 y_1 4294967295))) + (bShr .u64 (wr .u64 ((bAnd .u64 x_0 4294967295) * (bAnd .u64 y_1 4294967295))) 32))) 4294967295) + (wr .u64 ((bAnd .u64 x_0 4294967295) * (bShr .u64 y_1 32))))) 32)), wr .u64 (x_0 * y_1))
theorem math_bits_Mul64_ok {x_0 : Int} {y_1 : Int} {z : (Int × Int)} (hp : math_bits_Mul64 x_0 y_1 = some z) : Good prog 108 [.d (.lit (.int .u64 x_0)), .d (.lit (.int .u64 y_1))] [.c (.d (.lit (.int .u64 z.1))), .c (.d (.lit (.int .u64 z.2)))] [] := by
  unfold math_bits_Mul64 at hp
  refine fn_good mixed e108 (fnS (m := [false, false]) (s := ⟨[(0, .c (.d (.lit (.int .u64 x_0)))), (1, .c (.d (.lit (.int .u64 y_1))))], [], 0, []⟩) (len := 0) (c := k108) rfl (Sub.of_eq rfl) rfl rfl ?_)
  refine w_seq ?_
  refine w_region ?_
  iterate 2 refine o1 rfl ?_
  refine o_end (e' := [(0, .c (.d (.lit (.int .u64 x_0)))), (1, .c (.d (.lit (.int .u64 y_1))))]) rfl rfl ?_
  refine after_n ?_
  refine w_seq ?_
  refine w_region ?_
  refine o1 rfl ?_
  refine o1 (v := .c (.d (.lit (.int .u64 (bAnd .u64 x_0 4294967295))))) rfl ?_
  refine o1 rfl ?_
  refine o_end (e' := [(0, .c (.d (.lit (.int .u64 x_0)))), (1, .c (.d (.lit (.int .u64 y_1)))), (6, .c (.d (.lit (.int .u64 (bAnd .u64 x_0 4294967295)))))]) rfl rfl ?_
  refine after_n ?_
  refine w_seq ?_
  refine w_region ?_
  refine o1 rfl ?_
  refine o1 (v := .c (.d (.lit (.int .u64 (bShr .u64 x_0 32))))) rfl ?_
  refine o1 rfl ?_
  refine o_end (e' := [(0, .c (.d (.lit (.int .u64 x_0)))), (1, .c (.d (.lit (.int .u64 y_1)))), (6, .c (.d (.lit (.int .u64 (bAnd .u64 x_0 4294967295))))), (7, .c (.d (.lit (.int .u64 (bShr .u64 x_0 32)))))]) rfl rfl ?_
  refine after_n ?_
  refine w_seq ?_
  refine w_region ?_
  refine o1 rfl ?_
  refine o1 (v := .c (.d (.lit (.int .u64 (bAnd .u64 y_1 4294967295))))) rfl ?_
  refine o1 rfl ?_
  refine o_end (e' := [(0, .c (.d (.lit (.int .u64 x_0)))), (1, .c (.d (.lit (.int .u64 y_1)))), (6, .c (.d (.lit (.int .u64 (bAnd .u64 x_0 4294967295))))), (7, .c (.d (.lit (.int .u64 (bShr .u64 x_0 32))))), (8, .c (.d (.lit (.int .u64 (bAnd .u64 y_1 4294967295)))))]) rfl rfl ?_
  refine after_n ?_
  refine w_seq ?_
  refine w_region ?_
  refine o1 rfl ?_
  refine o1 (v := .c (.d (.lit (.int .u64 (bShr .u64 y_1 32))))) rfl ?_
  refine o1 rfl ?_
  refine o_end (e' := [(0, .c (.d (.lit (.int .u64 x_0)))), (1, .c (.d (.lit (.int .u64 y_1)))), (6, .c (.d (.lit (.int .u64 (bAnd .u64 x_0 4294967295))))), (7, .c (.d (.lit (.int .u64 (bShr .u64 x_0 32))))), (8, .c (.d (.lit (.int .u64 (bAnd .u64 y_1 4294967295))))), (9, .c (.d (.lit (.int .u64 (bShr .u64 y_1 32)))))]) rfl rfl ?_
  refine after_n ?_
  refine w_seq ?_
  refine w_region ?_
  iterate 2 refine o1 rfl ?_
  refine o1 (v := .c (.d (.lit (.int .u64 (wr .u64 ((bAnd .u64 x_0 4294967295) * (bAnd .u64 y_1 4294967295))))))) rfl ?_
  refine o1 rfl ?_
  refine o_end (e' := [(0, .c (.d (.lit (.int .u64 x_0)))), (1, .c (.d (.lit (.int .u64 y_1)))), (6, .c (.d (.lit (.int .u64 (bAnd .u64 x_0 4294967295))))), (7, .c (.d (.lit (.int .u64 (bShr .u64 x_0 32))))), (8, .c (.d (.lit (.int .u64 (bAnd .u64 y_1 4294967295))))), (9, .c (.d (.lit (.int .u64 (bShr .u64 y_1 32))))), (10, .c (.d (.lit (.int .u64 (wr .u64 ((bAnd .u64 x_0 4294967295) * (bAnd .u64 y_1 4294967295)))))))]) rfl rfl ?_
  refine after_n ?_
  refine w_seq ?_
  refine w_region ?_
  iterate 2 refine o1 rfl ?_
  refine o1 (v := .c (.d (.lit (.int .u64 (wr .u64 ((bShr .u64 x_0 32) * (bAnd .u64 y_1 4294967295))))))) rfl ?_
  refine o1 rfl ?_
  refine o1 (v := .c (.d (.lit (.int .u64 (bShr .u64 (wr .u64 ((bAnd .u64 x_0 4294967295) * (bAnd .u64 y_1 4294967295))) 32))))) rfl ?_
  refine o1 (v := .c (.d (.lit (.int .u64 (wr .u64 ((wr .u64 ((bShr .u64 x_0 32) * (bAnd .u64 y_1 4294967295))) + (bShr .u64 (wr .u64 ((bAnd .u64 x_0 4294967295) * (bAnd .u64 y_1 4294967295))) 32))))))) rfl ?_
  refine o1 rfl ?_
  refine o_end (e' := [(0, .c (.d (.lit (.int .u64 x_0)))), (1, .c (.d (.lit (.int .u64 y_1)))), (6, .c (.d (.lit (.int .u64 (bAnd .u64 x_0 4294967295))))), (7, .c (.d (.lit (.int .u64 (bShr .u64 x_0 32))))), (9, .c (.d (.lit (.int .u64 (bShr .u64 y_1 32))))), (11, .c (.d (.lit (.int .u64 (wr .u64 ((wr .u64 ((bShr .u64 x_0 32) * (bAnd .u64 y_1 4294967295))) + (bShr .u64 (wr .u64 ((bAnd .u64 x_0 4294967295) * (bAnd .u64 y_1 4294967295))) 32)))))))]) rfl rfl ?_
  refine after_n ?_
  refine w_seq ?_
  refine w_region ?_
  refine o1 rfl ?_
  refine o1 (v := .c (.d (.lit (.int .u64 (bAnd .u64 (wr .u64 ((wr .u64 ((bShr .u64 x_0 32) * (bAnd .u64 y_1 4294967295))) + (bShr .u64 (wr .u64 ((bAnd .u64 x_0 4294967295) * (bAnd .u64 y_1 4294967295))) 32))) 4294967295))))) rfl ?_
  refine o1 rfl ?_
  refine o_end (e' := [(0, .c (.d (.lit (.int .u64 x_0)))), (1, .c (.d (.lit (.int .u64 y_1)))), (6, .c (.d (.lit (.int .u64 (bAnd .u64 x_0 4294967295))))), (7, .c (.d (.lit (.int .u64 (bShr .u64 x_0 32))))), (9, .c (.d (.lit (.int .u64 (bShr .u64 y_1 32))))), (11, .c (.d (.lit (.int .u64 (wr .u64 ((wr .u64 ((bShr .u64 x_0 32) * (bAnd .u64 y_1 4294967295))) + (bShr .u64 (wr .u64 ((bAnd .u64 x_0 4294967295) * (bAnd .u64 y_1 4294967295))) 32))))))), (12, .c (.d (.lit (.int .u64 (bAnd .u64 (wr .u64 ((wr .u64 ((bShr .u64 x_0 32) * (bAnd .u64 y_1 4294967295))) + (bShr .u64 (wr .u64 ((bAnd .u64 x_0 4294967295) * (bAnd .u64 y_1 4294967295))) 32))) 4294967295)))))]) rfl rfl ?_
  refine after_n ?_
  refine w_seq ?_
  refine w_region ?_
  refine o1 rfl ?_
  refine o1 (v := .c (.d (.lit (.int .u64 (bShr .u64 (wr .u64 ((wr .u64 ((bShr .u64 x_0 32) * (bAnd .u64 y_1 4294967295))) + (bShr .u64 (wr .u64 ((bAnd .u64 x_0 4294967295) * (bAnd .u64 y_1 4294967295))) 32))) 32))))) rfl ?_
  refine o1 rfl ?_
  refine o_end (e' := [(0, .c (.d (.lit (.int .u64 x_0)))), (1, .c (.d (.lit (.int .u64 y_1)))), (6, .c (.d (.lit (.int .u64 (bAnd .u64 x_0 4294967295))))), (7, .c (.d (.lit (.int .u64 (bShr .u64 x_0 32))))), (9, .c (.d (.lit (.int .u64 (bShr .u64 y_1 32))))), (12, .c (.d (.lit (.int .u64 (bAnd .u64 (wr .u64 ((wr .u64 ((bShr .u64 x_0 32) * (bAnd .u64 y_1 4294967295))) + (bShr .u64 (wr .u64 ((bAnd .u64 x_0 4294967295) * (bAnd .u64 y_1 4294967295))) 32))) 4294967295))))), (13, .c (.d (.lit (.int .u64 (bShr .u64 (wr .u64 ((wr .u64 ((bShr .u64 x_0 32) * (bAnd .u64 y_1 4294967295))) + (bShr .u64 (wr .u64 ((bAnd .u64 x_0 4294967295) * (bAnd .u64 y_1 4294967295))) 32))) 32)))))]) rfl rfl ?_
  refine after_n ?_
  refine w_seq ?_
  refine w_region ?_
  iterate 3 refine o1 rfl ?_
  refine o1 (v := .c (.d (.lit (.int .u64 (wr .u64 ((bAnd .u64 x_0 4294967295) * (bShr .u64 y_1 32))))))) rfl ?_
  refine o1 (v := .c (.d (.lit (.int .u64 (wr .u64 ((bAnd .u64 (wr .u64 ((wr .u64 ((bShr .u64 x_0 32) * (bAnd .u64 y_1 4294967295))) + (bShr .u64 (wr .u64 ((bAnd .u64 x_0 4294967295) * (bAnd .u64 y_1 4294967295))) 32))) 4294967295) + (wr .u64 ((bAnd .u64 x_0 4294967295) * (bShr .u64 y_1 32))))))))) rfl ?_
  refine o1 rfl ?_
  refine o_end (e' := [(0, .c (.d (.lit (.int .u64 x_0)))), (1, .c (.d (.lit (.int .u64 y_1)))), (7, .c (.d (.lit (.int .u64 (bShr .u64 x_0 32))))), (9, .c (.d (.lit (.int .u64 (bShr .u64 y_1 32))))), (12, .c (.d (.lit (.int .u64 (wr .u64 ((bAnd .u64 (wr .u64 ((wr .u64 ((bShr .u64 x_0 32) * (bAnd .u64 y_1 4294967295))) + (bShr .u64 (wr .u64 ((bAnd .u64 x_0 4294967295) * (bAnd .u64 y_1 4294967295))) 32))) 4294967295) + (wr .u64 ((bAnd .u64 x_0 4294967295) * (bShr .u64 y_1 32))))))))), (13, .c (.d (.lit (.int .u64 (bShr .u64 (wr .u64 ((wr .u64 ((bShr .u64 x_0 32) * (bAnd .u64 y_1 4294967295))) + (bShr .u64 (wr .u64 ((bAnd .u64 x_0 4294967295) * (bAnd .u64 y_1 4294967295))) 32))) 32)))))]) rfl rfl ?_
  refine after_n ?_
  refine w_seq ?_
  refine w_region ?_
  iterate 2 refine o1 rfl ?_
  refine o1 (v := .c (.d (.lit (.int .u64 (wr .u64 ((bShr .u64 x_0 32) * (bShr .u64 y_1 32))))))) rfl ?_
  refine o1 rfl ?_
  refine o1 (v := .c (.d (.lit (.int .u64 (wr .u64 ((wr .u64 ((bShr .u64 x_0 32) * (bShr .u64 y_1 32))) + (bShr .u64 (wr .u64 ((wr .u64 ((bShr .u64 x_0 32) * (bAnd .u64 y_1 4294967295))) + (bShr .u64 (wr .u64 ((bAnd .u64 x_0 4294967295) * (bAnd .u64 y_1 4294967295))) 32))) 32))))))) rfl ?_
  refine o1 rfl ?_
  refine o1 (v := .c (.d (.lit (.int .u64 (bShr .u64 (wr .u64 ((bAnd .u64 (wr .u64 ((wr .u64 ((bShr .u64 x_0 32) * (bAnd .u64 y_1 4294967295))) + (bShr .u64 (wr .u64 ((bAnd .u64 x_0 4294967295) * (bAnd .u64 y_1 4294967295))) 32))) 4294967295) + (wr .u64 ((bAnd .u64 x_0 4294967295) * (bShr .u64 y_1 32))))) 32))))) rfl ?_
  refine o1 (v := .c (.d (.lit (.int .u64 (wr .u64 ((wr .u64 ((wr .u64 ((bShr .u64 x_0 32) * (bShr .u64 y_1 32))) + (bShr .u64 (wr .u64 ((wr .u64 ((bShr .u64 x_0 32) * (bAnd .u64 y_1 4294967295))) + (bShr .u64 (wr .u64 ((bAnd .u64 x_0 4294967295) * (bAnd .u64 y_1 4294967295))) 32))) 32))) + (bShr .u64 (wr .u64 ((bAnd .u64 (wr .u64 ((wr .u64 ((bShr .u64 x_0 32) * (bAnd .u64 y_1 4294967295))) + (bShr .u64 (wr .u64 ((bAnd .u64 x_0 4294967295) * (bAnd .u64 y_1 4294967295))) 32))) 4294967295) + (wr .u64 ((bAnd .u64 x_0 4294967295) * (bShr .u64 y_1 32))))) 32))))))) rfl ?_
  refine o1 rfl ?_
  refine o_end (e' := [(0, .c (.d (.lit (.int .u64 x_0)))), (1, .c (.d (.lit (.int .u64 y_1)))), (4, .c (.d (.lit (.int .u64 (wr .u64 ((wr .u64 ((wr .u64 ((bShr .u64 x_0 32) * (bShr .u64 y_1 32))) + (bShr .u64 (wr .u64 ((wr .u64 ((bShr .u64 x_0 32) * (bAnd .u64 y_1 4294967295))) + (bShr .u64 (wr .u64 ((bAnd .u64 x_0 4294967295) * (bAnd .u64 y_1 4294967295))) 32))) 32))) + (bShr .u64 (wr .u64 ((bAnd .u64 (wr .u64 ((wr .u64 ((bShr .u64 x_0 32) * (bAnd .u64 y_1 4294967295))) + (bShr .u64 (wr .u64 ((bAnd .u64 x_0 4294967295) * (bAnd .u64 y_1 4294967295))) 32))) 4294967295) + (wr .u64 ((bAnd .u64 x_0 4294967295) * (bShr .u64 y_1 32))))) 32)))))))]) rfl rfl ?_
  refine after_n ?_
  refine w_seq ?_
  refine w_region ?_
  iterate 2 refine o1 rfl ?_
  refine o1 (v := .c (.d (.lit (.int .u64 (wr .u64 (x_0 * y_1)))))) rfl ?_
  refine o1 rfl ?_
  refine o_end (e' := [(4, .c (.d (.lit (.int .u64 (wr .u64 ((wr .u64 ((wr .u64 ((bShr .u64 x_0 32) * (bShr .u64 y_1 32))) + (bShr .u64 (wr .u64 ((wr .u64 ((bShr .u64 x_0 32) * (bAnd .u64 y_1 4294967295))) + (bShr .u64 (wr .u64 ((bAnd .u64 x_0 4294967295) * (bAnd .u64 y_1 4294967295))) 32))) 32))) + (bShr .u64 (wr .u64 ((bAnd .u64 (wr .u64 ((wr .u64 ((bShr .u64 x_0 32) * (bAnd .u64 y_1 4294967295))) + (bShr .u64 (wr .u64 ((bAnd .u64 x_0 4294967295) * (bAnd .u64 y_1 4294967295))) 32))) 4294967295) + (wr .u64 ((bAnd .u64 x_0 4294967295) * (bShr .u64 y_1 32))))) 32))))))), (5, .c (.d (.lit (.int .u64 (wr .u64 (x_0 * y_1))))))]) rfl rfl ?_
  refine after_n ?_
  refine w_ret ?_
  obtain rfl := Option.some.inj hp
  exact leave_at rfl rfl (pr_c p_d (pr_c p_d pr_nil)) pc_nil rfl rfl

/- math/bits.Mul -/
def k93 : CC :=
  (.seq
  (.region [
    ⟨some 4, .mv, [(.const (.int .u64 0))], none⟩,
    ⟨some 5, .mv, [(.const (.int .u64 0))], none⟩] [0, 1])
  (.seq
  (.cond (.const (.bool false))
    (.seq
    (.region [
      ⟨some 11, .mv, [(.tmp 0)], none⟩,
      ⟨some 12, (.convInt .u32), [(.tmp 11)], none⟩,
      ⟨some 13, .mv, [(.tmp 1)], none⟩,
      ⟨some 14, (.convInt .u32), [(.tmp 13)], none⟩,
      ⟨some 15, (.call true []), [(.func 107), (.tmp 12), (.tmp 14)], none⟩,
      ⟨some 10, .mv, [(.tmp 15)], none⟩,
      ⟨some 16, (.extract 0), [(.tmp 10)], none⟩,
      ⟨some 17, (.extract 1), [(.tmp 10)], none⟩,
      ⟨some 6, .mv, [(.tmp 16)], none⟩,
      ⟨some 7, .mv, [(.tmp 17)], none⟩] [6, 7])
    (.seq
    (.region [
      ⟨some 18, .mv, [(.tmp 6)], none⟩,
      ⟨some 19, (.convInt .u64), [(.tmp 18)], none⟩,
      ⟨some 20, .mv, [(.tmp 7)], none⟩,
      ⟨some 21, (.convInt .u64), [(.tmp 20)], none⟩,
      ⟨some 4, .mv, [(.tmp 19)], none⟩,
      ⟨some 5, .mv, [(.tmp 21)], none⟩] [4, 5])
    .ret))
    .skip)
  (.seq
  (.region [
    ⟨some 23, .mv, [(.tmp 0)], none⟩,
    ⟨some 24, .mv, [(.tmp 1)], none⟩,
    ⟨some 25, (.call true []), [(.func 108), (.tmp 23), (.tmp 24)], none⟩,
    ⟨some 22, .mv, [(.tmp 25)], none⟩,
    ⟨some 26, (.extract 0), [(.tmp 22)], none⟩,
    ⟨some 27, (.extract 1), [(.tmp 22)], none⟩,
    ⟨some 8, .mv, [(.tmp 26)], none⟩,
    ⟨some 9, .mv, [(.tmp 27)], none⟩] [8, 9])
  (.seq
  (.region [
    ⟨some 28, .mv, [(.tmp 8)], none⟩,
    ⟨some 29, .mv, [(.tmp 9)], none⟩,
    ⟨some 4, .mv, [(.tmp 28)], none⟩,
    ⟨some 5, .mv, [(.tmp 29)], none⟩] [4, 5])
  .ret))))
def f93 : Ev.Fn := ⟨2, 30, [.tmp 4, .tmp 5], k93⟩
set_option maxRecDepth 100000 in
theorem e93 : compFn prog sig 93 2 [[0, 1], [6, 7], [4, 5], [8, 9], [4, 5]] = some f93 := by kernel_rfl
noncomputable def math_bits_Mul (x_0 : Int) (y_1 : Int) : Option ((Int × Int)) :=
  (math_bits_Mul64 x_0 y_1).bind fun (r1, r2) =>
  some (r1, r2)
theorem math_bits_Mul_ok {x_0 : Int} {y_1 : Int} {z : (Int × Int)} (hp : math_bits_Mul x_0 y_1 = some z) : Good prog 93 [.d (.lit (.int .u64 x_0)), .d (.lit (.int .u64 y_1))] [.c (.d (.lit (.int .u64 z.1))), .c (.d (.lit (.int .u64 z.2)))] [] := by
  unfold math_bits_Mul at hp
  refine fn_good mixed e93 (fnS (m := [false, false]) (s := ⟨[(0, .c (.d (.lit (.int .u64 x_0)))), (1, .c (.d (.lit (.int .u64 y_1))))], [], 0, []⟩) (len := 0) (c := k93) rfl (Sub.of_eq rfl) rfl rfl ?_)
  refine w_seq ?_
  refine w_region ?_
  iterate 2 refine o1 rfl ?_
  refine o_end (e' := [(0, .c (.d (.lit (.int .u64 x_0)))), (1, .c (.d (.lit (.int .u64 y_1))))]) rfl rfl ?_
  refine after_n ?_
  refine w_seq ?_
  refine w_false rfl rfl ?_
  refine w_skip ?_
  refine after_n ?_
  refine w_seq ?_
  obtain ⟨⟨r1, r2⟩, h3, hp⟩ := bnd hp
  refine w_region ?_
  iterate 2 refine o1 rfl ?_
  refine oc (rs := [.c (.d (.lit (.int .u64 r1))), .c (.d (.lit (.int .u64 r2)))]) (outs := []) rfl (math_bits_Mul64_ok h3) rfl ?_
  iterate 5 refine o1 rfl ?_
  refine o_end (e' := [(8, .c (.d (.lit (.int .u64 r1)))), (9, .c (.d (.lit (.int .u64 r2))))]) rfl rfl ?_
  refine after_n ?_
  refine w_seq ?_
  refine w_region ?_
  iterate 4 refine o1 rfl ?_
  refine o_end (e' := [(4, .c (.d (.lit (.int .u64 r1)))), (5, .c (.d (.lit (.int .u64 r2))))]) rfl rfl ?_
  refine after_n ?_
  refine w_ret ?_
  obtain rfl := Option.some.inj hp
  exact leave_at rfl rfl (pr_c p_d (pr_c p_d pr_nil)) pc_nil rfl rfl

/- slices.Repeat[[]int,int] -/
def k74 : CC :=
  (.seq
  (.region [
    ⟨some 4, .mv, [(.const (.slice none 0 0))], none⟩] [0, 1])
  (.seq
  (.seq
  (.region [
    ⟨some 9, .mv, [(.tmp 1)], none⟩,
    ⟨some 10, (.bin .lss), [(.tmp 9), (.const (.int .i64 0))], none⟩] [0, 1, 10])
  (.cond (.tmp 10)
    (.region [
      ⟨some 11, .bad, [], none⟩,
      ⟨none, .bad, [], none⟩] [0, 1])
    .skip))
  (.seq
  (.region [
    ⟨some 13, .mv, [(.tmp 0)], none⟩,
    ⟨some 14, (.len false), [(.tmp 13)], none⟩,
    ⟨some 15, (.convInt .u64), [(.tmp 14)], none⟩,
    ⟨some 16, .mv, [(.tmp 1)], none⟩,
    ⟨some 17, (.convInt .u64), [(.tmp 16)], none⟩,
    ⟨some 18, (.call true []), [(.func 93), (.tmp 15), (.tmp 17)], none⟩,
    ⟨some 12, .mv, [(.tmp 18)], none⟩,
    ⟨some 19, (.extract 0), [(.tmp 12)], none⟩,
    ⟨some 20, (.extract 1), [(.tmp 12)], none⟩,
    ⟨some 5, .mv, [(.tmp 19)], none⟩,
    ⟨some 6, .mv, [(.tmp 20)], none⟩] [0, 5, 6])
  (.seq
  (.seq
  (.region [
    ⟨some 21, .mv, [(.tmp 5)], none⟩,
    ⟨some 22, (.bin .gtr), [(.tmp 21), (.const (.int .u64 0))], none⟩,
    ⟨some 23, .mv, [(.tmp 22)], none⟩,
    ⟨some 24, .mv, [(.tmp 6)], (some (23, false))⟩,
    ⟨some 25, (.bin .gtr), [(.tmp 24), (.const (.int .u64 9223372036854775807))], (some (23, false))⟩,
    ⟨some 26, .pick, [(.tmp 23), (.const (.bool true)), (.tmp 25)], none⟩] [0, 6, 26])
  (.cond (.tmp 26)
    (.region [
      ⟨some 27, .bad, [], none⟩,
      ⟨none, .bad, [], none⟩] [0, 6])
    .skip))
  (.seq
  (.region [
    ⟨some 28, .mv, [(.tmp 6)], none⟩,
    ⟨some 29, (.convInt .i64), [(.tmp 28)], none⟩,
    ⟨some 30, (.makeSlice [(.int .i64 0)]), [(.tmp 29), (.tmp 29)], none⟩,
    ⟨some 7, .mv, [(.tmp 30)], none⟩] [0, 7])
  (.seq
  (.region [
    ⟨some 31, .mv, [(.tmp 7)], none⟩,
    ⟨some 32, .mv, [(.tmp 0)], none⟩,
    ⟨some 33, (.copy 1), [(.tmp 31), (.tmp 32)], none⟩,
    ⟨some 8, .mv, [(.tmp 33)], none⟩] [7, 8])
  (.seq
  (.block 0
    (.loop [7, 8]
      (.seq
      (.seq
      (.region [
        ⟨some 34, .mv, [(.tmp 8)], none⟩,
        ⟨some 35, .mv, [(.tmp 7)], none⟩,
        ⟨some 36, (.len false), [(.tmp 35)], none⟩,
        ⟨some 37, (.bin .lss), [(.tmp 34), (.tmp 36)], none⟩] [7, 8, 37])
      (.cond (.tmp 37)
        .skip
        (.exit 0)))
      (.block 1
        (.drawn [
          ⟨some 38, .mv, [(.tmp 8)], none⟩,
          ⟨some 39, .mv, [(.tmp 7)], none⟩,
          ⟨some 40, .mv, [(.tmp 8)], none⟩,
          ⟨some 41, (.slice false 1 true false), [(.tmp 39), (.tmp 40)], none⟩,
          ⟨some 42, .mv, [(.tmp 7)], none⟩,
          ⟨some 43, .mv, [(.tmp 8)], none⟩,
          ⟨some 44, (.slice false 1 false true), [(.tmp 42), (.tmp 43)], none⟩,
          ⟨some 45, (.copy 1), [(.tmp 41), (.tmp 44)], none⟩,
          ⟨some 46, (.bin .add), [(.tmp 38), (.tmp 45)], none⟩,
          ⟨some 8, .mv, [(.tmp 46)], none⟩] [] [7, 8])))))
  (.seq
  (.region [
    ⟨some 47, .mv, [(.tmp 7)], none⟩,
    ⟨some 4, .mv, [(.tmp 47)], none⟩] [4])
  .ret))))))))
def f74 : Ev.Fn := ⟨2, 48, [.tmp 4], k74⟩
set_option maxRecDepth 100000 in
theorem e74 : compFn prog sig 74 2 [[0, 1], [0, 1, 10], [0, 1], [0, 5, 6], [0, 6, 26], [0, 6], [0, 7], [7, 8], [7, 8], [7, 8, 37], [7, 8], [4]] = some f74 := by kernel_rfl
noncomputable def slices_Repeat_int_int_L1 : (List Int × Int) → Option (Sum ((List Int × Int)) (List Int)) := fun (l15, i16) =>
  bif decide (i16 < (l15.length : Int)) then ((cutI l15 i16 l15.length).bind fun l23 =>
  (cutI l15 0 i16).bind fun l25 =>
  some (.inl ((cpL l15 i16.toNat l23.length l25), wr .i64 (i16 + ((min l25.length l23.length : Nat) : Int))))) else
  (some (.inr l15))

noncomputable def slices_Repeat_int_int (x_0 : Sl Int) (count_1 : Int) : Option (Sl Int) :=
  bif decide (count_1 < 0) then (((none : Option Unit)).bind fun _ =>
  none) else
  ((math_bits_Mul (wr .u64 (x_0.l.length : Int)) (wr .u64 count_1)).bind fun (r4, r5) =>
  bif ((decide (r4 > 0)) || (decide (r5 > 9223372036854775807))) then (((none : Option Unit)).bind fun _ =>
  none) else
  ((mkI 0 (wr .i64 r5) (wr .i64 r5)).bind fun l13 =>
  (loopO (slices_Repeat_int_int_L1) ((cpL l13 0 l13.length x_0.l), ((min x_0.l.length l13.length : Nat) : Int))).bind fun l19 =>
  some (Sl.mk l19)))
theorem slices_Repeat_int_int_ok {x_0 : Sl Int} {count_1 : Int} {z : Sl Int} (hp : slices_Repeat_int_int x_0 count_1 = some z) : Good prog 74 [.d (slD 1 cI_i64 x_0), .d (.lit (.int .i64 count_1))] [.c (slT 1 cI_i64 z)] [] := by
  unfold slices_Repeat_int_int at hp
  refine fn_good mixed e74 (fnS (m := [false]) (s := ⟨[(0, .c (.d (slD 1 cI_i64 x_0))), (1, .c (.d (.lit (.int .i64 count_1))))], [], 0, []⟩) (len := 0) (c := k74) rfl (Sub.of_eq rfl) rfl rfl ?_)
  refine w_seq ?_
  refine w_region ?_
  refine o1 rfl ?_
  refine o_end (e' := [(0, .c (.d (slD 1 cI_i64 x_0))), (1, .c (.d (.lit (.int .i64 count_1))))]) rfl rfl ?_
  refine after_n ?_
  refine w_seq ?_
  refine w_seq ?_
  refine w_region ?_
  refine o1 rfl ?_
  refine o1 (v := .c (.d (.lit (.bool (decide (count_1 < 0)))))) rfl ?_
  refine o_end (e' := [(0, .c (.d (slD 1 cI_i64 x_0))), (1, .c (.d (.lit (.int .i64 count_1)))), (10, .c (.d (.lit (.bool (decide (count_1 < 0))))))]) rfl rfl ?_
  refine after_n ?_
  refine w_cond (t := decide (count_1 < 0)) rfl (fun hb1 => ?_) (fun hb1 => ?_)
  · have hp := cnd_t hb1 hp
    obtain ⟨_, h3, hp⟩ := bnd hp
    exact nomatch h3
  · have hp := cnd_f hb1 hp
    refine w_skip ?_
    refine after_n ?_
    refine w_seq ?_
    obtain ⟨⟨r4, r5⟩, h6, hp⟩ := bnd hp
    refine w_region ?_
    refine o1 rfl ?_
    refine o1 (v := .c (.d (.lit (.int .i64 (x_0.l.length : Int))))) len_sd ?_
    refine o1 (v := .c (.d (.lit (.int .u64 (wr .u64 (x_0.l.length : Int)))))) rfl ?_
    refine o1 rfl ?_
    refine o1 (v := .c (.d (.lit (.int .u64 (wr .u64 count_1))))) rfl ?_
    refine oc (rs := [.c (.d (.lit (.int .u64 r4))), .c (.d (.lit (.int .u64 r5)))]) (outs := []) rfl (math_bits_Mul_ok h6) rfl ?_
    iterate 5 refine o1 rfl ?_
    refine o_end (e' := [(0, .c (.d (slD 1 cI_i64 x_0))), (5, .c (.d (.lit (.int .u64 r4)))), (6, .c (.d (.lit (.int .u64 r5))))]) rfl rfl ?_
    refine after_n ?_
    refine w_seq ?_
    refine w_seq ?_
    refine w_join (J := fun s => Sub s ⟨[(0, .c (.d (slD 1 cI_i64 x_0))), (6, .c (.d (.lit (.int .u64 r5)))), (26, .c (.d (.lit (.bool ((decide (r4 > 0)) || (decide (r5 > 9223372036854775807)))))))], [], 0, []⟩) ?_ ?_
    · refine w_region ?_
      refine o1 rfl ?_
      refine o1 (v := .c (.d (.lit (.bool (decide (r4 > 0)))))) rfl ?_
      refine o1 rfl ?_
      cases hb8 : (decide (r4 > 0) : Bool)
      · refine og rfl (by first | rfl | exact hb8) rfl ?_
        refine og (v := .c (.d (.lit (.bool (decide (r5 > 9223372036854775807)))))) rfl (by first | rfl | exact hb8) rfl ?_
        refine o1 (pk_f (by first | rfl | exact hb8)) ?_
        exact o_join (sub_ren [] [0, 6, 26] (by decide) rfl .nil (Nat.le_of_ble_eq_true rfl))
      · refine onot rfl (by first | rfl | exact hb8) ?_
        refine onot rfl (by first | rfl | exact hb8) ?_
        refine o1 (pk_t (by first | rfl | exact hb8)) ?_
        exact o_join (sub_ren [] [0, 6, 26] (by decide) rfl .nil (Nat.le_of_ble_eq_true rfl))
    · intro s hs9
      refine after_n ?_
      refine W.sub hs9 ?_
      refine w_cond (t := ((decide (r4 > 0)) || (decide (r5 > 9223372036854775807)))) rfl (fun hb10 => ?_) (fun hb10 => ?_)
      · have hp := cnd_t hb10 hp
        obtain ⟨_, h12, hp⟩ := bnd hp
        exact nomatch h12
      · have hp := cnd_f hb10 hp
        refine w_skip ?_
        refine after_n ?_
        refine w_seq ?_
        obtain ⟨l13, h14, hp⟩ := bnd hp
        refine w_region ?_
        refine o1 rfl ?_
        refine o1 (v := .c (.d (.lit (.int .i64 (wr .i64 r5))))) rfl ?_
        refine o2 (ev_make (enc := cI_i64) (z := 0) rfl h14) ?_
        refine o1 rfl ?_
        refine o_end (e' := [(0, .c (.d (slD 1 cI_i64 x_0))), (7, .c (slC 1 cI_i64 0 (Sl.mk l13)))]) rfl rfl ?_
        refine after_n ?_
        refine w_seq ?_
        try dsimp only [slC, slO]
        refine w_region ?_
        iterate 2 refine o1 rfl ?_
        refine o2 (v := .c (.d (.lit (.int .i64 ((min x_0.l.length l13.length : Nat) : Int))))) (copy_o rfl rows_sd) ?_
        rw [len_cpo l13 cI_i64 x_0.l]
        refine o1 rfl ?_
        refine o_end (e' := [(7, .c (slC 1 cI_i64 0 (Sl.mk (cpL l13 0 l13.length x_0.l)))), (8, .c (.d (.lit (.int .i64 ((min x_0.l.length l13.length : Nat) : Int)))))]) rfl rfl ?_
        refine after_n ?_
        refine w_seq ?_
        refine w_block ?_
        obtain ⟨l19, h21, hp⟩ := bnd hp
        refine W.mono ?_ (w_loopS (st := fun (v : (List Int × Int)) => match v with | (l15, i16) => ⟨[(7, .c (slC 1 cI_i64 0 (Sl.mk l15))), (8, .c (.d (.lit (.int .i64 i16))))], [(0, slO 1 cI_i64 (Sl.mk l15))], 1, []⟩) (a := ((cpL l13 0 l13.length x_0.l), ((min x_0.l.length l13.length : Nat) : Int))) (Q := Jn (fun (x : List Int) o s => match x with | l19 => o = Out.exit 0 ∧ Sub s ⟨[(7, .c (slC 1 cI_i64 0 (Sl.mk l19)))], [(0, slO 1 cI_i64 (Sl.mk l19))], 1, []⟩)) ?_ h21 ?_)
        · intro o s hs27
          obtain ⟨rfl, hs27⟩ := hs27
          refine out_e ?_
          refine after_n ?_
          refine W.sub hs27 ?_
          refine w_seq ?_
          refine w_region ?_
          iterate 2 refine o1 rfl ?_
          refine o_end (e' := [(4, .c (slC 1 cI_i64 0 (Sl.mk l19)))]) rfl rfl ?_
          refine after_n ?_
          refine w_ret ?_
          obtain rfl := Option.some.inj hp
          exact leave_at rfl rfl (pr_c (p_o rfl) pr_nil) pc_nil rfl rfl
        · exact (sub_ren [0] [7, 8] (by decide) rfl (.cons .nil) (Nat.le_of_ble_eq_true rfl))
        · rintro ⟨l15, i16⟩ r hr
          unfold slices_Repeat_int_int_L1 at hr
          refine w_seq ?_
          refine w_seq ?_
          refine w_region ?_
          iterate 2 refine o1 rfl ?_
          refine o1 (v := .c (.d (.lit (.int .i64 (l15.length : Int))))) len_o ?_
          refine o1 (v := .c (.d (.lit (.bool (decide (i16 < (l15.length : Int))))))) rfl ?_
          refine o_end (e' := [(7, .c (slC 1 cI_i64 0 (Sl.mk l15))), (8, .c (.d (.lit (.int .i64 i16)))), (37, .c (.d (.lit (.bool (decide (i16 < (l15.length : Int)))))))]) rfl rfl ?_
          refine after_n ?_
          refine w_cond (t := decide (i16 < (l15.length : Int))) rfl (fun hb22 => ?_) (fun hb22 => ?_)
          · have hr := cnd_t hb22 hr
            refine w_skip ?_
            refine after_n ?_
            refine w_block ?_
            obtain ⟨l23, h24, hr⟩ := bnd hr
            obtain ⟨l25, h26, hr⟩ := bnd hr
            try dsimp only [slC, slO]
            refine w_drawn ?_
            iterate 3 refine d1 rfl ?_
            refine d1 (cut_otf h24) ?_
            iterate 2 refine d1 rfl ?_
            refine d1 (cut_oft h26) ?_
            refine d2 (v := .c (.d (.lit (.int .i64 ((min l25.length l23.length : Nat) : Int))))) (copy_s rfl h24 (rows_s rfl h26)) (Nat.le_of_ble_eq_true rfl) ?_
            rw [len_cps (enc := cI_i64) h24 l25]
            refine d1 (v := .c (.d (.lit (.int .i64 (wr .i64 (i16 + ((min l25.length l23.length : Nat) : Int))))))) rfl ?_
            refine d1 rfl ?_
            refine d_fin (e' := [(7, .c (slC 1 cI_i64 0 (Sl.mk (cpL l15 i16.toNat l23.length l25)))), (8, .c (.d (.lit (.int .i64 (wr .i64 (i16 + ((min l25.length l23.length : Nat) : Int)))))))]) (n' := 641) rfl rfl rfl rfl ?_
            refine out_n ?_
            obtain rfl := Option.some.inj hr
            exact And.intro rfl (sub_ren [0] [7, 8] (by decide) rfl (.cons .nil) (Nat.le_of_ble_eq_true rfl))
          · have hr := cnd_f hb22 hr
            refine w_exit ?_
            refine after_e ?_
            obtain rfl := Option.some.inj hr
            exact And.intro nofun (And.intro rfl (sub_ren [0] [7] (by decide) rfl (.cons .nil) (Nat.le_of_ble_eq_true rfl)))

/- math/bits.Len64 -/
def k118 : CC :=
  (.seq
  (.region [
    ⟨some 2, .mv, [(.const (.int .i64 0))], none⟩] [0, 2])
  (.seq
  (.seq
  (.region [
    ⟨some 3, .mv, [(.tmp 0)], none⟩,
    ⟨some 4, (.bin .geq), [(.tmp 3), (.const (.int .u64 4294967296))], none⟩] [0, 2, 4])
  (.cond (.tmp 4)
    (.seq
    (.region [
      ⟨some 5, .mv, [(.tmp 0)], none⟩,
      ⟨some 6, (.bin .shr), [(.tmp 5), (.const (.int .u64 32))], none⟩,
      ⟨some 0, .mv, [(.tmp 6)], none⟩] [0])
    (.region [
      ⟨some 2, .mv, [(.const (.int .i64 32))], none⟩] [0, 2]))
    .skip))
  (.seq
  (.seq
  (.region [
    ⟨some 7, .mv, [(.tmp 0)], none⟩,
    ⟨some 8, (.bin .geq), [(.tmp 7), (.const (.int .u64 65536))], none⟩] [0, 2, 8])
  (.cond (.tmp 8)
    (.seq
    (.region [
      ⟨some 9, .mv, [(.tmp 0)], none⟩,
      ⟨some 10, (.bin .shr), [(.tmp 9), (.const (.int .u64 16))], none⟩,
      ⟨some 0, .mv, [(.tmp 10)], none⟩] [0, 2])
    (.region [
      ⟨some 11, .mv, [(.tmp 2)], none⟩,
      ⟨some 12, (.bin .add), [(.tmp 11), (.const (.int .i64 16))], none⟩,
      ⟨some 2, .mv, [(.tmp 12)], none⟩] [0, 2]))
    .skip))
  (.seq
  (.seq
  (.region [
    ⟨some 13, .mv, [(.tmp 0)], none⟩,
    ⟨some 14, (.bin .geq), [(.tmp 13), (.const (.int .u64 256))], none⟩] [0, 2, 14])
  (.cond (.tmp 14)
    (.seq
    (.region [
      ⟨some 15, .mv, [(.tmp 0)], none⟩,
      ⟨some 16, (.bin .shr), [(.tmp 15), (.const (.int .u64 8))], none⟩,
      ⟨some 0, .mv, [(.tmp 16)], none⟩] [0, 2])
    (.region [
      ⟨some 17, .mv, [(.tmp 2)], none⟩,
      ⟨some 18, (.bin .add), [(.tmp 17), (.const (.int .i64 8))], none⟩,
      ⟨some 2, .mv, [(.tmp 18)], none⟩] [0, 2]))
    .skip))
  (.seq
  (.region [
    ⟨some 19, .mv, [(.tmp 2)], none⟩,
    ⟨some 20, .mv, [(.tmp 0)], none⟩,
    ⟨some 21, (.convInt .u8), [(.tmp 20)], none⟩,
    ⟨some 22, .indexStr, [(.const (.string ⟨#[0,1,2,2,3,3,3,3,4,4,4,4,4,4,4,4,5,5,5,5,5,5,5,5,5,5,5,5,5,5,5,5,6,6,6,6,6,6,6,6,6,6,6,6,6,6,6,6,6,6,6,6,6,6,6,6,6,6,6,6,6,6,6,6,7,7,7,7,7,7,7,7,7,7,7,7,7,7,7,7,7,7,7,7,7,7,7,7,7,7,7,7,7,7,7,7,7,7,7,7,7,7,7,7,7,7,7,7,7,7,7,7,7,7,7,7,7,7,7,7,7,7,7,7,7,7,7,7,8,8,8,8,8,8,8,8,8,8,8,8,8,8,8,8,8,8,8,8,8,8,8,8,8,8,8,8,8,8,8,8,8,8,8,8,8,8,8,8,8,8,8,8,8,8,8,8,8,8,8,8,8,8,8,8,8,8,8,8,8,8,8,8,8,8,8,8,8,8,8,8,8,8,8,8,8,8,8,8,8,8,8,8,8,8,8,8,8,8,8,8,8,8,8,8,8,8,8,8,8,8,8,8,8,8,8,8,8,8,8,8,8,8,8,8,8,8,8,8,8,8,8,8,8,8,8,8]⟩)), (.tmp 21)], none⟩,
    ⟨some 23, (.convInt .i64), [(.tmp 22)], none⟩,
    ⟨some 24, (.bin .add), [(.tmp 19), (.tmp 23)], none⟩,
    ⟨some 2, .mv, [(.tmp 24)], none⟩] [2])
  .ret)))))
def f118 : Ev.Fn := ⟨1, 25, [.tmp 2], k118⟩
set_option maxRecDepth 100000 in
theorem e118 : compFn prog sig 118 1 [[0, 2], [0, 2, 4], [0], [0, 2], [0, 2, 8], [0, 2], [0, 2], [0, 2, 14], [0, 2], [0, 2], [2]] = some f118 := by kernel_rfl
noncomputable def math_bits_Len64 (x_0 : Int) : Option (Int) :=
  (bif decide (x_0 ≥ 4294967296) then (some (bShr .u64 x_0 32, 32)) else
  (some (x_0, 0)) : Option ((Int × Int))).bind fun (i1, i2) =>
  (bif decide (i1 ≥ 65536) then (some (bShr .u64 i1 16, wr .i64 (i2 + 16))) else
  (some (i1, i2)) : Option ((Int × Int))).bind fun (i7, i8) =>
  (bif decide (i7 ≥ 256) then (some (bShr .u64 i7 8, wr .i64 (i8 + 8))) else
  (some (i7, i8)) : Option ((Int × Int))).bind fun (i13, i14) =>
  (atS (⟨#[0,1,2,2,3,3,3,3,4,4,4,4,4,4,4,4,5,5,5,5,5,5,5,5,5,5,5,5,5,5,5,5,6,6,6,6,6,6,6,6,6,6,6,6,6,6,6,6,6,6,6,6,6,6,6,6,6,6,6,6,6,6,6,6,7,7,7,7,7,7,7,7,7,7,7,7,7,7,7,7,7,7,7,7,7,7,7,7,7,7,7,7,7,7,7,7,7,7,7,7,7,7,7,7,7,7,7,7,7,7,7,7,7,7,7,7,7,7,7,7,7,7,7,7,7,7,7,7,8,8,8,8,8,8,8,8,8,8,8,8,8,8,8,8,8,8,8,8,8,8,8,8,8,8,8,8,8,8,8,8,8,8,8,8,8,8,8,8,8,8,8,8,8,8,8,8,8,8,8,8,8,8,8,8,8,8,8,8,8,8,8,8,8,8,8,8,8,8,8,8,8,8,8,8,8,8,8,8,8,8,8,8,8,8,8,8,8,8,8,8,8,8,8,8,8,8,8,8,8,8,8,8,8,8,8,8,8,8,8,8,8,8,8,8,8,8,8,8,8,8,8,8,8,8,8,8]⟩ : ByteArray) (wr .u8 i13)).bind fun b19 =>
  some (wr .i64 (i14 + (wr .i64 b19)))
theorem math_bits_Len64_ok {x_0 : Int} {z : Int} (hp : math_bits_Len64 x_0 = some z) : Good prog 118 [.d (.lit (.int .u64 x_0))] [.c (.d (.lit (.int .i64 z)))] [] := by
  unfold math_bits_Len64 at hp
  refine fn_good mixed e118 (fnS (m := [false]) (s := ⟨[(0, .c (.d (.lit (.int .u64 x_0))))], [], 0, []⟩) (len := 0) (c := k118) rfl (Sub.of_eq rfl) rfl rfl ?_)
  refine w_seq ?_
  refine w_region ?_
  refine o1 rfl ?_
  refine o_end (e' := [(0, .c (.d (.lit (.int .u64 x_0)))), (2, .c (.d (.lit (.int .i64 0))))]) rfl rfl ?_
  refine after_n ?_
  refine w_seq ?_
  obtain ⟨x4, h3, hp⟩ := bnd hp
  refine W.mono (Q := Jn (fun (x : (Int × Int)) o s => match x with | (i1, i2) => o = Out.normal ∧ Sub s ⟨[(0, .c (.d (.lit (.int .u64 i1)))), (2, .c (.d (.lit (.int .i64 i2))))], [], 0, []⟩) x4) ?_ ?_
  · intro o s hs6
    obtain ⟨i1, i2⟩ := x4
    obtain ⟨rfl, hs6⟩ := hs6
    refine after_n ?_
    refine W.sub hs6 ?_
    refine w_seq ?_
    obtain ⟨x10, h9, hp⟩ := bnd hp
    refine W.mono (Q := Jn (fun (x : (Int × Int)) o s => match x with | (i7, i8) => o = Out.normal ∧ Sub s ⟨[(0, .c (.d (.lit (.int .u64 i7)))), (2, .c (.d (.lit (.int .i64 i8))))], [], 0, []⟩) x10) ?_ ?_
    · intro o s hs12
      obtain ⟨i7, i8⟩ := x10
      obtain ⟨rfl, hs12⟩ := hs12
      refine after_n ?_
      refine W.sub hs12 ?_
      refine w_seq ?_
      obtain ⟨x16, h15, hp⟩ := bnd hp
      refine W.mono (Q := Jn (fun (x : (Int × Int)) o s => match x with | (i13, i14) => o = Out.normal ∧ Sub s ⟨[(0, .c (.d (.lit (.int .u64 i13)))), (2, .c (.d (.lit (.int .i64 i14))))], [], 0, []⟩) x16) ?_ ?_
      · intro o s hs18
        obtain ⟨i13, i14⟩ := x16
        obtain ⟨rfl, hs18⟩ := hs18
        refine after_n ?_
        refine W.sub hs18 ?_
        refine w_seq ?_
        obtain ⟨b19, h20, hp⟩ := bnd hp
        refine w_region ?_
        iterate 2 refine o1 rfl ?_
        refine o1 (v := .c (.d (.lit (.int .u8 (wr .u8 i13))))) rfl ?_
        refine o1 (ev_at h20) ?_
        refine o1 (v := .c (.d (.lit (.int .i64 (wr .i64 b19))))) rfl ?_
        refine o1 (v := .c (.d (.lit (.int .i64 (wr .i64 (i14 + (wr .i64 b19))))))) rfl ?_
        refine o1 rfl ?_
        refine o_end (e' := [(2, .c (.d (.lit (.int .i64 (wr .i64 (i14 + (wr .i64 b19)))))))]) rfl rfl ?_
        refine after_n ?_
        refine w_ret ?_
        obtain rfl := Option.some.inj hp
        exact leave_at rfl rfl (pr_c p_d pr_nil) pc_nil rfl rfl
      · refine w_seq ?_
        refine w_region ?_
        refine o1 rfl ?_
        refine o1 (v := .c (.d (.lit (.bool (decide (i7 ≥ 256)))))) rfl ?_
        refine o_end (e' := [(0, .c (.d (.lit (.int .u64 i7)))), (2, .c (.d (.lit (.int .i64 i8)))), (14, .c (.d (.lit (.bool (decide (i7 ≥ 256))))))]) rfl rfl ?_
        refine after_n ?_
        refine w_cond (t := decide (i7 ≥ 256)) rfl (fun hb17 => ?_) (fun hb17 => ?_)
        · have h15 := cnd_t hb17 h15
          refine w_seq ?_
          refine w_region ?_
          refine o1 rfl ?_
          refine o1 (v := .c (.d (.lit (.int .u64 (bShr .u64 i7 8))))) rfl ?_
          refine o1 rfl ?_
          refine o_end (e' := [(0, .c (.d (.lit (.int .u64 (bShr .u64 i7 8))))), (2, .c (.d (.lit (.int .i64 i8))))]) rfl rfl ?_
          refine after_n ?_
          refine w_region ?_
          refine o1 rfl ?_
          refine o1 (v := .c (.d (.lit (.int .i64 (wr .i64 (i8 + 8)))))) rfl ?_
          refine o1 rfl ?_
          refine o_end (e' := [(0, .c (.d (.lit (.int .u64 (bShr .u64 i7 8))))), (2, .c (.d (.lit (.int .i64 (wr .i64 (i8 + 8))))))]) rfl rfl ?_
          obtain rfl := Option.some.inj h15
          exact And.intro rfl (sub_ren [] [0, 2] (by decide) rfl .nil (Nat.le_of_ble_eq_true rfl))
        · have h15 := cnd_f hb17 h15
          refine w_skip ?_
          obtain rfl := Option.some.inj h15
          exact And.intro rfl (sub_ren [] [0, 2] (by decide) rfl .nil (Nat.le_of_ble_eq_true rfl))
    · refine w_seq ?_
      refine w_region ?_
      refine o1 rfl ?_
      refine o1 (v := .c (.d (.lit (.bool (decide (i1 ≥ 65536)))))) rfl ?_
      refine o_end (e' := [(0, .c (.d (.lit (.int .u64 i1)))), (2, .c (.d (.lit (.int .i64 i2)))), (8, .c (.d (.lit (.bool (decide (i1 ≥ 65536))))))]) rfl rfl ?_
      refine after_n ?_
      refine w_cond (t := decide (i1 ≥ 65536)) rfl (fun hb11 => ?_) (fun hb11 => ?_)
      · have h9 := cnd_t hb11 h9
        refine w_seq ?_
        refine w_region ?_
        refine o1 rfl ?_
        refine o1 (v := .c (.d (.lit (.int .u64 (bShr .u64 i1 16))))) rfl ?_
        refine o1 rfl ?_
        refine o_end (e' := [(0, .c (.d (.lit (.int .u64 (bShr .u64 i1 16))))), (2, .c (.d (.lit (.int .i64 i2))))]) rfl rfl ?_
        refine after_n ?_
        refine w_region ?_
        refine o1 rfl ?_
        refine o1 (v := .c (.d (.lit (.int .i64 (wr .i64 (i2 + 16)))))) rfl ?_
        refine o1 rfl ?_
        refine o_end (e' := [(0, .c (.d (.lit (.int .u64 (bShr .u64 i1 16))))), (2, .c (.d (.lit (.int .i64 (wr .i64 (i2 + 16))))))]) rfl rfl ?_
        obtain rfl := Option.some.inj h9
        exact And.intro rfl (sub_ren [] [0, 2] (by decide) rfl .nil (Nat.le_of_ble_eq_true rfl))
      · have h9 := cnd_f hb11 h9
        refine w_skip ?_
        obtain rfl := Option.some.inj h9
        exact And.intro rfl (sub_ren [] [0, 2] (by decide) rfl .nil (Nat.le_of_ble_eq_true rfl))
  · refine w_seq ?_
    refine w_region ?_
    refine o1 rfl ?_
    refine o1 (v := .c (.d (.lit (.bool (decide (x_0 ≥ 4294967296)))))) rfl ?_
    refine o_end (e' := [(0, .c (.d (.lit (.int .u64 x_0)))), (2, .c (.d (.lit (.int .i64 0)))), (4, .c (.d (.lit (.bool (decide (x_0 ≥ 4294967296))))))]) rfl rfl ?_
    refine after_n ?_
    refine w_cond (t := decide (x_0 ≥ 4294967296)) rfl (fun hb5 => ?_) (fun hb5 => ?_)
    · have h3 := cnd_t hb5 h3
      refine w_seq ?_
      refine w_region ?_
      refine o1 rfl ?_
      refine o1 (v := .c (.d (.lit (.int .u64 (bShr .u64 x_0 32))))) rfl ?_
      refine o1 rfl ?_
      refine o_end (e' := [(0, .c (.d (.lit (.int .u64 (bShr .u64 x_0 32)))))]) rfl rfl ?_
      refine after_n ?_
      refine w_region ?_
      refine o1 rfl ?_
      refine o_end (e' := [(0, .c (.d (.lit (.int .u64 (bShr .u64 x_0 32))))), (2, .c (.d (.lit (.int .i64 32))))]) rfl rfl ?_
      obtain rfl := Option.some.inj h3
      exact And.intro rfl (sub_ren [] [0, 2] (by decide) rfl .nil (Nat.le_of_ble_eq_true rfl))
    · have h3 := cnd_f hb5 h3
      refine w_skip ?_
      obtain rfl := Option.some.inj h3
      exact And.intro rfl (sub_ren [] [0, 2] (by decide) rfl .nil (Nat.le_of_ble_eq_true rfl))

/- math/bits.Len -/
def k95 : CC :=
  (.seq
  (.region [
    ⟨some 2, .mv, [(.const (.int .i64 0))], none⟩] [0])
  (.seq
  (.cond (.const (.bool false))
    (.seq
    (.region [
      ⟨some 3, .mv, [(.tmp 0)], none⟩,
      ⟨some 4, (.convInt .u32), [(.tmp 3)], none⟩,
      ⟨some 5, (.call true []), [(.func 117), (.tmp 4)], none⟩,
      ⟨some 2, .mv, [(.tmp 5)], none⟩] [2])
    .ret)
    .skip)
  (.seq
  (.region [
    ⟨some 6, .mv, [(.tmp 0)], none⟩,
    ⟨some 7, (.call true []), [(.func 118), (.tmp 6)], none⟩,
    ⟨some 2, .mv, [(.tmp 7)], none⟩] [2])
  .ret)))
def f95 : Ev.Fn := ⟨1, 8, [.tmp 2], k95⟩
set_option maxRecDepth 100000 in
theorem e95 : compFn prog sig 95 1 [[0], [2], [2]] = some f95 := by kernel_rfl
noncomputable def math_bits_Len (x_0 : Int) : Option (Int) :=
  (math_bits_Len64 x_0).bind fun r1 =>
  some r1
theorem math_bits_Len_ok {x_0 : Int} {z : Int} (hp : math_bits_Len x_0 = some z) : Good prog 95 [.d (.lit (.int .u64 x_0))] [.c (.d (.lit (.int .i64 z)))] [] := by
  unfold math_bits_Len at hp
  refine fn_good mixed e95 (fnS (m := [false]) (s := ⟨[(0, .c (.d (.lit (.int .u64 x_0))))], [], 0, []⟩) (len := 0) (c := k95) rfl (Sub.of_eq rfl) rfl rfl ?_)
  refine w_seq ?_
  refine w_region ?_
  refine o1 rfl ?_
  refine o_end (e' := [(0, .c (.d (.lit (.int .u64 x_0))))]) rfl rfl ?_
  refine after_n ?_
  refine w_seq ?_
  refine w_false rfl rfl ?_
  refine w_skip ?_
  refine after_n ?_
  refine w_seq ?_
  obtain ⟨r1, h2, hp⟩ := bnd hp
  refine w_region ?_
  refine o1 rfl ?_
  refine oc (rs := [.c (.d (.lit (.int .i64 r1)))]) (outs := []) rfl (math_bits_Len64_ok h2) rfl ?_
  refine o1 rfl ?_
  refine o_end (e' := [(2, .c (.d (.lit (.int .i64 r1))))]) rfl rfl ?_
  refine after_n ?_
  refine w_ret ?_
  obtain rfl := Option.some.inj hp
  exact leave_at rfl rfl (pr_c p_d pr_nil) pc_nil rfl rfl

/- cmp.isNaN[int] -/
def k96 : CC :=
  (.seq
  (.region [
    ⟨some 2, .mv, [(.const (.bool false))], none⟩] [0])
  (.seq
  (.region [
    ⟨some 3, .mv, [(.tmp 0)], none⟩,
    ⟨some 4, .mv, [(.tmp 0)], none⟩,
    ⟨some 5, (.bin .neq), [(.tmp 3), (.tmp 4)], none⟩,
    ⟨some 2, .mv, [(.tmp 5)], none⟩] [2])
  .ret))
def f96 : Ev.Fn := ⟨1, 6, [.tmp 2], k96⟩
set_option maxRecDepth 100000 in
theorem e96 : compFn prog sig 96 1 [[0], [2]] = some f96 := by kernel_rfl
noncomputable def cmp_isNaN_int (x_0 : Int) : Option (Bool) :=
  some (x_0 != x_0)
theorem cmp_isNaN_int_ok {x_0 : Int} {z : Bool} (hp : cmp_isNaN_int x_0 = some z) : Good prog 96 [.d (.lit (.int .i64 x_0))] [.c (.d (.lit (.bool z)))] [] := by
  unfold cmp_isNaN_int at hp
  refine fn_good mixed e96 (fnS (m := [false]) (s := ⟨[(0, .c (.d (.lit (.int .i64 x_0))))], [], 0, []⟩) (len := 0) (c := k96) rfl (Sub.of_eq rfl) rfl rfl ?_)
  refine w_seq ?_
  refine w_region ?_
  refine o1 rfl ?_
  refine o_end (e' := [(0, .c (.d (.lit (.int .i64 x_0))))]) rfl rfl ?_
  refine after_n ?_
  refine w_seq ?_
  refine w_region ?_
  iterate 2 refine o1 rfl ?_
  refine o1 (v := .c (.d (.lit (.bool (x_0 != x_0))))) rfl ?_
  refine o1 rfl ?_
  refine o_end (e' := [(2, .c (.d (.lit (.bool (x_0 != x_0)))))]) rfl rfl ?_
  refine after_n ?_
  refine w_ret ?_
  obtain rfl := Option.some.inj hp
  exact leave_at rfl rfl (pr_c p_d pr_nil) pc_nil rfl rfl

/- cmp.Compare[int] -/
def k78 : CC :=
  (.seq
  (.region [
    ⟨some 4, .mv, [(.const (.int .i64 0))], none⟩] [0, 1])
  (.seq
  (.region [
    ⟨some 7, .mv, [(.tmp 0)], none⟩,
    ⟨some 8, (.call true []), [(.func 96), (.tmp 7)], none⟩,
    ⟨some 5, .mv, [(.tmp 8)], none⟩] [0, 1, 5])
  (.seq
  (.region [
    ⟨some 9, .mv, [(.tmp 1)], none⟩,
    ⟨some 10, (.call true []), [(.func 96), (.tmp 9)], none⟩,
    ⟨some 6, .mv, [(.tmp 10)], none⟩] [0, 1, 5, 6])
  (.seq
  (.seq
  (.region [
    ⟨some 11, .mv, [(.tmp 5)], none⟩] [0, 1, 6, 11])
  (.cond (.tmp 11)
    (.seq
    (.seq
    (.region [
      ⟨some 12, .mv, [(.tmp 6)], none⟩] [12])
    (.cond (.tmp 12)
      (.seq
      (.region [
        ⟨some 4, .mv, [(.const (.int .i64 0))], none⟩] [4])
      .ret)
      .skip))
    (.seq
    (.region [
      ⟨some 4, .mv, [(.const (.int .i64 (-1)))], none⟩] [4])
    .ret))
    .skip))
  (.seq
  (.seq
  (.region [
    ⟨some 13, .mv, [(.tmp 6)], none⟩] [0, 1, 13])
  (.cond (.tmp 13)
    (.seq
    (.region [
      ⟨some 4, .mv, [(.const (.int .i64 1))], none⟩] [4])
    .ret)
    .skip))
  (.seq
  (.seq
  (.region [
    ⟨some 14, .mv, [(.tmp 0)], none⟩,
    ⟨some 15, .mv, [(.tmp 1)], none⟩,
    ⟨some 16, (.bin .lss), [(.tmp 14), (.tmp 15)], none⟩] [0, 1, 16])
  (.cond (.tmp 16)
    (.seq
    (.region [
      ⟨some 4, .mv, [(.const (.int .i64 (-1)))], none⟩] [4])
    .ret)
    .skip))
  (.seq
  (.seq
  (.region [
    ⟨some 17, .mv, [(.tmp 0)], none⟩,
    ⟨some 18, .mv, [(.tmp 1)], none⟩,
    ⟨some 19, (.bin .gtr), [(.tmp 17), (.tmp 18)], none⟩] [19])
  (.cond (.tmp 19)
    (.seq
    (.region [
      ⟨some 4, .mv, [(.const (.int .i64 1))], none⟩] [4])
    .ret)
    .skip))
  (.seq
  (.region [
    ⟨some 4, .mv, [(.const (.int .i64 0))], none⟩] [4])
  .ret))))))))
def f78 : Ev.Fn := ⟨2, 20, [.tmp 4], k78⟩
set_option maxRecDepth 100000 in
theorem e78 : compFn prog sig 78 2 [[0, 1], [0, 1, 5], [0, 1, 5, 6], [0, 1, 6, 11], [12], [4], [4], [0, 1, 13], [4], [0, 1, 16], [4], [19], [4], [4]] = some f78 := by kernel_rfl
noncomputable def cmp_Compare_int (x_0 : Int) (y_1 : Int) : Option (Int) :=
  (cmp_isNaN_int x_0).bind fun r1 =>
  (cmp_isNaN_int y_1).bind fun r3 =>
  bif r1 then (bif r3 then (some 0) else
  (some (-1))) else
  (bif r3 then (some 1) else
  (bif decide (x_0 < y_1) then (some (-1)) else
  (bif decide (x_0 > y_1) then (some 1) else
  (some 0))))
theorem cmp_Compare_int_ok {x_0 : Int} {y_1 : Int} {z : Int} (hp : cmp_Compare_int x_0 y_1 = some z) : Good prog 78 [.d (.lit (.int .i64 x_0)), .d (.lit (.int .i64 y_1))] [.c (.d (.lit (.int .i64 z)))] [] := by
  unfold cmp_Compare_int at hp
  refine fn_good mixed e78 (fnS (m := [false]) (s := ⟨[(0, .c (.d (.lit (.int .i64 x_0)))), (1, .c (.d (.lit (.int .i64 y_1))))], [], 0, []⟩) (len := 0) (c := k78) rfl (Sub.of_eq rfl) rfl rfl ?_)
  refine w_seq ?_
  refine w_region ?_
  refine o1 rfl ?_
  refine o_end (e' := [(0, .c (.d (.lit (.int .i64 x_0)))), (1, .c (.d (.lit (.int .i64 y_1))))]) rfl rfl ?_
  refine after_n ?_
  refine w_seq ?_
  obtain ⟨r1, h2, hp⟩ := bnd hp
  refine w_region ?_
  refine o1 rfl ?_
  refine oc (rs := [.c (.d (.lit (.bool r1)))]) (outs := []) rfl (cmp_isNaN_int_ok h2) rfl ?_
  refine o1 rfl ?_
  refine o_end (e' := [(0, .c (.d (.lit (.int .i64 x_0)))), (1, .c (.d (.lit (.int .i64 y_1)))), (5, .c (.d (.lit (.bool r1))))]) rfl rfl ?_
  refine after_n ?_
  refine w_seq ?_
  obtain ⟨r3, h4, hp⟩ := bnd hp
  refine w_region ?_
  refine o1 rfl ?_
  refine oc (rs := [.c (.d (.lit (.bool r3)))]) (outs := []) rfl (cmp_isNaN_int_ok h4) rfl ?_
  refine o1 rfl ?_
  refine o_end (e' := [(0, .c (.d (.lit (.int .i64 x_0)))), (1, .c (.d (.lit (.int .i64 y_1)))), (5, .c (.d (.lit (.bool r1)))), (6, .c (.d (.lit (.bool r3))))]) rfl rfl ?_
  refine after_n ?_
  refine w_seq ?_
  refine w_seq ?_
  refine w_region ?_
  refine o1 rfl ?_
  refine o_end (e' := [(0, .c (.d (.lit (.int .i64 x_0)))), (1, .c (.d (.lit (.int .i64 y_1)))), (6, .c (.d (.lit (.bool r3)))), (11, .c (.d (.lit (.bool r1))))]) rfl rfl ?_
  refine after_n ?_
  refine w_cond (t := r1) rfl (fun hb5 => ?_) (fun hb5 => ?_)
  · have hp := cnd_t hb5 hp
    refine w_seq ?_
    refine w_seq ?_
    refine w_region ?_
    refine o1 rfl ?_
    refine o_end (e' := [(12, .c (.d (.lit (.bool r3))))]) rfl rfl ?_
    refine after_n ?_
    refine w_cond (t := r3) rfl (fun hb6 => ?_) (fun hb6 => ?_)
    · have hp := cnd_t hb6 hp
      refine w_seq ?_
      refine w_region ?_
      refine o1 rfl ?_
      refine o_end (e' := [(4, .c (.d (.lit (.int .i64 0))))]) rfl rfl ?_
      refine after_n ?_
      refine w_ret ?_
      refine after_r ?_
      refine after_r ?_
      obtain rfl := Option.some.inj hp
      exact leave_at rfl rfl (pr_c p_d pr_nil) pc_nil rfl rfl
    · have hp := cnd_f hb6 hp
      refine w_skip ?_
      refine after_n ?_
      refine w_seq ?_
      refine w_region ?_
      refine o1 rfl ?_
      refine o_end (e' := [(4, .c (.d (.lit (.int .i64 (-1)))))]) rfl rfl ?_
      refine after_n ?_
      refine w_ret ?_
      refine after_r ?_
      obtain rfl := Option.some.inj hp
      exact leave_at rfl rfl (pr_c p_d pr_nil) pc_nil rfl rfl
  · have hp := cnd_f hb5 hp
    refine w_skip ?_
    refine after_n ?_
    refine w_seq ?_
    refine w_seq ?_
    refine w_region ?_
    refine o1 rfl ?_
    refine o_end (e' := [(0, .c (.d (.lit (.int .i64 x_0)))), (1, .c (.d (.lit (.int .i64 y_1)))), (13, .c (.d (.lit (.bool r3))))]) rfl rfl ?_
    refine after_n ?_
    refine w_cond (t := r3) rfl (fun hb7 => ?_) (fun hb7 => ?_)
    · have hp := cnd_t hb7 hp
      refine w_seq ?_
      refine w_region ?_
      refine o1 rfl ?_
      refine o_end (e' := [(4, .c (.d (.lit (.int .i64 1))))]) rfl rfl ?_
      refine after_n ?_
      refine w_ret ?_
      refine after_r ?_
      obtain rfl := Option.some.inj hp
      exact leave_at rfl rfl (pr_c p_d pr_nil) pc_nil rfl rfl
    · have hp := cnd_f hb7 hp
      refine w_skip ?_
      refine after_n ?_
      refine w_seq ?_
      refine w_seq ?_
      refine w_region ?_
      iterate 2 refine o1 rfl ?_
      refine o1 (v := .c (.d (.lit (.bool (decide (x_0 < y_1)))))) rfl ?_
      refine o_end (e' := [(0, .c (.d (.lit (.int .i64 x_0)))), (1, .c (.d (.lit (.int .i64 y_1)))), (16, .c (.d (.lit (.bool (decide (x_0 < y_1))))))]) rfl rfl ?_
      refine after_n ?_
      refine w_cond (t := decide (x_0 < y_1)) rfl (fun hb8 => ?_) (fun hb8 => ?_)
      · have hp := cnd_t hb8 hp
        refine w_seq ?_
        refine w_region ?_
        refine o1 rfl ?_
        refine o_end (e' := [(4, .c (.d (.lit (.int .i64 (-1)))))]) rfl rfl ?_
        refine after_n ?_
        refine w_ret ?_
        refine after_r ?_
        obtain rfl := Option.some.inj hp
        exact leave_at rfl rfl (pr_c p_d pr_nil) pc_nil rfl rfl
      · have hp := cnd_f hb8 hp
        refine w_skip ?_
        refine after_n ?_
        refine w_seq ?_
        refine w_seq ?_
        refine w_region ?_
        iterate 2 refine o1 rfl ?_
        refine o1 (v := .c (.d (.lit (.bool (decide (x_0 > y_1)))))) rfl ?_
        refine o_end (e' := [(19, .c (.d (.lit (.bool (decide (x_0 > y_1))))))]) rfl rfl ?_
        refine after_n ?_
        refine w_cond (t := decide (x_0 > y_1)) rfl (fun hb9 => ?_) (fun hb9 => ?_)
        · have hp := cnd_t hb9 hp
          refine w_seq ?_
          refine w_region ?_
          refine o1 rfl ?_
          refine o_end (e' := [(4, .c (.d (.lit (.int .i64 1))))]) rfl rfl ?_
          refine after_n ?_
          refine w_ret ?_
          refine after_r ?_
          obtain rfl := Option.some.inj hp
          exact leave_at rfl rfl (pr_c p_d pr_nil) pc_nil rfl rfl
        · have hp := cnd_f hb9 hp
          refine w_skip ?_
          refine after_n ?_
          refine w_seq ?_
          refine w_region ?_
          refine o1 rfl ?_
          refine o_end (e' := [(4, .c (.d (.lit (.int .i64 0))))]) rfl rfl ?_
          refine after_n ?_
          refine w_ret ?_
          obtain rfl := Option.some.inj hp
          exact leave_at rfl rfl (pr_c p_d pr_nil) pc_nil rfl rfl

/- turnout/topo.Near$1 -/
def k77 : CC :=
  (.seq
  (.region [
    ⟨some 2, .box, [(.tmp 0)], none⟩,
    ⟨some 3, .box, [(.tmp 1)], none⟩,
    ⟨some 4, .mv, [(.const (.int .i64 0))], none⟩] [2, 3])
  (.seq
  (.region [
    ⟨some 5, (.fieldAddr 0), [(.tmp 2)], none⟩,
    ⟨some 6, (.load false 1), [(.tmp 5)], none⟩,
    ⟨some 7, (.fieldAddr 0), [(.tmp 3)], none⟩,
    ⟨some 8, (.load false 1), [(.tmp 7)], none⟩,
    ⟨some 9, (.call true []), [(.func 78), (.tmp 6), (.tmp 8)], none⟩,
    ⟨some 4, .mv, [(.tmp 9)], none⟩] [4])
  .ret))
def f77 : Ev.Fn := ⟨2, 10, [.tmp 4], k77⟩
set_option maxRecDepth 100000 in
theorem e77 : compFn prog sig 77 2 [[2, 3], [4]] = some f77 := by kernel_rfl
noncomputable def topo_Near_1 (a_0 : topo_Side) (b_1 : topo_Side) : Option (Int) :=
  (cmp_Compare_int a_0.Port b_1.Port).bind fun r1 =>
  some r1
theorem topo_Near_1_ok {a_0 : topo_Side} {b_1 : topo_Side} {z : Int} (hp : topo_Near_1 a_0 b_1 = some z) : Good prog 77 [.agg (c_topo_Side a_0), .agg (c_topo_Side b_1)] [.c (.d (.lit (.int .i64 z)))] [] := by
  unfold topo_Near_1 at hp
  refine fn_good mixed e77 (fnS (m := [false]) (s := ⟨[(0, .agg [.d (.lit (.int .i64 a_0.Port)), .d (.lit (.int .i64 a_0.To)), .d (.lit (.int .i64 a_0.Link))]), (1, .agg [.d (.lit (.int .i64 b_1.Port)), .d (.lit (.int .i64 b_1.To)), .d (.lit (.int .i64 b_1.Link))])], [], 0, []⟩) (len := 0) (c := k77) rfl (Sub.of_eq rfl) rfl rfl ?_)
  refine w_seq ?_
  refine w_region ?_
  refine o2 rfl ?_
  refine o2 rfl ?_
  refine o1 rfl ?_
  refine o_end (e' := [(2, .c (.op 0 0)), (3, .c (.op 1 0))]) rfl rfl ?_
  refine after_n ?_
  refine w_seq ?_
  obtain ⟨r1, h2, hp⟩ := bnd hp
  refine w_region ?_
  iterate 4 refine o1 rfl ?_
  refine oc (rs := [.c (.d (.lit (.int .i64 r1)))]) (outs := []) rfl (cmp_Compare_int_ok h2) rfl ?_
  refine o1 rfl ?_
  refine o_end (e' := [(4, .c (.d (.lit (.int .i64 r1))))]) rfl rfl ?_
  refine after_n ?_
  refine w_ret ?_
  obtain rfl := Option.some.inj hp
  exact leave_at rfl rfl (pr_c p_d pr_nil) pc_nil rfl rfl

/- slices.insertionSortCmpFunc[turnout/topo.Side] -/
def k109 : CC :=
  (.seq
  (.region [
    ⟨some 10, .mv, [(.tmp 1)], none⟩,
    ⟨some 11, (.bin .add), [(.tmp 10), (.const (.int .i64 1))], none⟩,
    ⟨some 8, .mv, [(.tmp 11)], none⟩] [0, 1, 2, 3, 8])
  (.block 0
    (.loop [0, 1, 2, 3, 8]
      (.seq
      (.seq
      (.region [
        ⟨some 12, .mv, [(.tmp 8)], none⟩,
        ⟨some 13, .mv, [(.tmp 2)], none⟩,
        ⟨some 14, (.bin .lss), [(.tmp 12), (.tmp 13)], none⟩] [0, 1, 2, 3, 8, 14])
      (.cond (.tmp 14)
        .skip
        (.exit 0)))
      (.seq
      (.block 1
        (.seq
        (.region [
          ⟨some 17, .mv, [(.tmp 8)], none⟩,
          ⟨some 9, .mv, [(.tmp 17)], none⟩] [0, 1, 2, 3, 8, 9])
        (.block 2
          (.loop [0, 1, 2, 3, 8, 9]
            (.seq
            (.seq
            (.drawn [
              ⟨some 18, .mv, [(.tmp 9)], none⟩,
              ⟨some 19, .mv, [(.tmp 1)], none⟩,
              ⟨some 20, (.bin .gtr), [(.tmp 18), (.tmp 19)], none⟩,
              ⟨some 21, .mv, [(.tmp 20)], none⟩,
              ⟨some 22, .mv, [(.tmp 3)], (some (21, true))⟩,
              ⟨some 23, .mv, [(.tmp 0)], (some (21, true))⟩,
              ⟨some 24, .mv, [(.tmp 9)], (some (21, true))⟩,
              ⟨some 25, (.indexAddr none 3), [(.tmp 23), (.tmp 24)], (some (21, true))⟩,
              ⟨some 26, (.load true 3), [(.tmp 25)], (some (21, true))⟩,
              ⟨some 27, .mv, [(.tmp 0)], (some (21, true))⟩,
              ⟨some 28, .mv, [(.tmp 9)], (some (21, true))⟩,
              ⟨some 29, (.bin .sub), [(.tmp 28), (.const (.int .i64 1))], (some (21, true))⟩,
              ⟨some 30, (.indexAddr none 3), [(.tmp 27), (.tmp 29)], (some (21, true))⟩,
              ⟨some 31, (.load true 3), [(.tmp 30)], (some (21, true))⟩,
              ⟨some 32, (.call false []), [(.tmp 22), (.tmp 26), (.tmp 31)], (some (21, true))⟩,
              ⟨some 33, (.bin .lss), [(.tmp 32), (.const (.int .i64 0))], (some (21, true))⟩,
              ⟨some 34, .pick, [(.tmp 21), (.tmp 33), (.const (.bool false))], none⟩] [] [0, 1, 2, 3, 8, 9, 34])
            (.cond (.tmp 34)
              .skip
              (.exit 2)))
            (.seq
            (.block 3
              (.drawn [
                ⟨some 37, .mv, [(.tmp 0)], none⟩,
                ⟨some 38, .mv, [(.tmp 9)], none⟩,
                ⟨some 39, .mv, [(.tmp 0)], none⟩,
                ⟨some 40, .mv, [(.tmp 9)], none⟩,
                ⟨some 41, (.bin .sub), [(.tmp 40), (.const (.int .i64 1))], none⟩,
                ⟨some 42, .mv, [(.tmp 0)], none⟩,
                ⟨some 43, .mv, [(.tmp 9)], none⟩,
                ⟨some 44, (.bin .sub), [(.tmp 43), (.const (.int .i64 1))], none⟩,
                ⟨some 45, (.indexAddr none 3), [(.tmp 42), (.tmp 44)], none⟩,
                ⟨some 46, (.load true 3), [(.tmp 45)], none⟩,
                ⟨some 47, .mv, [(.tmp 0)], none⟩,
                ⟨some 48, .mv, [(.tmp 9)], none⟩,
                ⟨some 49, (.indexAddr none 3), [(.tmp 47), (.tmp 48)], none⟩,
                ⟨some 50, (.load true 3), [(.tmp 49)], none⟩,
                ⟨some 51, (.indexAddr none 3), [(.tmp 37), (.tmp 38)], none⟩,
                ⟨none, (.store 3), [(.tmp 51), (.tmp 46)], none⟩,
                ⟨some 52, (.indexAddr none 3), [(.tmp 39), (.tmp 41)], none⟩,
                ⟨none, (.store 3), [(.tmp 52), (.tmp 50)], none⟩] [] [0, 1, 2, 3, 8, 9]))
            (.region [
              ⟨some 35, .mv, [(.tmp 9)], none⟩,
              ⟨some 36, (.bin .sub), [(.tmp 35), (.const (.int .i64 1))], none⟩,
              ⟨some 9, .mv, [(.tmp 36)], none⟩] [0, 1, 2, 3, 8, 9])))))))
      (.region [
        ⟨some 15, .mv, [(.tmp 8)], none⟩,
        ⟨some 16, (.bin .add), [(.tmp 15), (.const (.int .i64 1))], none⟩,
        ⟨some 8, .mv, [(.tmp 16)], none⟩] [0, 1, 2, 3, 8]))))))
def f109 : Ev.Fn := ⟨4, 53, [], k109⟩
set_option maxRecDepth 100000 in
theorem e109 : compFn prog sig 109 4 [[0, 1, 2, 3, 8], [0, 1, 2, 3, 8], [0, 1, 2, 3, 8, 14], [0, 1, 2, 3, 8, 9], [0, 1, 2, 3, 8, 9], [0, 1, 2, 3, 8, 9, 34], [0, 1, 2, 3, 8, 9], [0, 1, 2, 3, 8, 9], [0, 1, 2, 3, 8]] = some f109 := by kernel_rfl
noncomputable def slices_insertionSortCmpFunc_topo_Side_topo_Near_1_L2 (a_1 : Int) : (List topo_Side × Int) → Option (Sum ((List topo_Side × Int)) (List topo_Side)) := fun (l9, i10) =>
  (bif decide (i10 > a_1) then ((ixI i10 l9.length).bind fun n16 =>
  (ixI (wr .i64 (i10 - 1)) l9.length).bind fun n18 =>
  (topo_Near_1 (gt l9 n16) (gt l9 n18)).bind fun r20 =>
  some (decide (r20 < 0))) else (some false)).bind fun b22 =>
  bif b22 then ((ixI (wr .i64 (i10 - 1)) l9.length).bind fun n27 =>
  (ixI i10 l9.length).bind fun n29 =>
  (ixI (wr .i64 (i10 - 1)) (l9.set n29 (gt l9 n27)).length).bind fun n31 =>
  some (.inl (((l9.set n29 (gt l9 n27)).set n31 (gt l9 n29)), wr .i64 (i10 - 1)))) else
  (some (.inr l9))

noncomputable def slices_insertionSortCmpFunc_topo_Side_topo_Near_1_L1 (a_1 : Int) (b_2 : Int) : (List topo_Side × Int) → Option (Sum ((List topo_Side × Int)) (List topo_Side)) := fun (l1, i2) =>
  bif decide (i2 < b_2) then ((loopO (slices_insertionSortCmpFunc_topo_Side_topo_Near_1_L2 a_1) (l1, i2)).bind fun l13 =>
  some (.inl (l13, wr .i64 (i2 + 1)))) else
  (some (.inr l1))

noncomputable def slices_insertionSortCmpFunc_topo_Side_topo_Near_1 (data_0 : List topo_Side) (a_1 : Int) (b_2 : Int) : Option (List topo_Side) :=
  (loopO (slices_insertionSortCmpFunc_topo_Side_topo_Near_1_L1 a_1 b_2) (data_0, wr .i64 (a_1 + 1))).bind fun l5 =>
  some l5
theorem slices_insertionSortCmpFunc_topo_Side_topo_Near_1_ok {data_0 : List topo_Side} {a_1 : Int} {b_2 : Int} {z : List topo_Side} (hp : slices_insertionSortCmpFunc_topo_Side_topo_Near_1 data_0 a_1 b_2 = some z) : Good prog 109 [.mt (.sl 3 (data_0.map c_topo_Side)), .d (.lit (.int .i64 a_1)), .d (.lit (.int .i64 b_2)), .d (.fn 77 [])] [] [.sl 3 (z.map c_topo_Side)] := by
  unfold slices_insertionSortCmpFunc_topo_Side_topo_Near_1 at hp
  refine fn_good mixed e109 (fnS (m := []) (s := ⟨[(0, .c (slC 3 c_topo_Side 0 (Sl.mk data_0))), (1, .c (.d (.lit (.int .i64 a_1)))), (2, .c (.d (.lit (.int .i64 b_2)))), (3, .c (.d (.fn 77 [])))], [(0, slO 3 c_topo_Side (Sl.mk data_0))], 1, [slC 3 c_topo_Side 0 (Sl.mk data_0)]⟩) (len := 1) (c := k109) rfl (Sub.of_eq rfl) rfl rfl ?_)
  refine w_seq ?_
  refine w_region ?_
  refine o1 rfl ?_
  refine o1 (v := .c (.d (.lit (.int .i64 (wr .i64 (a_1 + 1)))))) rfl ?_
  refine o1 rfl ?_
  refine o_end (e' := [(0, .c (slC 3 c_topo_Side 0 (Sl.mk data_0))), (1, .c (.d (.lit (.int .i64 a_1)))), (2, .c (.d (.lit (.int .i64 b_2)))), (3, .c (.d (.fn 77 []))), (8, .c (.d (.lit (.int .i64 (wr .i64 (a_1 + 1))))))]) rfl rfl ?_
  refine after_n ?_
  refine w_block ?_
  obtain ⟨l5, h7, hp⟩ := bnd hp
  refine W.mono ?_ (w_loopS (st := fun (v : (List topo_Side × Int)) => match v with | (l1, i2) => ⟨[(0, .c (slC 3 c_topo_Side 0 (Sl.mk l1))), (1, .c (.d (.lit (.int .i64 a_1)))), (2, .c (.d (.lit (.int .i64 b_2)))), (3, .c (.d (.fn 77 []))), (8, .c (.d (.lit (.int .i64 i2))))], [(0, slO 3 c_topo_Side (Sl.mk l1))], 1, [slC 3 c_topo_Side 0 (Sl.mk l1)]⟩) (a := (data_0, wr .i64 (a_1 + 1))) (Q := Jn (fun (x : List topo_Side) o s => match x with | l5 => o = Out.exit 0 ∧ Sub s ⟨[], [(0, slO 3 c_topo_Side (Sl.mk l5))], 1, [slC 3 c_topo_Side 0 (Sl.mk l5)]⟩)) ?_ h7 ?_)
  · intro o s hs34
    obtain ⟨rfl, hs34⟩ := hs34
    refine out_e ?_
    obtain rfl := Option.some.inj hp
    refine wk.sub hs34 ?_
    exact leave_at rfl rfl pr_nil (pc_cons (p_o rfl) pc_nil) rfl rfl
  · exact (sub_ren [0] [0, 1, 2, 3, 8] (by decide) rfl (.cons .nil) (Nat.le_of_ble_eq_true rfl))
  · rintro ⟨l1, i2⟩ r hr
    unfold slices_insertionSortCmpFunc_topo_Side_topo_Near_1_L1 at hr
    refine w_seq ?_
    refine w_seq ?_
    refine w_region ?_
    iterate 2 refine o1 rfl ?_
    refine o1 (v := .c (.d (.lit (.bool (decide (i2 < b_2)))))) rfl ?_
    refine o_end (e' := [(0, .c (slC 3 c_topo_Side 0 (Sl.mk l1))), (1, .c (.d (.lit (.int .i64 a_1)))), (2, .c (.d (.lit (.int .i64 b_2)))), (3, .c (.d (.fn 77 []))), (8, .c (.d (.lit (.int .i64 i2)))), (14, .c (.d (.lit (.bool (decide (i2 < b_2))))))]) rfl rfl ?_
    refine after_n ?_
    refine w_cond (t := decide (i2 < b_2)) rfl (fun hb8 => ?_) (fun hb8 => ?_)
    · have hr := cnd_t hb8 hr
      refine w_skip ?_
      refine after_n ?_
      refine w_seq ?_
      refine w_block ?_
      refine w_seq ?_
      refine w_region ?_
      iterate 2 refine o1 rfl ?_
      refine o_end (e' := [(0, .c (slC 3 c_topo_Side 0 (Sl.mk l1))), (1, .c (.d (.lit (.int .i64 a_1)))), (2, .c (.d (.lit (.int .i64 b_2)))), (3, .c (.d (.fn 77 []))), (8, .c (.d (.lit (.int .i64 i2)))), (9, .c (.d (.lit (.int .i64 i2))))]) rfl rfl ?_
      refine after_n ?_
      refine w_block ?_
      obtain ⟨l13, h15, hr⟩ := bnd hr
      refine W.mono ?_ (w_loopS (st := fun (v : (List topo_Side × Int)) => match v with | (l9, i10) => ⟨[(0, .c (slC 3 c_topo_Side 0 (Sl.mk l9))), (1, .c (.d (.lit (.int .i64 a_1)))), (2, .c (.d (.lit (.int .i64 b_2)))), (3, .c (.d (.fn 77 []))), (8, .c (.d (.lit (.int .i64 i2)))), (9, .c (.d (.lit (.int .i64 i10))))], [(0, slO 3 c_topo_Side (Sl.mk l9))], 1, [slC 3 c_topo_Side 0 (Sl.mk l9)]⟩) (a := (l1, i2)) (Q := Jn (fun (x : List topo_Side) o s => match x with | l13 => o = Out.exit 2 ∧ Sub s ⟨[(0, .c (slC 3 c_topo_Side 0 (Sl.mk l13))), (1, .c (.d (.lit (.int .i64 a_1)))), (2, .c (.d (.lit (.int .i64 b_2)))), (3, .c (.d (.fn 77 []))), (8, .c (.d (.lit (.int .i64 i2))))], [(0, slO 3 c_topo_Side (Sl.mk l13))], 1, [slC 3 c_topo_Side 0 (Sl.mk l13)]⟩)) ?_ h15 ?_)
      · intro o s hs33
        obtain ⟨rfl, hs33⟩ := hs33
        refine out_e ?_
        refine out_n ?_
        refine after_n ?_
        refine W.sub hs33 ?_
        refine w_region ?_
        refine o1 rfl ?_
        refine o1 (v := .c (.d (.lit (.int .i64 (wr .i64 (i2 + 1)))))) rfl ?_
        refine o1 rfl ?_
        refine o_end (e' := [(0, .c (slC 3 c_topo_Side 0 (Sl.mk l13))), (1, .c (.d (.lit (.int .i64 a_1)))), (2, .c (.d (.lit (.int .i64 b_2)))), (3, .c (.d (.fn 77 []))), (8, .c (.d (.lit (.int .i64 (wr .i64 (i2 + 1))))))]) rfl rfl ?_
        obtain rfl := Option.some.inj hr
        exact And.intro rfl (sub_ren [0] [0, 1, 2, 3, 8] (by decide) rfl (.cons .nil) (Nat.le_of_ble_eq_true rfl))
      · exact (sub_ren [0] [0, 1, 2, 3, 8, 9] (by decide) rfl (.cons .nil) (Nat.le_of_ble_eq_true rfl))
      · rintro ⟨l9, i10⟩ r hr
        unfold slices_insertionSortCmpFunc_topo_Side_topo_Near_1_L2 at hr
        refine w_seq ?_
        refine w_seq ?_
        obtain ⟨b22, h23, hr⟩ := bnd hr
        refine w_join (J := fun s => Sub s ⟨[(0, .c (slC 3 c_topo_Side 0 (Sl.mk l9))), (1, .c (.d (.lit (.int .i64 a_1)))), (2, .c (.d (.lit (.int .i64 b_2)))), (3, .c (.d (.fn 77 []))), (8, .c (.d (.lit (.int .i64 i2)))), (9, .c (.d (.lit (.int .i64 i10)))), (34, .c (.d (.lit (.bool b22))))], [(0, slO 3 c_topo_Side (Sl.mk l9))], 1, [slC 3 c_topo_Side 0 (Sl.mk l9)]⟩) ?_ ?_
        · refine w_drawn ?_
          iterate 2 refine d1 rfl ?_
          refine d1 (v := .c (.d (.lit (.bool (decide (i10 > a_1)))))) rfl ?_
          refine d1 rfl ?_
          cases hb24 : (decide (i10 > a_1) : Bool)
          · have h23 := cnd_f hb24 h23
            refine dnot rfl (by first | rfl | exact hb24) ?_
            refine dnot rfl (by first | rfl | exact hb24) ?_
            refine dnot rfl (by first | rfl | exact hb24) ?_
            refine dnot rfl (by first | rfl | exact hb24) ?_
            refine dnot rfl (by first | rfl | exact hb24) ?_
            refine dnot rfl (by first | rfl | exact hb24) ?_
            refine dnot rfl (by first | rfl | exact hb24) ?_
            refine dnot rfl (by first | rfl | exact hb24) ?_
            refine dnot rfl (by first | rfl | exact hb24) ?_
            refine dnot rfl (by first | rfl | exact hb24) ?_
            refine dnot rfl (by first | rfl | exact hb24) ?_
            refine dnot rfl (by first | rfl | exact hb24) ?_
            refine d1 (pk_f (by first | rfl | exact hb24)) ?_
            cases h23
            exact d_join rfl (sub_ren [0] [0, 1, 2, 3, 8, 9, 34] (by decide) rfl (.cons .nil) (Nat.le_of_ble_eq_true rfl))
          · have h23 := cnd_t hb24 h23
            obtain ⟨n16, h17, h23⟩ := bnd h23
            obtain ⟨n18, h19, h23⟩ := bnd h23
            obtain ⟨r20, h21, h23⟩ := bnd h23
            refine dg rfl (by first | rfl | exact hb24) rfl ?_
            refine dg rfl (by first | rfl | exact hb24) rfl ?_
            refine dg rfl (by first | rfl | exact hb24) rfl ?_
            refine dg rfl (by first | rfl | exact hb24) (ix_o h17) ?_
            refine dg rfl (by first | rfl | exact hb24) (ld_row rfl (ixI_some.1 h17).2 rfl) ?_
            refine dg rfl (by first | rfl | exact hb24) rfl ?_
            refine dg rfl (by first | rfl | exact hb24) rfl ?_
            refine dg (v := .c (.d (.lit (.int .i64 (wr .i64 (i10 - 1)))))) rfl (by first | rfl | exact hb24) rfl ?_
            refine dg rfl (by first | rfl | exact hb24) (ix_o h19) ?_
            refine dg rfl (by first | rfl | exact hb24) (ld_row rfl (ixI_some.1 h19).2 rfl) ?_
            refine dcg (rs := [.c (.d (.lit (.int .i64 r20)))]) (outs := []) rfl (by first | rfl | exact hb24) rfl (topo_Near_1_ok h21) rfl (Nat.le_of_ble_eq_true rfl) ?_
            refine dg (v := .c (.d (.lit (.bool (decide (r20 < 0)))))) rfl (by first | rfl | exact hb24) rfl ?_
            refine d1 (pk_t (by first | rfl | exact hb24)) ?_
            cases h23
            exact d_join rfl (sub_ren [0] [0, 1, 2, 3, 8, 9, 34] (by decide) rfl (.cons .nil) (Nat.le_of_ble_eq_true rfl))
        · intro s hs25
          refine after_n ?_
          refine W.sub hs25 ?_
          refine w_cond (t := b22) rfl (fun hb26 => ?_) (fun hb26 => ?_)
          · have hr := cnd_t hb26 hr
            refine w_skip ?_
            refine after_n ?_
            refine w_seq ?_
            refine w_block ?_
            obtain ⟨n27, h28, hr⟩ := bnd hr
            obtain ⟨n29, h30, hr⟩ := bnd hr
            obtain ⟨n31, h32, hr⟩ := bnd hr
            try dsimp only [slC, slO]
            refine w_drawn ?_
            iterate 4 refine d1 rfl ?_
            refine d1 (v := .c (.d (.lit (.int .i64 (wr .i64 (i10 - 1)))))) rfl ?_
            iterate 2 refine d1 rfl ?_
            refine d1 (v := .c (.d (.lit (.int .i64 (wr .i64 (i10 - 1)))))) rfl ?_
            refine d1 (ix_o h28) ?_
            refine d1 (ld_row rfl (ixI_some.1 h28).2 rfl) ?_
            iterate 2 refine d1 rfl ?_
            refine d1 (ix_o h30) ?_
            refine d1 (ld_row rfl (ixI_some.1 h30).2 rfl) ?_
            refine d1 (ix_o h30) ?_
            refine d0 (st_row (y := gt l9 n27) rfl (ixI_some.1 h30).2 rfl rfl rfl (Nat.le_of_ble_eq_true rfl) rfl) (Nat.le_of_ble_eq_true rfl) ?_
            rw [len_set l9 c_topo_Side n29 (gt l9 n27)]
            refine d1 (ix_o h32) ?_
            refine d0 (st_row (y := gt l9 n29) rfl (ixI_some.1 h32).2 rfl rfl rfl (Nat.le_of_ble_eq_true rfl) rfl) (Nat.le_of_ble_eq_true rfl) ?_
            rw [len_set (l9.set n29 (gt l9 n27)) c_topo_Side n31 (gt l9 n29)]
            refine d_fin (e' := [(0, .c (slC 3 c_topo_Side 0 (Sl.mk ((l9.set n29 (gt l9 n27)).set n31 (gt l9 n29))))), (1, .c (.d (.lit (.int .i64 a_1)))), (2, .c (.d (.lit (.int .i64 b_2)))), (3, .c (.d (.fn 77 []))), (8, .c (.d (.lit (.int .i64 i2)))), (9, .c (.d (.lit (.int .i64 i10))))]) (n' := 1153) rfl rfl rfl rfl ?_
            refine out_n ?_
            refine after_n ?_
            refine w_region ?_
            refine o1 rfl ?_
            refine o1 (v := .c (.d (.lit (.int .i64 (wr .i64 (i10 - 1)))))) rfl ?_
            refine o1 rfl ?_
            refine o_end (e' := [(0, .c (slC 3 c_topo_Side 0 (Sl.mk ((l9.set n29 (gt l9 n27)).set n31 (gt l9 n29))))), (1, .c (.d (.lit (.int .i64 a_1)))), (2, .c (.d (.lit (.int .i64 b_2)))), (3, .c (.d (.fn 77 []))), (8, .c (.d (.lit (.int .i64 i2)))), (9, .c (.d (.lit (.int .i64 (wr .i64 (i10 - 1))))))]) rfl rfl ?_
            obtain rfl := Option.some.inj hr
            exact And.intro rfl (sub_ren [0] [0, 1, 2, 3, 8, 9] (by decide) rfl (.cons .nil) (Nat.le_of_ble_eq_true rfl))
          · have hr := cnd_f hb26 hr
            refine w_exit ?_
            refine after_e ?_
            obtain rfl := Option.some.inj hr
            exact And.intro nofun (And.intro rfl (sub_ren [0] [0, 1, 2, 3, 8] (by decide) rfl (.cons .nil) (Nat.le_of_ble_eq_true rfl)))
    · have hr := cnd_f hb8 hr
      refine w_exit ?_
      refine after_e ?_
      obtain rfl := Option.some.inj hr
      exact And.intro nofun (And.intro rfl (sub_ren [0] [] (by decide) rfl (.cons .nil) (Nat.le_of_ble_eq_true rfl)))

/- slices.pdqsortCmpFunc[turnout/topo.Side] -/
def k94 : CC :=
  (.seq
  (.region [
    ⟨some 10, .mv, [(.const (.bool true))], none⟩] [0, 1, 2, 3, 4, 10])
  (.seq
  (.region [
    ⟨some 11, .mv, [(.const (.bool true))], none⟩] [0, 1, 2, 3, 4, 10, 11])
  (.block 0
    (.loop [0, 1, 2, 3, 4, 10, 11]
      (.block 1
        (.seq
        (.region [
          ⟨some 21, .mv, [(.tmp 2)], none⟩,
          ⟨some 22, .mv, [(.tmp 1)], none⟩,
          ⟨some 23, (.bin .sub), [(.tmp 21), (.tmp 22)], none⟩,
          ⟨some 12, .mv, [(.tmp 23)], none⟩] [0, 1, 2, 3, 4, 10, 11, 12])
        (.seq
        (.seq
        (.region [
          ⟨some 24, .mv, [(.tmp 12)], none⟩,
          ⟨some 25, (.bin .leq), [(.tmp 24), (.const (.int .i64 12))], none⟩] [0, 1, 2, 3, 4, 10, 11, 12, 25])
        (.cond (.tmp 25)
          (.seq
          (.region [
            ⟨some 26, .mv, [(.tmp 0)], none⟩,
            ⟨some 27, .mv, [(.tmp 1)], none⟩,
            ⟨some 28, .mv, [(.tmp 2)], none⟩,
            ⟨some 29, .mv, [(.tmp 4)], none⟩,
            ⟨some 30, (.call false [true, false, false, false]), [(.func 109), (.tmp 26), (.tmp 27), (.tmp 28), (.tmp 29)], none⟩] [])
          .ret)
          .skip))
        (.seq
        (.seq
        (.region [
          ⟨some 31, .mv, [(.tmp 3)], none⟩,
          ⟨some 32, (.bin .eql), [(.tmp 31), (.const (.int .i64 0))], none⟩] [0, 1, 2, 3, 4, 10, 11, 12, 32])
        (.cond (.tmp 32)
          (.seq
          (.region [
            ⟨some 33, .mv, [(.tmp 0)], none⟩,
            ⟨some 34, .mv, [(.tmp 1)], none⟩,
            ⟨some 35, .mv, [(.tmp 2)], none⟩,
            ⟨some 36, .mv, [(.tmp 4)], none⟩,
            ⟨some 37, (.call false [true, false, false, false]), [(.func 110), (.tmp 33), (.tmp 34), (.tmp 35), (.tmp 36)], none⟩] [])
          .ret)
          .skip))
        (.seq
        (.seq
        (.region [
          ⟨some 38, .mv, [(.tmp 10)], none⟩,
          ⟨some 39, (.un .not), [(.tmp 38)], none⟩] [0, 1, 2, 3, 4, 10, 11, 12, 39])
        (.cond (.tmp 39)
          (.seq
          (.region [
            ⟨some 40, .mv, [(.tmp 0)], none⟩,
            ⟨some 41, .mv, [(.tmp 1)], none⟩,
            ⟨some 42, .mv, [(.tmp 2)], none⟩,
            ⟨some 43, .mv, [(.tmp 4)], none⟩,
            ⟨some 44, (.call false [true, false, false, false]), [(.func 111), (.tmp 40), (.tmp 41), (.tmp 42), (.tmp 43)], none⟩] [0, 1, 2, 3, 4, 10, 11, 12])
          (.region [
            ⟨some 45, .mv, [(.tmp 3)], none⟩,
            ⟨some 46, (.bin .sub), [(.tmp 45), (.const (.int .i64 1))], none⟩,
            ⟨some 3, .mv, [(.tmp 46)], none⟩] [0, 1, 2, 3, 4, 10, 11, 12]))
          .skip))
        (.seq
        (.region [
          ⟨some 48, .mv, [(.tmp 0)], none⟩,
          ⟨some 49, .mv, [(.tmp 1)], none⟩,
          ⟨some 50, .mv, [(.tmp 2)], none⟩,
          ⟨some 51, .mv, [(.tmp 4)], none⟩,
          ⟨some 52, (.call true []), [(.func 112), (.tmp 48), (.tmp 49), (.tmp 50), (.tmp 51)], none⟩,
          ⟨some 47, .mv, [(.tmp 52)], none⟩,
          ⟨some 53, (.extract 0), [(.tmp 47)], none⟩,
          ⟨some 54, (.extract 1), [(.tmp 47)], none⟩,
          ⟨some 13, .mv, [(.tmp 53)], none⟩,
          ⟨some 14, .mv, [(.tmp 54)], none⟩] [0, 1, 2, 3, 4, 10, 11, 12, 13, 14])
        (.seq
        (.seq
        (.region [
          ⟨some 55, .mv, [(.tmp 14)], none⟩,
          ⟨some 56, (.bin .eql), [(.tmp 55), (.const (.int .i64 2))], none⟩] [0, 1, 2, 3, 4, 10, 11, 12, 13, 14, 56])
        (.cond (.tmp 56)
          (.seq
          (.region [
            ⟨some 57, .mv, [(.tmp 0)], none⟩,
            ⟨some 58, .mv, [(.tmp 1)], none⟩,
            ⟨some 59, .mv, [(.tmp 2)], none⟩,
            ⟨some 60, .mv, [(.tmp 4)], none⟩,
            ⟨some 61, (.call false [true, false, false, false]), [(.func 113), (.tmp 57), (.tmp 58), (.tmp 59), (.tmp 60)], none⟩] [0, 1, 2, 3, 4, 10, 11, 12, 13])
          (.seq
          (.region [
            ⟨some 62, .mv, [(.tmp 2)], none⟩,
            ⟨some 63, (.bin .sub), [(.tmp 62), (.const (.int .i64 1))], none⟩,
            ⟨some 64, .mv, [(.tmp 13)], none⟩,
            ⟨some 65, .mv, [(.tmp 1)], none⟩,
            ⟨some 66, (.bin .sub), [(.tmp 64), (.tmp 65)], none⟩,
            ⟨some 67, (.bin .sub), [(.tmp 63), (.tmp 66)], none⟩,
            ⟨some 13, .mv, [(.tmp 67)], none⟩] [0, 1, 2, 3, 4, 10, 11, 12, 13])
          (.region [
            ⟨some 14, .mv, [(.const (.int .i64 1))], none⟩] [0, 1, 2, 3, 4, 10, 11, 12, 13, 14])))
          .skip))
        (.seq
        (.seq
        (.region [
          ⟨some 68, .mv, [(.tmp 10)], none⟩,
          ⟨some 69, .mv, [(.tmp 68)], none⟩,
          ⟨some 70, .mv, [(.tmp 11)], (some (69, true))⟩,
          ⟨some 71, .pick, [(.tmp 69), (.tmp 70), (.const (.bool false))], none⟩,
          ⟨some 72, .mv, [(.tmp 71)], none⟩,
          ⟨some 73, .mv, [(.tmp 14)], (some (72, true))⟩,
          ⟨some 74, (.bin .eql), [(.tmp 73), (.const (.int .i64 1))], (some (72, true))⟩,
          ⟨some 75, .pick, [(.tmp 72), (.tmp 74), (.const (.bool false))], none⟩] [0, 1, 2, 3, 4, 10, 11, 12, 13, 75])
        (.cond (.tmp 75)
          (.seq
          (.region [
            ⟨some 76, .mv, [(.tmp 0)], none⟩,
            ⟨some 77, .mv, [(.tmp 1)], none⟩,
            ⟨some 78, .mv, [(.tmp 2)], none⟩,
            ⟨some 79, .mv, [(.tmp 4)], none⟩,
            ⟨some 80, (.call false [true, false, false, false]), [(.func 114), (.tmp 76), (.tmp 77), (.tmp 78), (.tmp 79)], none⟩] [0, 1, 2, 3, 4, 10, 11, 12, 13, 80])
          (.cond (.tmp 80)
            .ret
            .skip))
          .skip))
        (.seq
        (.seq
        (.drawn [
          ⟨some 81, .mv, [(.tmp 1)], none⟩,
          ⟨some 82, (.bin .gtr), [(.tmp 81), (.const (.int .i64 0))], none⟩,
          ⟨some 83, .mv, [(.tmp 82)], none⟩,
          ⟨some 84, .mv, [(.tmp 4)], (some (83, true))⟩,
          ⟨some 85, .mv, [(.tmp 0)], (some (83, true))⟩,
          ⟨some 86, .mv, [(.tmp 1)], (some (83, true))⟩,
          ⟨some 87, (.bin .sub), [(.tmp 86), (.const (.int .i64 1))], (some (83, true))⟩,
          ⟨some 88, (.indexAddr none 3), [(.tmp 85), (.tmp 87)], (some (83, true))⟩,
          ⟨some 89, (.load true 3), [(.tmp 88)], (some (83, true))⟩,
          ⟨some 90, .mv, [(.tmp 0)], (some (83, true))⟩,
          ⟨some 91, .mv, [(.tmp 13)], (some (83, true))⟩,
          ⟨some 92, (.indexAddr none 3), [(.tmp 90), (.tmp 91)], (some (83, true))⟩,
          ⟨some 93, (.load true 3), [(.tmp 92)], (some (83, true))⟩,
          ⟨some 94, (.call false []), [(.tmp 84), (.tmp 89), (.tmp 93)], (some (83, true))⟩,
          ⟨some 95, (.bin .lss), [(.tmp 94), (.const (.int .i64 0))], (some (83, true))⟩,
          ⟨some 96, (.un .not), [(.tmp 95)], (some (83, true))⟩,
          ⟨some 97, .pick, [(.tmp 83), (.tmp 96), (.const (.bool false))], none⟩] [] [0, 1, 2, 3, 4, 10, 11, 12, 13, 97])
        (.cond (.tmp 97)
          (.seq
          (.region [
            ⟨some 98, .mv, [(.tmp 0)], none⟩,
            ⟨some 99, .mv, [(.tmp 1)], none⟩,
            ⟨some 100, .mv, [(.tmp 2)], none⟩,
            ⟨some 101, .mv, [(.tmp 13)], none⟩,
            ⟨some 102, .mv, [(.tmp 4)], none⟩,
            ⟨some 103, (.call false [true, false, false, false, false]), [(.func 115), (.tmp 98), (.tmp 99), (.tmp 100), (.tmp 101), (.tmp 102)], none⟩,
            ⟨some 15, .mv, [(.tmp 103)], none⟩] [0, 2, 3, 4, 10, 11, 15])
          (.seq
          (.region [
            ⟨some 104, .mv, [(.tmp 15)], none⟩,
            ⟨some 1, .mv, [(.tmp 104)], none⟩] [0, 1, 2, 3, 4, 10, 11])
          (.exit 1)))
          .skip))
        (.seq
        (.region [
          ⟨some 106, .mv, [(.tmp 0)], none⟩,
          ⟨some 107, .mv, [(.tmp 1)], none⟩,
          ⟨some 108, .mv, [(.tmp 2)], none⟩,
          ⟨some 109, .mv, [(.tmp 13)], none⟩,
          ⟨some 110, .mv, [(.tmp 4)], none⟩,
          ⟨some 111, (.call false [true, false, false, false, false]), [(.func 116), (.tmp 106), (.tmp 107), (.tmp 108), (.tmp 109), (.tmp 110)], none⟩,
          ⟨some 105, .mv, [(.tmp 111)], none⟩,
          ⟨some 112, (.extract 0), [(.tmp 105)], none⟩,
          ⟨some 113, (.extract 1), [(.tmp 105)], none⟩,
          ⟨some 16, .mv, [(.tmp 112)], none⟩,
          ⟨some 17, .mv, [(.tmp 113)], none⟩] [0, 1, 2, 3, 4, 12, 16, 17])
        (.seq
        (.region [
          ⟨some 114, .mv, [(.tmp 17)], none⟩,
          ⟨some 11, .mv, [(.tmp 114)], none⟩] [0, 1, 2, 3, 4, 11, 12, 16])
        (.seq
        (.region [
          ⟨some 115, .mv, [(.tmp 16)], none⟩,
          ⟨some 116, .mv, [(.tmp 1)], none⟩,
          ⟨some 117, (.bin .sub), [(.tmp 115), (.tmp 116)], none⟩,
          ⟨some 118, .mv, [(.tmp 2)], none⟩,
          ⟨some 119, .mv, [(.tmp 16)], none⟩,
          ⟨some 120, (.bin .sub), [(.tmp 118), (.tmp 119)], none⟩,
          ⟨some 18, .mv, [(.tmp 117)], none⟩,
          ⟨some 19, .mv, [(.tmp 120)], none⟩] [0, 1, 2, 3, 4, 11, 12, 16, 18, 19])
        (.seq
        (.region [
          ⟨some 121, .mv, [(.tmp 12)], none⟩,
          ⟨some 122, (.bin .quo), [(.tmp 121), (.const (.int .i64 8))], none⟩,
          ⟨some 20, .mv, [(.tmp 122)], none⟩] [0, 1, 2, 3, 4, 11, 16, 18, 19, 20])
        (.seq
        (.region [
          ⟨some 123, .mv, [(.tmp 18)], none⟩,
          ⟨some 124, .mv, [(.tmp 19)], none⟩,
          ⟨some 125, (.bin .lss), [(.tmp 123), (.tmp 124)], none⟩] [0, 1, 2, 3, 4, 11, 16, 18, 19, 20, 125])
        (.cond (.tmp 125)
          (.seq
          (.region [
            ⟨some 126, .mv, [(.tmp 18)], none⟩,
            ⟨some 127, .mv, [(.tmp 20)], none⟩,
            ⟨some 128, (.bin .geq), [(.tmp 126), (.tmp 127)], none⟩,
            ⟨some 10, .mv, [(.tmp 128)], none⟩] [0, 1, 2, 3, 4, 10, 11, 16])
          (.seq
          (.region [
            ⟨some 129, .mv, [(.tmp 0)], none⟩,
            ⟨some 130, .mv, [(.tmp 1)], none⟩,
            ⟨some 131, .mv, [(.tmp 16)], none⟩,
            ⟨some 132, .mv, [(.tmp 3)], none⟩,
            ⟨some 133, .mv, [(.tmp 4)], none⟩,
            ⟨some 134, (.call false [true, false, false, false, false]), [(.func 94), (.tmp 129), (.tmp 130), (.tmp 131), (.tmp 132), (.tmp 133)], none⟩] [0, 2, 3, 4, 10, 11, 16])
          (.region [
            ⟨some 135, .mv, [(.tmp 16)], none⟩,
            ⟨some 136, (.bin .add), [(.tmp 135), (.const (.int .i64 1))], none⟩,
            ⟨some 1, .mv, [(.tmp 136)], none⟩] [0, 1, 2, 3, 4, 10, 11])))
          (.seq
          (.region [
            ⟨some 137, .mv, [(.tmp 19)], none⟩,
            ⟨some 138, .mv, [(.tmp 20)], none⟩,
            ⟨some 139, (.bin .geq), [(.tmp 137), (.tmp 138)], none⟩,
            ⟨some 10, .mv, [(.tmp 139)], none⟩] [0, 1, 2, 3, 4, 10, 11, 16])
          (.seq
          (.region [
            ⟨some 140, .mv, [(.tmp 0)], none⟩,
            ⟨some 141, .mv, [(.tmp 16)], none⟩,
            ⟨some 142, (.bin .add), [(.tmp 141), (.const (.int .i64 1))], none⟩,
            ⟨some 143, .mv, [(.tmp 2)], none⟩,
            ⟨some 144, .mv, [(.tmp 3)], none⟩,
            ⟨some 145, .mv, [(.tmp 4)], none⟩,
            ⟨some 146, (.call false [true, false, false, false, false]), [(.func 94), (.tmp 140), (.tmp 142), (.tmp 143), (.tmp 144), (.tmp 145)], none⟩] [0, 1, 3, 4, 10, 11, 16])
          (.region [
            ⟨some 147, .mv, [(.tmp 16)], none⟩,
            ⟨some 2, .mv, [(.tmp 147)], none⟩] [0, 1, 2, 3, 4, 10, 11]))))))))))))))))))))))
def f94 : Ev.Fn := ⟨5, 148, [], k94⟩
set_option maxRecDepth 100000 in
theorem e94 : compFn prog sig 94 5 [[0, 1, 2, 3, 4, 10], [0, 1, 2, 3, 4, 10, 11], [0, 1, 2, 3, 4, 10, 11], [0, 1, 2, 3, 4, 10, 11, 12], [0, 1, 2, 3, 4, 10, 11, 12, 25], [], [0, 1, 2, 3, 4, 10, 11, 12, 32], [], [0, 1, 2, 3, 4, 10, 11, 12, 39], [0, 1, 2, 3, 4, 10, 11, 12], [0, 1, 2, 3, 4, 10, 11, 12], [0, 1, 2, 3, 4, 10, 11, 12, 13, 14], [0, 1, 2, 3, 4, 10, 11, 12, 13, 14, 56], [0, 1, 2, 3, 4, 10, 11, 12, 13], [0, 1, 2, 3, 4, 10, 11, 12, 13], [0, 1, 2, 3, 4, 10, 11, 12, 13, 14], [0, 1, 2, 3, 4, 10, 11, 12, 13, 75], [0, 1, 2, 3, 4, 10, 11, 12, 13, 80], [0, 1, 2, 3, 4, 10, 11, 12, 13, 97], [0, 2, 3, 4, 10, 11, 15], [0, 1, 2, 3, 4, 10, 11], [0, 1, 2, 3, 4, 12, 16, 17], [0, 1, 2, 3, 4, 11, 12, 16], [0, 1, 2, 3, 4, 11, 12, 16, 18, 19], [0, 1, 2, 3, 4, 11, 16, 18, 19, 20], [0, 1, 2, 3, 4, 11, 16, 18, 19, 20, 125], [0, 1, 2, 3, 4, 10, 11, 16], [0, 2, 3, 4, 10, 11, 16], [0, 1, 2, 3, 4, 10, 11], [0, 1, 2, 3, 4, 10, 11, 16], [0, 1, 3, 4, 10, 11, 16], [0, 1, 2, 3, 4, 10, 11]] = some f94 := by kernel_rfl
noncomputable def slices_pdqsortCmpFunc_topo_Side_topo_Near_1_L1 (data_0 : List topo_Side) (a_1 : Int) (b_2 : Int) (limit_3 : Int) : Unit → Option (Sum (Unit) (List topo_Side)) := fun _ =>
  bif decide ((wr .i64 (b_2 - a_1)) ≤ 12) then ((slices_insertionSortCmpFunc_topo_Side_topo_Near_1 data_0 a_1 b_2).bind fun l5 =>
  (lenI l5 data_0).bind fun _ =>
  some (.inr (l5))) else
  (bif (limit_3 == 0) then (((none : Option Unit)).bind fun _ =>
  none) else
  (bif (!true) then (((none : Option Unit)).bind fun _ =>
  none) else
  (((none : Option Unit)).bind fun _ =>
  none)))

noncomputable def slices_pdqsortCmpFunc_topo_Side_topo_Near_1 (data_0 : List topo_Side) (a_1 : Int) (b_2 : Int) (limit_3 : Int) : Option (List topo_Side) :=
  (loopO (slices_pdqsortCmpFunc_topo_Side_topo_Near_1_L1 data_0 a_1 b_2 limit_3) ()).bind fun l1 =>
  some l1
theorem slices_pdqsortCmpFunc_topo_Side_topo_Near_1_ok {data_0 : List topo_Side} {a_1 : Int} {b_2 : Int} {limit_3 : Int} {z : List topo_Side} (hp : slices_pdqsortCmpFunc_topo_Side_topo_Near_1 data_0 a_1 b_2 limit_3 = some z) : Good prog 94 [.mt (.sl 3 (data_0.map c_topo_Side)), .d (.lit (.int .i64 a_1)), .d (.lit (.int .i64 b_2)), .d (.lit (.int .i64 limit_3)), .d (.fn 77 [])] [] [.sl 3 (z.map c_topo_Side)] := by
  unfold slices_pdqsortCmpFunc_topo_Side_topo_Near_1 at hp
  refine fn_good mixed e94 (fnS (m := []) (s := ⟨[(0, .c (slC 3 c_topo_Side 0 (Sl.mk data_0))), (1, .c (.d (.lit (.int .i64 a_1)))), (2, .c (.d (.lit (.int .i64 b_2)))), (3, .c (.d (.lit (.int .i64 limit_3)))), (4, .c (.d (.fn 77 [])))], [(0, slO 3 c_topo_Side (Sl.mk data_0))], 1, [slC 3 c_topo_Side 0 (Sl.mk data_0)]⟩) (len := 1) (c := k94) rfl (Sub.of_eq rfl) rfl rfl ?_)
  refine w_seq ?_
  refine w_region ?_
  refine o1 rfl ?_
  refine o_end (e' := [(0, .c (slC 3 c_topo_Side 0 (Sl.mk data_0))), (1, .c (.d (.lit (.int .i64 a_1)))), (2, .c (.d (.lit (.int .i64 b_2)))), (3, .c (.d (.lit (.int .i64 limit_3)))), (4, .c (.d (.fn 77 []))), (10, .c (.d (.lit (.bool true))))]) rfl rfl ?_
  refine after_n ?_
  refine w_seq ?_
  refine w_region ?_
  refine o1 rfl ?_
  refine o_end (e' := [(0, .c (slC 3 c_topo_Side 0 (Sl.mk data_0))), (1, .c (.d (.lit (.int .i64 a_1)))), (2, .c (.d (.lit (.int .i64 b_2)))), (3, .c (.d (.lit (.int .i64 limit_3)))), (4, .c (.d (.fn 77 []))), (10, .c (.d (.lit (.bool true)))), (11, .c (.d (.lit (.bool true))))]) rfl rfl ?_
  refine after_n ?_
  refine w_block ?_
  obtain ⟨l1, h3, hp⟩ := bnd hp
  refine W.mono ?_ (w_loopS (st := fun (v : Unit) => match v with | _ => ⟨[(0, .c (slC 3 c_topo_Side 0 (Sl.mk data_0))), (1, .c (.d (.lit (.int .i64 a_1)))), (2, .c (.d (.lit (.int .i64 b_2)))), (3, .c (.d (.lit (.int .i64 limit_3)))), (4, .c (.d (.fn 77 []))), (10, .c (.d (.lit (.bool true)))), (11, .c (.d (.lit (.bool true))))], [(0, slO 3 c_topo_Side (Sl.mk data_0))], 1, [slC 3 c_topo_Side 0 (Sl.mk data_0)]⟩) (a := ()) (Q := Jn (fun (x : List topo_Side) o s => match x with | l1 => o = Out.ret ∧ Sub s ⟨[], [(0, slO 3 c_topo_Side (Sl.mk l1))], 1, [slC 3 c_topo_Side 0 (Sl.mk l1)]⟩)) ?_ h3 ?_)
  · intro o s hs16
    obtain ⟨rfl, hs16⟩ := hs16
    refine out_r ?_
    obtain rfl := Option.some.inj hp
    refine wk.sub hs16 ?_
    exact leave_at rfl rfl pr_nil (pc_cons (p_o rfl) pc_nil) rfl rfl
  · exact (sub_ren [0] [0, 1, 2, 3, 4, 10, 11] (by decide) rfl (.cons .nil) (Nat.le_of_ble_eq_true rfl))
  · rintro _ r hr
    unfold slices_pdqsortCmpFunc_topo_Side_topo_Near_1_L1 at hr
    refine w_block ?_
    refine w_seq ?_
    refine w_region ?_
    iterate 2 refine o1 rfl ?_
    refine o1 (v := .c (.d (.lit (.int .i64 (wr .i64 (b_2 - a_1)))))) rfl ?_
    refine o1 rfl ?_
    refine o_end (e' := [(0, .c (slC 3 c_topo_Side 0 (Sl.mk data_0))), (1, .c (.d (.lit (.int .i64 a_1)))), (2, .c (.d (.lit (.int .i64 b_2)))), (3, .c (.d (.lit (.int .i64 limit_3)))), (4, .c (.d (.fn 77 []))), (10, .c (.d (.lit (.bool true)))), (11, .c (.d (.lit (.bool true)))), (12, .c (.d (.lit (.int .i64 (wr .i64 (b_2 - a_1))))))]) rfl rfl ?_
    refine after_n ?_
    refine w_seq ?_
    refine w_seq ?_
    refine w_region ?_
    refine o1 rfl ?_
    refine o1 (v := .c (.d (.lit (.bool (decide ((wr .i64 (b_2 - a_1)) ≤ 12)))))) rfl ?_
    refine o_end (e' := [(0, .c (slC 3 c_topo_Side 0 (Sl.mk data_0))), (1, .c (.d (.lit (.int .i64 a_1)))), (2, .c (.d (.lit (.int .i64 b_2)))), (3, .c (.d (.lit (.int .i64 limit_3)))), (4, .c (.d (.fn 77 []))), (10, .c (.d (.lit (.bool true)))), (11, .c (.d (.lit (.bool true)))), (12, .c (.d (.lit (.int .i64 (wr .i64 (b_2 - a_1)))))), (25, .c (.d (.lit (.bool (decide ((wr .i64 (b_2 - a_1)) ≤ 12))))))]) rfl rfl ?_
    refine after_n ?_
    refine w_cond (t := decide ((wr .i64 (b_2 - a_1)) ≤ 12)) rfl (fun hb4 => ?_) (fun hb4 => ?_)
    · have hr := cnd_t hb4 hr
      refine w_seq ?_
      obtain ⟨l5, h6, hr⟩ := bnd hr
      obtain ⟨_, h7, hr⟩ := bnd hr
      try dsimp only [slC, slO]
      refine w_region ?_
      iterate 4 refine o1 rfl ?_
      refine oc' (rs := []) (outs := [.sl 3 (l5.map c_topo_Side)]) (call_at rfl rfl (ea_mt (p_o rfl) rfl (ea_c rfl rfl (ea_c rfl rfl (ea_c rfl rfl ea_nil)))) (wh_o rfl wh_nil) rfl (land rfl (back_ms (lenI_map (enc := c_topo_Side) h7) back_nil))) (slices_insertionSortCmpFunc_topo_Side_topo_Near_1_ok h6) ?_
      rw [← lenI_map (enc := c_topo_Side) h7]
      refine o_end (e' := []) rfl rfl ?_
      refine after_n ?_
      refine w_ret ?_
      refine after_r ?_
      refine out_r ?_
      obtain rfl := Option.some.inj hr
      exact And.intro nofun (And.intro rfl (sub_ren [0] [] (by decide) rfl (.cons .nil) (Nat.le_of_ble_eq_true rfl)))
    · have hr := cnd_f hb4 hr
      refine w_skip ?_
      refine after_n ?_
      refine w_seq ?_
      refine w_seq ?_
      refine w_region ?_
      refine o1 rfl ?_
      refine o1 (v := .c (.d (.lit (.bool (limit_3 == 0))))) rfl ?_
      refine o_end (e' := [(0, .c (slC 3 c_topo_Side 0 (Sl.mk data_0))), (1, .c (.d (.lit (.int .i64 a_1)))), (2, .c (.d (.lit (.int .i64 b_2)))), (3, .c (.d (.lit (.int .i64 limit_3)))), (4, .c (.d (.fn 77 []))), (10, .c (.d (.lit (.bool true)))), (11, .c (.d (.lit (.bool true)))), (12, .c (.d (.lit (.int .i64 (wr .i64 (b_2 - a_1)))))), (32, .c (.d (.lit (.bool (limit_3 == 0)))))]) rfl rfl ?_
      refine after_n ?_
      refine w_cond (t := (limit_3 == 0)) rfl (fun hb8 => ?_) (fun hb8 => ?_)
      · have hr := cnd_t hb8 hr
        refine w_seq ?_
        obtain ⟨_, h10, hr⟩ := bnd hr
        exact nomatch h10
      · have hr := cnd_f hb8 hr
        refine w_skip ?_
        refine after_n ?_
        refine w_seq ?_
        refine w_seq ?_
        refine w_region ?_
        refine o1 rfl ?_
        refine o1 (v := .c (.d (.lit (.bool (!true))))) rfl ?_
        refine o_end (e' := [(0, .c (slC 3 c_topo_Side 0 (Sl.mk data_0))), (1, .c (.d (.lit (.int .i64 a_1)))), (2, .c (.d (.lit (.int .i64 b_2)))), (3, .c (.d (.lit (.int .i64 limit_3)))), (4, .c (.d (.fn 77 []))), (10, .c (.d (.lit (.bool true)))), (11, .c (.d (.lit (.bool true)))), (12, .c (.d (.lit (.int .i64 (wr .i64 (b_2 - a_1)))))), (39, .c (.d (.lit (.bool (!true)))))]) rfl rfl ?_
        refine after_n ?_
        refine w_cond (t := (!true)) rfl (fun hb11 => ?_) (fun hb11 => ?_)
        · have hr := cnd_t hb11 hr
          refine w_seq ?_
          obtain ⟨_, h13, hr⟩ := bnd hr
          exact nomatch h13
        · have hr := cnd_f hb11 hr
          refine w_skip ?_
          refine after_n ?_
          refine w_seq ?_
          obtain ⟨_, h15, hr⟩ := bnd hr
          exact nomatch h15

/- slices.SortFunc[[]turnout/topo.Side,turnout/topo.Side] -/
def k76 : CC :=
  (.seq
  (.region [
    ⟨some 5, .mv, [(.tmp 0)], none⟩,
    ⟨some 6, (.len false), [(.tmp 5)], none⟩,
    ⟨some 4, .mv, [(.tmp 6)], none⟩] [0, 1, 4])
  (.region [
    ⟨some 7, .mv, [(.tmp 0)], none⟩,
    ⟨some 8, .mv, [(.tmp 4)], none⟩,
    ⟨some 9, .mv, [(.tmp 4)], none⟩,
    ⟨some 10, (.convInt .u64), [(.tmp 9)], none⟩,
    ⟨some 11, (.call true []), [(.func 95), (.tmp 10)], none⟩,
    ⟨some 12, .mv, [(.tmp 1)], none⟩,
    ⟨some 13, (.call false [true, false, false, false, false]), [(.func 94), (.tmp 7), (.const (.int .i64 0)), (.tmp 8), (.tmp 11), (.tmp 12)], none⟩] []))
def f76 : Ev.Fn := ⟨2, 14, [], k76⟩
set_option maxRecDepth 100000 in
theorem e76 : compFn prog sig 76 2 [[0, 1, 4], []] = some f76 := by kernel_rfl
noncomputable def slices_SortFunc_topo_Side_topo_Side_topo_Near_1 (x_0 : List topo_Side) : Option (List topo_Side) :=
  (math_bits_Len (wr .u64 (x_0.length : Int))).bind fun r1 =>
  (slices_pdqsortCmpFunc_topo_Side_topo_Near_1 x_0 0 (x_0.length : Int) r1).bind fun l3 =>
  (lenI l3 x_0).bind fun _ =>
  some (l3)
theorem slices_SortFunc_topo_Side_topo_Side_topo_Near_1_ok {x_0 : List topo_Side} {z : List topo_Side} (hp : slices_SortFunc_topo_Side_topo_Side_topo_Near_1 x_0 = some z) : Good prog 76 [.mt (.sl 3 (x_0.map c_topo_Side)), .d (.fn 77 [])] [] [.sl 3 (z.map c_topo_Side)] := by
  unfold slices_SortFunc_topo_Side_topo_Side_topo_Near_1 at hp
  refine fn_good mixed e76 (fnS (m := []) (s := ⟨[(0, .c (slC 3 c_topo_Side 0 (Sl.mk x_0))), (1, .c (.d (.fn 77 [])))], [(0, slO 3 c_topo_Side (Sl.mk x_0))], 1, [slC 3 c_topo_Side 0 (Sl.mk x_0)]⟩) (len := 1) (c := k76) rfl (Sub.of_eq rfl) rfl rfl ?_)
  refine w_seq ?_
  refine w_region ?_
  refine o1 rfl ?_
  refine o1 (v := .c (.d (.lit (.int .i64 (x_0.length : Int))))) len_o ?_
  refine o1 rfl ?_
  refine o_end (e' := [(0, .c (slC 3 c_topo_Side 0 (Sl.mk x_0))), (1, .c (.d (.fn 77 []))), (4, .c (.d (.lit (.int .i64 (x_0.length : Int)))))]) rfl rfl ?_
  refine after_n ?_
  obtain ⟨r1, h2, hp⟩ := bnd hp
  obtain ⟨l3, h4, hp⟩ := bnd hp
  obtain ⟨_, h5, hp⟩ := bnd hp
  try dsimp only [slC, slO]
  refine w_region ?_
  iterate 3 refine o1 rfl ?_
  refine o1 (v := .c (.d (.lit (.int .u64 (wr .u64 (x_0.length : Int)))))) rfl ?_
  refine oc (rs := [.c (.d (.lit (.int .i64 r1)))]) (outs := []) rfl (math_bits_Len_ok h2) rfl ?_
  refine o1 rfl ?_
  refine oc' (rs := []) (outs := [.sl 3 (l3.map c_topo_Side)]) (call_at rfl rfl (ea_mt (p_o rfl) rfl (ea_c rfl rfl (ea_c rfl rfl (ea_c rfl rfl (ea_c rfl rfl ea_nil))))) (wh_o rfl wh_nil) rfl (land rfl (back_ms (lenI_map (enc := c_topo_Side) h5) back_nil))) (slices_pdqsortCmpFunc_topo_Side_topo_Near_1_ok h4) ?_
  rw [← lenI_map (enc := c_topo_Side) h5]
  refine o_end (e' := []) rfl rfl ?_
  obtain rfl := Option.some.inj hp
  exact leave_at rfl rfl pr_nil (pc_cons (p_o rfl) pc_nil) rfl rfl

noncomputable def slices_insertionSortCmpFunc_topo_Side_nil_topo_Near_1_L2 (a_1 : Int) (i1 : Int) : Unit → Option (Sum (Unit) (Unit)) := fun _ =>
  (bif decide (i1 > a_1) then (((none : Option Nat)).bind fun _ =>
  none) else (some ())).bind fun _ =>
  some (.inr ())

noncomputable def slices_insertionSortCmpFunc_topo_Side_nil_topo_Near_1_L1 (a_1 : Int) (b_2 : Int) : Int → Option (Sum (Int) (Unit)) := fun i1 =>
  bif decide (i1 < b_2) then ((loopO (slices_insertionSortCmpFunc_topo_Side_nil_topo_Near_1_L2 a_1 i1) ()).bind fun _ =>
  some (.inl (wr .i64 (i1 + 1)))) else
  (some (.inr ()))

noncomputable def slices_insertionSortCmpFunc_topo_Side_nil_topo_Near_1 (a_1 : Int) (b_2 : Int) : Option (Unit) :=
  (loopO (slices_insertionSortCmpFunc_topo_Side_nil_topo_Near_1_L1 a_1 b_2) (wr .i64 (a_1 + 1))).bind fun _ =>
  some ()
theorem slices_insertionSortCmpFunc_topo_Side_nil_topo_Near_1_ok {a_1 : Int} {b_2 : Int} (hp : slices_insertionSortCmpFunc_topo_Side_nil_topo_Near_1 a_1 b_2 = some ()) : Good prog 109 [.mt (.d (.lit (.slice none 0 0))), .d (.lit (.int .i64 a_1)), .d (.lit (.int .i64 b_2)), .d (.fn 77 [])] [] [.d (.lit (.slice none 0 0))] := by
  unfold slices_insertionSortCmpFunc_topo_Side_nil_topo_Near_1 at hp
  refine fn_good mixed e109 (fnS (m := []) (s := ⟨[(0, .c (.d (.lit (.slice none 0 0)))), (1, .c (.d (.lit (.int .i64 a_1)))), (2, .c (.d (.lit (.int .i64 b_2)))), (3, .c (.d (.fn 77 [])))], [], 0, [.d (.lit (.slice none 0 0))]⟩) (len := 1) (c := k109) rfl (Sub.of_eq rfl) rfl rfl ?_)
  refine w_seq ?_
  refine w_region ?_
  refine o1 rfl ?_
  refine o1 (v := .c (.d (.lit (.int .i64 (wr .i64 (a_1 + 1)))))) rfl ?_
  refine o1 rfl ?_
  refine o_end (e' := [(0, .c (.d (.lit (.slice none 0 0)))), (1, .c (.d (.lit (.int .i64 a_1)))), (2, .c (.d (.lit (.int .i64 b_2)))), (3, .c (.d (.fn 77 []))), (8, .c (.d (.lit (.int .i64 (wr .i64 (a_1 + 1))))))]) rfl rfl ?_
  refine after_n ?_
  refine w_block ?_
  obtain ⟨x3, h4, hp⟩ := bnd hp
  refine W.mono ?_ (w_loopS (st := fun (v : Int) => match v with | i1 => ⟨[(0, .c (.d (.lit (.slice none 0 0)))), (1, .c (.d (.lit (.int .i64 a_1)))), (2, .c (.d (.lit (.int .i64 b_2)))), (3, .c (.d (.fn 77 []))), (8, .c (.d (.lit (.int .i64 i1))))], [], 0, [.d (.lit (.slice none 0 0))]⟩) (a := wr .i64 (a_1 + 1)) (Q := Jn (fun (x : Unit) o s => match x with | _ => o = Out.exit 0 ∧ Sub s ⟨[], [], 0, [.d (.lit (.slice none 0 0))]⟩)) ?_ h4 ?_)
  · intro o s hs14
    obtain _ := x3
    obtain ⟨rfl, hs14⟩ := hs14
    refine out_e ?_
    refine wk.sub hs14 ?_
    exact leave_at rfl rfl pr_nil (pc_cons p_d pc_nil) rfl rfl
  · exact (sub_ren [] [0, 1, 2, 3, 8] (by decide) rfl .nil (Nat.le_of_ble_eq_true rfl))
  · rintro i1 r hr
    unfold slices_insertionSortCmpFunc_topo_Side_nil_topo_Near_1_L1 at hr
    refine w_seq ?_
    refine w_seq ?_
    refine w_region ?_
    iterate 2 refine o1 rfl ?_
    refine o1 (v := .c (.d (.lit (.bool (decide (i1 < b_2)))))) rfl ?_
    refine o_end (e' := [(0, .c (.d (.lit (.slice none 0 0)))), (1, .c (.d (.lit (.int .i64 a_1)))), (2, .c (.d (.lit (.int .i64 b_2)))), (3, .c (.d (.fn 77 []))), (8, .c (.d (.lit (.int .i64 i1)))), (14, .c (.d (.lit (.bool (decide (i1 < b_2))))))]) rfl rfl ?_
    refine after_n ?_
    refine w_cond (t := decide (i1 < b_2)) rfl (fun hb5 => ?_) (fun hb5 => ?_)
    · have hr := cnd_t hb5 hr
      refine w_skip ?_
      refine after_n ?_
      refine w_seq ?_
      refine w_block ?_
      refine w_seq ?_
      refine w_region ?_
      iterate 2 refine o1 rfl ?_
      refine o_end (e' := [(0, .c (.d (.lit (.slice none 0 0)))), (1, .c (.d (.lit (.int .i64 a_1)))), (2, .c (.d (.lit (.int .i64 b_2)))), (3, .c (.d (.fn 77 []))), (8, .c (.d (.lit (.int .i64 i1)))), (9, .c (.d (.lit (.int .i64 i1))))]) rfl rfl ?_
      refine after_n ?_
      refine w_block ?_
      obtain ⟨x6, h7, hr⟩ := bnd hr
      refine W.mono ?_ (w_loopS (st := fun (v : Unit) => match v with | _ => ⟨[(0, .c (.d (.lit (.slice none 0 0)))), (1, .c (.d (.lit (.int .i64 a_1)))), (2, .c (.d (.lit (.int .i64 b_2)))), (3, .c (.d (.fn 77 []))), (8, .c (.d (.lit (.int .i64 i1)))), (9, .c (.d (.lit (.int .i64 i1))))], [], 0, [.d (.lit (.slice none 0 0))]⟩) (a := ()) (Q := Jn (fun (x : Unit) o s => match x with | _ => o = Out.exit 2 ∧ Sub s ⟨[(0, .c (.d (.lit (.slice none 0 0)))), (1, .c (.d (.lit (.int .i64 a_1)))), (2, .c (.d (.lit (.int .i64 b_2)))), (3, .c (.d (.fn 77 []))), (8, .c (.d (.lit (.int .i64 i1))))], [], 0, [.d (.lit (.slice none 0 0))]⟩)) ?_ h7 ?_)
      · intro o s hs13
        obtain _ := x6
        obtain ⟨rfl, hs13⟩ := hs13
        refine out_e ?_
        refine out_n ?_
        refine after_n ?_
        refine W.sub hs13 ?_
        refine w_region ?_
        refine o1 rfl ?_
        refine o1 (v := .c (.d (.lit (.int .i64 (wr .i64 (i1 + 1)))))) rfl ?_
        refine o1 rfl ?_
        refine o_end (e' := [(0, .c (.d (.lit (.slice none 0 0)))), (1, .c (.d (.lit (.int .i64 a_1)))), (2, .c (.d (.lit (.int .i64 b_2)))), (3, .c (.d (.fn 77 []))), (8, .c (.d (.lit (.int .i64 (wr .i64 (i1 + 1))))))]) rfl rfl ?_
        obtain rfl := Option.some.inj hr
        exact And.intro rfl (sub_ren [] [0, 1, 2, 3, 8] (by decide) rfl .nil (Nat.le_of_ble_eq_true rfl))
      · exact (sub_ren [] [0, 1, 2, 3, 8, 9] (by decide) rfl .nil (Nat.le_of_ble_eq_true rfl))
      · rintro _ r hr
        unfold slices_insertionSortCmpFunc_topo_Side_nil_topo_Near_1_L2 at hr
        refine w_seq ?_
        refine w_seq ?_
        obtain ⟨_, h10, hr⟩ := bnd hr
        refine w_join (J := fun s => Sub s ⟨[(0, .c (.d (.lit (.slice none 0 0)))), (1, .c (.d (.lit (.int .i64 a_1)))), (2, .c (.d (.lit (.int .i64 b_2)))), (3, .c (.d (.fn 77 []))), (8, .c (.d (.lit (.int .i64 i1)))), (9, .c (.d (.lit (.int .i64 i1)))), (34, .c (.d (.lit (.bool false))))], [], 0, [.d (.lit (.slice none 0 0))]⟩) ?_ ?_
        · refine w_drawn ?_
          iterate 2 refine d1 rfl ?_
          refine d1 (v := .c (.d (.lit (.bool (decide (i1 > a_1)))))) rfl ?_
          refine d1 rfl ?_
          cases hb11 : (decide (i1 > a_1) : Bool)
          · have h10 := cnd_f hb11 h10
            refine dnot rfl (by first | rfl | exact hb11) ?_
            refine dnot rfl (by first | rfl | exact hb11) ?_
            refine dnot rfl (by first | rfl | exact hb11) ?_
            refine dnot rfl (by first | rfl | exact hb11) ?_
            refine dnot rfl (by first | rfl | exact hb11) ?_
            refine dnot rfl (by first | rfl | exact hb11) ?_
            refine dnot rfl (by first | rfl | exact hb11) ?_
            refine dnot rfl (by first | rfl | exact hb11) ?_
            refine dnot rfl (by first | rfl | exact hb11) ?_
            refine dnot rfl (by first | rfl | exact hb11) ?_
            refine dnot rfl (by first | rfl | exact hb11) ?_
            refine dnot rfl (by first | rfl | exact hb11) ?_
            refine d1 (pk_f (by first | rfl | exact hb11)) ?_
            exact d_join rfl (sub_ren [] [0, 1, 2, 3, 8, 9, 34] (by decide) rfl .nil (Nat.le_of_ble_eq_true rfl))
          · have h10 := cnd_t hb11 h10
            obtain ⟨_, h9, h10⟩ := bnd h10
            refine dg rfl (by first | rfl | exact hb11) rfl ?_
            refine dg rfl (by first | rfl | exact hb11) rfl ?_
            refine dg rfl (by first | rfl | exact hb11) rfl ?_
            exact nomatch h9
        · intro s hs12
          refine after_n ?_
          refine W.sub hs12 ?_
          refine w_false rfl rfl ?_
          refine w_exit ?_
          refine after_e ?_
          obtain rfl := Option.some.inj hr
          exact And.intro nofun (And.intro rfl (sub_ren [] [0, 1, 2, 3, 8] (by decide) rfl .nil (Nat.le_of_ble_eq_true rfl)))
    · have hr := cnd_f hb5 hr
      refine w_exit ?_
      refine after_e ?_
      obtain rfl := Option.some.inj hr
      exact And.intro nofun (And.intro rfl (sub_ren [] [] (by decide) rfl .nil (Nat.le_of_ble_eq_true rfl)))

noncomputable def slices_pdqsortCmpFunc_topo_Side_nil_topo_Near_1_L1 (a_1 : Int) (b_2 : Int) (limit_3 : Int) : Unit → Option (Sum (Unit) (Unit)) := fun _ =>
  bif decide ((wr .i64 (b_2 - a_1)) ≤ 12) then ((slices_insertionSortCmpFunc_topo_Side_nil_topo_Near_1 a_1 b_2).bind fun _ =>
  some (.inr ())) else
  (bif (limit_3 == 0) then (((none : Option Unit)).bind fun _ =>
  none) else
  (bif (!true) then (((none : Option Unit)).bind fun _ =>
  none) else
  (((none : Option Unit)).bind fun _ =>
  none)))

noncomputable def slices_pdqsortCmpFunc_topo_Side_nil_topo_Near_1 (a_1 : Int) (b_2 : Int) (limit_3 : Int) : Option (Unit) :=
  (loopO (slices_pdqsortCmpFunc_topo_Side_nil_topo_Near_1_L1 a_1 b_2 limit_3) ()).bind fun _ =>
  some ()
theorem slices_pdqsortCmpFunc_topo_Side_nil_topo_Near_1_ok {a_1 : Int} {b_2 : Int} {limit_3 : Int} (hp : slices_pdqsortCmpFunc_topo_Side_nil_topo_Near_1 a_1 b_2 limit_3 = some ()) : Good prog 94 [.mt (.d (.lit (.slice none 0 0))), .d (.lit (.int .i64 a_1)), .d (.lit (.int .i64 b_2)), .d (.lit (.int .i64 limit_3)), .d (.fn 77 [])] [] [.d (.lit (.slice none 0 0))] := by
  unfold slices_pdqsortCmpFunc_topo_Side_nil_topo_Near_1 at hp
  refine fn_good mixed e94 (fnS (m := []) (s := ⟨[(0, .c (.d (.lit (.slice none 0 0)))), (1, .c (.d (.lit (.int .i64 a_1)))), (2, .c (.d (.lit (.int .i64 b_2)))), (3, .c (.d (.lit (.int .i64 limit_3)))), (4, .c (.d (.fn 77 [])))], [], 0, [.d (.lit (.slice none 0 0))]⟩) (len := 1) (c := k94) rfl (Sub.of_eq rfl) rfl rfl ?_)
  refine w_seq ?_
  refine w_region ?_
  refine o1 rfl ?_
  refine o_end (e' := [(0, .c (.d (.lit (.slice none 0 0)))), (1, .c (.d (.lit (.int .i64 a_1)))), (2, .c (.d (.lit (.int .i64 b_2)))), (3, .c (.d (.lit (.int .i64 limit_3)))), (4, .c (.d (.fn 77 []))), (10, .c (.d (.lit (.bool true))))]) rfl rfl ?_
  refine after_n ?_
  refine w_seq ?_
  refine w_region ?_
  refine o1 rfl ?_
  refine o_end (e' := [(0, .c (.d (.lit (.slice none 0 0)))), (1, .c (.d (.lit (.int .i64 a_1)))), (2, .c (.d (.lit (.int .i64 b_2)))), (3, .c (.d (.lit (.int .i64 limit_3)))), (4, .c (.d (.fn 77 []))), (10, .c (.d (.lit (.bool true)))), (11, .c (.d (.lit (.bool true))))]) rfl rfl ?_
  refine after_n ?_
  refine w_block ?_
  obtain ⟨x1, h2, hp⟩ := bnd hp
  refine W.mono ?_ (w_loopS (st := fun (v : Unit) => match v with | _ => ⟨[(0, .c (.d (.lit (.slice none 0 0)))), (1, .c (.d (.lit (.int .i64 a_1)))), (2, .c (.d (.lit (.int .i64 b_2)))), (3, .c (.d (.lit (.int .i64 limit_3)))), (4, .c (.d (.fn 77 []))), (10, .c (.d (.lit (.bool true)))), (11, .c (.d (.lit (.bool true))))], [], 0, [.d (.lit (.slice none 0 0))]⟩) (a := ()) (Q := Jn (fun (x : Unit) o s => match x with | _ => o = Out.ret ∧ Sub s ⟨[], [], 0, [.d (.lit (.slice none 0 0))]⟩)) ?_ h2 ?_)
  · intro o s hs13
    obtain _ := x1
    obtain ⟨rfl, hs13⟩ := hs13
    refine out_r ?_
    refine wk.sub hs13 ?_
    exact leave_at rfl rfl pr_nil (pc_cons p_d pc_nil) rfl rfl
  · exact (sub_ren [] [0, 1, 2, 3, 4, 10, 11] (by decide) rfl .nil (Nat.le_of_ble_eq_true rfl))
  · rintro _ r hr
    unfold slices_pdqsortCmpFunc_topo_Side_nil_topo_Near_1_L1 at hr
    refine w_block ?_
    refine w_seq ?_
    refine w_region ?_
    iterate 2 refine o1 rfl ?_
    refine o1 (v := .c (.d (.lit (.int .i64 (wr .i64 (b_2 - a_1)))))) rfl ?_
    refine o1 rfl ?_
    refine o_end (e' := [(0, .c (.d (.lit (.slice none 0 0)))), (1, .c (.d (.lit (.int .i64 a_1)))), (2, .c (.d (.lit (.int .i64 b_2)))), (3, .c (.d (.lit (.int .i64 limit_3)))), (4, .c (.d (.fn 77 []))), (10, .c (.d (.lit (.bool true)))), (11, .c (.d (.lit (.bool true)))), (12, .c (.d (.lit (.int .i64 (wr .i64 (b_2 - a_1))))))]) rfl rfl ?_
    refine after_n ?_
    refine w_seq ?_
    refine w_seq ?_
    refine w_region ?_
    refine o1 rfl ?_
    refine o1 (v := .c (.d (.lit (.bool (decide ((wr .i64 (b_2 - a_1)) ≤ 12)))))) rfl ?_
    refine o_end (e' := [(0, .c (.d (.lit (.slice none 0 0)))), (1, .c (.d (.lit (.int .i64 a_1)))), (2, .c (.d (.lit (.int .i64 b_2)))), (3, .c (.d (.lit (.int .i64 limit_3)))), (4, .c (.d (.fn 77 []))), (10, .c (.d (.lit (.bool true)))), (11, .c (.d (.lit (.bool true)))), (12, .c (.d (.lit (.int .i64 (wr .i64 (b_2 - a_1)))))), (25, .c (.d (.lit (.bool (decide ((wr .i64 (b_2 - a_1)) ≤ 12))))))]) rfl rfl ?_
    refine after_n ?_
    refine w_cond (t := decide ((wr .i64 (b_2 - a_1)) ≤ 12)) rfl (fun hb3 => ?_) (fun hb3 => ?_)
    · have hr := cnd_t hb3 hr
      refine w_seq ?_
      obtain ⟨_, h4, hr⟩ := bnd hr
      refine w_region ?_
      iterate 4 refine o1 rfl ?_
      refine oc (rs := []) (outs := [.d (.lit (.slice none 0 0))]) rfl (slices_insertionSortCmpFunc_topo_Side_nil_topo_Near_1_ok h4) rfl ?_
      refine o_end (e' := []) rfl rfl ?_
      refine after_n ?_
      refine w_ret ?_
      refine after_r ?_
      refine out_r ?_
      obtain rfl := Option.some.inj hr
      exact And.intro nofun (And.intro rfl (sub_ren [] [] (by decide) rfl .nil (Nat.le_of_ble_eq_true rfl)))
    · have hr := cnd_f hb3 hr
      refine w_skip ?_
      refine after_n ?_
      refine w_seq ?_
      refine w_seq ?_
      refine w_region ?_
      refine o1 rfl ?_
      refine o1 (v := .c (.d (.lit (.bool (limit_3 == 0))))) rfl ?_
      refine o_end (e' := [(0, .c (.d (.lit (.slice none 0 0)))), (1, .c (.d (.lit (.int .i64 a_1)))), (2, .c (.d (.lit (.int .i64 b_2)))), (3, .c (.d (.lit (.int .i64 limit_3)))), (4, .c (.d (.fn 77 []))), (10, .c (.d (.lit (.bool true)))), (11, .c (.d (.lit (.bool true)))), (12, .c (.d (.lit (.int .i64 (wr .i64 (b_2 - a_1)))))), (32, .c (.d (.lit (.bool (limit_3 == 0)))))]) rfl rfl ?_
      refine after_n ?_
      refine w_cond (t := (limit_3 == 0)) rfl (fun hb5 => ?_) (fun hb5 => ?_)
      · have hr := cnd_t hb5 hr
        refine w_seq ?_
        obtain ⟨_, h7, hr⟩ := bnd hr
        exact nomatch h7
      · have hr := cnd_f hb5 hr
        refine w_skip ?_
        refine after_n ?_
        refine w_seq ?_
        refine w_seq ?_
        refine w_region ?_
        refine o1 rfl ?_
        refine o1 (v := .c (.d (.lit (.bool (!true))))) rfl ?_
        refine o_end (e' := [(0, .c (.d (.lit (.slice none 0 0)))), (1, .c (.d (.lit (.int .i64 a_1)))), (2, .c (.d (.lit (.int .i64 b_2)))), (3, .c (.d (.lit (.int .i64 limit_3)))), (4, .c (.d (.fn 77 []))), (10, .c (.d (.lit (.bool true)))), (11, .c (.d (.lit (.bool true)))), (12, .c (.d (.lit (.int .i64 (wr .i64 (b_2 - a_1)))))), (39, .c (.d (.lit (.bool (!true)))))]) rfl rfl ?_
        refine after_n ?_
        refine w_cond (t := (!true)) rfl (fun hb8 => ?_) (fun hb8 => ?_)
        · have hr := cnd_t hb8 hr
          refine w_seq ?_
          obtain ⟨_, h10, hr⟩ := bnd hr
          exact nomatch h10
        · have hr := cnd_f hb8 hr
          refine w_skip ?_
          refine after_n ?_
          refine w_seq ?_
          obtain ⟨_, h12, hr⟩ := bnd hr
          exact nomatch h12

noncomputable def slices_SortFunc_topo_Side_topo_Side_nil_topo_Near_1 : Option (Unit) :=
  (math_bits_Len (wr .u64 0)).bind fun r1 =>
  (slices_pdqsortCmpFunc_topo_Side_nil_topo_Near_1 0 0 r1).bind fun _ =>
  some ()
theorem slices_SortFunc_topo_Side_topo_Side_nil_topo_Near_1_ok (hp : slices_SortFunc_topo_Side_topo_Side_nil_topo_Near_1 = some ()) : Good prog 76 [.mt (.d (.lit (.slice none 0 0))), .d (.fn 77 [])] [] [.d (.lit (.slice none 0 0))] := by
  unfold slices_SortFunc_topo_Side_topo_Side_nil_topo_Near_1 at hp
  refine fn_good mixed e76 (fnS (m := []) (s := ⟨[(0, .c (.d (.lit (.slice none 0 0)))), (1, .c (.d (.fn 77 [])))], [], 0, [.d (.lit (.slice none 0 0))]⟩) (len := 1) (c := k76) rfl (Sub.of_eq rfl) rfl rfl ?_)
  refine w_seq ?_
  refine w_region ?_
  refine o1 rfl ?_
  refine o1 (v := .c (.d (.lit (.int .i64 0)))) rfl ?_
  refine o1 rfl ?_
  refine o_end (e' := [(0, .c (.d (.lit (.slice none 0 0)))), (1, .c (.d (.fn 77 []))), (4, .c (.d (.lit (.int .i64 0))))]) rfl rfl ?_
  refine after_n ?_
  obtain ⟨r1, h2, hp⟩ := bnd hp
  obtain ⟨_, h3, hp⟩ := bnd hp
  refine w_region ?_
  iterate 3 refine o1 rfl ?_
  refine o1 (v := .c (.d (.lit (.int .u64 (wr .u64 0))))) rfl ?_
  refine oc (rs := [.c (.d (.lit (.int .i64 r1)))]) (outs := []) rfl (math_bits_Len_ok h2) rfl ?_
  refine o1 rfl ?_
  refine oc (rs := []) (outs := [.d (.lit (.slice none 0 0))]) rfl (slices_pdqsortCmpFunc_topo_Side_nil_topo_Near_1_ok h3) rfl ?_
  refine o_end (e' := []) rfl rfl ?_
  exact leave_at rfl rfl pr_nil (pc_cons p_d pc_nil) rfl rfl

end Go.Proofs.Ytjfhiochcdjkhaa.T
