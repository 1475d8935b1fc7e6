/- What functions of the program compute, and that the model's run computes it. Conditions: as stated. -/
import Derived.Test.YthcplpfiidlinaaLS
import Derived.Test.YthcplpfiidlinaaChecked
import Derived.KernelRfl
open Go.Ev Go
namespace Go.Proofs.Ythcplpfiidlinaa.L
noncomputable abbrev prog : Program := Try.prog
theorem q0t : prog.follows .mixedOrders = true := by kernel_rfl
theorem q0y : q6j := qwz fun _ => rfl
def sig : Sig := fun f =>
 if f = 3 then (true, []) else if f = 6 then (true, []) else if f = 7 then (true, []) else if f = 8 then (true, []) else if f = 10 then (true, []) else if f = 11 then (true, []) else if f = 12 then (true, []) else if f = 15 then (true, []) else if f = 16 then (true, []) else if f = 17 then (true, []) else if f = 21 then (true, []) else if f = 24 then (true, []) else if f = 25 then (true, []) else if f = 26 then (true, []) else if f = 27 then (true, []) else if f = 30 then (true, []) else if f = 32 then (true, []) else if f = 35 then (false, [true, false]) else if f = 37 then (true, []) else if f = 38 then (true, []) else if f = 42 then (true, []) else if f = 43 then (true, []) else if f = 47 then (true, []) else if f = 49 then (true, []) else if f = 50 then (true, []) else if f = 52 then (true, []) else if f = 53 then (true, []) else if f = 54 then (false, [true]) else if f = 55 then (false, [true]) else if f = 61 then (true, []) else if f = 62 then (true, []) else if f = 63 then (true, []) else if f = 64 then (true, []) else if f = 68 then (true, []) else if f = 71 then (true, []) else if f = 72 then (true, []) else if f = 74 then (true, []) else if f = 75 then (true, []) else if f = 76 then (true, []) else if f = 89 then (true, []) else if f = 90 then (true, []) else if f = 91 then (true, []) else if f = 103 then (true, []) else if f = 109 then (true, []) else if f = 110 then (true, []) else if f = 111 then (true, []) else if f = 112 then (true, []) else if f = 117 then (true, []) else if f = 118 then (true, []) else (false, [])
@[reducible] def api_Link : Type := Int × Int × Int × Int × Int × Int
@[reducible] def api_Link.A (x : api_Link) : Int := x.1
@[reducible] def api_Link.PortA (x : api_Link) : Int := x.2.1
@[reducible] def api_Link.B (x : api_Link) : Int := x.2.2.1
@[reducible] def api_Link.PortB (x : api_Link) : Int := x.2.2.2.1
@[reducible] def api_Link.Least (x : api_Link) : Int := x.2.2.2.2.1
@[reducible] def api_Link.Most (x : api_Link) : Int := x.2.2.2.2.2
@[reducible] def api_Host : Type := Int × Int
@[reducible] def api_Host.At (x : api_Host) : Int := x.1
@[reducible] def api_Host.Port (x : api_Host) : Int := x.2
@[reducible] def api_Topo : Type := Int × Sl api_Link × Sl api_Host
@[reducible] def api_Topo.Switches (x : api_Topo) : Int := x.1
@[reducible] def api_Topo.Links (x : api_Topo) : Sl api_Link := x.2.1
@[reducible] def api_Topo.Hosts (x : api_Topo) : Sl api_Host := x.2.2
@[reducible] def y1 : Ty := .st (.pr (.i .i64) (.pr (.i .i64) (.pr (.i .i64) (.pr (.i .i64) (.pr (.i .i64) (.i .i64))))))
@[reducible] def y2 : Ty := .st (.pr (.i .i64) (.i .i64))
@[reducible] def y0 : Ty := .st (.pr (.i .i64) (.pr (.sl y1) (.sl y2)))
@[reducible] def topo_place : Type := Int × Int
@[reducible] def topo_place.sw (x : topo_place) : Int := x.1
@[reducible] def topo_place.port (x : topo_place) : Int := x.2
@[reducible] def level_Move : Type := Int × Int × Int × Int
@[reducible] def level_Move.Sw (x : level_Move) : Int := x.1
@[reducible] def level_Move.Host (x : level_Move) : Int := x.2.1
@[reducible] def level_Move.Port (x : level_Move) : Int := x.2.2.1
@[reducible] def level_Move.Round (x : level_Move) : Int := x.2.2.2
@[reducible] def y3 : Ty := .st (.pr (.i .i64) (.pr (.i .i64) (.pr (.i .i64) (.i .i64))))
@[reducible] def plan_Round : Type := Int × Int × Sl Int
@[reducible] def plan_Round.No (x : plan_Round) : Int := x.1
@[reducible] def plan_Round.At (x : plan_Round) : Int := x.2.1
@[reducible] def plan_Round.Sws (x : plan_Round) : Sl Int := x.2.2
@[reducible] def plan_Plan : Type := Sl level_Move × Sl plan_Round × Int × Int × Int × Int
@[reducible] def plan_Plan.Moves (x : plan_Plan) : Sl level_Move := x.1
@[reducible] def plan_Plan.Rounds (x : plan_Plan) : Sl plan_Round := x.2.1
@[reducible] def plan_Plan.Miss (x : plan_Plan) : Int := x.2.2.1
@[reducible] def plan_Plan.Life (x : plan_Plan) : Int := x.2.2.2.1
@[reducible] def plan_Plan.From (x : plan_Plan) : Int := x.2.2.2.2.1
@[reducible] def plan_Plan.To (x : plan_Plan) : Int := x.2.2.2.2.2
@[reducible] def diff_After : Type := Int × Int × Int
@[reducible] def diff_After.I (x : diff_After) : Int := x.1
@[reducible] def diff_After.J (x : diff_After) : Int := x.2.1
@[reducible] def diff_After.Gap (x : diff_After) : Int := x.2.2
@[reducible] def y4 : Ty := .st (.pr (.i .i64) (.pr (.i .i64) (.i .i64)))
@[reducible] def y6 : Ty := .st (.pr (.i .i64) (.pr (.i .i64) (.sl (.i .i64))))
@[reducible] def y5 : Ty := .st (.pr (.sl y3) (.pr (.sl y6) (.pr (.i .i64) (.pr (.i .i64) (.pr (.i .i64) (.i .i64))))))
@[reducible] def y7 : Ty := .st (.pr (.i .i64) (.pr (.ar 4 (.i .i64)) (.ar 4 (.i .i64))))
@[reducible] def api_Match : Type := Int × Arr 4 Int × Arr 4 Int
@[reducible] def api_Match.Port (x : api_Match) : Int := x.1
@[reducible] def api_Match.Val (x : api_Match) : Arr 4 Int := x.2.1
@[reducible] def api_Match.Mask (x : api_Match) : Arr 4 Int := x.2.2
@[reducible] def api_Act : Type := Int × Int × Int
@[reducible] def api_Rule : Type := Int × api_Match × Sl api_Act
@[reducible] def api_Rule.Prio (x : api_Rule) : Int := x.1
@[reducible] def api_Rule.M (x : api_Rule) : api_Match := x.2.1
@[reducible] def y8 : Ty := .st (.pr (.i .i64) (.pr y7 (.sl y4)))
@[reducible] def api_Mod : Type := Int × api_Rule × Bool
@[reducible] def y9 : Ty := .st (.pr (.i .i64) (.pr y8 .b))
@[reducible] def plan_Part : Type := Int × Sl api_Mod
@[reducible] def y10 : Ty := .st (.pr (.i .i64) (.sl y9))
@[reducible] def ref23_Move : Type := Int × Int × Int × Int
@[reducible] def ref23_Move.Sw (x : ref23_Move) : Int := x.1
@[reducible] def ref23_Move.Host (x : ref23_Move) : Int := x.2.1
@[reducible] def ref23_Move.Port (x : ref23_Move) : Int := x.2.2.1
@[reducible] def ref23_Move.Round (x : ref23_Move) : Int := x.2.2.2
@[reducible] def ref24_Round : Type := Int × Int × Sl Int
@[reducible] def ref24_Round.No (x : ref24_Round) : Int := x.1
@[reducible] def ref24_Round.At (x : ref24_Round) : Int := x.2.1
@[reducible] def ref24_Round.Sws (x : ref24_Round) : Sl Int := x.2.2
@[reducible] def ref24_Plan : Type := Sl ref23_Move × Sl ref24_Round × Int × Int × Int × Int
@[reducible] def ref24_Plan.Moves (x : ref24_Plan) : Sl ref23_Move := x.1
@[reducible] def ref24_Plan.Rounds (x : ref24_Plan) : Sl ref24_Round := x.2.1
@[reducible] def ref24_Plan.Miss (x : ref24_Plan) : Int := x.2.2.1
@[reducible] def ref24_Plan.Life (x : ref24_Plan) : Int := x.2.2.2.1
@[reducible] def ref24_Plan.From (x : ref24_Plan) : Int := x.2.2.2.2.1
@[reducible] def ref24_Plan.To (x : ref24_Plan) : Int := x.2.2.2.2.2
noncomputable def q51 (r_1 : Sl (Sl Int)) : Int → Option (Int ⊕ (Bool ⊕ Unit)) := fun i2 =>
 bif decide (i2 < (r_1.l.length : Int)) then ((ixI i2 r_1.l.length).bind fun n3 =>
 bif decide ((((gt r_1.l n3).l).length : Int) > 12) then (some (.inr (.inl false))) else
 (some (.inl (wr .i64 (i2 + 1))))) else
 (some (.inr (.inr ())))
noncomputable def q69 (t_0 : api_Topo) (r_1 : Sl (Sl Int)) : Option Bool :=
 (q0e (q51 r_1) 0).bind fun
 | .inl b4 => (some b4)
 | .inr _ => (some (((decide ((((api_Topo.Links t_0).l).length : Int) ≤ 30)) && (decide ((((api_Topo.Hosts t_0).l).length : Int) ≤ 12))) && (decide ((r_1.l.length : Int) ≤ 12))))
noncomputable def sp0 : Spc := ⟨[(false, .x y0), (false, .x (.sl (.sl (.i .i64))))], [([.x .b], [])], true, [], fun p => match p with | (t_0, r_1) => q69 t_0 r_1⟩
theorem ok0 : q0l prog 10 sp0 := q0g q0t q0y (sig := sig) (np := 2) (an := [(5, { j := some { vs := [(5, .x (.i .i64))] }, e := [(.ret, { vs := [(4, .x .b)] }), (.exit 0, {})] })]) .nil (by kernel_rfl) (by kernel_rfl)
noncomputable def q4e (t_0 : api_Topo) (sw_1 : Int) (p_2 : Int) : (Int × Int) → Option ((Int × Int) ⊕ Int) := fun (i3, i4) =>
 bif decide (i4 < (((api_Topo.Links t_0).l).length : Int)) then (((ixI i4 ((api_Topo.Links t_0).l).length).bind fun n5 =>
 (bif (((api_Link.A (gt ((api_Topo.Links t_0).l) n5)) == sw_1) && ((api_Link.PortA (gt ((api_Topo.Links t_0).l) n5)) == p_2)) then (some (wr .i64 (i3 + 1))) else
 (some i3) : Option Int).bind fun i6 =>
 bif (((api_Link.B (gt ((api_Topo.Links t_0).l) n5)) == sw_1) && ((api_Link.PortB (gt ((api_Topo.Links t_0).l) n5)) == p_2)) then (some (wr .i64 (i6 + 1))) else
 (some i6) : Option Int).bind fun i7 =>
 some (.inl (i7, wr .i64 (i4 + 1)))) else
 (some (.inr i3))
noncomputable def q42 (t_0 : api_Topo) (sw_1 : Int) (p_2 : Int) : (Int × Int) → Option ((Int × Int) ⊕ Int) := fun (i11, i12) =>
 bif decide (i12 < (((api_Topo.Hosts t_0).l).length : Int)) then ((((ixI i12 ((api_Topo.Hosts t_0).l).length).bind fun n13 =>
 bif ((api_Host.At (gt ((api_Topo.Hosts t_0).l) n13)) == sw_1) then ((ixI i12 ((api_Topo.Hosts t_0).l).length).bind fun n14 =>
 some ((api_Host.Port (gt ((api_Topo.Hosts t_0).l) n14)) == p_2)) else
 (some false) : Option Bool).bind fun b15 =>
 bif b15 then (some (wr .i64 (i11 + 1))) else
 (some i11) : Option Int).bind fun i16 =>
 some (.inl (i16, wr .i64 (i12 + 1)))) else
 (some (.inr i11))
noncomputable def q5t (t_0 : api_Topo) (sw_1 : Int) (p_2 : Int) : Option Bool :=
 (q0e (q4e t_0 sw_1 p_2) (0, 0)).bind fun i8 =>
 (q0e (q42 t_0 sw_1 p_2) (i8, 0)).bind fun i17 =>
 some (((((decide (sw_1 ≥ 0)) && (decide (sw_1 < (api_Topo.Switches t_0)))) && (decide (p_2 ≥ 0))) && (decide (p_2 ≤ 7))) && (i17 == 1))
noncomputable def sp1 : Spc := ⟨[(false, .x y0), (false, .x (.i .i64)), (false, .x (.i .i64))], [([.x .b], [])], true, [], fun p => match p with | (t_0, sw_1, p_2) => q5t t_0 sw_1 p_2⟩
theorem ok1 : q0l prog 71 sp1 := q0g q0t q0y (sig := sig) (np := 3) (an := [(7, { j := some { vs := [(7, .x (.i .i64)), (8, .x (.i .i64))] }, e := [(.exit 0, { vs := [(7, .x (.i .i64))] })] }), (11, { e := [(.normal, { vs := [(7, .x (.i .i64))] })] }), (14, { e := [(.normal, { vs := [(7, .x (.i .i64))] })] }), (25, { j := some { vs := [(7, .x (.i .i64)), (10, .x (.i .i64))] }, e := [(.exit 2, { vs := [(7, .x (.i .i64))] })] }), (29, { e := [(.normal, { vs := [(7, .x (.i .i64))] })] }), (31, { j := some { vs := [(71, .x .b)] } })]) .nil (by kernel_rfl) (by kernel_rfl)
noncomputable def q52 (t_0 : api_Topo) : Int → Option (Int ⊕ (Bool ⊕ Unit)) := fun i2 =>
 bif decide (i2 < (((api_Topo.Links t_0).l).length : Int)) then ((ixI i2 ((api_Topo.Links t_0).l).length).bind fun n3 =>
 (bif (((((api_Link.A (gt ((api_Topo.Links t_0).l) n3)) == (api_Link.B (gt ((api_Topo.Links t_0).l) n3))) || (decide ((api_Link.Least (gt ((api_Topo.Links t_0).l) n3)) < 1))) || (decide ((api_Link.Least (gt ((api_Topo.Links t_0).l) n3)) > (api_Link.Most (gt ((api_Topo.Links t_0).l) n3))))) || (decide ((api_Link.Most (gt ((api_Topo.Links t_0).l) n3)) > 1000))) then (some true) else
 ((q5t t_0 (api_Link.A (gt ((api_Topo.Links t_0).l) n3)) (api_Link.PortA (gt ((api_Topo.Links t_0).l) n3))).bind fun r4 =>
 bif (!r4) then (some true) else
 ((q5t t_0 (api_Link.B (gt ((api_Topo.Links t_0).l) n3)) (api_Link.PortB (gt ((api_Topo.Links t_0).l) n3))).bind fun r5 =>
 some (!r5))) : Option Bool).bind fun b6 =>
 bif b6 then (some (.inr (.inl false))) else
 (some (.inl (wr .i64 (i2 + 1))))) else
 (some (.inr (.inr ())))
noncomputable def q4y (t_0 : api_Topo) : Int → Option (Int ⊕ (Bool ⊕ Unit)) := fun i9 =>
 bif decide (i9 < (((api_Topo.Hosts t_0).l).length : Int)) then ((ixI i9 ((api_Topo.Hosts t_0).l).length).bind fun n10 =>
 (ixI i9 ((api_Topo.Hosts t_0).l).length).bind fun n11 =>
 (q5t t_0 (api_Host.At (gt ((api_Topo.Hosts t_0).l) n10)) (api_Host.Port (gt ((api_Topo.Hosts t_0).l) n11))).bind fun r12 =>
 bif (!r12) then (some (.inr (.inl false))) else
 (some (.inl (wr .i64 (i9 + 1))))) else
 (some (.inr (.inr ())))
noncomputable def q7z (t_0 : api_Topo) : Option Bool :=
 bif ((((decide ((api_Topo.Switches t_0) < 1)) || (decide ((api_Topo.Switches t_0) > 8))) || (decide ((((api_Topo.Links t_0).l).length : Int) > 24))) || (decide ((((api_Topo.Hosts t_0).l).length : Int) > 8))) then (some false) else
 ((q0e (q52 t_0) 0).bind fun
 | .inl b7 => (some b7)
 | .inr _ => ((q0e (q4y t_0) 0).bind fun
 | .inl b13 => (some b13)
 | .inr _ => (some true)))
noncomputable def sp2 : Spc := ⟨[(false, .x y0)], [([.x .b], [])], true, [], fun p => match p with | t_0 => q7z t_0⟩
theorem ok2 : q0l prog 52 sp2 := q0g q0t q0y (sig := sig) (np := 1) (an := [(10, { j := some { vs := [(3, .x (.i .i64))] }, e := [(.ret, { vs := [(2, .x .b)] }), (.exit 0, {})] }), (18, { j := some { vs := [(77, .x .b)] } }), (25, { j := some { vs := [(5, .x (.i .i64))] }, e := [(.ret, { vs := [(2, .x .b)] }), (.exit 2, {})] })]) (.cons ok1 .nil) (by kernel_rfl) (by kernel_rfl)
noncomputable def q4z (r_1 : Sl (Sl Int)) (i3 : Int) : Int → Option (Int ⊕ (Bool ⊕ Unit)) := fun i6 =>
 (ixI i3 r_1.l.length).bind fun n7 =>
 bif decide (i6 < (((gt r_1.l n7).l).length : Int)) then (((ixI i3 r_1.l.length).bind fun n8 =>
 (ixI i6 ((gt r_1.l n8).l).length).bind fun n9 =>
 bif decide ((gt ((gt r_1.l n8).l) n9) < 0) then (some true) else
 ((ixI i3 r_1.l.length).bind fun n10 =>
 (ixI i6 ((gt r_1.l n10).l).length).bind fun n11 =>
 some (decide ((gt ((gt r_1.l n10).l) n11) > 7))) : Option Bool).bind fun b12 =>
 bif b12 then (some (.inr (.inl false))) else
 (some (.inl (wr .i64 (i6 + 1))))) else
 (some (.inr (.inr ())))
noncomputable def q53 (t_0 : api_Topo) (r_1 : Sl (Sl Int)) : Int → Option (Int ⊕ (Bool ⊕ Unit)) := fun i3 =>
 bif decide (i3 < (r_1.l.length : Int)) then ((ixI i3 r_1.l.length).bind fun n4 =>
 bif ((((gt r_1.l n4).l).length : Int) != (((api_Topo.Hosts t_0).l).length : Int)) then (some (.inr (.inl false))) else
 ((q0e (q4z r_1 i3) 0).bind fun
 | .inl b13 => (some (.inr (.inl b13)))
 | .inr _ => (some (.inl (wr .i64 (i3 + 1)))))) else
 (some (.inr (.inr ())))
noncomputable def q6f (t_0 : api_Topo) (r_1 : Sl (Sl Int)) : Option Bool :=
 (q7z t_0).bind fun r1 =>
 bif ((!r1) || ((r_1.l.length : Int) != (api_Topo.Switches t_0))) then (some false) else
 ((q0e (q53 t_0 r_1) 0).bind fun
 | .inl b14 => (some b14)
 | .inr _ => (some true))
noncomputable def sp3 : Spc := ⟨[(false, .x y0), (false, .x (.sl (.sl (.i .i64))))], [([.x .b], [])], true, [], fun p => match p with | (t_0, r_1) => q6f t_0 r_1⟩
theorem ok3 : q0l prog 30 sp3 := q0g q0t q0y (sig := sig) (np := 2) (an := [(10, { j := some { vs := [(5, .x (.i .i64))] }, e := [(.ret, { vs := [(4, .x .b)] }), (.exit 0, {})] }), (22, { j := some { vs := [(6, .x (.i .i64))] }, e := [(.ret, { vs := [(4, .x .b)] }), (.exit 2, {})] }), (28, { j := some { vs := [(58, .x .b)] } })]) (.cons ok2 .nil) (by kernel_rfl) (by kernel_rfl)
noncomputable def q5h (t_0 : api_Topo) (sw_1 : Int) (p_2 : Int) : Int → Option (Int ⊕ ((Int × Int × Int × Bool) ⊕ Unit)) := fun i2 =>
 bif decide (i2 < (((api_Topo.Links t_0).l).length : Int)) then ((ixI i2 ((api_Topo.Links t_0).l).length).bind fun n3 =>
 bif (((api_Link.A (gt ((api_Topo.Links t_0).l) n3)) == sw_1) && ((api_Link.PortA (gt ((api_Topo.Links t_0).l) n3)) == p_2)) then (some (.inr (.inl (api_Link.B (gt ((api_Topo.Links t_0).l) n3), api_Link.PortB (gt ((api_Topo.Links t_0).l) n3), i2, true)))) else
 (bif (((api_Link.B (gt ((api_Topo.Links t_0).l) n3)) == sw_1) && ((api_Link.PortB (gt ((api_Topo.Links t_0).l) n3)) == p_2)) then (some (.inr (.inl (api_Link.A (gt ((api_Topo.Links t_0).l) n3), api_Link.PortA (gt ((api_Topo.Links t_0).l) n3), i2, true)))) else
 (some (.inl (wr .i64 (i2 + 1)))))) else
 (some (.inr (.inr ())))
noncomputable def q9n (t_0 : api_Topo) (sw_1 : Int) (p_2 : Int) : Option (Int × Int × Int × Bool) :=
 (q0e (q5h t_0 sw_1 p_2) 0).bind fun
 | .inl (i4, i5, i6, b7) => (some (i4, i5, i6, b7))
 | .inr _ => (some (0, 0, 0, false))
noncomputable def sp4 : Spc := ⟨[(false, .x y0), (false, .x (.i .i64)), (false, .x (.i .i64))], [([.x (.i .i64), .x (.i .i64), .x (.i .i64), .x .b], [])], true, [], fun p => match p with | (t_0, sw_1, p_2) => q9n t_0 sw_1 p_2⟩
theorem ok4 : q0l prog 15 sp4 := q0g q0t q0y (sig := sig) (np := 3) (an := [(5, { j := some { vs := [(10, .x (.i .i64))] }, e := [(.ret, { vs := [(6, .x (.i .i64)), (7, .x (.i .i64)), (8, .x (.i .i64)), (9, .x .b)] }), (.exit 0, {})] })]) .nil (by kernel_rfl) (by kernel_rfl)
noncomputable def q9x (t_0 : api_Topo) (r_1 : Sl (Sl Int)) (sw_2 : Int) (h_3 : Int) : Option (Int × Bool) :=
 (bif (((decide (sw_2 < 0)) || (decide (sw_2 ≥ (r_1.l.length : Int)))) || (decide (h_3 < 0))) then (some true) else
 ((ixI sw_2 r_1.l.length).bind fun n1 =>
 some (decide (h_3 ≥ (((gt r_1.l n1).l).length : Int)))) : Option Bool).bind fun b2 =>
 bif b2 then (some (0, false)) else
 ((ixI sw_2 r_1.l.length).bind fun n3 =>
 (ixI h_3 ((gt r_1.l n3).l).length).bind fun n4 =>
 (q9n t_0 sw_2 (gt ((gt r_1.l n3).l) n4)).bind fun (r5, r6, r7, r8) =>
 some (r5, r8))
noncomputable def sp5 : Spc := ⟨[(false, .x y0), (false, .x (.sl (.sl (.i .i64)))), (false, .x (.i .i64)), (false, .x (.i .i64))], [([.x (.i .i64), .x .b], [])], true, [], fun p => match p with | (t_0, r_1, sw_2, h_3) => q9x t_0 r_1 sw_2 h_3⟩
theorem ok5 : q0l prog 72 sp5 := q0g q0t q0y (sig := sig) (np := 4) (an := [(4, { j := some { vs := [(34, .x .b)] } })]) (.cons ok4 .nil) (by kernel_rfl) (by kernel_rfl)
noncomputable def q24 (t_0 : api_Topo) (r_1 : Sl (Sl Int)) (h_3 : Int) (n_4 : Int) : (Int × Int) → Option ((Int × Int) ⊕ ((Int × Bool) ⊕ Int)) := fun (i3, i4) =>
 bif decide (i4 ≤ n_4) then (((ixI h_3 ((api_Topo.Hosts t_0).l).length).bind fun n5 =>
 bif ((api_Host.At (gt ((api_Topo.Hosts t_0).l) n5)) == i3) then ((ixI h_3 ((api_Topo.Hosts t_0).l).length).bind fun n6 =>
 (ixI i3 r_1.l.length).bind fun n7 =>
 (ixI h_3 ((gt r_1.l n7).l).length).bind fun n8 =>
 some ((api_Host.Port (gt ((api_Topo.Hosts t_0).l) n6)) == (gt ((gt r_1.l n7).l) n8))) else
 (some false) : Option Bool).bind fun b9 =>
 bif b9 then (some (.inr (.inl (i3, (i4 == n_4))))) else
 (bif (i4 == n_4) then (some (.inr (.inl (i3, false)))) else
 ((q9x t_0 r_1 i3 h_3).bind fun (r10, r11) =>
 bif (!r11) then (some (.inr (.inl ((-1), false)))) else
 (some (.inl (r10, wr .i64 (i4 + 1))))))) else
 (some (.inr (.inr i3)))
noncomputable def q61 (t_0 : api_Topo) (r_1 : Sl (Sl Int)) (sw_2 : Int) (h_3 : Int) (n_4 : Int) : Option (Int × Bool) :=
 (q0e (q24 t_0 r_1 h_3 n_4) (sw_2, 0)).bind fun
 | .inl (i12, b13) => (some (i12, b13))
 | .inr i14 => (some (i14, false))
noncomputable def sp6 : Spc := ⟨[(false, .x y0), (false, .x (.sl (.sl (.i .i64)))), (false, .x (.i .i64)), (false, .x (.i .i64)), (false, .x (.i .i64))], [([.x (.i .i64), .x .b], [])], true, [], fun p => match p with | (t_0, r_1, sw_2, h_3, n_4) => q61 t_0 r_1 sw_2 h_3 n_4⟩
theorem ok6 : q0l prog 53 sp6 := q0g q0t q0y (sig := sig) (np := 5) (an := [(7, { j := some { vs := [(12, .x (.i .i64)), (13, .x (.i .i64))] }, e := [(.ret, { vs := [(10, .x (.i .i64)), (11, .x .b)] }), (.exit 0, { vs := [(12, .x (.i .i64))] })] }), (14, { j := some { vs := [(45, .x .b)] } })]) (.cons ok5 .nil) (by kernel_rfl) (by kernel_rfl)
noncomputable def q0u (t_0 : api_Topo) (r_1 : Sl (Sl Int)) (sw_2 : Int) (h_3 : Int) : (Int × Sl Int) → Option ((Int × Sl Int) ⊕ ((Int × Sl Int) ⊕ Unit)) := fun (i5, s6) =>
 bif decide (i5 < (api_Topo.Switches t_0)) then ((q61 t_0 r_1 sw_2 h_3 i5).bind fun (r7, r8) =>
 bif (r7 == (-1)) then (some (.inr (.inl (13, Sl.nil)))) else
 ((q8m (s6.l ++ [r7])).bind fun l9 =>
 bif r8 then (some (.inr (.inl (0, (Sl.mk l9))))) else
 (some (.inl (wr .i64 (i5 + 1), (Sl.mk l9)))))) else
 (some (.inr (.inr ())))
noncomputable def q3e (t_0 : api_Topo) (r_1 : Sl (Sl Int)) (sw_2 : Int) (h_3 : Int) : Option (Sl Int × Int) :=
 (q6f t_0 r_1).bind fun r1 =>
 bif (((((!r1) || (decide (sw_2 < 0))) || (decide (sw_2 ≥ (r_1.l.length : Int)))) || (decide (h_3 < 0))) || (decide (h_3 ≥ (((api_Topo.Hosts t_0).l).length : Int)))) then (some (Sl.nil, 2)) else
 ((q0e (q0u t_0 r_1 sw_2 h_3) (0, Sl.nil)).bind fun
 | .inl (i10, s11) => (some (s11, i10))
 | .inr _ => ((q61 t_0 r_1 sw_2 h_3 (api_Topo.Switches t_0)).bind fun (r12, r13) =>
 bif (r12 == (-1)) then (some (Sl.nil, 13)) else
 (some (Sl.nil, 12))))
noncomputable def sp7 : Spc := ⟨[(false, .x y0), (false, .x (.sl (.sl (.i .i64)))), (false, .x (.i .i64)), (false, .x (.i .i64))], [([.x (.sl (.i .i64)), .x (.i .i64)], [])], false, [], fun p => match p with | (t_0, r_1, sw_2, h_3) => q3e t_0 r_1 sw_2 h_3⟩
theorem ok7 : q0l prog 31 sp7 := q0g q0t q0y (sig := sig) (np := 4) (an := [(12, { j := some { vs := [(10, .so 0), (11, .x (.i .i64))], os := [.ar (.i .i64)] }, e := [(.ret, { vs := [(8, .so 0), (9, .x (.i .i64))], os := [.ar (.i .i64)] }), (.exit 0, {})] })]) (.cons ok3 (.cons ok6 .nil)) (by kernel_rfl) (by kernel_rfl)
noncomputable def q3c (t_0 : api_Topo) (r_1 : Sl (Sl Int)) (i3 : Int) : Int → Option (Int ⊕ (Bool ⊕ Unit)) := fun i5 =>
 bif decide (i5 < (((api_Topo.Hosts t_0).l).length : Int)) then ((q3e t_0 r_1 i3 i5).bind fun (r6, r7) =>
 bif (r7 != 0) then (some (.inr (.inl false))) else
 (some (.inl (wr .i64 (i5 + 1))))) else
 (some (.inr (.inr ())))
noncomputable def q5f (t_0 : api_Topo) (r_1 : Sl (Sl Int)) : Int → Option (Int ⊕ (Bool ⊕ Unit)) := fun i3 =>
 bif decide (i3 < (r_1.l.length : Int)) then ((q0e (q3c t_0 r_1 i3) 0).bind fun
 | .inl b8 => (some (.inr (.inl b8)))
 | .inr _ => (some (.inl (wr .i64 (i3 + 1))))) else
 (some (.inr (.inr ())))
noncomputable def q7j (t_0 : api_Topo) (r_1 : Sl (Sl Int)) : Option Bool :=
 (q6f t_0 r_1).bind fun r1 =>
 bif (!r1) then (some false) else
 ((q0e (q5f t_0 r_1) 0).bind fun
 | .inl b9 => (some b9)
 | .inr _ => (some true))
noncomputable def sp8 : Spc := ⟨[(false, .x y0), (false, .x (.sl (.sl (.i .i64))))], [([.x .b], [])], true, [], fun p => match p with | (t_0, r_1) => q7j t_0 r_1⟩
theorem ok8 : q0l prog 11 sp8 := q0g q0t q0y (sig := sig) (np := 2) (an := [(10, { j := some { vs := [(5, .x (.i .i64))] }, e := [(.ret, { vs := [(4, .x .b)] }), (.exit 0, {})] }), (17, { j := some { vs := [(6, .x (.i .i64))] }, e := [(.ret, { vs := [(4, .x .b)] }), (.exit 2, {})] })]) (.cons ok3 (.cons ok7 .nil)) (by kernel_rfl) (by kernel_rfl)
noncomputable def q3n (t_0 : api_Topo) : (Int × Sl topo_place) → Option ((Int × Sl topo_place) ⊕ (Sl topo_place)) := fun (i4, s5) =>
 bif decide (i4 < (((api_Topo.Links t_0).l).length : Int)) then ((ixI i4 ((api_Topo.Links t_0).l).length).bind fun n6 =>
 (q8m (s5.l ++ [(⟨api_Link.A (gt ((api_Topo.Links t_0).l) n6), api_Link.PortA (gt ((api_Topo.Links t_0).l) n6)⟩ : topo_place), (⟨api_Link.B (gt ((api_Topo.Links t_0).l) n6), api_Link.PortB (gt ((api_Topo.Links t_0).l) n6)⟩ : topo_place)])).bind fun l7 =>
 some (.inl (wr .i64 (i4 + 1), (Sl.mk l7)))) else
 (some (.inr s5))
noncomputable def q3k (t_0 : api_Topo) : (Int × Sl topo_place) → Option ((Int × Sl topo_place) ⊕ (Sl topo_place)) := fun (i11, s12) =>
 bif decide (i11 < (((api_Topo.Hosts t_0).l).length : Int)) then ((ixI i11 ((api_Topo.Hosts t_0).l).length).bind fun n13 =>
 (q8m (s12.l ++ [gt ((api_Topo.Hosts t_0).l) n13])).bind fun l14 =>
 some (.inl (wr .i64 (i11 + 1), (Sl.mk l14)))) else
 (some (.inr s12))
noncomputable def q4t (t_0 : api_Topo) : Option (Sl topo_place) :=
 (q0e (q3n t_0) (0, Sl.nil)).bind fun s8 =>
 (q0e (q3k t_0) (0, s8)).bind fun s15 =>
 some s15
noncomputable def sp9 : Spc := ⟨[(false, .x y0)], [([.x (.sl y2)], [])], false, [], fun p => match p with | t_0 => q4t t_0⟩
theorem ok9 : q0l prog 88 sp9 := q0g q0t q0y (sig := sig) (np := 1) (an := [(7, { j := some { vs := [(3, .so 0), (11, .x (.i .i64))], os := [.ar y2] }, e := [(.exit 0, { vs := [(3, .so 0)], os := [.ar y2] })] }), (19, { j := some { vs := [(3, .so 0), (32, .x (.i .i64))], os := [.ar y2], kl := [1] }, e := [(.exit 2, { vs := [(3, .so 0)], os := [.ar y2], kl := [1] })] })]) .nil (by kernel_rfl) (by kernel_rfl)
noncomputable def q45 (t_0 : api_Topo) : Int → Option (Int ⊕ (Bool ⊕ Unit)) := fun i2 =>
 bif decide (i2 < (((api_Topo.Links t_0).l).length : Int)) then ((ixI i2 ((api_Topo.Links t_0).l).length).bind fun n3 =>
 bif (((((api_Link.A (gt ((api_Topo.Links t_0).l) n3)) == (api_Link.B (gt ((api_Topo.Links t_0).l) n3))) || (decide ((api_Link.Least (gt ((api_Topo.Links t_0).l) n3)) < 1))) || (decide ((api_Link.Least (gt ((api_Topo.Links t_0).l) n3)) > (api_Link.Most (gt ((api_Topo.Links t_0).l) n3))))) || (decide ((api_Link.Most (gt ((api_Topo.Links t_0).l) n3)) > 1000))) then (some (.inr (.inl false))) else
 (some (.inl (wr .i64 (i2 + 1))))) else
 (some (.inr (.inr ())))
noncomputable def q20 (t_0 : api_Topo) (r5 : Sl topo_place) : (Int × Mp topo_place Int) → Option ((Int × Mp topo_place Int) ⊕ (Bool ⊕ Unit)) := fun (i9, m10) =>
 bif decide (i9 < (r5.l.length : Int)) then ((ixI i9 r5.l.length).bind fun n11 =>
 (qhm ((q73 m10 0 (gt r5.l n11)).1) ((q73 m10 0 (gt r5.l n11)).2.2) (wr .i64 ((q9y m10 0 (gt r5.l n11)) + 1))).bind fun m12 =>
 bif (((((decide ((topo_place.sw (gt r5.l n11)) < 0)) || (decide ((topo_place.sw (gt r5.l n11)) ≥ (api_Topo.Switches t_0)))) || (decide ((topo_place.port (gt r5.l n11)) < 0))) || (decide ((topo_place.port (gt r5.l n11)) ≥ 8))) || (decide ((q9y m12 0 (gt r5.l n11)) > 1))) then (some (.inr (.inl false))) else
 (some (.inl (wr .i64 (i9 + 1), m12)))) else
 (some (.inr (.inr ())))
noncomputable def q5p (t_0 : api_Topo) : Option Bool :=
 bif ((((decide ((api_Topo.Switches t_0) < 1)) || (decide ((api_Topo.Switches t_0) > 8))) || (decide ((((api_Topo.Links t_0).l).length : Int) > 24))) || (decide ((((api_Topo.Hosts t_0).l).length : Int) > 8))) then (some false) else
 ((q0e (q45 t_0) 0).bind fun
 | .inl b4 => (some b4)
 | .inr _ => ((q4t t_0).bind fun r5 =>
 (q0e (q20 t_0 r5) (0, (Mp.none : Mp topo_place Int))).bind fun
 | .inl b13 => (some b13)
 | .inr _ => (some true)))
noncomputable def sp10 : Spc := ⟨[(false, .x y0)], [([.x .b], [])], true, [], fun p => match p with | t_0 => q5p t_0⟩
theorem ok10 : q0l prog 61 sp10 := q0g q0t q0y (sig := sig) (np := 1) (an := [(10, { j := some { vs := [(31, .x (.i .i64))] }, e := [(.ret, { vs := [(2, .x .b)] }), (.exit 0, {})] }), (27, { j := some { vs := [(5, .om 0), (62, .x (.i .i64))], os := [.mp y2 (.i .i64)], kl := [1] }, e := [(.ret, { vs := [(2, .x .b)], kl := [1] }), (.exit 2, { kl := [1] })] })]) (.cons ok9 .nil) (by kernel_rfl) (by kernel_rfl)
noncomputable def q8i (p_0 : Int) : Option Bool :=
 some ((decide (p_0 < 0)) || (decide (p_0 ≥ 8)))
noncomputable def sp11 : Spc := ⟨[(false, .x (.i .i64))], [([.x .b], [])], true, [], fun p => match p with | p_0 => q8i p_0⟩
theorem ok11 : q0l prog 63 sp11 := q0g q0t q0y (sig := sig) (np := 1) (an := []) .nil (by kernel_rfl) (by kernel_rfl)
noncomputable def q0a (s_0 : Sl Int) : Int → Option (Int ⊕ (Int ⊕ Unit)) := fun i2 =>
 bif decide (i2 < (s_0.l.length : Int)) then ((ixI i2 s_0.l.length).bind fun n3 =>
 (q8i (gt s_0.l n3)).bind fun r4 =>
 bif r4 then (some (.inr (.inl i2))) else
 (some (.inl (wr .i64 (i2 + 1))))) else
 (some (.inr (.inr ())))
noncomputable def q0d (s_0 : Sl Int) : Option Int :=
 (q0e (q0a s_0) 0).bind fun
 | .inl i5 => (some i5)
 | .inr _ => (some (-1))
noncomputable def sp12 : Spc := ⟨[(false, .x (.sl (.i .i64))), (false, .fn 63 .ni)], [([.x (.i .i64)], [])], true, [], fun p => match p with | s_0 => q0d s_0⟩
theorem ok12 : q0l prog 89 sp12 := q0g q0t q0y (sig := sig) (np := 2) (an := [(5, { j := some { vs := [(8, .x (.i .i64))] }, e := [(.ret, { vs := [(4, .x (.i .i64))] }), (.exit 0, {})] })]) (.cons ok11 .nil) (by kernel_rfl) (by kernel_rfl)
noncomputable def q08 (s_0 : Sl Int) : Option Bool :=
 (q0d s_0).bind fun r1 =>
 some (decide (r1 ≥ 0))
noncomputable def sp13 : Spc := ⟨[(false, .x (.sl (.i .i64))), (false, .fn 63 .ni)], [([.x .b], [])], true, [], fun p => match p with | s_0 => q08 s_0⟩
theorem ok13 : q0l prog 62 sp13 := q0g q0t q0y (sig := sig) (np := 2) (an := []) (.cons ok12 .nil) (by kernel_rfl) (by kernel_rfl)
noncomputable def q2u (t_0 : api_Topo) (r_1 : Sl (Sl Int)) : Int → Option (Int ⊕ (Bool ⊕ Unit)) := fun i3 =>
 bif decide (i3 < (r_1.l.length : Int)) then ((ixI i3 r_1.l.length).bind fun n4 =>
 (bif ((((gt r_1.l n4).l).length : Int) != (((api_Topo.Hosts t_0).l).length : Int)) then (some true) else
 ((q08 (gt r_1.l n4)).bind fun r5 =>
 some r5) : Option Bool).bind fun b6 =>
 bif b6 then (some (.inr (.inl false))) else
 (some (.inl (wr .i64 (i3 + 1))))) else
 (some (.inr (.inr ())))
noncomputable def q2k (t_0 : api_Topo) (r_1 : Sl (Sl Int)) : Option Bool :=
 (q5p t_0).bind fun r1 =>
 bif ((!r1) || ((r_1.l.length : Int) != (api_Topo.Switches t_0))) then (some false) else
 ((q0e (q2u t_0 r_1) 0).bind fun
 | .inl b7 => (some b7)
 | .inr _ => (some true))
noncomputable def sp14 : Spc := ⟨[(false, .x y0), (false, .x (.sl (.sl (.i .i64))))], [([.x .b], [])], true, [], fun p => match p with | (t_0, r_1) => q2k t_0 r_1⟩
theorem ok14 : q0l prog 37 sp14 := q0g q0t q0y (sig := sig) (np := 2) (an := [(10, { j := some { vs := [(19, .x (.i .i64))] }, e := [(.ret, { vs := [(4, .x .b)] }), (.exit 0, {})] }), (18, { j := some { vs := [(32, .x .b)] } })]) (.cons ok10 (.cons ok13 .nil)) (by kernel_rfl) (by kernel_rfl)
noncomputable def q4s (r_0 : Sl (Sl Int)) (sw_1 : Int) (h_2 : Int) : Option (Int × Bool) :=
 (bif (((decide (sw_1 < 0)) || (decide (sw_1 ≥ (r_0.l.length : Int)))) || (decide (h_2 < 0))) then (some true) else
 ((ixI sw_1 r_0.l.length).bind fun n1 =>
 some (decide (h_2 ≥ (((gt r_0.l n1).l).length : Int)))) : Option Bool).bind fun b2 =>
 bif b2 then (some (0, false)) else
 ((ixI sw_1 r_0.l.length).bind fun n3 =>
 (ixI h_2 ((gt r_0.l n3).l).length).bind fun n4 =>
 some (gt ((gt r_0.l n3).l) n4, true))
noncomputable def sp15 : Spc := ⟨[(false, .x (.sl (.sl (.i .i64)))), (false, .x (.i .i64)), (false, .x (.i .i64))], [([.x (.i .i64), .x .b], [])], true, [], fun p => match p with | (r_0, sw_1, h_2) => q4s r_0 sw_1 h_2⟩
theorem ok15 : q0l prog 74 sp15 := q0g q0t q0y (sig := sig) (np := 3) (an := [(4, { j := some { vs := [(28, .x .b)] } })]) .nil (by kernel_rfl) (by kernel_rfl)
noncomputable def q13 (s_0 : Sl Int) (v_1 : Int) : Int → Option (Int ⊕ (Int ⊕ Unit)) := fun i2 =>
 bif decide (i2 < (s_0.l.length : Int)) then ((ixI i2 s_0.l.length).bind fun n3 =>
 bif (v_1 == (gt s_0.l n3)) then (some (.inr (.inl i2))) else
 (some (.inl (wr .i64 (i2 + 1))))) else
 (some (.inr (.inr ())))
noncomputable def q1g (s_0 : Sl Int) (v_1 : Int) : Option Int :=
 (q0e (q13 s_0 v_1) 0).bind fun
 | .inl i4 => (some i4)
 | .inr _ => (some (-1))
noncomputable def sp16 : Spc := ⟨[(false, .x (.sl (.i .i64))), (false, .x (.i .i64))], [([.x (.i .i64)], [])], true, [], fun p => match p with | (s_0, v_1) => q1g s_0 v_1⟩
theorem ok16 : q0l prog 64 sp16 := q0g q0t q0y (sig := sig) (np := 2) (an := [(5, { j := some { vs := [(8, .x (.i .i64))] }, e := [(.ret, { vs := [(4, .x (.i .i64))] }), (.exit 0, {})] })]) .nil (by kernel_rfl) (by kernel_rfl)
noncomputable def q0i (s_0 : Sl Int) (v_1 : Int) : Option Bool :=
 (q1g s_0 v_1).bind fun r1 =>
 some (decide (r1 ≥ 0))
noncomputable def sp17 : Spc := ⟨[(false, .x (.sl (.i .i64))), (false, .x (.i .i64))], [([.x .b], [])], true, [], fun p => match p with | (s_0, v_1) => q0i s_0 v_1⟩
theorem ok17 : q0l prog 38 sp17 := q0g q0t q0y (sig := sig) (np := 2) (an := []) (.cons ok16 .nil) (by kernel_rfl) (by kernel_rfl)
noncomputable def q1n (l_0 : Sl Int) : Option Bool :=
 (bif decide ((l_0.l.length : Int) > 0) then ((qk2 l_0.l 0 (wr .i64 ((l_0.l.length : Int) - 1))).bind fun l1 =>
 (ixI (wr .i64 ((l_0.l.length : Int) - 1)) l_0.l.length).bind fun n2 =>
 (q0i (l_0.to l1) (gt l_0.l n2)).bind fun r3 =>
 some r3) else
 (some false) : Option Bool).bind fun b4 =>
 some b4
noncomputable def sp18 : Spc := ⟨[(false, .x (.sl (.i .i64)))], [([.x .b], [])], true, [], fun p => match p with | l_0 => q1n l_0⟩
theorem ok18 : q0l prog 75 sp18 := q0g q0t q0y (sig := sig) (np := 1) (an := [(3, { j := some { vs := [(2, .x .b)] } })]) (.cons ok17 .nil) (by kernel_rfl) (by kernel_rfl)
noncomputable def q56 (t_0 : api_Topo) (sw_1 : Int) (port_2 : Int) : Int → Option (Int ⊕ ((Int × Int × Int × Bool) ⊕ Unit)) := fun i2 =>
 bif decide (i2 < (((api_Topo.Links t_0).l).length : Int)) then ((ixI i2 ((api_Topo.Links t_0).l).length).bind fun n3 =>
 bif decide ((⟨sw_1, port_2⟩ : topo_place) = (⟨api_Link.A (gt ((api_Topo.Links t_0).l) n3), api_Link.PortA (gt ((api_Topo.Links t_0).l) n3)⟩ : topo_place)) then (some (.inr (.inl (api_Link.B (gt ((api_Topo.Links t_0).l) n3), api_Link.PortB (gt ((api_Topo.Links t_0).l) n3), i2, true)))) else
 (bif decide ((⟨sw_1, port_2⟩ : topo_place) = (⟨api_Link.B (gt ((api_Topo.Links t_0).l) n3), api_Link.PortB (gt ((api_Topo.Links t_0).l) n3)⟩ : topo_place)) then (some (.inr (.inl (api_Link.A (gt ((api_Topo.Links t_0).l) n3), api_Link.PortA (gt ((api_Topo.Links t_0).l) n3), i2, true)))) else
 (some (.inl (wr .i64 (i2 + 1)))))) else
 (some (.inr (.inr ())))
noncomputable def q7o (t_0 : api_Topo) (sw_1 : Int) (port_2 : Int) : Option (Int × Int × Int × Bool) :=
 (q0e (q56 t_0 sw_1 port_2) 0).bind fun
 | .inl (i4, i5, i6, b7) => (some (i4, i5, i6, b7))
 | .inr _ => (some (0, 0, 0, false))
noncomputable def sp19 : Spc := ⟨[(false, .x y0), (false, .x (.i .i64)), (false, .x (.i .i64))], [([.x (.i .i64), .x (.i .i64), .x (.i .i64), .x .b], [])], true, [], fun p => match p with | (t_0, sw_1, port_2) => q7o t_0 sw_1 port_2⟩
theorem ok19 : q0l prog 103 sp19 := q0g q0t q0y (sig := sig) (np := 3) (an := [(7, { j := some { vs := [(21, .x (.i .i64))] }, e := [(.ret, { vs := [(6, .x (.i .i64)), (7, .x (.i .i64)), (8, .x (.i .i64)), (9, .x .b)] }), (.exit 0, {})] })]) .nil (by kernel_rfl) (by kernel_rfl)
noncomputable def q5q (t_0 : api_Topo) (r_1 : Sl (Sl Int)) (sw_2 : Int) (h_3 : Int) : Option (Int × Bool) :=
 (q4s r_1 sw_2 h_3).bind fun (r1, r2) =>
 bif (!r2) then (some (0, false)) else
 ((q7o t_0 sw_2 r1).bind fun (r3, r4, r5, r6) =>
 some (r3, r6))
noncomputable def sp20 : Spc := ⟨[(false, .x y0), (false, .x (.sl (.sl (.i .i64)))), (false, .x (.i .i64)), (false, .x (.i .i64))], [([.x (.i .i64), .x .b], [])], true, [], fun p => match p with | (t_0, r_1, sw_2, h_3) => q5q t_0 r_1 sw_2 h_3⟩
theorem ok20 : q0l prog 76 sp20 := q0g q0t q0y (sig := sig) (np := 4) (an := []) (.cons ok15 (.cons ok19 .nil)) (by kernel_rfl) (by kernel_rfl)
noncomputable def q0m (t_0 : api_Topo) (r_1 : Sl (Sl Int)) (h_3 : Int) : (Sl Int) → Option (Sl Int ⊕ ((Int × Sl Int) ⊕ Unit)) := fun s6 =>
 (q1n s6).bind fun r7 =>
 bif (!r7) then ((ixI (wr .i64 ((s6.l.length : Int) - 1)) s6.l.length).bind fun n8 =>
 (ixI h_3 ((api_Topo.Hosts t_0).l).length).bind fun n9 =>
 (ixI (gt s6.l n8) r_1.l.length).bind fun n10 =>
 (ixI h_3 ((gt r_1.l n10).l).length).bind fun n11 =>
 bif decide ((gt ((api_Topo.Hosts t_0).l) n9) = (⟨gt s6.l n8, gt ((gt r_1.l n10).l) n11⟩ : api_Host)) then (some (.inr (.inl (0, s6)))) else
 ((q5q t_0 r_1 (gt s6.l n8) h_3).bind fun (r12, r13) =>
 bif (!r13) then (some (.inr (.inl (13, Sl.nil)))) else
 ((q8m (s6.l ++ [r12])).bind fun l14 =>
 some (.inl (Sl.mk l14))))) else
 (some (.inr (.inr ())))
noncomputable def q2r (t_0 : api_Topo) (r_1 : Sl (Sl Int)) (sw_2 : Int) (h_3 : Int) : Option (Sl Int × Int) :=
 (q4s r_1 sw_2 h_3).bind fun (r1, r2) =>
 (bif (!r2) then (some true) else
 ((q2k t_0 r_1).bind fun r3 =>
 some (!r3)) : Option Bool).bind fun b4 =>
 bif b4 then (some (Sl.nil, 2)) else
 ((q0e (q0m t_0 r_1 h_3) (Sl.mk [sw_2])).bind fun
 | .inl (i15, s16) => (some (s16, i15))
 | .inr _ => (some (Sl.nil, 12)))
noncomputable def sp21 : Spc := ⟨[(false, .x y0), (false, .x (.sl (.sl (.i .i64)))), (false, .x (.i .i64)), (false, .x (.i .i64))], [([.x (.sl (.i .i64)), .x (.i .i64)], [])], false, [], fun p => match p with | (t_0, r_1, sw_2, h_3) => q2r t_0 r_1 sw_2 h_3⟩
theorem ok21 : q0l prog 56 sp21 := q0g q0t q0y (sig := sig) (np := 4) (an := [(6, { j := some { vs := [(30, .x .b)] } }), (12, { j := some { vs := [(12, .so 0)], os := [.ar (.i .i64)], kl := [3] }, e := [(.ret, { vs := [(8, .so 0), (9, .x (.i .i64))], os := [.ar (.i .i64)], kl := [3] }), (.exit 0, { kl := [3] })] })]) (.cons ok15 (.cons ok14 (.cons ok18 (.cons ok20 .nil)))) (by kernel_rfl) (by kernel_rfl)
noncomputable def q1c (t_0 : api_Topo) (r_1 : Sl (Sl Int)) (h_2 : Int) : (Int × Sl Int) → Option ((Int × Sl Int) ⊕ (Sl Int)) := fun (i5, s6) =>
 bif decide (i5 < (r_1.l.length : Int)) then ((q2r t_0 r_1 i5 h_2).bind fun (r7, r8) =>
 (q8m (s6.l ++ [wr .i64 ((r7.l.length : Int) - 1)])).bind fun l9 =>
 some (.inl (wr .i64 (i5 + 1), (Sl.mk l9)))) else
 (some (.inr s6))
noncomputable def q49 (t_0 : api_Topo) (r_1 : Sl (Sl Int)) (h_2 : Int) : Option (Sl Int) :=
 (q2k t_0 r_1).bind fun r1 =>
 bif (((!r1) || (decide (h_2 < 0))) || (decide (h_2 ≥ (((api_Topo.Hosts t_0).l).length : Int)))) then (some Sl.nil) else
 ((q0e (q1c t_0 r_1 h_2) (0, Sl.nil)).bind fun s10 =>
 some s10)
noncomputable def sp22 : Spc := ⟨[(false, .x y0), (false, .x (.sl (.sl (.i .i64)))), (false, .x (.i .i64))], [([.x (.sl (.i .i64))], [])], false, [], fun p => match p with | (t_0, r_1, h_2) => q49 t_0 r_1 h_2⟩
theorem ok22 : q0l prog 34 sp22 := q0g q0t q0y (sig := sig) (np := 3) (an := [(12, { j := some { vs := [(7, .so 0), (28, .x (.i .i64))], os := [.ar (.i .i64)] }, e := [(.exit 0, { vs := [(7, .so 0)], os := [.ar (.i .i64)] })] })]) (.cons ok14 (.cons ok21 .nil)) (by kernel_rfl) (by kernel_rfl)
noncomputable def q1i (t_0 : api_Topo) (r_1 : Sl (Sl Int)) : Int → Option (Int ⊕ (Bool ⊕ Unit)) := fun i3 =>
 bif decide (i3 < (((api_Topo.Hosts t_0).l).length : Int)) then ((q49 t_0 r_1 i3).bind fun r4 =>
 (q0i r4 (-1)).bind fun r5 =>
 bif r5 then (some (.inr (.inl false))) else
 (some (.inl (wr .i64 (i3 + 1))))) else
 (some (.inr (.inr ())))
noncomputable def q2s (t_0 : api_Topo) (r_1 : Sl (Sl Int)) : Option Bool :=
 (q2k t_0 r_1).bind fun r1 =>
 bif (!r1) then (some false) else
 ((q0e (q1i t_0 r_1) 0).bind fun
 | .inl b6 => (some b6)
 | .inr _ => (some true))
noncomputable def sp23 : Spc := ⟨[(false, .x y0), (false, .x (.sl (.sl (.i .i64))))], [([.x .b], [])], true, [], fun p => match p with | (t_0, r_1) => q2s t_0 r_1⟩
theorem ok23 : q0l prog 17 sp23 := q0g q0t q0y (sig := sig) (np := 2) (an := [(10, { j := some { vs := [(13, .x (.i .i64))] }, e := [(.ret, { vs := [(4, .x .b)] }), (.exit 0, {})] })]) (.cons ok14 (.cons ok22 (.cons ok17 .nil))) (by kernel_rfl) (by kernel_rfl)
theorem ok24 : q0l prog 35 (qlq y3 36 q3r) := qrf
noncomputable def q25 (old_1 : Sl (Sl Int)) (now_2 : Sl (Sl Int)) (i7 : Int) (r9 : Sl Int) : (Int × Sl level_Move) → Option ((Int × Sl level_Move) ⊕ (Sl level_Move)) := fun (i12, s13) =>
 bif decide (i12 < (now_2.l.length : Int)) then (((ixI i12 now_2.l.length).bind fun n14 =>
 (ixI i7 ((gt now_2.l n14).l).length).bind fun n15 =>
 (ixI i12 old_1.l.length).bind fun n16 =>
 (ixI i7 ((gt old_1.l n16).l).length).bind fun n17 =>
 bif ((gt ((gt now_2.l n14).l) n15) != (gt ((gt old_1.l n16).l) n17)) then ((ixI i12 now_2.l.length).bind fun n18 =>
 (ixI i7 ((gt now_2.l n18).l).length).bind fun n19 =>
 (ixI i12 r9.l.length).bind fun n20 =>
 (q8m (s13.l ++ [(⟨i12, i7, gt ((gt now_2.l n18).l) n19, gt r9.l n20⟩ : level_Move)])).bind fun l21 =>
 some (Sl.mk l21)) else
 (some s13) : Option (Sl level_Move)).bind fun s22 =>
 some (.inl (wr .i64 (i12 + 1), s22))) else
 (some (.inr s13))
noncomputable def q2t (t_0 : api_Topo) (old_1 : Sl (Sl Int)) (now_2 : Sl (Sl Int)) : (Int × Sl level_Move) → Option ((Int × Sl level_Move) ⊕ (Sl level_Move)) := fun (i7, s8) =>
 bif decide (i7 < (((api_Topo.Hosts t_0).l).length : Int)) then ((q49 t_0 now_2 i7).bind fun r9 =>
 (q0e (q25 old_1 now_2 i7 r9) (0, s8)).bind fun s23 =>
 some (.inl (wr .i64 (i7 + 1), s23))) else
 (some (.inr s8))
noncomputable def q38 (t_0 : api_Topo) (old_1 : Sl (Sl Int)) (now_2 : Sl (Sl Int)) : Option (Sl level_Move × Int) :=
 ((q2s t_0 old_1).bind fun r1 =>
 bif (!r1) then (some true) else
 ((q2s t_0 now_2).bind fun r2 =>
 some (!r2)) : Option Bool).bind fun b3 =>
 bif b3 then (some (Sl.nil, 2)) else
 ((q0e (q2t t_0 old_1 now_2) (0, Sl.nil)).bind fun s24 =>
 (qb0 q3r s24).bind fun s25 =>
 (qty s25 s24).bind fun _ =>
 some (s25, 0))
noncomputable def sp25 : Spc := ⟨[(false, .x y0), (false, .x (.sl (.sl (.i .i64)))), (false, .x (.sl (.sl (.i .i64))))], [([.x (.sl y3), .x (.i .i64)], [])], false, [], fun p => match p with | (t_0, old_1, now_2) => q38 t_0 old_1 now_2⟩
theorem ok25 : q0l prog 13 sp25 := q0g q0t q0y (sig := sig) (np := 3) (an := [(4, { j := some { vs := [(21, .x .b)] } }), (12, { j := some { vs := [(8, .so 0), (25, .x (.i .i64))], os := [.ar y3] }, e := [(.exit 0, { vs := [(8, .so 0)], os := [.ar y3] })] }), (23, { j := some { vs := [(8, .so 0), (34, .x (.i .i64))], os := [.ar y3], kl := [1] }, e := [(.exit 2, { vs := [(8, .so 0)], os := [.ar y3], kl := [1] })] }), (27, { e := [(.normal, { vs := [(8, .so 0)], os := [.ar y3], kl := [3] })] })]) (.cons ok23 (.cons ok22 (.cons ok24 .nil))) (by kernel_rfl) (by kernel_rfl)
theorem ok26 : q0l prog 54 (qh1 (.i .i64) qf4) := qwq
theorem ok27 : q0l prog 55 (qnu (.i .i64) qbg) := qvq
noncomputable def q32 (l_0 : Sl level_Move) : (Int × Sl Int) → Option ((Int × Sl Int) ⊕ (Sl Int)) := fun (i4, s5) =>
 bif decide (i4 < (l_0.l.length : Int)) then ((ixI i4 l_0.l.length).bind fun n6 =>
 (q8m (s5.l ++ [level_Move.Round (gt l_0.l n6)])).bind fun l7 =>
 some (.inl (wr .i64 (i4 + 1), (Sl.mk l7)))) else
 (some (.inr s5))
noncomputable def q37 (l_0 : Sl level_Move) : Option (Sl Int) :=
 (q0e (q32 l_0) (0, Sl.nil)).bind fun s8 =>
 (qb0 qf4 s8).bind fun s9 =>
 (qty s9 s8).bind fun _ =>
 (qyd qbg s9).bind fun s10 =>
 some s10
noncomputable def sp28 : Spc := ⟨[(false, .x (.sl y3))], [([.x (.sl (.i .i64))], [])], false, [], fun p => match p with | l_0 => q37 l_0⟩
theorem ok28 : q0l prog 33 sp28 := q0g q0t q0y (sig := sig) (np := 1) (an := [(7, { j := some { vs := [(3, .so 0), (8, .x (.i .i64))], os := [.ar (.i .i64)] }, e := [(.exit 0, { vs := [(3, .so 0)], os := [.ar (.i .i64)] })] })]) (.cons ok26 (.cons ok27 .nil)) (by kernel_rfl) (by kernel_rfl)
noncomputable def q5i (a_0 : Sl Int) (b_1 : Sl Int) : Int → Option (Int ⊕ (Bool ⊕ Unit)) := fun i2 =>
 bif decide (i2 < (a_0.l.length : Int)) then ((ixI i2 a_0.l.length).bind fun n3 =>
 (ixI i2 b_1.l.length).bind fun n4 =>
 bif ((gt a_0.l n3) != (gt b_1.l n4)) then (some (.inr (.inl false))) else
 (some (.inl (wr .i64 (i2 + 1))))) else
 (some (.inr (.inr ())))
noncomputable def q9p (a_0 : Sl Int) (b_1 : Sl Int) : Option Bool :=
 bif ((a_0.l.length : Int) != (b_1.l.length : Int)) then (some false) else
 ((q0e (q5i a_0 b_1) 0).bind fun
 | .inl b5 => (some b5)
 | .inr _ => (some true))
noncomputable def sp29 : Spc := ⟨[(false, .x (.sl (.i .i64))), (false, .x (.sl (.i .i64)))], [([.x .b], [])], true, [], fun p => match p with | (a_0, b_1) => q9p a_0 b_1⟩
theorem ok29 : q0l prog 32 sp29 := q0g q0t q0y (sig := sig) (np := 2) (an := [(10, { j := some { vs := [(5, .x (.i .i64))] }, e := [(.ret, { vs := [(4, .x .b)] }), (.exit 0, {})] })]) .nil (by kernel_rfl) (by kernel_rfl)
noncomputable def q5w (n_0 : Int) (most_1 : Int) : Option Bool :=
 some ((decide (n_0 ≥ 0)) && (decide (n_0 ≤ most_1)))
noncomputable def sp34 : Spc := ⟨[(false, .x (.i .i64)), (false, .x (.i .i64))], [([.x .b], [])], true, [], fun p => match p with | (n_0, most_1) => q5w n_0 most_1⟩
theorem ok34 : q0l prog 43 sp34 := q0g q0t q0y (sig := sig) (np := 2) (an := []) .nil (by kernel_rfl) (by kernel_rfl)
noncomputable def q2d (t_0 : api_Topo) : (Int × Int) → Option ((Int × Int) ⊕ Int) := fun (i3, i4) =>
 bif decide (i4 < (((api_Topo.Links t_0).l).length : Int)) then ((ixI i4 ((api_Topo.Links t_0).l).length).bind fun n5 =>
 some (.inl ((if (api_Link.Most (gt ((api_Topo.Links t_0).l) n5)) > i3 then (api_Link.Most (gt ((api_Topo.Links t_0).l) n5)) else i3), wr .i64 (i4 + 1)))) else
 (some (.inr i3))
noncomputable def q3w (t_0 : api_Topo) : Option Int :=
 (q0e (q2d t_0) (0, 0)).bind fun i6 =>
 some i6
noncomputable def sp35 : Spc := ⟨[(false, .x y0)], [([.x (.i .i64)], [])], true, [], fun p => match p with | t_0 => q3w t_0⟩
theorem ok35 : q0l prog 50 sp35 := q0g q0t q0y (sig := sig) (np := 1) (an := [(7, { j := some { vs := [(3, .x (.i .i64)), (9, .x (.i .i64))] }, e := [(.exit 0, { vs := [(3, .x (.i .i64))] })] })]) .nil (by kernel_rfl) (by kernel_rfl)
noncomputable def q5x (t_0 : api_Topo) : Option Int :=
 (q3w t_0).bind fun r1 =>
 some (wr .i64 ((api_Topo.Switches t_0) * r1))
noncomputable def sp36 : Spc := ⟨[(false, .x y0)], [([.x (.i .i64)], [])], true, [], fun p => match p with | t_0 => q5x t_0⟩
theorem ok36 : q0l prog 25 sp36 := q0g q0t q0y (sig := sig) (np := 1) (an := []) (.cons ok35 .nil) (by kernel_rfl) (by kernel_rfl)
noncomputable def q7w (t_0 : api_Topo) (miss_1 : Int) : Option Int :=
 (q5x t_0).bind fun r1 =>
 some (wr .i64 ((wr .i64 ((wr .i64 (2 * miss_1)) + r1)) + 1))
noncomputable def sp37 : Spc := ⟨[(false, .x y0), (false, .x (.i .i64))], [([.x (.i .i64)], [])], true, [], fun p => match p with | (t_0, miss_1) => q7w t_0 miss_1⟩
theorem ok37 : q0l prog 42 sp37 := q0g q0t q0y (sig := sig) (np := 2) (an := []) (.cons ok36 .nil) (by kernel_rfl) (by kernel_rfl)
noncomputable def q8q (a_0 : diff_After) (c_1 : Int) : Option Bool :=
 some ((((((decide ((diff_After.I a_0) < 0)) || (decide ((diff_After.I a_0) ≥ c_1))) || (decide ((diff_After.J a_0) < 0))) || (decide ((diff_After.J a_0) ≥ c_1))) || (decide ((diff_After.Gap a_0) < (-1073741824)))) || (decide ((diff_After.Gap a_0) > 1073741824)))
noncomputable def sp38 : Spc := ⟨[(false, .x y4), (false, .pt (.i .i64))], [([.x .b], [])], true, [], fun p => match p with | (a_0, c_1) => q8q a_0 c_1⟩
theorem ok38 : q0l prog 112 sp38 := q0g q0t q0y (sig := sig) (np := 2) (an := []) .nil (by kernel_rfl) (by kernel_rfl)
noncomputable def q04 (s_0 : Sl diff_After) (f_1_c0 : Int) : Int → Option (Int ⊕ (Int ⊕ Unit)) := fun i2 =>
 bif decide (i2 < (s_0.l.length : Int)) then ((ixI i2 s_0.l.length).bind fun n3 =>
 (q8q (gt s_0.l n3) f_1_c0).bind fun r4 =>
 bif r4 then (some (.inr (.inl i2))) else
 (some (.inl (wr .i64 (i2 + 1))))) else
 (some (.inr (.inr ())))
noncomputable def q05 (s_0 : Sl diff_After) (f_1_c0 : Int) : Option Int :=
 (q0e (q04 s_0 f_1_c0) 0).bind fun
 | .inl i5 => (some i5)
 | .inr _ => (some (-1))
noncomputable def sp39 : Spc := ⟨[(false, .x (.sl y4)), (false, .fn 112 (.pr (.pt (.i .i64)) .ni))], [([.x (.i .i64)], [])], true, [], fun p => match p with | (s_0, f_1_c0) => q05 s_0 f_1_c0⟩
theorem ok39 : q0l prog 118 sp39 := q0g q0t q0y (sig := sig) (np := 2) (an := [(5, { j := some { vs := [(8, .x (.i .i64))] }, e := [(.ret, { vs := [(4, .x (.i .i64))] }), (.exit 0, {})] })]) (.cons ok38 .nil) (by kernel_rfl) (by kernel_rfl)
noncomputable def q03 (s_0 : Sl diff_After) (f_1_c0 : Int) : Option Bool :=
 (q05 s_0 f_1_c0).bind fun r1 =>
 some (decide (r1 ≥ 0))
noncomputable def sp40 : Spc := ⟨[(false, .x (.sl y4)), (false, .fn 112 (.pr (.pt (.i .i64)) .ni))], [([.x .b], [])], true, [], fun p => match p with | (s_0, f_1_c0) => q03 s_0 f_1_c0⟩
theorem ok40 : q0l prog 111 sp40 := q0g q0t q0y (sig := sig) (np := 2) (an := []) (.cons ok39 .nil) (by kernel_rfl) (by kernel_rfl)
noncomputable def q5r (n_0 : Int) (l_1 : Sl diff_After) : Option Bool :=
 bif (((decide (n_0 < 0)) || (decide (n_0 > 64))) || (decide ((l_1.l.length : Int) > 256))) then (some false) else
 ((q03 l_1 n_0).bind fun r1 =>
 some (!r1))
noncomputable def sp41 : Spc := ⟨[(false, .x (.i .i64)), (false, .x (.sl y4))], [([.x .b], [])], true, [], fun p => match p with | (n_0, l_1) => q5r n_0 l_1⟩
theorem ok41 : q0l prog 91 sp41 := q0g q0t q0y (sig := sig) (np := 2) (an := []) (.cons ok40 .nil) (by kernel_rfl) (by kernel_rfl)
noncomputable def q1k (l_1 : Sl diff_After) : (Int × Int × Sl Int × Sl Int) → Option ((Int × Int × Sl Int × Sl Int) ⊕ (Int × Sl Int × Sl Int)) := fun (i19, i20, s21, s22) =>
 bif decide (i20 < (l_1.l.length : Int)) then (((ixI i20 l_1.l.length).bind fun n23 =>
 (ixI (diff_After.I (gt l_1.l n23)) s21.l.length).bind fun n24 =>
 (ixI (diff_After.J (gt l_1.l n23)) s21.l.length).bind fun n25 =>
 bif decide ((wr .i64 ((gt s21.l n24) + (diff_After.Gap (gt l_1.l n23)))) > (gt s21.l n25)) then ((ixI (diff_After.J (gt l_1.l n23)) s21.l.length).bind fun n26 =>
 (ixI (diff_After.J (gt l_1.l n23)) s22.l.length).bind fun n27 =>
 some (diff_After.J (gt l_1.l n23), (Sl.mk (s21.l.set n26 (wr .i64 ((gt s21.l n24) + (diff_After.Gap (gt l_1.l n23)))))), (Sl.mk (s22.l.set n27 i20)))) else
 (some (i19, s21, s22)) : Option (Int × Sl Int × Sl Int)).bind fun (i28, s29, s30) =>
 some (.inl (i28, wr .i64 (i20 + 1), s29, s30))) else
 (some (.inr (i19, s21, s22)))
noncomputable def q39 (n_0 : Int) (l_1 : Sl diff_After) : (Int × Int × Sl Int × Sl Int) → Option ((Int × Int × Sl Int × Sl Int) ⊕ (Int × Sl Int × Sl Int)) := fun (i9, i10, s11, s12) =>
 bif decide (i10 < (wr .i64 (n_0 + 1))) then ((q0e (q1k l_1) ((-1), 0, s11, s12)).bind fun (i31, s32, s33) =>
 bif decide (i31 < 0) then (some (.inr (i31, s32, s33))) else
 (some (.inl (i31, wr .i64 (i10 + 1), s32, s33)))) else
 (some (.inr (i9, s11, s12)))
noncomputable def q7f (n_0 : Int) (l_1 : Sl diff_After) : Option (Sl Int × Sl Int × Int) :=
 (mkI 0 n_0 n_0).bind fun l1 =>
 (mkI 0 n_0 n_0).bind fun l2 =>
 (q0e (q39 n_0 l_1) ((-1), 0, (Sl.mk l1), (Sl.mk l2))).bind fun (i34, s35, s36) =>
 some (s35, s36, i34)
noncomputable def sp42 : Spc := ⟨[(false, .x (.i .i64)), (false, .x (.sl y4))], [([.x (.sl (.i .i64)), .x (.sl (.i .i64)), .x (.i .i64)], [])], false, [], fun p => match p with | (n_0, l_1) => q7f n_0 l_1⟩
theorem ok42 : q0l prog 92 sp42 := q0g q0t q0y (sig := sig) (np := 2) (an := [(10, { j := some { vs := [(7, .so 0), (8, .so 1), (9, .x (.i .i64)), (19, .x (.i .i64))], os := [.ar (.i .i64), .ar (.i .i64)], kl := [1000000, 3000000] }, e := [(.exit 0, { vs := [(7, .so 0), (8, .so 1), (9, .x (.i .i64))], os := [.ar (.i .i64), .ar (.i .i64)], kl := [1000000, 3000000] })] }), (20, { j := some { vs := [(7, .so 0), (8, .so 1), (9, .x (.i .i64)), (23, .x (.i .i64))], os := [.ar (.i .i64), .ar (.i .i64)], kl := [6000000, 6000001] }, e := [(.exit 2, { vs := [(7, .so 0), (8, .so 1), (9, .x (.i .i64))], os := [.ar (.i .i64), .ar (.i .i64)], kl := [6000000, 6000001] })] }), (24, { e := [(.normal, { vs := [(7, .so 0), (8, .so 1), (9, .x (.i .i64))], os := [.ar (.i .i64), .ar (.i .i64)], kl := [6000002, 6000003] })] })]) .nil (by kernel_rfl) (by kernel_rfl)
noncomputable def q43 (n_0 : Int) (l_1 : Sl diff_After) : Option (Sl Int × Bool) :=
 (q5r n_0 l_1).bind fun r1 =>
 bif (!r1) then (some (Sl.nil, false)) else
 ((q7f n_0 l_1).bind fun (r2, r3, r4) =>
 bif decide (r4 ≥ 0) then (some (Sl.nil, false)) else
 (some (r2, true)))
noncomputable def sp43 : Spc := ⟨[(false, .x (.i .i64)), (false, .x (.sl y4))], [([.x (.sl (.i .i64)), .x .b], [])], false, [], fun p => match p with | (n_0, l_1) => q43 n_0 l_1⟩
theorem ok43 : q0l prog 67 sp43 := q0g q0t q0y (sig := sig) (np := 2) (an := []) (.cons ok41 (.cons ok42 .nil)) (by kernel_rfl) (by kernel_rfl)
noncomputable def q3f (n_0 : Int) (gap_1 : Int) : (Int × Sl diff_After) → Option ((Int × Sl diff_After) ⊕ (Sl diff_After)) := fun (i4, s5) =>
 bif decide (i4 < n_0) then ((q8m (s5.l ++ [(⟨wr .i64 (i4 - 1), i4, gap_1⟩ : diff_After)])).bind fun l6 =>
 some (.inl (wr .i64 (i4 + 1), (Sl.mk l6)))) else
 (some (.inr s5))
noncomputable def q4o (n_0 : Int) (gap_1 : Int) : Option (Sl Int) :=
 (q0e (q3f n_0 gap_1) (1, Sl.nil)).bind fun s7 =>
 (q43 n_0 s7).bind fun (r8, r9) =>
 some r8
noncomputable def sp44 : Spc := ⟨[(false, .x (.i .i64)), (false, .x (.i .i64))], [([.x (.sl (.i .i64))], [])], false, [], fun p => match p with | (n_0, gap_1) => q4o n_0 gap_1⟩
theorem ok44 : q0l prog 44 sp44 := q0g q0t q0y (sig := sig) (np := 2) (an := [(7, { j := some { vs := [(5, .so 0), (6, .x (.i .i64))], os := [.ar y4] }, e := [(.exit 0, { vs := [(5, .so 0)], os := [.ar y4] })] })]) (.cons ok43 .nil) (by kernel_rfl) (by kernel_rfl)
noncomputable def q2m (l_0 : Sl level_Move) (round_1 : Int) : (Int × Sl Int) → Option ((Int × Sl Int) ⊕ (Sl Int)) := fun (i4, s5) =>
 bif decide (i4 < (l_0.l.length : Int)) then (((ixI i4 l_0.l.length).bind fun n6 =>
 (bif ((level_Move.Round (gt l_0.l n6)) == round_1) then ((q0i s5 (level_Move.Sw (gt l_0.l n6))).bind fun r7 =>
 some (!r7)) else
 (some false) : Option Bool).bind fun b8 =>
 bif b8 then ((q8m (s5.l ++ [level_Move.Sw (gt l_0.l n6)])).bind fun l9 =>
 some (Sl.mk l9)) else
 (some s5) : Option (Sl Int)).bind fun s10 =>
 some (.inl (wr .i64 (i4 + 1), s10))) else
 (some (.inr s5))
noncomputable def q9m (l_0 : Sl level_Move) (round_1 : Int) : Option (Sl Int) :=
 (q0e (q2m l_0 round_1) (0, Sl.nil)).bind fun s11 =>
 some s11
noncomputable def sp45 : Spc := ⟨[(false, .x (.sl y3)), (false, .x (.i .i64))], [([.x (.sl (.i .i64))], [])], false, [], fun p => match p with | (l_0, round_1) => q9m l_0 round_1⟩
theorem ok45 : q0l prog 45 sp45 := q0g q0t q0y (sig := sig) (np := 2) (an := [(7, { j := some { vs := [(5, .so 0), (10, .x (.i .i64))], os := [.ar (.i .i64)] }, e := [(.exit 0, { vs := [(5, .so 0)], os := [.ar (.i .i64)] })] }), (11, { e := [(.normal, { vs := [(5, .so 0)], os := [.ar (.i .i64)], kl := [0] })] }), (15, { j := some { vs := [(24, .x .b)] } })]) (.cons ok17 .nil) (by kernel_rfl) (by kernel_rfl)
noncomputable def q36 (at_3 : Int) (miss_4 : Int) (lead_5 : Int) (r5 : Sl level_Move) (r7 : Int) (r8 : Sl Int) (r10 : Sl Int) : (Int × Sl level_Move × Int × Int × Int × Int × Sl plan_Round) → Option ((Int × Sl level_Move × Int × Int × Int × Int × Sl plan_Round) ⊕ (Sl level_Move × Int × Int × Int × Int × Sl plan_Round)) := fun (i19, s20, i21, i22, i23, i24, s25) =>
 bif decide (i19 < (r10.l.length : Int)) then ((ixI i19 r10.l.length).bind fun n26 =>
 (ixI i19 r8.l.length).bind fun n27 =>
 (ixI i19 r8.l.length).bind fun n28 =>
 (q9m r5 (gt r8.l n28)).bind fun r29 =>
 (q8m (s25.l ++ [(⟨gt r8.l n27, wr .i64 ((wr .i64 ((wr .i64 ((wr .i64 ((wr .i64 (at_3 + lead_5)) + miss_4)) + r7)) + 1)) + (gt r10.l n26)), r29⟩ : plan_Round)])).bind fun l30 =>
 some (.inl (wr .i64 (i19 + 1), s20, i21, i22, i23, i24, (Sl.mk l30)))) else
 (some (.inr (s20, i21, i22, i23, i24, s25)))
noncomputable def q3b (t_0 : api_Topo) (old_1 : Sl (Sl Int)) (now_2 : Sl (Sl Int)) (at_3 : Int) (miss_4 : Int) (lead_5 : Int) : Option (plan_Plan × Int) :=
 ((q5w at_3 1099511627776).bind fun r1 =>
 bif (!r1) then (some true) else
 ((q5w miss_4 1048576).bind fun r2 =>
 bif (!r2) then (some true) else
 ((q5w lead_5 1048576).bind fun r3 =>
 some (!r3))) : Option Bool).bind fun b4 =>
 bif b4 then (some ((⟨Sl.nil, Sl.nil, 0, 0, 0, 0⟩ : plan_Plan), 2)) else
 ((q38 t_0 old_1 now_2).bind fun (r5, r6) =>
 bif (r6 != 0) then (some ((⟨Sl.nil, Sl.nil, 0, 0, 0, 0⟩ : plan_Plan), r6)) else
 (bif ((r5.l.length : Int) == 0) then (some ((⟨Sl.nil, Sl.nil, 0, 0, 0, 0⟩ : plan_Plan), 7)) else
 ((q5x t_0).bind fun r7 =>
 (q37 r5).bind fun r8 =>
 (q7w t_0 miss_4).bind fun r9 =>
 (q4o (r8.l.length : Int) r9).bind fun r10 =>
 (q0e (q36 at_3 miss_4 lead_5 r5 r7 r8 r10) (0, r5, miss_4, r7, 0, 0, Sl.nil)).bind fun (s31, i32, i33, i34, i35, s36) =>
 (ixI (wr .i64 ((s36.l.length : Int) - 1)) s36.l.length).bind fun n37 =>
 bif decide ((wr .i64 ((plan_Round.At (gt s36.l n37)) + miss_4)) > 1099511627776) then (some ((⟨Sl.nil, Sl.nil, 0, 0, 0, 0⟩ : plan_Plan), 11)) else
 (some ((⟨s31, s36, i32, i33, wr .i64 ((wr .i64 ((wr .i64 ((wr .i64 ((wr .i64 ((wr .i64 (at_3 + lead_5)) + miss_4)) + r7)) + 1)) - miss_4)) - i33), wr .i64 ((plan_Round.At (gt s36.l n37)) + miss_4)⟩ : plan_Plan), 0)))))
noncomputable def sp46 : Spc := ⟨[(false, .x y0), (false, .x (.sl (.sl (.i .i64)))), (false, .x (.sl (.sl (.i .i64)))), (false, .x (.i .i64)), (false, .x (.i .i64)), (false, .x (.i .i64))], [([.x y5, .x (.i .i64)], [])], false, [], fun p => match p with | (t_0, old_1, now_2, at_3, miss_4, lead_5) => q3b t_0 old_1 now_2 at_3 miss_4 lead_5⟩
theorem ok46 : q0l prog 22 sp46 := q0g q0t q0y (sig := sig) (np := 6) (an := [(4, { j := some { vs := [(33, .x .b)] } }), (27, { j := some { vs := [(16, .op 0 y5 []), (75, .x (.i .i64))], os := [.bx y5 (.rc (.co (.x (.sl y3)) (.co (.so 1) (.co (.x (.i .i64)) (.co (.x (.i .i64)) (.co (.x (.i .i64)) (.co (.x (.i .i64)) .ni))))))), .ar y6], kl := [5] }, e := [(.exit 1, { vs := [(16, .op 0 y5 [])], os := [.bx y5 (.rc (.co (.x (.sl y3)) (.co (.so 1) (.co (.x (.i .i64)) (.co (.x (.i .i64)) (.co (.x (.i .i64)) (.co (.x (.i .i64)) .ni))))))), .ar y6], kl := [5] })] })]) (.cons ok34 (.cons ok25 (.cons ok36 (.cons ok28 (.cons ok37 (.cons ok44 (.cons ok45 .nil))))))) (by kernel_rfl) (by kernel_rfl)
noncomputable def q99 (p_0 : plan_Plan) (t_1 : Int) : Option Bool :=
 some ((decide (t_1 ≥ (plan_Plan.From p_0))) && (decide (t_1 ≤ (plan_Plan.To p_0))))
noncomputable def sp47 : Spc := ⟨[(false, .x y5), (false, .x (.i .i64))], [([.x .b], [])], true, [], fun p => match p with | (p_0, t_1) => q99 p_0 t_1⟩
theorem ok47 : q0l prog 26 sp47 := q0g q0t q0y (sig := sig) (np := 2) (an := []) .nil (by kernel_rfl) (by kernel_rfl)
noncomputable def qjc : Option api_Match :=
 some (⟨(-1), (zeE (.ar 4 (.i .i64))), (zeE (.ar 4 (.i .i64)))⟩ : api_Match)
noncomputable def sp48 : Spc := ⟨[], [([.x y7], [])], true, [], fun p => match p with | _ => qjc⟩
theorem ok48 : q0l prog 109 sp48 := q0g q0t q0y (sig := sig) (np := 0) (an := []) .nil (by kernel_rfl) (by kernel_rfl)
noncomputable def qdg (f_0 : Int) : Option Int :=
 (bif (f_0 == 0) then (some (f_0 == 0)) else
 (bif (f_0 == 1) then (some (f_0 == 1)) else
 (some (f_0 == 3))) : Option Bool).bind fun b1 =>
 bif b1 then (some 8) else
 (bif (f_0 == 2) then (some 4) else
 (some 0))
noncomputable def sp49 : Spc := ⟨[(false, .x (.i .i64))], [([.x (.i .i64)], [])], true, [], fun p => match p with | f_0 => qdg f_0⟩
theorem ok49 : q0l prog 117 sp49 := q0g q0t q0y (sig := sig) (np := 1) (an := [(5, { e := [(.normal, { vs := [(4, .x .b)] })] })]) .nil (by kernel_rfl) (by kernel_rfl)
noncomputable def qbm (f_0 : Int) : Option Int :=
 (qdg f_0).bind fun r1 =>
 (shlI .i64 1 r1).bind fun i2 =>
 some (wr .i64 (i2 - 1))
noncomputable def sp50 : Spc := ⟨[(false, .x (.i .i64))], [([.x (.i .i64)], [])], true, [], fun p => match p with | f_0 => qbm f_0⟩
theorem ok50 : q0l prog 110 sp50 := q0g q0t q0y (sig := sig) (np := 1) (an := []) (.cons ok49 .nil) (by kernel_rfl) (by kernel_rfl)
noncomputable def qn3 (f_0 : Int) (v_1 : Int) : Option api_Match :=
 (qjc).bind fun r1 =>
 ((bif (((decide (f_0 ≥ 0)) && (decide (f_0 < 4))) && (decide (v_1 ≥ 0))) then ((qbm f_0).bind fun r2 =>
 some (decide (v_1 ≤ r2))) else
 (some false) : Option Bool).bind fun b3 =>
 bif b3 then ((qbm f_0).bind fun r4 =>
 (ixI f_0 4).bind fun n5 =>
 (ixI f_0 4).bind fun n6 =>
 some (⟨api_Match.Port r1, Arr.set (api_Match.Val r1) n5 v_1, Arr.set (api_Match.Mask r1) n6 r4⟩ : api_Match)) else
 (some r1) : Option api_Match).bind fun x7 =>
 some x7
noncomputable def sp51 : Spc := ⟨[(false, .x (.i .i64)), (false, .x (.i .i64))], [([.x y7], [])], true, [], fun p => match p with | (f_0, v_1) => qn3 f_0 v_1⟩
theorem ok51 : q0l prog 90 sp51 := q0g q0t q0y (sig := sig) (np := 2) (an := [(4, { e := [(.normal, { vs := [(5, .op 0 y7 [])], os := [.bx y7 (.x y7)], kl := [10] })] }), (6, { j := some { vs := [(22, .x .b)] } })]) (.cons ok48 (.cons ok50 .nil)) (by kernel_rfl) (by kernel_rfl)
noncomputable def qjt (f_0 : Int) (v_1 : Int) (prio_2 : Int) : Option api_Rule :=
 (qn3 f_0 v_1).bind fun r1 =>
 some (⟨prio_2, r1, Sl.nil⟩ : api_Rule)
noncomputable def sp52 : Spc := ⟨[(false, .x (.i .i64)), (false, .x (.i .i64)), (false, .x (.i .i64))], [([.x y8], [])], false, [], fun p => match p with | (f_0, v_1, prio_2) => qjt f_0 v_1 prio_2⟩
theorem ok52 : q0l prog 66 sp52 := q0g q0t q0y (sig := sig) (np := 3) (an := []) (.cons ok51 .nil) (by kernel_rfl) (by kernel_rfl)
noncomputable def qfw (f_0 : Int) (v_1 : Int) (prio_2 : Int) (port_3 : Int) : Option api_Rule :=
 (qjt f_0 v_1 prio_2).bind fun r1 =>
 some (⟨api_Rule.Prio r1, api_Rule.M r1, (Sl.mk [(⟨2, 0, port_3⟩ : api_Act)])⟩ : api_Rule)
noncomputable def sp53 : Spc := ⟨[(false, .x (.i .i64)), (false, .x (.i .i64)), (false, .x (.i .i64)), (false, .x (.i .i64))], [([.x y8], [])], false, [], fun p => match p with | (f_0, v_1, prio_2, port_3) => qfw f_0 v_1 prio_2 port_3⟩
theorem ok53 : q0l prog 41 sp53 := q0g q0t q0y (sig := sig) (np := 4) (an := []) (.cons ok52 .nil) (by kernel_rfl) (by kernel_rfl)
noncomputable def qb6 (l_0 : Sl level_Move) (round_1 : Int) (sw_2 : Int) : (Int × Sl api_Mod) → Option ((Int × Sl api_Mod) ⊕ (Sl api_Mod)) := fun (i4, s5) =>
 bif decide (i4 < (l_0.l.length : Int)) then (((ixI i4 l_0.l.length).bind fun n6 =>
 bif (((level_Move.Round (gt l_0.l n6)) == round_1) && ((level_Move.Sw (gt l_0.l n6)) == sw_2)) then ((qfw 1 (level_Move.Host (gt l_0.l n6)) 10 (level_Move.Port (gt l_0.l n6))).bind fun r7 =>
 (q8m (s5.l ++ [(⟨3, r7, false⟩ : api_Mod)])).bind fun l8 =>
 some (Sl.mk l8)) else
 (some s5) : Option (Sl api_Mod)).bind fun s9 =>
 some (.inl (wr .i64 (i4 + 1), s9))) else
 (some (.inr s5))
noncomputable def q9j (l_0 : Sl level_Move) (round_1 : Int) (sw_2 : Int) : Option (Sl api_Mod) :=
 (q0e (qb6 l_0 round_1 sw_2) (0, Sl.nil)).bind fun s10 =>
 some s10
noncomputable def sp54 : Spc := ⟨[(false, .x (.sl y3)), (false, .x (.i .i64)), (false, .x (.i .i64))], [([.x (.sl y9)], [])], false, [], fun p => match p with | (l_0, round_1, sw_2) => q9j l_0 round_1 sw_2⟩
theorem ok54 : q0l prog 20 sp54 := q0g q0t q0y (sig := sig) (np := 3) (an := [(7, { j := some { vs := [(7, .so 0), (12, .x (.i .i64))], os := [.ar y9] }, e := [(.exit 0, { vs := [(7, .so 0)], os := [.ar y9] })] }), (11, { e := [(.normal, { vs := [(7, .so 0)], os := [.ar y9], kl := [0] })] })]) (.cons ok53 .nil) (by kernel_rfl) (by kernel_rfl)
noncomputable def q8c (p_0 : plan_Plan) (k_1 : Int) (n1 : Nat) : (Int × Sl plan_Part) → Option ((Int × Sl plan_Part) ⊕ (Sl plan_Part)) := fun (i5, s6) =>
 bif decide (i5 < (((plan_Round.Sws (gt ((plan_Plan.Rounds p_0).l) n1)).l).length : Int)) then ((ixI i5 ((plan_Round.Sws (gt ((plan_Plan.Rounds p_0).l) n1)).l).length).bind fun n7 =>
 (ixI k_1 ((plan_Plan.Rounds p_0).l).length).bind fun n8 =>
 (q9j (plan_Plan.Moves p_0) (plan_Round.No (gt ((plan_Plan.Rounds p_0).l) n8)) (gt ((plan_Round.Sws (gt ((plan_Plan.Rounds p_0).l) n1)).l) n7)).bind fun r9 =>
 (q8m (s6.l ++ [(⟨gt ((plan_Round.Sws (gt ((plan_Plan.Rounds p_0).l) n1)).l) n7, r9⟩ : plan_Part)])).bind fun l10 =>
 some (.inl (wr .i64 (i5 + 1), (Sl.mk l10)))) else
 (some (.inr s6))
noncomputable def q9i (p_0 : plan_Plan) (k_1 : Int) : Option (Sl plan_Part) :=
 bif ((decide (k_1 < 0)) || (decide (k_1 ≥ (((plan_Plan.Rounds p_0).l).length : Int)))) then (some Sl.nil) else
 ((ixI k_1 ((plan_Plan.Rounds p_0).l).length).bind fun n1 =>
 (q0e (q8c p_0 k_1 n1) (0, Sl.nil)).bind fun s11 =>
 some s11)
noncomputable def sp55 : Spc := ⟨[(false, .x y5), (false, .x (.i .i64))], [([.x (.sl y10)], [])], false, [], fun p => match p with | (p_0, k_1) => q9i p_0 k_1⟩
theorem ok55 : q0l prog 28 sp55 := q0g q0t q0y (sig := sig) (np := 2) (an := [(12, { j := some { vs := [(5, .so 0), (24, .x (.i .i64))], os := [.ar y10] }, e := [(.exit 0, { vs := [(5, .so 0)], os := [.ar y10] })] })]) (.cons ok54 .nil) (by kernel_rfl) (by kernel_rfl)
noncomputable def q3t : Option Bool :=
 (q3b (⟨3, (Sl.mk [(⟨0, 0, 1, 0, 1, 1⟩ : api_Link), (⟨1, 1, 2, 0, 1, 2⟩ : api_Link), (⟨0, 1, 2, 1, 1, 1⟩ : api_Link)]), (Sl.mk [(⟨2, 7⟩ : api_Host)])⟩ : api_Topo) (Sl.mk [(Sl.mk [0]), (Sl.mk [1]), (Sl.mk [7])]) (Sl.mk [(Sl.mk [1]), (Sl.mk [1]), (Sl.mk [7])]) 100 4 10).bind fun (r1, r2) =>
 ((q7w (⟨3, (Sl.mk [(⟨0, 0, 1, 0, 1, 1⟩ : api_Link), (⟨1, 1, 2, 0, 1, 2⟩ : api_Link), (⟨0, 1, 2, 1, 1, 1⟩ : api_Link)]), (Sl.mk [(⟨2, 7⟩ : api_Host)])⟩ : api_Topo) 4).bind fun r3 =>
 bif (((r3 == 15) && (r2 == 0)) && ((((plan_Plan.Rounds r1).l).length : Int) == 1)) then ((ixI 0 ((plan_Plan.Rounds r1).l).length).bind fun n4 =>
 bif ((((plan_Round.At (gt ((plan_Plan.Rounds r1).l) n4)) == 121) && ((plan_Plan.From r1) == 111)) && ((plan_Plan.To r1) == 125)) then ((q99 r1 125).bind fun r5 =>
 bif r5 then ((q9i r1 0).bind fun r6 =>
 some ((r6.l.length : Int) == 1)) else
 (some false)) else
 (some false)) else
 (some false) : Option Bool).bind fun b7 =>
 some b7
noncomputable def sp56 : Spc := ⟨[], [([.x .b], [])], true, [], fun p => match p with | _ => q3t⟩
theorem ok56 : q0l prog 21 sp56 := q0g q0t q0y (sig := sig) (np := 0) (an := [(7, { j := some { vs := [(0, .x .b)] } })]) (.cons ok46 (.cons ok37 (.cons ok47 (.cons ok55 .nil)))) (by kernel_rfl) (by kernel_rfl)
noncomputable def q23 (t_0 : api_Topo) (old_1 : Sl (Sl Int)) (now_2 : Sl (Sl Int)) (i7 : Int) (i11 : Int) : (Int × Sl ref23_Move) → Option ((Int × Sl ref23_Move) ⊕ (Sl ref23_Move)) := fun (i15, s16) =>
 bif decide (i15 < (((api_Topo.Hosts t_0).l).length : Int)) then (((q3e t_0 now_2 i11 i15).bind fun (r17, r18) =>
 (bif ((r17.l.length : Int) == (wr .i64 (i7 + 1))) then ((ixI i11 old_1.l.length).bind fun n19 =>
 (ixI i15 ((gt old_1.l n19).l).length).bind fun n20 =>
 (ixI i11 now_2.l.length).bind fun n21 =>
 (ixI i15 ((gt now_2.l n21).l).length).bind fun n22 =>
 some ((gt ((gt old_1.l n19).l) n20) != (gt ((gt now_2.l n21).l) n22))) else
 (some false) : Option Bool).bind fun b23 =>
 bif b23 then ((ixI i11 now_2.l.length).bind fun n24 =>
 (ixI i15 ((gt now_2.l n24).l).length).bind fun n25 =>
 (q8m (s16.l ++ [(⟨i11, i15, gt ((gt now_2.l n24).l) n25, i7⟩ : ref23_Move)])).bind fun l26 =>
 some (Sl.mk l26)) else
 (some s16) : Option (Sl ref23_Move)).bind fun s27 =>
 some (.inl (wr .i64 (i15 + 1), s27))) else
 (some (.inr s16))
noncomputable def q3j (t_0 : api_Topo) (old_1 : Sl (Sl Int)) (now_2 : Sl (Sl Int)) (i7 : Int) : (Int × Sl ref23_Move) → Option ((Int × Sl ref23_Move) ⊕ (Sl ref23_Move)) := fun (i11, s12) =>
 bif decide (i11 < (api_Topo.Switches t_0)) then ((q0e (q23 t_0 old_1 now_2 i7 i11) (0, s12)).bind fun s28 =>
 some (.inl (wr .i64 (i11 + 1), s28))) else
 (some (.inr s12))
noncomputable def q50 (t_0 : api_Topo) (old_1 : Sl (Sl Int)) (now_2 : Sl (Sl Int)) : (Int × Sl ref23_Move) → Option ((Int × Sl ref23_Move) ⊕ (Sl ref23_Move)) := fun (i7, s8) =>
 bif decide (i7 < (api_Topo.Switches t_0)) then ((q0e (q3j t_0 old_1 now_2 i7) (0, s8)).bind fun s29 =>
 some (.inl (wr .i64 (i7 + 1), s29))) else
 (some (.inr s8))
noncomputable def q4p (t_0 : api_Topo) (old_1 : Sl (Sl Int)) (now_2 : Sl (Sl Int)) : Option (Sl ref23_Move × Int) :=
 ((q7j t_0 old_1).bind fun r1 =>
 bif (!r1) then (some true) else
 ((q7j t_0 now_2).bind fun r2 =>
 some (!r2)) : Option Bool).bind fun b3 =>
 bif b3 then (some (Sl.nil, 2)) else
 ((q0e (q50 t_0 old_1 now_2) (0, Sl.nil)).bind fun s30 =>
 some (s30, 0))
noncomputable def sp57 : Spc := ⟨[(false, .x y0), (false, .x (.sl (.sl (.i .i64)))), (false, .x (.sl (.sl (.i .i64))))], [([.x (.sl y3), .x (.i .i64)], [])], false, [], fun p => match p with | (t_0, old_1, now_2) => q4p t_0 old_1 now_2⟩
theorem ok57 : q0l prog 46 sp57 := q0g q0t q0y (sig := sig) (np := 3) (an := [(4, { j := some { vs := [(23, .x .b)] } }), (12, { j := some { vs := [(8, .so 0), (9, .x (.i .i64))], os := [.ar y3] }, e := [(.exit 0, { vs := [(8, .so 0)], os := [.ar y3] })] }), (19, { j := some { vs := [(8, .so 0), (10, .x (.i .i64))], os := [.ar y3], kl := [1] }, e := [(.exit 2, { vs := [(8, .so 0)], os := [.ar y3], kl := [1] })] }), (26, { j := some { vs := [(8, .so 0), (11, .x (.i .i64))], os := [.ar y3], kl := [2] }, e := [(.exit 4, { vs := [(8, .so 0)], os := [.ar y3], kl := [2] })] }), (30, { e := [(.normal, { vs := [(8, .so 0)], os := [.ar y3], kl := [3] })] }), (34, { j := some { vs := [(72, .x .b)] } })]) (.cons ok8 (.cons ok7 .nil)) (by kernel_rfl) (by kernel_rfl)
noncomputable def q2o (t_0 : api_Topo) : (Int × Int) → Option ((Int × Int) ⊕ Int) := fun (i3, i4) =>
 bif decide (i4 < (((api_Topo.Links t_0).l).length : Int)) then (((ixI i4 ((api_Topo.Links t_0).l).length).bind fun n5 =>
 bif decide ((api_Link.Most (gt ((api_Topo.Links t_0).l) n5)) > i3) then ((ixI i4 ((api_Topo.Links t_0).l).length).bind fun n6 =>
 some (api_Link.Most (gt ((api_Topo.Links t_0).l) n6))) else
 (some i3) : Option Int).bind fun i7 =>
 some (.inl (i7, wr .i64 (i4 + 1)))) else
 (some (.inr i3))
noncomputable def q5o (t_0 : api_Topo) : Option Int :=
 (q0e (q2o t_0) (0, 0)).bind fun i8 =>
 some i8
noncomputable def sp58 : Spc := ⟨[(false, .x y0)], [([.x (.i .i64)], [])], true, [], fun p => match p with | t_0 => q5o t_0⟩
theorem ok58 : q0l prog 68 sp58 := q0g q0t q0y (sig := sig) (np := 1) (an := [(7, { j := some { vs := [(3, .x (.i .i64)), (4, .x (.i .i64))] }, e := [(.exit 0, { vs := [(3, .x (.i .i64))] })] }), (11, { e := [(.normal, { vs := [(3, .x (.i .i64))] })] })]) .nil (by kernel_rfl) (by kernel_rfl)
noncomputable def q9r (t_0 : api_Topo) : Option Int :=
 (q5o t_0).bind fun r1 =>
 some (wr .i64 ((api_Topo.Switches t_0) * r1))
noncomputable def sp59 : Spc := ⟨[(false, .x y0)], [([.x (.i .i64)], [])], true, [], fun p => match p with | t_0 => q9r t_0⟩
theorem ok59 : q0l prog 47 sp59 := q0g q0t q0y (sig := sig) (np := 1) (an := []) (.cons ok58 .nil) (by kernel_rfl) (by kernel_rfl)
noncomputable def q35 (l_1 : Sl ref23_Move) (round_2 : Int) (i4 : Int) : (Int × Int) → Option ((Int × Int) ⊕ Int) := fun (i8, i9) =>
 bif decide (i9 < (l_1.l.length : Int)) then ((((ixI i9 l_1.l.length).bind fun n10 =>
 bif ((ref23_Move.Sw (gt l_1.l n10)) == i4) then ((ixI i9 l_1.l.length).bind fun n11 =>
 some ((ref23_Move.Round (gt l_1.l n11)) == round_2)) else
 (some false) : Option Bool).bind fun b12 =>
 bif b12 then (some (wr .i64 (i8 + 1))) else
 (some i8) : Option Int).bind fun i13 =>
 some (.inl (i13, wr .i64 (i9 + 1)))) else
 (some (.inr i8))
noncomputable def q3x (t_0 : api_Topo) (l_1 : Sl ref23_Move) (round_2 : Int) : (Int × Sl Int) → Option ((Int × Sl Int) ⊕ (Sl Int)) := fun (i4, s5) =>
 bif decide (i4 < (api_Topo.Switches t_0)) then (((q0e (q35 l_1 round_2 i4) (0, 0)).bind fun i14 =>
 bif decide (i14 > 0) then ((q8m (s5.l ++ [i4])).bind fun l15 =>
 some (Sl.mk l15)) else
 (some s5) : Option (Sl Int)).bind fun s16 =>
 some (.inl (wr .i64 (i4 + 1), s16))) else
 (some (.inr s5))
noncomputable def qb8 (t_0 : api_Topo) (l_1 : Sl ref23_Move) (round_2 : Int) : Option (Sl Int) :=
 (q0e (q3x t_0 l_1 round_2) (0, Sl.nil)).bind fun s17 =>
 some s17
noncomputable def sp60 : Spc := ⟨[(false, .x y0), (false, .x (.sl y3)), (false, .x (.i .i64))], [([.x (.sl (.i .i64))], [])], false, [], fun p => match p with | (t_0, l_1, round_2) => qb8 t_0 l_1 round_2⟩
theorem ok60 : q0l prog 48 sp60 := q0g q0t q0y (sig := sig) (np := 3) (an := [(7, { j := some { vs := [(7, .so 0), (8, .x (.i .i64))], os := [.ar (.i .i64)] }, e := [(.exit 0, { vs := [(7, .so 0)], os := [.ar (.i .i64)] })] }), (11, { e := [(.normal, { vs := [(7, .so 0)], os := [.ar (.i .i64)], kl := [1] })] }), (17, { j := some { vs := [(9, .x (.i .i64)), (10, .x (.i .i64))] }, e := [(.exit 2, { vs := [(9, .x (.i .i64))] })] }), (21, { e := [(.normal, { vs := [(9, .x (.i .i64))] })] }), (23, { j := some { vs := [(38, .x .b)] } })]) .nil (by kernel_rfl) (by kernel_rfl)
noncomputable def q3g (t_0 : api_Topo) (miss_4 : Int) (r1 : Sl ref23_Move) : (Int × Int × Sl ref23_Move × Int × Int × Int × Int × Sl ref24_Round) → Option ((Int × Int × Sl ref23_Move × Int × Int × Int × Int × Sl ref24_Round) ⊕ (Sl ref23_Move × Int × Int × Int × Int × Sl ref24_Round)) := fun (i14, i15, s16, i17, i18, i19, i20, s21) =>
 bif decide (i15 < (api_Topo.Switches t_0)) then (((qb8 t_0 r1 i15).bind fun r22 =>
 bif ((r22.l.length : Int) == 0) then (some (i14, s16, i17, i18, i19, i20, s21)) else
 ((q8m (s21.l ++ [(⟨i15, i14, r22⟩ : ref24_Round)])).bind fun l23 =>
 some (wr .i64 ((wr .i64 ((wr .i64 ((wr .i64 (i14 + miss_4)) + miss_4)) + i18)) + 1), s16, i17, i18, i19, wr .i64 (i14 + miss_4), (Sl.mk l23))) : Option (Int × Sl ref23_Move × Int × Int × Int × Int × Sl ref24_Round)).bind fun (i24, s25, i26, i27, i28, i29, s30) =>
 some (.inl (i24, wr .i64 (i15 + 1), s25, i26, i27, i28, i29, s30))) else
 (some (.inr (s16, i17, i18, i19, i20, s21)))
noncomputable def q40 (t_0 : api_Topo) (old_1 : Sl (Sl Int)) (now_2 : Sl (Sl Int)) (at_3 : Int) (miss_4 : Int) (lead_5 : Int) : Option (ref24_Plan × Int) :=
 bif ((((((decide (at_3 < 0)) || (decide (at_3 > 1099511627776))) || (decide (miss_4 < 0))) || (decide (miss_4 > 1048576))) || (decide (lead_5 < 0))) || (decide (lead_5 > 1048576))) then (some ((⟨Sl.nil, Sl.nil, 0, 0, 0, 0⟩ : ref24_Plan), 2)) else
 ((q4p t_0 old_1 now_2).bind fun (r1, r2) =>
 bif (r2 != 0) then (some ((⟨Sl.nil, Sl.nil, 0, 0, 0, 0⟩ : ref24_Plan), r2)) else
 (bif ((r1.l.length : Int) == 0) then (some ((⟨Sl.nil, Sl.nil, 0, 0, 0, 0⟩ : ref24_Plan), 7)) else
 ((q9r t_0).bind fun r3 =>
 (q0e (q3g t_0 miss_4 r1) (wr .i64 ((wr .i64 ((wr .i64 ((wr .i64 (at_3 + lead_5)) + miss_4)) + r3)) + 1), 0, r1, miss_4, r3, wr .i64 ((wr .i64 (at_3 + lead_5)) + 1), 0, Sl.nil)).bind fun (s31, i32, i33, i34, i35, s36) =>
 bif decide (i35 > 1099511627776) then (some ((⟨Sl.nil, Sl.nil, 0, 0, 0, 0⟩ : ref24_Plan), 11)) else
 (some ((⟨s31, s36, i32, i33, i34, i35⟩ : plan_Plan), 0)))))
noncomputable def sp61 : Spc := ⟨[(false, .x y0), (false, .x (.sl (.sl (.i .i64)))), (false, .x (.sl (.sl (.i .i64)))), (false, .x (.i .i64)), (false, .x (.i .i64)), (false, .x (.i .i64))], [([.x y5, .x (.i .i64)], [])], false, [], fun p => match p with | (t_0, old_1, now_2, at_3, miss_4, lead_5) => q40 t_0 old_1 now_2 at_3 miss_4 lead_5⟩
theorem ok61 : q0l prog 23 sp61 := q0g q0t q0y (sig := sig) (np := 6) (an := [(28, { j := some { vs := [(16, .op 0 y5 []), (17, .x (.i .i64)), (18, .x (.i .i64))], os := [.bx y5 (.rc (.co (.x (.sl y3)) (.co (.so 1) (.co (.x (.i .i64)) (.co (.x (.i .i64)) (.co (.x (.i .i64)) (.co (.x (.i .i64)) .ni))))))), .ar y6], kl := [5] }, e := [(.exit 0, { vs := [(16, .op 0 y5 [])], os := [.bx y5 (.rc (.co (.x (.sl y3)) (.co (.so 1) (.co (.x (.i .i64)) (.co (.x (.i .i64)) (.co (.x (.i .i64)) (.co (.x (.i .i64)) .ni))))))), .ar y6], kl := [5] })] }), (32, { e := [(.normal, { vs := [(16, .op 0 y5 []), (17, .x (.i .i64))], os := [.bx y5 (.rc (.co (.x (.sl y3)) (.co (.so 1) (.co (.x (.i .i64)) (.co (.x (.i .i64)) (.co (.x (.i .i64)) (.co (.x (.i .i64)) .ni))))))), .ar y6], kl := [6, 7] })] })]) (.cons ok57 (.cons ok59 (.cons ok60 .nil))) (by kernel_rfl) (by kernel_rfl)
noncomputable def q5k (l_0 : Sl ref23_Move) : (Int × Sl level_Move) → Option ((Int × Sl level_Move) ⊕ (Sl level_Move)) := fun (i4, s5) =>
 bif decide (i4 < (l_0.l.length : Int)) then ((ixI i4 l_0.l.length).bind fun n6 =>
 (ixI i4 l_0.l.length).bind fun n7 =>
 (ixI i4 l_0.l.length).bind fun n8 =>
 (ixI i4 l_0.l.length).bind fun n9 =>
 (q8m (s5.l ++ [(⟨ref23_Move.Sw (gt l_0.l n6), ref23_Move.Host (gt l_0.l n7), ref23_Move.Port (gt l_0.l n8), ref23_Move.Round (gt l_0.l n9)⟩ : level_Move)])).bind fun l10 =>
 some (.inl (wr .i64 (i4 + 1), (Sl.mk l10)))) else
 (some (.inr s5))
noncomputable def q9o (l_0 : Sl ref23_Move) : Option (Sl level_Move) :=
 (q0e (q5k l_0) (0, Sl.nil)).bind fun s11 =>
 some s11
noncomputable def sp62 : Spc := ⟨[(false, .x (.sl y3))], [([.x (.sl y3)], [])], false, [], fun p => match p with | l_0 => q9o l_0⟩
theorem ok62 : q0l prog 69 sp62 := q0g q0t q0y (sig := sig) (np := 1) (an := [(7, { j := some { vs := [(3, .so 0), (4, .x (.i .i64))], os := [.ar y3] }, e := [(.exit 0, { vs := [(3, .so 0)], os := [.ar y3] })] })]) .nil (by kernel_rfl) (by kernel_rfl)
noncomputable def q5m (a_0 : Sl level_Move) (r1 : Sl level_Move) : Int → Option (Int ⊕ (Bool ⊕ Unit)) := fun i3 =>
 bif decide (i3 < (a_0.l.length : Int)) then ((ixI i3 a_0.l.length).bind fun n4 =>
 (ixI i3 r1.l.length).bind fun n5 =>
 bif (!(decide ((gt a_0.l n4) = (gt r1.l n5)))) then (some (.inr (.inl false))) else
 (some (.inl (wr .i64 (i3 + 1))))) else
 (some (.inr (.inr ())))
noncomputable def q7d (a_0 : Sl level_Move) (b_1 : Sl ref23_Move) : Option Bool :=
 (q9o b_1).bind fun r1 =>
 bif ((a_0.l.length : Int) != (r1.l.length : Int)) then (some false) else
 ((q0e (q5m a_0 r1) 0).bind fun
 | .inl b6 => (some b6)
 | .inr _ => (some true))
noncomputable def sp63 : Spc := ⟨[(false, .x (.sl y3)), (false, .x (.sl y3))], [([.x .b], [])], true, [], fun p => match p with | (a_0, b_1) => q7d a_0 b_1⟩
theorem ok63 : q0l prog 49 sp63 := q0g q0t q0y (sig := sig) (np := 2) (an := [(12, { j := some { vs := [(6, .x (.i .i64))] }, e := [(.ret, { vs := [(4, .x .b)] }), (.exit 0, {})] })]) (.cons ok62 .nil) (by kernel_rfl) (by kernel_rfl)
noncomputable def q46 (a_0 : plan_Plan) (b_1 : ref24_Plan) : Int → Option (Int ⊕ (Bool ⊕ Unit)) := fun i3 =>
 bif decide (i3 < (((ref24_Plan.Rounds b_1).l).length : Int)) then (((ixI i3 ((plan_Plan.Rounds a_0).l).length).bind fun n4 =>
 (ixI i3 ((ref24_Plan.Rounds b_1).l).length).bind fun n5 =>
 bif ((plan_Round.No (gt ((plan_Plan.Rounds a_0).l) n4)) != (ref24_Round.No (gt ((ref24_Plan.Rounds b_1).l) n5))) then (some true) else
 ((ixI i3 ((plan_Plan.Rounds a_0).l).length).bind fun n6 =>
 (ixI i3 ((ref24_Plan.Rounds b_1).l).length).bind fun n7 =>
 bif ((plan_Round.At (gt ((plan_Plan.Rounds a_0).l) n6)) != (ref24_Round.At (gt ((ref24_Plan.Rounds b_1).l) n7))) then (some true) else
 ((ixI i3 ((plan_Plan.Rounds a_0).l).length).bind fun n8 =>
 (ixI i3 ((ref24_Plan.Rounds b_1).l).length).bind fun n9 =>
 (q9p (plan_Round.Sws (gt ((plan_Plan.Rounds a_0).l) n8)) (ref24_Round.Sws (gt ((ref24_Plan.Rounds b_1).l) n9))).bind fun r10 =>
 some (!r10))) : Option Bool).bind fun b11 =>
 bif b11 then (some (.inr (.inl false))) else
 (some (.inl (wr .i64 (i3 + 1))))) else
 (some (.inr (.inr ())))
noncomputable def q5u (a_0 : plan_Plan) (b_1 : ref24_Plan) : Option Bool :=
 (q7d (plan_Plan.Moves a_0) (ref24_Plan.Moves b_1)).bind fun r1 =>
 bif ((((((!r1) || ((((plan_Plan.Rounds a_0).l).length : Int) != (((ref24_Plan.Rounds b_1).l).length : Int))) || ((plan_Plan.Miss a_0) != (ref24_Plan.Miss b_1))) || ((plan_Plan.Life a_0) != (ref24_Plan.Life b_1))) || ((plan_Plan.From a_0) != (ref24_Plan.From b_1))) || ((plan_Plan.To a_0) != (ref24_Plan.To b_1))) then (some false) else
 ((q0e (q46 a_0 b_1) 0).bind fun
 | .inl b12 => (some b12)
 | .inr _ => (some true))
noncomputable def sp64 : Spc := ⟨[(false, .x y5), (false, .x y5)], [([.x .b], [])], true, [], fun p => match p with | (a_0, b_1) => q5u a_0 b_1⟩
theorem ok64 : q0l prog 24 sp64 := q0g q0t q0y (sig := sig) (np := 2) (an := [(10, { j := some { vs := [(5, .x (.i .i64))] }, e := [(.ret, { vs := [(4, .x .b)] }), (.exit 0, {})] }), (16, { j := some { vs := [(99, .x .b)] } })]) (.cons ok63 (.cons ok29 .nil)) (by kernel_rfl) (by kernel_rfl)
noncomputable def q6b (t_0 : api_Topo) (old_1 : Sl (Sl Int)) (now_2 : Sl (Sl Int)) (at_3 : Int) (miss_4 : Int) (lead_5 : Int) : Option Bool :=
 ((q69 t_0 old_1).bind fun r1 =>
 bif (!r1) then (some true) else
 ((q69 t_0 now_2).bind fun r2 =>
 some (!r2)) : Option Bool).bind fun b3 =>
 bif b3 then ((q3t).bind fun r4 =>
 some r4) else
 ((q3b t_0 old_1 now_2 at_3 miss_4 lead_5).bind fun (r5, r6) =>
 (q40 t_0 old_1 now_2 at_3 miss_4 lead_5).bind fun (r7, r8) =>
 ((q5u r5 r7).bind fun r9 =>
 bif (r9 && (r6 == r8)) then ((q3t).bind fun r10 =>
 some r10) else
 (some false) : Option Bool).bind fun b11 =>
 some b11)
noncomputable def sp65 : Spc := ⟨[(false, .x y0), (false, .x (.sl (.sl (.i .i64)))), (false, .x (.sl (.sl (.i .i64)))), (false, .x (.i .i64)), (false, .x (.i .i64)), (false, .x (.i .i64))], [([.x .b], [])], true, [], fun p => match p with | (t_0, old_1, now_2, at_3, miss_4, lead_5) => q6b t_0 old_1 now_2 at_3 miss_4 lead_5⟩
theorem ok65 : q0l prog 6 sp65 := q0g q0t q0y (sig := sig) (np := 6) (an := [(4, { j := some { vs := [(26, .x .b)] } }), (12, { j := some { vs := [(12, .x .b)] } })]) (.cons ok0 (.cons ok56 (.cons ok46 (.cons ok61 (.cons ok64 .nil))))) (by kernel_rfl) (by kernel_rfl)
end Go.Proofs.Ythcplpfiidlinaa.L
