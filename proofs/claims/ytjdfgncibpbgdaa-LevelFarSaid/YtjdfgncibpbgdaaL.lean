/- What functions of the program compute, and that the model's run computes it. Conditions: as stated. -/
import Derived.Test.YtjdfgncibpbgdaaLS
import Derived.Test.YtjdfgncibpbgdaaChecked
import Derived.KernelRfl
open Go.Ev Go
namespace Go.Proofs.Ytjdfgncibpbgdaa.L
noncomputable abbrev prog : Program := Try.prog
theorem mixed : prog.follows .mixedOrders = true := by kernel_rfl
theorem glbok : GlbOk := glb_ok fun _ => rfl
def sig : Sig := fun f =>
 if f = 2 then (true, []) else if f = 3 then (true, []) else if f = 4 then (true, []) else if f = 5 then (true, []) else if f = 6 then (true, []) else if f = 7 then (true, []) else if f = 8 then (true, []) else if f = 9 then (true, []) else if f = 10 then (true, []) else if f = 11 then (true, []) else if f = 12 then (true, []) else if f = 15 then (true, []) else if f = 16 then (true, []) else if f = 17 then (true, []) else if f = 19 then (true, []) else if f = 21 then (true, []) else if f = 24 then (true, []) else if f = 25 then (true, []) else if f = 26 then (true, []) else if f = 27 then (true, []) else if f = 29 then (true, []) else if f = 30 then (true, []) else if f = 32 then (true, []) else if f = 35 then (false, [true, false]) else if f = 36 then (true, []) else if f = 37 then (true, []) else if f = 38 then (true, []) else if f = 40 then (false, [true, false]) else if f = 42 then (true, []) else if f = 43 then (true, []) else if f = 47 then (true, []) else if f = 49 then (true, []) else if f = 50 then (true, []) else if f = 51 then (true, []) else if f = 52 then (true, []) else if f = 53 then (true, []) else if f = 54 then (false, [true]) else if f = 55 then (false, [true]) else if f = 57 then (false, [true, false, false, false, false]) else if f = 58 then (true, []) else if f = 59 then (true, []) else if f = 60 then (true, []) else if f = 61 then (true, []) else if f = 62 then (true, []) else if f = 63 then (true, []) else if f = 64 then (true, []) else if f = 68 then (true, []) else if f = 70 then (true, []) else if f = 71 then (true, []) else if f = 72 then (true, []) else if f = 73 then (false, [true, false, false, false]) else if f = 74 then (true, []) else if f = 75 then (true, []) else if f = 76 then (true, []) else if f = 77 then (false, [true, false, false, false]) else if f = 78 then (false, [true, false, false, false]) else if f = 79 then (false, [true, false, false, false]) else if f = 80 then (true, []) else if f = 81 then (false, [true, false, false, false]) else if f = 82 then (false, [true, false, false, false]) else if f = 83 then (false, [true, false, false, false, false]) else if f = 84 then (false, [true, false, false, false, false]) else if f = 85 then (true, []) else if f = 86 then (true, []) else if f = 87 then (true, []) else if f = 89 then (true, []) else if f = 90 then (true, []) else if f = 91 then (true, []) else if f = 93 then (true, []) else if f = 94 then (false, [true, false, false]) else if f = 95 then (false, [true, false, false]) else if f = 96 then (false, [true, false, false]) else if f = 97 then (true, []) else if f = 98 then (false, [true, false, false]) else if f = 99 then (false, [true, false, false]) else if f = 100 then (true, []) else if f = 101 then (false, [true, false, false, false]) else if f = 102 then (false, [true, false, false, false]) else if f = 103 then (true, []) else if f = 104 then (false, [true, false, false, false, false]) else if f = 105 then (true, []) else if f = 106 then (false, [true]) else if f = 107 then (false, [false, false, true, false]) else if f = 108 then (false, [false, false, false, false, true, false]) else if f = 109 then (true, []) else if f = 110 then (true, []) else if f = 111 then (true, []) else if f = 112 then (true, []) else if f = 113 then (false, [true, false, false, false]) else if f = 114 then (false, [false, false, true]) else if f = 115 then (false, [false, false, false, false, true]) else if f = 116 then (false, [false, false, false, true, false]) else if f = 117 then (true, []) else if f = 118 then (true, []) else if f = 119 then (false, [false, false, false, true]) else (false, [])
@[reducible] def api_Link : Type := Int × Int × Int × Int × Int × Int
@[reducible] def api_Link.A (x : api_Link) : Int := x.1
@[reducible] def api_Link.PortA (x : api_Link) : Int := x.2.1
@[reducible] def api_Link.B (x : api_Link) : Int := x.2.2.1
@[reducible] def api_Link.PortB (x : api_Link) : Int := x.2.2.2.1
@[reducible] def api_Link.Least (x : api_Link) : Int := x.2.2.2.2.1
@[reducible] def api_Link.Most (x : api_Link) : Int := x.2.2.2.2.2
@[reducible] def api_Host : Type := Int × Int
@[reducible] def api_Host.At (x : api_Host) : Int := x.1
@[reducible] def api_Host.Port (x : api_Host) : Int := x.2
@[reducible] def api_Topo : Type := Int × Sl api_Link × Sl api_Host
@[reducible] def api_Topo.Switches (x : api_Topo) : Int := x.1
@[reducible] def api_Topo.Links (x : api_Topo) : Sl api_Link := x.2.1
@[reducible] def api_Topo.Hosts (x : api_Topo) : Sl api_Host := x.2.2
@[reducible] def y1 : Ty := .st (.pr (.i .i64) (.pr (.i .i64) (.pr (.i .i64) (.pr (.i .i64) (.pr (.i .i64) (.i .i64))))))
@[reducible] def y2 : Ty := .st (.pr (.i .i64) (.i .i64))
@[reducible] def y0 : Ty := .st (.pr (.i .i64) (.pr (.sl y1) (.sl y2)))
@[reducible] def topo_place : Type := Int × Int
@[reducible] def topo_place.sw (x : topo_place) : Int := x.1
@[reducible] def topo_place.port (x : topo_place) : Int := x.2
@[reducible] def level_Move : Type := Int × Int × Int × Int
@[reducible] def level_Move.Sw (x : level_Move) : Int := x.1
@[reducible] def level_Move.Host (x : level_Move) : Int := x.2.1
@[reducible] def level_Move.Port (x : level_Move) : Int := x.2.2.1
@[reducible] def level_Move.Round (x : level_Move) : Int := x.2.2.2
@[reducible] def y3 : Ty := .st (.pr (.i .i64) (.pr (.i .i64) (.pr (.i .i64) (.i .i64))))
/- turnout/turnoutlaw23.Small -/
noncomputable def law23_Small_L1 (r_1 : Sl (Sl Int)) : Int → Option (Int ⊕ (Bool ⊕ Unit)) := fun i2 =>
 bif decide (i2 < (r_1.l.length : Int)) then ((ixI i2 r_1.l.length).bind fun n3 =>
 bif decide ((((gt r_1.l n3).l).length : Int) > 12) then (some (.inr (.inl false))) else
 (some (.inl (wr .i64 (i2 + 1))))) else
 (some (.inr (.inr ())))
noncomputable def law23_Small (t_0 : api_Topo) (r_1 : Sl (Sl Int)) : Option Bool :=
 (loopO (law23_Small_L1 r_1) 0).bind fun
 | .inl b4 => (some b4)
 | .inr _ => (some (((decide ((((api_Topo.Links t_0).l).length : Int) ≤ 30)) && (decide ((((api_Topo.Hosts t_0).l).length : Int) ≤ 12))) && (decide ((r_1.l.length : Int) ≤ 12))))
noncomputable def sp0 : Spc := ⟨[(false, .x y0), (false, .x (.sl (.sl (.i .i64))))], [([.x .b], [])], true, [], fun p => match p with | (t_0, r_1) => law23_Small t_0 r_1⟩
theorem ok0 : SpcOk prog 10 sp0 := spc_ok mixed glbok (sig := sig) (np := 2) (an := [(5, { j := some { vs := [(5, .x (.i .i64))] }, e := [(.ret, { vs := [(4, .x .b)] }), (.exit 0, {})] })]) .nil (by kernel_rfl) (by kernel_rfl)
/- turnout/turnoutref17.port -/
noncomputable def ref17_port_L1 (t_0 : api_Topo) (sw_1 : Int) (p_2 : Int) : (Int × Int) → Option ((Int × Int) ⊕ Int) := fun (i3, i4) =>
 bif decide (i4 < (((api_Topo.Links t_0).l).length : Int)) then (((ixI i4 ((api_Topo.Links t_0).l).length).bind fun n5 =>
 (bif (((api_Link.A (gt ((api_Topo.Links t_0).l) n5)) == sw_1) && ((api_Link.PortA (gt ((api_Topo.Links t_0).l) n5)) == p_2)) then (some (wr .i64 (i3 + 1))) else
 (some i3) : Option Int).bind fun i6 =>
 bif (((api_Link.B (gt ((api_Topo.Links t_0).l) n5)) == sw_1) && ((api_Link.PortB (gt ((api_Topo.Links t_0).l) n5)) == p_2)) then (some (wr .i64 (i6 + 1))) else
 (some i6) : Option Int).bind fun i7 =>
 some (.inl (i7, wr .i64 (i4 + 1)))) else
 (some (.inr i3))
noncomputable def ref17_port_L2 (t_0 : api_Topo) (sw_1 : Int) (p_2 : Int) : (Int × Int) → Option ((Int × Int) ⊕ Int) := fun (i11, i12) =>
 bif decide (i12 < (((api_Topo.Hosts t_0).l).length : Int)) then ((((ixI i12 ((api_Topo.Hosts t_0).l).length).bind fun n13 =>
 bif ((api_Host.At (gt ((api_Topo.Hosts t_0).l) n13)) == sw_1) then ((ixI i12 ((api_Topo.Hosts t_0).l).length).bind fun n14 =>
 some ((api_Host.Port (gt ((api_Topo.Hosts t_0).l) n14)) == p_2)) else
 (some false) : Option Bool).bind fun b15 =>
 bif b15 then (some (wr .i64 (i11 + 1))) else
 (some i11) : Option Int).bind fun i16 =>
 some (.inl (i16, wr .i64 (i12 + 1)))) else
 (some (.inr i11))
noncomputable def ref17_port (t_0 : api_Topo) (sw_1 : Int) (p_2 : Int) : Option Bool :=
 (loopO (ref17_port_L1 t_0 sw_1 p_2) (0, 0)).bind fun i8 =>
 (loopO (ref17_port_L2 t_0 sw_1 p_2) (i8, 0)).bind fun i17 =>
 some (((((decide (sw_1 ≥ 0)) && (decide (sw_1 < (api_Topo.Switches t_0)))) && (decide (p_2 ≥ 0))) && (decide (p_2 ≤ 7))) && (i17 == 1))
noncomputable def sp1 : Spc := ⟨[(false, .x y0), (false, .x (.i .i64)), (false, .x (.i .i64))], [([.x .b], [])], true, [], fun p => match p with | (t_0, sw_1, p_2) => ref17_port t_0 sw_1 p_2⟩
theorem ok1 : SpcOk prog 71 sp1 := spc_ok mixed glbok (sig := sig) (np := 3) (an := [(7, { j := some { vs := [(7, .x (.i .i64)), (8, .x (.i .i64))] }, e := [(.exit 0, { vs := [(7, .x (.i .i64))] })] }), (11, { e := [(.normal, { vs := [(7, .x (.i .i64))] })] }), (14, { e := [(.normal, { vs := [(7, .x (.i .i64))] })] }), (25, { j := some { vs := [(7, .x (.i .i64)), (10, .x (.i .i64))] }, e := [(.exit 2, { vs := [(7, .x (.i .i64))] })] }), (29, { e := [(.normal, { vs := [(7, .x (.i .i64))] })] }), (31, { j := some { vs := [(71, .x .b)] } })]) .nil (by kernel_rfl) (by kernel_rfl)
/- turnout/turnoutref17.Right -/
noncomputable def ref17_Right_L1 (t_0 : api_Topo) : Int → Option (Int ⊕ (Bool ⊕ Unit)) := fun i2 =>
 bif decide (i2 < (((api_Topo.Links t_0).l).length : Int)) then ((ixI i2 ((api_Topo.Links t_0).l).length).bind fun n3 =>
 (bif (((((api_Link.A (gt ((api_Topo.Links t_0).l) n3)) == (api_Link.B (gt ((api_Topo.Links t_0).l) n3))) || (decide ((api_Link.Least (gt ((api_Topo.Links t_0).l) n3)) < 1))) || (decide ((api_Link.Least (gt ((api_Topo.Links t_0).l) n3)) > (api_Link.Most (gt ((api_Topo.Links t_0).l) n3))))) || (decide ((api_Link.Most (gt ((api_Topo.Links t_0).l) n3)) > 1000))) then (some true) else
 ((ref17_port t_0 (api_Link.A (gt ((api_Topo.Links t_0).l) n3)) (api_Link.PortA (gt ((api_Topo.Links t_0).l) n3))).bind fun r4 =>
 bif (!r4) then (some true) else
 ((ref17_port t_0 (api_Link.B (gt ((api_Topo.Links t_0).l) n3)) (api_Link.PortB (gt ((api_Topo.Links t_0).l) n3))).bind fun r5 =>
 some (!r5))) : Option Bool).bind fun b6 =>
 bif b6 then (some (.inr (.inl false))) else
 (some (.inl (wr .i64 (i2 + 1))))) else
 (some (.inr (.inr ())))
noncomputable def ref17_Right_L2 (t_0 : api_Topo) : Int → Option (Int ⊕ (Bool ⊕ Unit)) := fun i9 =>
 bif decide (i9 < (((api_Topo.Hosts t_0).l).length : Int)) then ((ixI i9 ((api_Topo.Hosts t_0).l).length).bind fun n10 =>
 (ixI i9 ((api_Topo.Hosts t_0).l).length).bind fun n11 =>
 (ref17_port t_0 (api_Host.At (gt ((api_Topo.Hosts t_0).l) n10)) (api_Host.Port (gt ((api_Topo.Hosts t_0).l) n11))).bind fun r12 =>
 bif (!r12) then (some (.inr (.inl false))) else
 (some (.inl (wr .i64 (i9 + 1))))) else
 (some (.inr (.inr ())))
noncomputable def ref17_Right (t_0 : api_Topo) : Option Bool :=
 bif ((((decide ((api_Topo.Switches t_0) < 1)) || (decide ((api_Topo.Switches t_0) > 8))) || (decide ((((api_Topo.Links t_0).l).length : Int) > 24))) || (decide ((((api_Topo.Hosts t_0).l).length : Int) > 8))) then (some false) else
 ((loopO (ref17_Right_L1 t_0) 0).bind fun
 | .inl b7 => (some b7)
 | .inr _ => ((loopO (ref17_Right_L2 t_0) 0).bind fun
 | .inl b13 => (some b13)
 | .inr _ => (some true)))
noncomputable def sp2 : Spc := ⟨[(false, .x y0)], [([.x .b], [])], true, [], fun p => match p with | t_0 => ref17_Right t_0⟩
theorem ok2 : SpcOk prog 52 sp2 := spc_ok mixed glbok (sig := sig) (np := 1) (an := [(10, { j := some { vs := [(3, .x (.i .i64))] }, e := [(.ret, { vs := [(2, .x .b)] }), (.exit 0, {})] }), (18, { j := some { vs := [(77, .x .b)] } }), (25, { j := some { vs := [(5, .x (.i .i64))] }, e := [(.ret, { vs := [(2, .x .b)] }), (.exit 2, {})] })]) (.cons ok1 .nil) (by kernel_rfl) (by kernel_rfl)
/- turnout/turnoutref21.Right -/
noncomputable def ref21_Right_L1 (r_1 : Sl (Sl Int)) (i3 : Int) : Int → Option (Int ⊕ (Bool ⊕ Unit)) := fun i6 =>
 (ixI i3 r_1.l.length).bind fun n7 =>
 bif decide (i6 < (((gt r_1.l n7).l).length : Int)) then (((ixI i3 r_1.l.length).bind fun n8 =>
 (ixI i6 ((gt r_1.l n8).l).length).bind fun n9 =>
 bif decide ((gt ((gt r_1.l n8).l) n9) < 0) then (some true) else
 ((ixI i3 r_1.l.length).bind fun n10 =>
 (ixI i6 ((gt r_1.l n10).l).length).bind fun n11 =>
 some (decide ((gt ((gt r_1.l n10).l) n11) > 7))) : Option Bool).bind fun b12 =>
 bif b12 then (some (.inr (.inl false))) else
 (some (.inl (wr .i64 (i6 + 1))))) else
 (some (.inr (.inr ())))
noncomputable def ref21_Right_L2 (t_0 : api_Topo) (r_1 : Sl (Sl Int)) : Int → Option (Int ⊕ (Bool ⊕ Unit)) := fun i3 =>
 bif decide (i3 < (r_1.l.length : Int)) then ((ixI i3 r_1.l.length).bind fun n4 =>
 bif ((((gt r_1.l n4).l).length : Int) != (((api_Topo.Hosts t_0).l).length : Int)) then (some (.inr (.inl false))) else
 ((loopO (ref21_Right_L1 r_1 i3) 0).bind fun
 | .inl b13 => (some (.inr (.inl b13)))
 | .inr _ => (some (.inl (wr .i64 (i3 + 1)))))) else
 (some (.inr (.inr ())))
noncomputable def ref21_Right (t_0 : api_Topo) (r_1 : Sl (Sl Int)) : Option Bool :=
 (ref17_Right t_0).bind fun r1 =>
 bif ((!r1) || ((r_1.l.length : Int) != (api_Topo.Switches t_0))) then (some false) else
 ((loopO (ref21_Right_L2 t_0 r_1) 0).bind fun
 | .inl b14 => (some b14)
 | .inr _ => (some true))
noncomputable def sp3 : Spc := ⟨[(false, .x y0), (false, .x (.sl (.sl (.i .i64))))], [([.x .b], [])], true, [], fun p => match p with | (t_0, r_1) => ref21_Right t_0 r_1⟩
theorem ok3 : SpcOk prog 30 sp3 := spc_ok mixed glbok (sig := sig) (np := 2) (an := [(10, { j := some { vs := [(5, .x (.i .i64))] }, e := [(.ret, { vs := [(4, .x .b)] }), (.exit 0, {})] }), (22, { j := some { vs := [(6, .x (.i .i64))] }, e := [(.ret, { vs := [(4, .x .b)] }), (.exit 2, {})] }), (28, { j := some { vs := [(58, .x .b)] } })]) (.cons ok2 .nil) (by kernel_rfl) (by kernel_rfl)
/- turnout/turnoutref17.Peer -/
noncomputable def ref17_Peer_L1 (t_0 : api_Topo) (sw_1 : Int) (p_2 : Int) : Int → Option (Int ⊕ ((Int × Int × Int × Bool) ⊕ Unit)) := fun i2 =>
 bif decide (i2 < (((api_Topo.Links t_0).l).length : Int)) then ((ixI i2 ((api_Topo.Links t_0).l).length).bind fun n3 =>
 bif (((api_Link.A (gt ((api_Topo.Links t_0).l) n3)) == sw_1) && ((api_Link.PortA (gt ((api_Topo.Links t_0).l) n3)) == p_2)) then (some (.inr (.inl (api_Link.B (gt ((api_Topo.Links t_0).l) n3), api_Link.PortB (gt ((api_Topo.Links t_0).l) n3), i2, true)))) else
 (bif (((api_Link.B (gt ((api_Topo.Links t_0).l) n3)) == sw_1) && ((api_Link.PortB (gt ((api_Topo.Links t_0).l) n3)) == p_2)) then (some (.inr (.inl (api_Link.A (gt ((api_Topo.Links t_0).l) n3), api_Link.PortA (gt ((api_Topo.Links t_0).l) n3), i2, true)))) else
 (some (.inl (wr .i64 (i2 + 1)))))) else
 (some (.inr (.inr ())))
noncomputable def ref17_Peer (t_0 : api_Topo) (sw_1 : Int) (p_2 : Int) : Option (Int × Int × Int × Bool) :=
 (loopO (ref17_Peer_L1 t_0 sw_1 p_2) 0).bind fun
 | .inl (i4, i5, i6, b7) => (some (i4, i5, i6, b7))
 | .inr _ => (some (0, 0, 0, false))
noncomputable def sp4 : Spc := ⟨[(false, .x y0), (false, .x (.i .i64)), (false, .x (.i .i64))], [([.x (.i .i64), .x (.i .i64), .x (.i .i64), .x .b], [])], true, [], fun p => match p with | (t_0, sw_1, p_2) => ref17_Peer t_0 sw_1 p_2⟩
theorem ok4 : SpcOk prog 15 sp4 := spc_ok mixed glbok (sig := sig) (np := 3) (an := [(5, { j := some { vs := [(10, .x (.i .i64))] }, e := [(.ret, { vs := [(6, .x (.i .i64)), (7, .x (.i .i64)), (8, .x (.i .i64)), (9, .x .b)] }), (.exit 0, {})] })]) .nil (by kernel_rfl) (by kernel_rfl)
/- turnout/turnoutref21.Next -/
noncomputable def ref21_Next (t_0 : api_Topo) (r_1 : Sl (Sl Int)) (sw_2 : Int) (h_3 : Int) : Option (Int × Bool) :=
 (bif (((decide (sw_2 < 0)) || (decide (sw_2 ≥ (r_1.l.length : Int)))) || (decide (h_3 < 0))) then (some true) else
 ((ixI sw_2 r_1.l.length).bind fun n1 =>
 some (decide (h_3 ≥ (((gt r_1.l n1).l).length : Int)))) : Option Bool).bind fun b2 =>
 bif b2 then (some (0, false)) else
 ((ixI sw_2 r_1.l.length).bind fun n3 =>
 (ixI h_3 ((gt r_1.l n3).l).length).bind fun n4 =>
 (ref17_Peer t_0 sw_2 (gt ((gt r_1.l n3).l) n4)).bind fun (r5, r6, r7, r8) =>
 some (r5, r8))
noncomputable def sp5 : Spc := ⟨[(false, .x y0), (false, .x (.sl (.sl (.i .i64)))), (false, .x (.i .i64)), (false, .x (.i .i64))], [([.x (.i .i64), .x .b], [])], true, [], fun p => match p with | (t_0, r_1, sw_2, h_3) => ref21_Next t_0 r_1 sw_2 h_3⟩
theorem ok5 : SpcOk prog 72 sp5 := spc_ok mixed glbok (sig := sig) (np := 4) (an := [(4, { j := some { vs := [(34, .x .b)] } })]) (.cons ok4 .nil) (by kernel_rfl) (by kernel_rfl)
/- turnout/turnoutref21.steps -/
noncomputable def ref21_steps_L1 (t_0 : api_Topo) (r_1 : Sl (Sl Int)) (h_3 : Int) (n_4 : Int) : (Int × Int) → Option ((Int × Int) ⊕ ((Int × Bool) ⊕ Int)) := fun (i3, i4) =>
 bif decide (i4 ≤ n_4) then (((ixI h_3 ((api_Topo.Hosts t_0).l).length).bind fun n5 =>
 bif ((api_Host.At (gt ((api_Topo.Hosts t_0).l) n5)) == i3) then ((ixI h_3 ((api_Topo.Hosts t_0).l).length).bind fun n6 =>
 (ixI i3 r_1.l.length).bind fun n7 =>
 (ixI h_3 ((gt r_1.l n7).l).length).bind fun n8 =>
 some ((api_Host.Port (gt ((api_Topo.Hosts t_0).l) n6)) == (gt ((gt r_1.l n7).l) n8))) else
 (some false) : Option Bool).bind fun b9 =>
 bif b9 then (some (.inr (.inl (i3, (i4 == n_4))))) else
 (bif (i4 == n_4) then (some (.inr (.inl (i3, false)))) else
 ((ref21_Next t_0 r_1 i3 h_3).bind fun (r10, r11) =>
 bif (!r11) then (some (.inr (.inl ((-1), false)))) else
 (some (.inl (r10, wr .i64 (i4 + 1))))))) else
 (some (.inr (.inr i3)))
noncomputable def ref21_steps (t_0 : api_Topo) (r_1 : Sl (Sl Int)) (sw_2 : Int) (h_3 : Int) (n_4 : Int) : Option (Int × Bool) :=
 (loopO (ref21_steps_L1 t_0 r_1 h_3 n_4) (sw_2, 0)).bind fun
 | .inl (i12, b13) => (some (i12, b13))
 | .inr i14 => (some (i14, false))
noncomputable def sp6 : Spc := ⟨[(false, .x y0), (false, .x (.sl (.sl (.i .i64)))), (false, .x (.i .i64)), (false, .x (.i .i64)), (false, .x (.i .i64))], [([.x (.i .i64), .x .b], [])], true, [], fun p => match p with | (t_0, r_1, sw_2, h_3, n_4) => ref21_steps t_0 r_1 sw_2 h_3 n_4⟩
theorem ok6 : SpcOk prog 53 sp6 := spc_ok mixed glbok (sig := sig) (np := 5) (an := [(7, { j := some { vs := [(12, .x (.i .i64)), (13, .x (.i .i64))] }, e := [(.ret, { vs := [(10, .x (.i .i64)), (11, .x .b)] }), (.exit 0, { vs := [(12, .x (.i .i64))] })] }), (14, { j := some { vs := [(45, .x .b)] } })]) (.cons ok5 .nil) (by kernel_rfl) (by kernel_rfl)
/- turnout/turnoutref21.Walk -/
noncomputable def ref21_Walk_L1 (t_0 : api_Topo) (r_1 : Sl (Sl Int)) (sw_2 : Int) (h_3 : Int) : (Int × Sl Int) → Option ((Int × Sl Int) ⊕ ((Int × Sl Int) ⊕ Unit)) := fun (i5, s6) =>
 bif decide (i5 < (api_Topo.Switches t_0)) then ((ref21_steps t_0 r_1 sw_2 h_3 i5).bind fun (r7, r8) =>
 bif (r7 == (-1)) then (some (.inr (.inl (13, Sl.nil)))) else
 ((capI (s6.l ++ [r7])).bind fun l9 =>
 bif r8 then (some (.inr (.inl (0, (Sl.mk l9))))) else
 (some (.inl (wr .i64 (i5 + 1), (Sl.mk l9)))))) else
 (some (.inr (.inr ())))
noncomputable def ref21_Walk (t_0 : api_Topo) (r_1 : Sl (Sl Int)) (sw_2 : Int) (h_3 : Int) : Option (Sl Int × Int) :=
 (ref21_Right t_0 r_1).bind fun r1 =>
 bif (((((!r1) || (decide (sw_2 < 0))) || (decide (sw_2 ≥ (r_1.l.length : Int)))) || (decide (h_3 < 0))) || (decide (h_3 ≥ (((api_Topo.Hosts t_0).l).length : Int)))) then (some (Sl.nil, 2)) else
 ((loopO (ref21_Walk_L1 t_0 r_1 sw_2 h_3) (0, Sl.nil)).bind fun
 | .inl (i10, s11) => (some (s11, i10))
 | .inr _ => ((ref21_steps t_0 r_1 sw_2 h_3 (api_Topo.Switches t_0)).bind fun (r12, r13) =>
 bif (r12 == (-1)) then (some (Sl.nil, 13)) else
 (some (Sl.nil, 12))))
noncomputable def sp7 : Spc := ⟨[(false, .x y0), (false, .x (.sl (.sl (.i .i64)))), (false, .x (.i .i64)), (false, .x (.i .i64))], [([.x (.sl (.i .i64)), .x (.i .i64)], [])], false, [], fun p => match p with | (t_0, r_1, sw_2, h_3) => ref21_Walk t_0 r_1 sw_2 h_3⟩
theorem ok7 : SpcOk prog 31 sp7 := spc_ok mixed glbok (sig := sig) (np := 4) (an := [(12, { j := some { vs := [(10, .so 0), (11, .x (.i .i64))], os := [.ar (.i .i64)] }, e := [(.ret, { vs := [(8, .so 0), (9, .x (.i .i64))], os := [.ar (.i .i64)] }), (.exit 0, {})] })]) (.cons ok3 (.cons ok6 .nil)) (by kernel_rfl) (by kernel_rfl)
/- turnout/turnoutref21.Good -/
noncomputable def ref21_Good_L1 (t_0 : api_Topo) (r_1 : Sl (Sl Int)) (i3 : Int) : Int → Option (Int ⊕ (Bool ⊕ Unit)) := fun i5 =>
 bif decide (i5 < (((api_Topo.Hosts t_0).l).length : Int)) then ((ref21_Walk t_0 r_1 i3 i5).bind fun (r6, r7) =>
 bif (r7 != 0) then (some (.inr (.inl false))) else
 (some (.inl (wr .i64 (i5 + 1))))) else
 (some (.inr (.inr ())))
noncomputable def ref21_Good_L2 (t_0 : api_Topo) (r_1 : Sl (Sl Int)) : Int → Option (Int ⊕ (Bool ⊕ Unit)) := fun i3 =>
 bif decide (i3 < (r_1.l.length : Int)) then ((loopO (ref21_Good_L1 t_0 r_1 i3) 0).bind fun
 | .inl b8 => (some (.inr (.inl b8)))
 | .inr _ => (some (.inl (wr .i64 (i3 + 1))))) else
 (some (.inr (.inr ())))
noncomputable def ref21_Good (t_0 : api_Topo) (r_1 : Sl (Sl Int)) : Option Bool :=
 (ref21_Right t_0 r_1).bind fun r1 =>
 bif (!r1) then (some false) else
 ((loopO (ref21_Good_L2 t_0 r_1) 0).bind fun
 | .inl b9 => (some b9)
 | .inr _ => (some true))
noncomputable def sp8 : Spc := ⟨[(false, .x y0), (false, .x (.sl (.sl (.i .i64))))], [([.x .b], [])], true, [], fun p => match p with | (t_0, r_1) => ref21_Good t_0 r_1⟩
theorem ok8 : SpcOk prog 11 sp8 := spc_ok mixed glbok (sig := sig) (np := 2) (an := [(10, { j := some { vs := [(5, .x (.i .i64))] }, e := [(.ret, { vs := [(4, .x .b)] }), (.exit 0, {})] }), (17, { j := some { vs := [(6, .x (.i .i64))] }, e := [(.ret, { vs := [(4, .x .b)] }), (.exit 2, {})] })]) (.cons ok3 (.cons ok7 .nil)) (by kernel_rfl) (by kernel_rfl)
/- turnout/topo.places -/
noncomputable def topo_places_L1 (t_0 : api_Topo) : (Int × Sl topo_place) → Option ((Int × Sl topo_place) ⊕ (Sl topo_place)) := fun (i4, s5) =>
 bif decide (i4 < (((api_Topo.Links t_0).l).length : Int)) then ((ixI i4 ((api_Topo.Links t_0).l).length).bind fun n6 =>
 (capI (s5.l ++ [(⟨api_Link.A (gt ((api_Topo.Links t_0).l) n6), api_Link.PortA (gt ((api_Topo.Links t_0).l) n6)⟩ : topo_place), (⟨api_Link.B (gt ((api_Topo.Links t_0).l) n6), api_Link.PortB (gt ((api_Topo.Links t_0).l) n6)⟩ : topo_place)])).bind fun l7 =>
 some (.inl (wr .i64 (i4 + 1), (Sl.mk l7)))) else
 (some (.inr s5))
noncomputable def topo_places_L2 (t_0 : api_Topo) : (Int × Sl topo_place) → Option ((Int × Sl topo_place) ⊕ (Sl topo_place)) := fun (i11, s12) =>
 bif decide (i11 < (((api_Topo.Hosts t_0).l).length : Int)) then ((ixI i11 ((api_Topo.Hosts t_0).l).length).bind fun n13 =>
 (capI (s12.l ++ [gt ((api_Topo.Hosts t_0).l) n13])).bind fun l14 =>
 some (.inl (wr .i64 (i11 + 1), (Sl.mk l14)))) else
 (some (.inr s12))
noncomputable def topo_places (t_0 : api_Topo) : Option (Sl topo_place) :=
 (loopO (topo_places_L1 t_0) (0, Sl.nil)).bind fun s8 =>
 (loopO (topo_places_L2 t_0) (0, s8)).bind fun s15 =>
 some s15
noncomputable def sp9 : Spc := ⟨[(false, .x y0)], [([.x (.sl y2)], [])], false, [], fun p => match p with | t_0 => topo_places t_0⟩
theorem ok9 : SpcOk prog 88 sp9 := spc_ok mixed glbok (sig := sig) (np := 1) (an := [(7, { j := some { vs := [(3, .so 0), (11, .x (.i .i64))], os := [.ar y2] }, e := [(.exit 0, { vs := [(3, .so 0)], os := [.ar y2] })] }), (19, { j := some { vs := [(3, .so 0), (32, .x (.i .i64))], os := [.ar y2], kl := [1] }, e := [(.exit 2, { vs := [(3, .so 0)], os := [.ar y2], kl := [1] })] })]) .nil (by kernel_rfl) (by kernel_rfl)
/- turnout/topo.Right -/
noncomputable def topo_Right_L1 (t_0 : api_Topo) : Int → Option (Int ⊕ (Bool ⊕ Unit)) := fun i2 =>
 bif decide (i2 < (((api_Topo.Links t_0).l).length : Int)) then ((ixI i2 ((api_Topo.Links t_0).l).length).bind fun n3 =>
 bif (((((api_Link.A (gt ((api_Topo.Links t_0).l) n3)) == (api_Link.B (gt ((api_Topo.Links t_0).l) n3))) || (decide ((api_Link.Least (gt ((api_Topo.Links t_0).l) n3)) < 1))) || (decide ((api_Link.Least (gt ((api_Topo.Links t_0).l) n3)) > (api_Link.Most (gt ((api_Topo.Links t_0).l) n3))))) || (decide ((api_Link.Most (gt ((api_Topo.Links t_0).l) n3)) > 1000))) then (some (.inr (.inl false))) else
 (some (.inl (wr .i64 (i2 + 1))))) else
 (some (.inr (.inr ())))
noncomputable def topo_Right_L2 (t_0 : api_Topo) (r5 : Sl topo_place) : (Int × Mp topo_place Int) → Option ((Int × Mp topo_place Int) ⊕ (Bool ⊕ Unit)) := fun (i9, m10) =>
 bif decide (i9 < (r5.l.length : Int)) then ((ixI i9 r5.l.length).bind fun n11 =>
 (mpSet ((mpEnt m10 0 (gt r5.l n11)).1) ((mpEnt m10 0 (gt r5.l n11)).2.2) (wr .i64 ((mpGet m10 0 (gt r5.l n11)) + 1))).bind fun m12 =>
 bif (((((decide ((topo_place.sw (gt r5.l n11)) < 0)) || (decide ((topo_place.sw (gt r5.l n11)) ≥ (api_Topo.Switches t_0)))) || (decide ((topo_place.port (gt r5.l n11)) < 0))) || (decide ((topo_place.port (gt r5.l n11)) ≥ 8))) || (decide ((mpGet m12 0 (gt r5.l n11)) > 1))) then (some (.inr (.inl false))) else
 (some (.inl (wr .i64 (i9 + 1), m12)))) else
 (some (.inr (.inr ())))
noncomputable def topo_Right (t_0 : api_Topo) : Option Bool :=
 bif ((((decide ((api_Topo.Switches t_0) < 1)) || (decide ((api_Topo.Switches t_0) > 8))) || (decide ((((api_Topo.Links t_0).l).length : Int) > 24))) || (decide ((((api_Topo.Hosts t_0).l).length : Int) > 8))) then (some false) else
 ((loopO (topo_Right_L1 t_0) 0).bind fun
 | .inl b4 => (some b4)
 | .inr _ => ((topo_places t_0).bind fun r5 =>
 (loopO (topo_Right_L2 t_0 r5) (0, (Mp.none : Mp topo_place Int))).bind fun
 | .inl b13 => (some b13)
 | .inr _ => (some true)))
noncomputable def sp10 : Spc := ⟨[(false, .x y0)], [([.x .b], [])], true, [], fun p => match p with | t_0 => topo_Right t_0⟩
theorem ok10 : SpcOk prog 61 sp10 := spc_ok mixed glbok (sig := sig) (np := 1) (an := [(10, { j := some { vs := [(31, .x (.i .i64))] }, e := [(.ret, { vs := [(2, .x .b)] }), (.exit 0, {})] }), (27, { j := some { vs := [(5, .om 0), (62, .x (.i .i64))], os := [.mp y2 (.i .i64)], kl := [1] }, e := [(.ret, { vs := [(2, .x .b)], kl := [1] }), (.exit 2, { kl := [1] })] })]) (.cons ok9 .nil) (by kernel_rfl) (by kernel_rfl)
/- turnout/route.Right$1 -/
noncomputable def route_Right_1 (p_0 : Int) : Option Bool :=
 some ((decide (p_0 < 0)) || (decide (p_0 ≥ 8)))
noncomputable def sp11 : Spc := ⟨[(false, .x (.i .i64))], [([.x .b], [])], true, [], fun p => match p with | p_0 => route_Right_1 p_0⟩
theorem ok11 : SpcOk prog 63 sp11 := spc_ok mixed glbok (sig := sig) (np := 1) (an := []) .nil (by kernel_rfl) (by kernel_rfl)
/- slices.IndexFunc[[]int,int] -/
noncomputable def slices_IndexFunc_int_int_route_Right_1_L1 (s_0 : Sl Int) : Int → Option (Int ⊕ (Int ⊕ Unit)) := fun i2 =>
 bif decide (i2 < (s_0.l.length : Int)) then ((ixI i2 s_0.l.length).bind fun n3 =>
 (route_Right_1 (gt s_0.l n3)).bind fun r4 =>
 bif r4 then (some (.inr (.inl i2))) else
 (some (.inl (wr .i64 (i2 + 1))))) else
 (some (.inr (.inr ())))
noncomputable def slices_IndexFunc_int_int_route_Right_1 (s_0 : Sl Int) : Option Int :=
 (loopO (slices_IndexFunc_int_int_route_Right_1_L1 s_0) 0).bind fun
 | .inl i5 => (some i5)
 | .inr _ => (some (-1))
noncomputable def sp12 : Spc := ⟨[(false, .x (.sl (.i .i64))), (false, .fn 63 .ni)], [([.x (.i .i64)], [])], true, [], fun p => match p with | s_0 => slices_IndexFunc_int_int_route_Right_1 s_0⟩
theorem ok12 : SpcOk prog 89 sp12 := spc_ok mixed glbok (sig := sig) (np := 2) (an := [(5, { j := some { vs := [(8, .x (.i .i64))] }, e := [(.ret, { vs := [(4, .x (.i .i64))] }), (.exit 0, {})] })]) (.cons ok11 .nil) (by kernel_rfl) (by kernel_rfl)
/- slices.ContainsFunc[[]int,int] -/
noncomputable def slices_ContainsFunc_int_int_route_Right_1 (s_0 : Sl Int) : Option Bool :=
 (slices_IndexFunc_int_int_route_Right_1 s_0).bind fun r1 =>
 some (decide (r1 ≥ 0))
noncomputable def sp13 : Spc := ⟨[(false, .x (.sl (.i .i64))), (false, .fn 63 .ni)], [([.x .b], [])], true, [], fun p => match p with | s_0 => slices_ContainsFunc_int_int_route_Right_1 s_0⟩
theorem ok13 : SpcOk prog 62 sp13 := spc_ok mixed glbok (sig := sig) (np := 2) (an := []) (.cons ok12 .nil) (by kernel_rfl) (by kernel_rfl)
/- turnout/route.Right -/
noncomputable def route_Right_L1 (t_0 : api_Topo) (r_1 : Sl (Sl Int)) : Int → Option (Int ⊕ (Bool ⊕ Unit)) := fun i3 =>
 bif decide (i3 < (r_1.l.length : Int)) then ((ixI i3 r_1.l.length).bind fun n4 =>
 (bif ((((gt r_1.l n4).l).length : Int) != (((api_Topo.Hosts t_0).l).length : Int)) then (some true) else
 ((slices_ContainsFunc_int_int_route_Right_1 (gt r_1.l n4)).bind fun r5 =>
 some r5) : Option Bool).bind fun b6 =>
 bif b6 then (some (.inr (.inl false))) else
 (some (.inl (wr .i64 (i3 + 1))))) else
 (some (.inr (.inr ())))
noncomputable def route_Right (t_0 : api_Topo) (r_1 : Sl (Sl Int)) : Option Bool :=
 (topo_Right t_0).bind fun r1 =>
 bif ((!r1) || ((r_1.l.length : Int) != (api_Topo.Switches t_0))) then (some false) else
 ((loopO (route_Right_L1 t_0 r_1) 0).bind fun
 | .inl b7 => (some b7)
 | .inr _ => (some true))
noncomputable def sp14 : Spc := ⟨[(false, .x y0), (false, .x (.sl (.sl (.i .i64))))], [([.x .b], [])], true, [], fun p => match p with | (t_0, r_1) => route_Right t_0 r_1⟩
theorem ok14 : SpcOk prog 37 sp14 := spc_ok mixed glbok (sig := sig) (np := 2) (an := [(10, { j := some { vs := [(19, .x (.i .i64))] }, e := [(.ret, { vs := [(4, .x .b)] }), (.exit 0, {})] }), (18, { j := some { vs := [(32, .x .b)] } })]) (.cons ok10 (.cons ok13 .nil)) (by kernel_rfl) (by kernel_rfl)
/- turnout/route.port -/
noncomputable def route_port (r_0 : Sl (Sl Int)) (sw_1 : Int) (h_2 : Int) : Option (Int × Bool) :=
 (bif (((decide (sw_1 < 0)) || (decide (sw_1 ≥ (r_0.l.length : Int)))) || (decide (h_2 < 0))) then (some true) else
 ((ixI sw_1 r_0.l.length).bind fun n1 =>
 some (decide (h_2 ≥ (((gt r_0.l n1).l).length : Int)))) : Option Bool).bind fun b2 =>
 bif b2 then (some (0, false)) else
 ((ixI sw_1 r_0.l.length).bind fun n3 =>
 (ixI h_2 ((gt r_0.l n3).l).length).bind fun n4 =>
 some (gt ((gt r_0.l n3).l) n4, true))
noncomputable def sp15 : Spc := ⟨[(false, .x (.sl (.sl (.i .i64)))), (false, .x (.i .i64)), (false, .x (.i .i64))], [([.x (.i .i64), .x .b], [])], true, [], fun p => match p with | (r_0, sw_1, h_2) => route_port r_0 sw_1 h_2⟩
theorem ok15 : SpcOk prog 74 sp15 := spc_ok mixed glbok (sig := sig) (np := 3) (an := [(4, { j := some { vs := [(28, .x .b)] } })]) .nil (by kernel_rfl) (by kernel_rfl)
/- slices.Index[[]int,int] -/
noncomputable def slices_Index_int_int_L1 (s_0 : Sl Int) (v_1 : Int) : Int → Option (Int ⊕ (Int ⊕ Unit)) := fun i2 =>
 bif decide (i2 < (s_0.l.length : Int)) then ((ixI i2 s_0.l.length).bind fun n3 =>
 bif (v_1 == (gt s_0.l n3)) then (some (.inr (.inl i2))) else
 (some (.inl (wr .i64 (i2 + 1))))) else
 (some (.inr (.inr ())))
noncomputable def slices_Index_int_int (s_0 : Sl Int) (v_1 : Int) : Option Int :=
 (loopO (slices_Index_int_int_L1 s_0 v_1) 0).bind fun
 | .inl i4 => (some i4)
 | .inr _ => (some (-1))
noncomputable def sp16 : Spc := ⟨[(false, .x (.sl (.i .i64))), (false, .x (.i .i64))], [([.x (.i .i64)], [])], true, [], fun p => match p with | (s_0, v_1) => slices_Index_int_int s_0 v_1⟩
theorem ok16 : SpcOk prog 64 sp16 := spc_ok mixed glbok (sig := sig) (np := 2) (an := [(5, { j := some { vs := [(8, .x (.i .i64))] }, e := [(.ret, { vs := [(4, .x (.i .i64))] }), (.exit 0, {})] })]) .nil (by kernel_rfl) (by kernel_rfl)
/- slices.Contains[[]int,int] -/
noncomputable def slices_Contains_int_int (s_0 : Sl Int) (v_1 : Int) : Option Bool :=
 (slices_Index_int_int s_0 v_1).bind fun r1 =>
 some (decide (r1 ≥ 0))
noncomputable def sp17 : Spc := ⟨[(false, .x (.sl (.i .i64))), (false, .x (.i .i64))], [([.x .b], [])], true, [], fun p => match p with | (s_0, v_1) => slices_Contains_int_int s_0 v_1⟩
theorem ok17 : SpcOk prog 38 sp17 := spc_ok mixed glbok (sig := sig) (np := 2) (an := []) (.cons ok16 .nil) (by kernel_rfl) (by kernel_rfl)
/- turnout/route.twice[int] -/
noncomputable def route_twice_int (l_0 : Sl Int) : Option Bool :=
 (bif decide ((l_0.l.length : Int) > 0) then ((cutI l_0.l 0 (wr .i64 ((l_0.l.length : Int) - 1))).bind fun l1 =>
 (ixI (wr .i64 ((l_0.l.length : Int) - 1)) l_0.l.length).bind fun n2 =>
 (slices_Contains_int_int (l_0.to l1) (gt l_0.l n2)).bind fun r3 =>
 some r3) else
 (some false) : Option Bool).bind fun b4 =>
 some b4
noncomputable def sp18 : Spc := ⟨[(false, .x (.sl (.i .i64)))], [([.x .b], [])], true, [], fun p => match p with | l_0 => route_twice_int l_0⟩
theorem ok18 : SpcOk prog 75 sp18 := spc_ok mixed glbok (sig := sig) (np := 1) (an := [(3, { j := some { vs := [(2, .x .b)] } })]) (.cons ok17 .nil) (by kernel_rfl) (by kernel_rfl)
/- turnout/topo.Peer -/
noncomputable def topo_Peer_L1 (t_0 : api_Topo) (sw_1 : Int) (port_2 : Int) : Int → Option (Int ⊕ ((Int × Int × Int × Bool) ⊕ Unit)) := fun i2 =>
 bif decide (i2 < (((api_Topo.Links t_0).l).length : Int)) then ((ixI i2 ((api_Topo.Links t_0).l).length).bind fun n3 =>
 bif decide ((⟨sw_1, port_2⟩ : topo_place) = (⟨api_Link.A (gt ((api_Topo.Links t_0).l) n3), api_Link.PortA (gt ((api_Topo.Links t_0).l) n3)⟩ : topo_place)) then (some (.inr (.inl (api_Link.B (gt ((api_Topo.Links t_0).l) n3), api_Link.PortB (gt ((api_Topo.Links t_0).l) n3), i2, true)))) else
 (bif decide ((⟨sw_1, port_2⟩ : topo_place) = (⟨api_Link.B (gt ((api_Topo.Links t_0).l) n3), api_Link.PortB (gt ((api_Topo.Links t_0).l) n3)⟩ : topo_place)) then (some (.inr (.inl (api_Link.A (gt ((api_Topo.Links t_0).l) n3), api_Link.PortA (gt ((api_Topo.Links t_0).l) n3), i2, true)))) else
 (some (.inl (wr .i64 (i2 + 1)))))) else
 (some (.inr (.inr ())))
noncomputable def topo_Peer (t_0 : api_Topo) (sw_1 : Int) (port_2 : Int) : Option (Int × Int × Int × Bool) :=
 (loopO (topo_Peer_L1 t_0 sw_1 port_2) 0).bind fun
 | .inl (i4, i5, i6, b7) => (some (i4, i5, i6, b7))
 | .inr _ => (some (0, 0, 0, false))
noncomputable def sp19 : Spc := ⟨[(false, .x y0), (false, .x (.i .i64)), (false, .x (.i .i64))], [([.x (.i .i64), .x (.i .i64), .x (.i .i64), .x .b], [])], true, [], fun p => match p with | (t_0, sw_1, port_2) => topo_Peer t_0 sw_1 port_2⟩
theorem ok19 : SpcOk prog 103 sp19 := spc_ok mixed glbok (sig := sig) (np := 3) (an := [(7, { j := some { vs := [(21, .x (.i .i64))] }, e := [(.ret, { vs := [(6, .x (.i .i64)), (7, .x (.i .i64)), (8, .x (.i .i64)), (9, .x .b)] }), (.exit 0, {})] })]) .nil (by kernel_rfl) (by kernel_rfl)
/- turnout/route.Next -/
noncomputable def route_Next (t_0 : api_Topo) (r_1 : Sl (Sl Int)) (sw_2 : Int) (h_3 : Int) : Option (Int × Bool) :=
 (route_port r_1 sw_2 h_3).bind fun (r1, r2) =>
 bif (!r2) then (some (0, false)) else
 ((topo_Peer t_0 sw_2 r1).bind fun (r3, r4, r5, r6) =>
 some (r3, r6))
noncomputable def sp20 : Spc := ⟨[(false, .x y0), (false, .x (.sl (.sl (.i .i64)))), (false, .x (.i .i64)), (false, .x (.i .i64))], [([.x (.i .i64), .x .b], [])], true, [], fun p => match p with | (t_0, r_1, sw_2, h_3) => route_Next t_0 r_1 sw_2 h_3⟩
theorem ok20 : SpcOk prog 76 sp20 := spc_ok mixed glbok (sig := sig) (np := 4) (an := []) (.cons ok15 (.cons ok19 .nil)) (by kernel_rfl) (by kernel_rfl)
/- turnout/route.Walk -/
noncomputable def route_Walk_L1 (t_0 : api_Topo) (r_1 : Sl (Sl Int)) (h_3 : Int) : (Sl Int) → Option (Sl Int ⊕ ((Int × Sl Int) ⊕ Unit)) := fun s6 =>
 (route_twice_int s6).bind fun r7 =>
 bif (!r7) then ((ixI (wr .i64 ((s6.l.length : Int) - 1)) s6.l.length).bind fun n8 =>
 (ixI h_3 ((api_Topo.Hosts t_0).l).length).bind fun n9 =>
 (ixI (gt s6.l n8) r_1.l.length).bind fun n10 =>
 (ixI h_3 ((gt r_1.l n10).l).length).bind fun n11 =>
 bif decide ((gt ((api_Topo.Hosts t_0).l) n9) = (⟨gt s6.l n8, gt ((gt r_1.l n10).l) n11⟩ : api_Host)) then (some (.inr (.inl (0, s6)))) else
 ((route_Next t_0 r_1 (gt s6.l n8) h_3).bind fun (r12, r13) =>
 bif (!r13) then (some (.inr (.inl (13, Sl.nil)))) else
 ((capI (s6.l ++ [r12])).bind fun l14 =>
 some (.inl (Sl.mk l14))))) else
 (some (.inr (.inr ())))
noncomputable def route_Walk (t_0 : api_Topo) (r_1 : Sl (Sl Int)) (sw_2 : Int) (h_3 : Int) : Option (Sl Int × Int) :=
 (route_port r_1 sw_2 h_3).bind fun (r1, r2) =>
 (bif (!r2) then (some true) else
 ((route_Right t_0 r_1).bind fun r3 =>
 some (!r3)) : Option Bool).bind fun b4 =>
 bif b4 then (some (Sl.nil, 2)) else
 ((loopO (route_Walk_L1 t_0 r_1 h_3) (Sl.mk [sw_2])).bind fun
 | .inl (i15, s16) => (some (s16, i15))
 | .inr _ => (some (Sl.nil, 12)))
noncomputable def sp21 : Spc := ⟨[(false, .x y0), (false, .x (.sl (.sl (.i .i64)))), (false, .x (.i .i64)), (false, .x (.i .i64))], [([.x (.sl (.i .i64)), .x (.i .i64)], [])], false, [], fun p => match p with | (t_0, r_1, sw_2, h_3) => route_Walk t_0 r_1 sw_2 h_3⟩
theorem ok21 : SpcOk prog 56 sp21 := spc_ok mixed glbok (sig := sig) (np := 4) (an := [(6, { j := some { vs := [(30, .x .b)] } }), (12, { j := some { vs := [(12, .so 0)], os := [.ar (.i .i64)], kl := [3] }, e := [(.ret, { vs := [(8, .so 0), (9, .x (.i .i64))], os := [.ar (.i .i64)], kl := [3] }), (.exit 0, { kl := [3] })] })]) (.cons ok15 (.cons ok14 (.cons ok18 (.cons ok20 .nil)))) (by kernel_rfl) (by kernel_rfl)
/- turnout/route.Far -/
noncomputable def route_Far_L1 (t_0 : api_Topo) (r_1 : Sl (Sl Int)) (h_2 : Int) : (Int × Sl Int) → Option ((Int × Sl Int) ⊕ (Sl Int)) := fun (i5, s6) =>
 bif decide (i5 < (r_1.l.length : Int)) then ((route_Walk t_0 r_1 i5 h_2).bind fun (r7, r8) =>
 (capI (s6.l ++ [wr .i64 ((r7.l.length : Int) - 1)])).bind fun l9 =>
 some (.inl (wr .i64 (i5 + 1), (Sl.mk l9)))) else
 (some (.inr s6))
noncomputable def route_Far (t_0 : api_Topo) (r_1 : Sl (Sl Int)) (h_2 : Int) : Option (Sl Int) :=
 (route_Right t_0 r_1).bind fun r1 =>
 bif (((!r1) || (decide (h_2 < 0))) || (decide (h_2 ≥ (((api_Topo.Hosts t_0).l).length : Int)))) then (some Sl.nil) else
 ((loopO (route_Far_L1 t_0 r_1 h_2) (0, Sl.nil)).bind fun s10 =>
 some s10)
noncomputable def sp22 : Spc := ⟨[(false, .x y0), (false, .x (.sl (.sl (.i .i64)))), (false, .x (.i .i64))], [([.x (.sl (.i .i64))], [])], false, [], fun p => match p with | (t_0, r_1, h_2) => route_Far t_0 r_1 h_2⟩
theorem ok22 : SpcOk prog 34 sp22 := spc_ok mixed glbok (sig := sig) (np := 3) (an := [(12, { j := some { vs := [(7, .so 0), (28, .x (.i .i64))], os := [.ar (.i .i64)] }, e := [(.exit 0, { vs := [(7, .so 0)], os := [.ar (.i .i64)] })] })]) (.cons ok14 (.cons ok21 .nil)) (by kernel_rfl) (by kernel_rfl)
/- turnout/route.Good -/
noncomputable def route_Good_L1 (t_0 : api_Topo) (r_1 : Sl (Sl Int)) : Int → Option (Int ⊕ (Bool ⊕ Unit)) := fun i3 =>
 bif decide (i3 < (((api_Topo.Hosts t_0).l).length : Int)) then ((route_Far t_0 r_1 i3).bind fun r4 =>
 (slices_Contains_int_int r4 (-1)).bind fun r5 =>
 bif r5 then (some (.inr (.inl false))) else
 (some (.inl (wr .i64 (i3 + 1))))) else
 (some (.inr (.inr ())))
noncomputable def route_Good (t_0 : api_Topo) (r_1 : Sl (Sl Int)) : Option Bool :=
 (route_Right t_0 r_1).bind fun r1 =>
 bif (!r1) then (some false) else
 ((loopO (route_Good_L1 t_0 r_1) 0).bind fun
 | .inl b6 => (some b6)
 | .inr _ => (some true))
noncomputable def sp23 : Spc := ⟨[(false, .x y0), (false, .x (.sl (.sl (.i .i64))))], [([.x .b], [])], true, [], fun p => match p with | (t_0, r_1) => route_Good t_0 r_1⟩
theorem ok23 : SpcOk prog 17 sp23 := spc_ok mixed glbok (sig := sig) (np := 2) (an := [(10, { j := some { vs := [(13, .x (.i .i64))] }, e := [(.ret, { vs := [(4, .x .b)] }), (.exit 0, {})] })]) (.cons ok14 (.cons ok22 (.cons ok17 .nil))) (by kernel_rfl) (by kernel_rfl)
/- slices.SortFunc[[]turnout/level.Move,turnout/level.Move] -/
theorem ok24 : SpcOk prog 35 (sortSpc y3 36 srtMv) := sortMv_ok
/- turnout/level.Moves -/
noncomputable def level_Moves_L1 (old_1 : Sl (Sl Int)) (now_2 : Sl (Sl Int)) (i7 : Int) (r9 : Sl Int) : (Int × Sl level_Move) → Option ((Int × Sl level_Move) ⊕ (Sl level_Move)) := fun (i12, s13) =>
 bif decide (i12 < (now_2.l.length : Int)) then (((ixI i12 now_2.l.length).bind fun n14 =>
 (ixI i7 ((gt now_2.l n14).l).length).bind fun n15 =>
 (ixI i12 old_1.l.length).bind fun n16 =>
 (ixI i7 ((gt old_1.l n16).l).length).bind fun n17 =>
 bif ((gt ((gt now_2.l n14).l) n15) != (gt ((gt old_1.l n16).l) n17)) then ((ixI i12 now_2.l.length).bind fun n18 =>
 (ixI i7 ((gt now_2.l n18).l).length).bind fun n19 =>
 (ixI i12 r9.l.length).bind fun n20 =>
 (capI (s13.l ++ [(⟨i12, i7, gt ((gt now_2.l n18).l) n19, gt r9.l n20⟩ : level_Move)])).bind fun l21 =>
 some (Sl.mk l21)) else
 (some s13) : Option (Sl level_Move)).bind fun s22 =>
 some (.inl (wr .i64 (i12 + 1), s22))) else
 (some (.inr s13))
noncomputable def level_Moves_L2 (t_0 : api_Topo) (old_1 : Sl (Sl Int)) (now_2 : Sl (Sl Int)) : (Int × Sl level_Move) → Option ((Int × Sl level_Move) ⊕ (Sl level_Move)) := fun (i7, s8) =>
 bif decide (i7 < (((api_Topo.Hosts t_0).l).length : Int)) then ((route_Far t_0 now_2 i7).bind fun r9 =>
 (loopO (level_Moves_L1 old_1 now_2 i7 r9) (0, s8)).bind fun s23 =>
 some (.inl (wr .i64 (i7 + 1), s23))) else
 (some (.inr s8))
noncomputable def level_Moves (t_0 : api_Topo) (old_1 : Sl (Sl Int)) (now_2 : Sl (Sl Int)) : Option (Sl level_Move × Int) :=
 ((route_Good t_0 old_1).bind fun r1 =>
 bif (!r1) then (some true) else
 ((route_Good t_0 now_2).bind fun r2 =>
 some (!r2)) : Option Bool).bind fun b3 =>
 bif b3 then (some (Sl.nil, 2)) else
 ((loopO (level_Moves_L2 t_0 old_1 now_2) (0, Sl.nil)).bind fun s24 =>
 (sortF srtMv s24).bind fun s25 =>
 (lenS s25 s24).bind fun _ =>
 some (s25, 0))
noncomputable def sp25 : Spc := ⟨[(false, .x y0), (false, .x (.sl (.sl (.i .i64)))), (false, .x (.sl (.sl (.i .i64))))], [([.x (.sl y3), .x (.i .i64)], [])], false, [], fun p => match p with | (t_0, old_1, now_2) => level_Moves t_0 old_1 now_2⟩
theorem ok25 : SpcOk prog 13 sp25 := spc_ok mixed glbok (sig := sig) (np := 3) (an := [(4, { j := some { vs := [(21, .x .b)] } }), (12, { j := some { vs := [(8, .so 0), (25, .x (.i .i64))], os := [.ar y3] }, e := [(.exit 0, { vs := [(8, .so 0)], os := [.ar y3] })] }), (23, { j := some { vs := [(8, .so 0), (34, .x (.i .i64))], os := [.ar y3], kl := [1] }, e := [(.exit 2, { vs := [(8, .so 0)], os := [.ar y3], kl := [1] })] }), (27, { e := [(.normal, { vs := [(8, .so 0)], os := [.ar y3], kl := [3] })] })]) (.cons ok23 (.cons ok22 (.cons ok24 .nil))) (by kernel_rfl) (by kernel_rfl)
/- slices.Sort[[]int,int] -/
theorem ok26 : SpcOk prog 54 (sortSpc1 (.i .i64) srtI) := sortI_ok
/- slices.Compact[[]int,int] -/
theorem ok27 : SpcOk prog 55 (cutSpc (.i .i64) compI) := compI_ok
/- turnout/level.Rounds -/
noncomputable def level_Rounds_L1 (l_0 : Sl level_Move) : (Int × Sl Int) → Option ((Int × Sl Int) ⊕ (Sl Int)) := fun (i4, s5) =>
 bif decide (i4 < (l_0.l.length : Int)) then ((ixI i4 l_0.l.length).bind fun n6 =>
 (capI (s5.l ++ [level_Move.Round (gt l_0.l n6)])).bind fun l7 =>
 some (.inl (wr .i64 (i4 + 1), (Sl.mk l7)))) else
 (some (.inr s5))
noncomputable def level_Rounds (l_0 : Sl level_Move) : Option (Sl Int) :=
 (loopO (level_Rounds_L1 l_0) (0, Sl.nil)).bind fun s8 =>
 (sortF srtI s8).bind fun s9 =>
 (lenS s9 s8).bind fun _ =>
 (cutF compI s9).bind fun s10 =>
 some s10
noncomputable def sp28 : Spc := ⟨[(false, .x (.sl y3))], [([.x (.sl (.i .i64))], [])], false, [], fun p => match p with | l_0 => level_Rounds l_0⟩
theorem ok28 : SpcOk prog 33 sp28 := spc_ok mixed glbok (sig := sig) (np := 1) (an := [(7, { j := some { vs := [(3, .so 0), (8, .x (.i .i64))], os := [.ar (.i .i64)] }, e := [(.exit 0, { vs := [(3, .so 0)], os := [.ar (.i .i64)] })] })]) (.cons ok26 (.cons ok27 .nil)) (by kernel_rfl) (by kernel_rfl)
/- turnout/turnoutref13.Same -/
noncomputable def ref13_Same_L1 (a_0 : Sl Int) (b_1 : Sl Int) : Int → Option (Int ⊕ (Bool ⊕ Unit)) := fun i2 =>
 bif decide (i2 < (a_0.l.length : Int)) then ((ixI i2 a_0.l.length).bind fun n3 =>
 (ixI i2 b_1.l.length).bind fun n4 =>
 bif ((gt a_0.l n3) != (gt b_1.l n4)) then (some (.inr (.inl false))) else
 (some (.inl (wr .i64 (i2 + 1))))) else
 (some (.inr (.inr ())))
noncomputable def ref13_Same (a_0 : Sl Int) (b_1 : Sl Int) : Option Bool :=
 bif ((a_0.l.length : Int) != (b_1.l.length : Int)) then (some false) else
 ((loopO (ref13_Same_L1 a_0 b_1) 0).bind fun
 | .inl b5 => (some b5)
 | .inr _ => (some true))
noncomputable def sp29 : Spc := ⟨[(false, .x (.sl (.i .i64))), (false, .x (.sl (.i .i64)))], [([.x .b], [])], true, [], fun p => match p with | (a_0, b_1) => ref13_Same a_0 b_1⟩
theorem ok29 : SpcOk prog 32 sp29 := spc_ok mixed glbok (sig := sig) (np := 2) (an := [(10, { j := some { vs := [(5, .x (.i .i64))] }, e := [(.ret, { vs := [(4, .x .b)] }), (.exit 0, {})] })]) .nil (by kernel_rfl) (by kernel_rfl)
/- turnout/turnoutlaw23.awake -/
noncomputable def law23_awake : Option Bool :=
 (level_Moves (⟨3, (Sl.mk [(⟨0, 0, 1, 0, 1, 1⟩ : api_Link), (⟨1, 1, 2, 0, 1, 1⟩ : api_Link), (⟨0, 1, 2, 1, 1, 1⟩ : api_Link)]), (Sl.mk [(⟨2, 7⟩ : api_Host)])⟩ : api_Topo) (Sl.mk [(Sl.mk [0]), (Sl.mk [1]), (Sl.mk [7])]) (Sl.mk [(Sl.mk [1]), (Sl.mk [1]), (Sl.mk [7])])).bind fun (r1, r2) =>
 (bif ((r2 == 0) && ((r1.l.length : Int) == 1)) then ((ixI 0 r1.l.length).bind fun n3 =>
 bif decide ((gt r1.l n3) = (⟨0, 0, 1, 1⟩ : level_Move)) then ((level_Rounds r1).bind fun r4 =>
 (ref13_Same r4 (Sl.mk [1])).bind fun r5 =>
 some r5) else
 (some false)) else
 (some false) : Option Bool).bind fun b6 =>
 some b6
noncomputable def sp30 : Spc := ⟨[], [([.x .b], [])], true, [], fun p => match p with | _ => law23_awake⟩
theorem ok30 : SpcOk prog 12 sp30 := spc_ok mixed glbok (sig := sig) (np := 0) (an := [(7, { j := some { vs := [(0, .x .b)] } })]) (.cons ok25 (.cons ok28 (.cons ok29 .nil))) (by kernel_rfl) (by kernel_rfl)
/- turnout/turnoutref21.Far -/
noncomputable def ref21_Far_L1 (t_0 : api_Topo) (r_1 : Sl (Sl Int)) (h_2 : Int) : (Int × Sl Int) → Option ((Int × Sl Int) ⊕ (Sl Int)) := fun (i5, s6) =>
 bif decide (i5 < (r_1.l.length : Int)) then ((ref21_Walk t_0 r_1 i5 h_2).bind fun (r7, r8) =>
 (capI (s6.l ++ [wr .i64 ((r7.l.length : Int) - 1)])).bind fun l9 =>
 some (.inl (wr .i64 (i5 + 1), (Sl.mk l9)))) else
 (some (.inr s6))
noncomputable def ref21_Far (t_0 : api_Topo) (r_1 : Sl (Sl Int)) (h_2 : Int) : Option (Sl Int) :=
 (ref21_Right t_0 r_1).bind fun r1 =>
 bif (((!r1) || (decide (h_2 < 0))) || (decide (h_2 ≥ (((api_Topo.Hosts t_0).l).length : Int)))) then (some Sl.nil) else
 ((loopO (ref21_Far_L1 t_0 r_1 h_2) (0, Sl.nil)).bind fun s10 =>
 some s10)
noncomputable def sp31 : Spc := ⟨[(false, .x y0), (false, .x (.sl (.sl (.i .i64)))), (false, .x (.i .i64))], [([.x (.sl (.i .i64))], [])], false, [], fun p => match p with | (t_0, r_1, h_2) => ref21_Far t_0 r_1 h_2⟩
theorem ok31 : SpcOk prog 14 sp31 := spc_ok mixed glbok (sig := sig) (np := 3) (an := [(12, { j := some { vs := [(7, .so 0), (8, .x (.i .i64))], os := [.ar (.i .i64)] }, e := [(.exit 0, { vs := [(7, .so 0)], os := [.ar (.i .i64)] })] })]) (.cons ok3 (.cons ok7 .nil)) (by kernel_rfl) (by kernel_rfl)
/- turnout/turnoutlaw23.before -/
noncomputable def law23_before (a_0 : level_Move) (b_1 : level_Move) : Option Bool :=
 bif ((level_Move.Round a_0) != (level_Move.Round b_1)) then (some (decide ((level_Move.Round a_0) < (level_Move.Round b_1)))) else
 ((bif decide ((level_Move.Sw a_0) < (level_Move.Sw b_1)) then (some true) else
 (some (((level_Move.Sw a_0) == (level_Move.Sw b_1)) && (decide ((level_Move.Host a_0) < (level_Move.Host b_1))))) : Option Bool).bind fun b1 =>
 some b1)
noncomputable def sp32 : Spc := ⟨[(false, .x y3), (false, .x y3)], [([.x .b], [])], true, [], fun p => match p with | (a_0, b_1) => law23_before a_0 b_1⟩
theorem ok32 : SpcOk prog 16 sp32 := spc_ok mixed glbok (sig := sig) (np := 2) (an := [(8, { j := some { vs := [(4, .x .b)] } })]) .nil (by kernel_rfl) (by kernel_rfl)
/- turnout/turnoutlaw23.LevelFar -/
noncomputable def law23_LevelFar_L1 (t_0 : api_Topo) (old_1 : Sl (Sl Int)) (now_2 : Sl (Sl Int)) (r7 : Sl level_Move) : Int → Option (Int ⊕ (Bool ⊕ Unit)) := fun i10 =>
 bif decide (i10 < (r7.l.length : Int)) then ((ixI i10 r7.l.length).bind fun n11 =>
 (bif ((((((decide ((level_Move.Sw (gt r7.l n11)) < 0)) || (decide ((level_Move.Sw (gt r7.l n11)) ≥ (api_Topo.Switches t_0)))) || (decide ((level_Move.Host (gt r7.l n11)) < 0))) || (decide ((level_Move.Host (gt r7.l n11)) ≥ (((api_Topo.Hosts t_0).l).length : Int)))) || (decide ((level_Move.Round (gt r7.l n11)) < 1))) || (decide ((level_Move.Round (gt r7.l n11)) ≥ (api_Topo.Switches t_0)))) then (some true) else
 ((ixI (level_Move.Sw (gt r7.l n11)) now_2.l.length).bind fun n12 =>
 (ixI (level_Move.Host (gt r7.l n11)) ((gt now_2.l n12).l).length).bind fun n13 =>
 bif ((gt ((gt now_2.l n12).l) n13) != (level_Move.Port (gt r7.l n11))) then (some true) else
 ((ixI (level_Move.Sw (gt r7.l n11)) old_1.l.length).bind fun n14 =>
 (ixI (level_Move.Host (gt r7.l n11)) ((gt old_1.l n14).l).length).bind fun n15 =>
 some ((gt ((gt old_1.l n14).l) n15) == (level_Move.Port (gt r7.l n11))))) : Option Bool).bind fun b16 =>
 bif b16 then (some (.inr (.inl false))) else
 ((ref21_Far t_0 now_2 (level_Move.Host (gt r7.l n11))).bind fun r17 =>
 (ref17_Peer t_0 (level_Move.Sw (gt r7.l n11)) (level_Move.Port (gt r7.l n11))).bind fun (r18, r19, r20, r21) =>
 ((ixI (level_Move.Sw (gt r7.l n11)) r17.l.length).bind fun n22 =>
 bif (((gt r17.l n22) != (level_Move.Round (gt r7.l n11))) || (!r21)) then (some true) else
 ((ixI r18 r17.l.length).bind fun n23 =>
 some ((gt r17.l n23) != (wr .i64 ((level_Move.Round (gt r7.l n11)) - 1)))) : Option Bool).bind fun b24 =>
 bif b24 then (some (.inr (.inl false))) else
 ((bif decide (i10 > 0) then ((ixI (wr .i64 (i10 - 1)) r7.l.length).bind fun n25 =>
 (law23_before (gt r7.l n25) (gt r7.l n11)).bind fun r26 =>
 some (!r26)) else
 (some false) : Option Bool).bind fun b27 =>
 bif b27 then (some (.inr (.inl false))) else
 (some (.inl (wr .i64 (i10 + 1))))))) else
 (some (.inr (.inr ())))
noncomputable def law23_LevelFar (t_0 : api_Topo) (old_1 : Sl (Sl Int)) (now_2 : Sl (Sl Int)) : Option Bool :=
 ((law23_Small t_0 old_1).bind fun r1 =>
 bif (!r1) then (some true) else
 ((law23_Small t_0 now_2).bind fun r2 =>
 bif (!r2) then (some true) else
 ((ref21_Good t_0 old_1).bind fun r3 =>
 bif (!r3) then (some true) else
 ((ref21_Good t_0 now_2).bind fun r4 =>
 some (!r4)))) : Option Bool).bind fun b5 =>
 bif b5 then ((law23_awake).bind fun r6 =>
 some r6) else
 ((level_Moves t_0 old_1 now_2).bind fun (r7, r8) =>
 bif (r8 != 0) then (some false) else
 ((loopO (law23_LevelFar_L1 t_0 old_1 now_2 r7) 0).bind fun
 | .inl b28 => (some b28)
 | .inr _ => ((law23_awake).bind fun r29 =>
 some r29)))
noncomputable def sp33 : Spc := ⟨[(false, .x y0), (false, .x (.sl (.sl (.i .i64)))), (false, .x (.sl (.sl (.i .i64))))], [([.x .b], [])], true, [], fun p => match p with | (t_0, old_1, now_2) => law23_LevelFar t_0 old_1 now_2⟩
theorem ok33 : SpcOk prog 3 sp33 := spc_ok mixed glbok (sig := sig) (np := 3) (an := [(4, { j := some { vs := [(37, .x .b)] } }), (17, { j := some { vs := [(9, .x (.i .i64))] }, e := [(.ret, { vs := [(6, .x .b)] }), (.exit 0, {})] }), (26, { j := some { vs := [(120, .x .b)] } }), (35, { j := some { vs := [(158, .x .b)] } }), (39, { j := some { vs := [(170, .x .b)] } })]) (.cons ok0 (.cons ok8 (.cons ok30 (.cons ok25 (.cons ok31 (.cons ok4 (.cons ok32 .nil))))))) (by kernel_rfl) (by kernel_rfl)
end Go.Proofs.Ytjdfgncibpbgdaa.L
