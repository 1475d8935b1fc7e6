/- What functions of the program compute, and that the model's run computes it. Conditions: as stated. -/
import Derived.Test.YtmeemkllagjnmaaKm
import Derived.Test.YtmeemkllagjnmaaChecked
import Derived.KernelRfl
open Go.Ev Go
namespace Go.Proofs.Ytmeemkllagjnmaa.B
noncomputable abbrev prog : Program := Try.prog
theorem mixed : prog.follows .mixedOrders = true := by kernel_rfl
theorem glbok : GlbOk := glb_ok fun _ => rfl
def sig : Sig := fun f =>
 if f = 2 then (true, []) else if f = 3 then (true, []) else if f = 4 then (true, []) else if f = 5 then (true, []) else if f = 6 then (true, []) else if f = 7 then (true, []) else if f = 8 then (true, []) else if f = 9 then (true, []) else if f = 10 then (true, []) else if f = 11 then (true, []) else if f = 12 then (true, []) else if f = 14 then (true, []) else if f = 15 then (true, []) else if f = 16 then (true, []) else if f = 17 then (true, []) else if f = 19 then (true, []) else if f = 20 then (true, []) else if f = 21 then (true, []) else if f = 25 then (true, []) else if f = 27 then (true, []) else if f = 29 then (true, []) else if f = 30 then (true, []) else if f = 32 then (false, [true, false, false]) else if f = 33 then (false, [true, false, false]) else if f = 34 then (false, [true, false]) else if f = 35 then (false, [true, false]) else if f = 36 then (false, [true, false, false, false]) else if f = 37 then (false, [true, false, false, false]) else if f = 38 then (false, [true, false, false, false]) else if f = 39 then (false, [true, false, false, false]) else if f = 40 then (false, [true]) else if f = 41 then (true, []) else if f = 42 then (true, []) else if f = 43 then (false, [true]) else if f = 44 then (false, [true]) else if f = 45 then (true, []) else if f = 46 then (true, []) else if f = 48 then (true, []) else if f = 49 then (true, []) else if f = 50 then (true, []) else if f = 51 then (true, []) else if f = 52 then (true, []) else if f = 55 then (false, [true, false]) else if f = 57 then (true, []) else if f = 58 then (true, []) else if f = 59 then (true, []) else if f = 61 then (false, [true, false, false]) else if f = 62 then (true, []) else if f = 64 then (true, []) else if f = 65 then (true, []) else if f = 66 then (true, []) else if f = 69 then (true, []) else if f = 70 then (true, []) else if f = 71 then (true, []) else if f = 72 then (true, []) else if f = 73 then (true, []) else if f = 74 then (true, []) else if f = 75 then (false, [true, false]) else if f = 77 then (true, []) else if f = 78 then (true, []) else if f = 79 then (true, []) else if f = 80 then (true, []) else if f = 81 then (true, []) else if f = 82 then (true, []) else if f = 83 then (true, []) else if f = 84 then (true, []) else if f = 85 then (true, []) else if f = 86 then (false, [true, false, true]) else if f = 87 then (true, []) else if f = 88 then (true, []) else if f = 89 then (true, []) else if f = 91 then (true, []) else if f = 93 then (true, []) else if f = 94 then (true, []) else if f = 95 then (true, []) else if f = 96 then (true, []) else if f = 97 then (true, []) else if f = 98 then (true, []) else if f = 99 then (true, []) else if f = 100 then (false, [false, false, false, false, false, false, false, false, false]) else if f = 101 then (false, [true, false]) else if f = 102 then (true, []) else if f = 103 then (true, []) else if f = 104 then (true, []) else if f = 105 then (true, []) else if f = 106 then (true, []) else if f = 107 then (false, [true, false]) else if f = 108 then (false, [true]) else (false, [])
@[reducible] def api_Match : Type := Int × Arr 4 Int × Arr 4 Int
@[reducible] def api_Match.Port (x : api_Match) : Int := x.1
@[reducible] def api_Match.Val (x : api_Match) : Arr 4 Int := x.2.1
@[reducible] def api_Match.Mask (x : api_Match) : Arr 4 Int := x.2.2
@[reducible] def api_Act : Type := Int × Int × Int
@[reducible] def api_Act.Kind (x : api_Act) : Int := x.1
@[reducible] def api_Act.F (x : api_Act) : Int := x.2.1
@[reducible] def api_Act.V (x : api_Act) : Int := x.2.2
@[reducible] def api_Rule : Type := Int × api_Match × Sl api_Act
@[reducible] def api_Rule.Prio (x : api_Rule) : Int := x.1
@[reducible] def api_Rule.M (x : api_Rule) : api_Match := x.2.1
@[reducible] def api_Rule.Acts (x : api_Rule) : Sl api_Act := x.2.2
@[reducible] def api_Mod : Type := Int × api_Rule × Bool
@[reducible] def api_Mod.Kind (x : api_Mod) : Int := x.1
@[reducible] def api_Mod.R (x : api_Mod) : api_Rule := x.2.1
@[reducible] def api_Mod.Check (x : api_Mod) : Bool := x.2.2
@[reducible] def y1 : Ty := .st (.pr (.i .i64) (.pr (.ar 4 (.i .i64)) (.ar 4 (.i .i64))))
@[reducible] def y2 : Ty := .st (.pr (.i .i64) (.pr (.i .i64) (.i .i64)))
@[reducible] def y0 : Ty := .st (.pr (.i .i64) (.pr y1 (.sl y2)))
@[reducible] def y3 : Ty := .st (.pr (.i .i64) (.pr y0 .b))
@[reducible] def bundle_Bundle : Type := Int × Arr 16 Bool × Arr 16 api_Mod × Int
@[reducible] def bundle_Bundle.state (x : bundle_Bundle) : Int := x.1
@[reducible] def bundle_Bundle.has (x : bundle_Bundle) : Arr 16 Bool := x.2.1
@[reducible] def bundle_Bundle.l (x : bundle_Bundle) : Arr 16 api_Mod := x.2.2.1
@[reducible] def bundle_Bundle.n (x : bundle_Bundle) : Int := x.2.2.2
@[reducible] def y5 : Ty := .st (.pr (.i .i64) (.pr (.ar 16 .b) (.pr (.ar 16 y3) (.i .i64))))
/- turnout/turnoutlaw11.small -/
/- turnout/turnoutref07.Top -/
noncomputable def ref07_Top (f_0 : Int) : Option Int :=
 bif (f_0 == 2) then (some 15) else
 (bif (((f_0 == 0) || (f_0 == 1)) || (f_0 == 3)) then (some 255) else
 (some 0))
noncomputable def sp1 : Spc := ⟨[(false, .x (.i .i64))], [([.x (.i .i64)], [])], true, [], fun p => match p with | f_0 => ref07_Top f_0⟩
theorem ok1 : SpcOk prog 51 sp1 := spc_ok mixed glbok (sig := sig) (np := 1) (an := []) .nil (by kernel_rfl) (by kernel_rfl)
/- turnout/turnoutref08.Bit -/
noncomputable def ref08_Bit_L1 (i_1 : Int) : (Int × Int) → Option ((Int × Int) ⊕ Int) := fun (i3, i4) =>
 bif decide (i4 < i_1) then (some (.inl (wr .i64 (i3.tdiv 2), wr .i64 (i4 + 1)))) else
 (some (.inr i3))
noncomputable def ref08_Bit (n_0 : Int) (i_1 : Int) : Option Int :=
 (loopO (ref08_Bit_L1 i_1) (n_0, 0)).bind fun i5 =>
 some (i5.tmod 2)
noncomputable def sp2 : Spc := ⟨[(false, .x (.i .i64)), (false, .x (.i .i64))], [([.x (.i .i64)], [])], true, [], fun p => match p with | (n_0, i_1) => ref08_Bit n_0 i_1⟩
theorem ok2 : SpcOk prog 78 sp2 := spc_ok mixed glbok (sig := sig) (np := 2) (an := [(5, { j := some { vs := [(0, .x (.i .i64)), (5, .x (.i .i64))] }, e := [(.exit 0, { vs := [(0, .x (.i .i64))] })] })]) .nil (by kernel_rfl) (by kernel_rfl)
/- turnout/turnoutref08.Right -/
noncomputable def ref08_Right_L1 (m_0 : api_Match) (i2 : Int) : Int → Option (Int ⊕ (Bool ⊕ Unit)) := fun i11 =>
 bif decide (i11 < 8) then ((ixI i2 4).bind fun n12 =>
 (ref08_Bit (gt ((api_Match.Val m_0).1) n12) i11).bind fun r13 =>
 (ixI i2 4).bind fun n14 =>
 (ref08_Bit (gt ((api_Match.Mask m_0).1) n14) i11).bind fun r15 =>
 bif decide (r13 > r15) then (some (.inr (.inl false))) else
 (some (.inl (wr .i64 (i11 + 1))))) else
 (some (.inr (.inr ())))
noncomputable def ref08_Right_L2 (m_0 : api_Match) : Int → Option (Int ⊕ (Bool ⊕ Unit)) := fun i2 =>
 bif decide (i2 < 4) then (((ixI i2 4).bind fun n3 =>
 bif decide ((gt ((api_Match.Mask m_0).1) n3) < 0) then (some true) else
 ((ixI i2 4).bind fun n4 =>
 (ref07_Top i2).bind fun r5 =>
 bif decide ((gt ((api_Match.Mask m_0).1) n4) > r5) then (some true) else
 ((ixI i2 4).bind fun n6 =>
 bif decide ((gt ((api_Match.Val m_0).1) n6) < 0) then (some true) else
 ((ixI i2 4).bind fun n7 =>
 (ref07_Top i2).bind fun r8 =>
 some (decide ((gt ((api_Match.Val m_0).1) n7) > r8))))) : Option Bool).bind fun b9 =>
 bif b9 then (some (.inr (.inl false))) else
 ((loopO (ref08_Right_L1 m_0 i2) 0).bind fun
 | .inl b16 => (some (.inr (.inl b16)))
 | .inr _ => (some (.inl (wr .i64 (i2 + 1)))))) else
 (some (.inr (.inr ())))
noncomputable def ref08_Right (m_0 : api_Match) : Option Bool :=
 bif ((decide ((api_Match.Port m_0) < (-1))) || (decide ((api_Match.Port m_0) > 7))) then (some false) else
 ((loopO (ref08_Right_L2 m_0) 0).bind fun
 | .inl b17 => (some b17)
 | .inr _ => (some true))
noncomputable def sp3 : Spc := ⟨[(false, .x y1)], [([.x .b], [])], true, [], fun p => match p with | m_0 => ref08_Right m_0⟩
theorem ok3 : SpcOk prog 49 sp3 := spc_ok mixed glbok (sig := sig) (np := 1) (an := [(10, { j := some { vs := [(3, .x (.i .i64))] }, e := [(.ret, { vs := [(2, .x .b)] }), (.exit 0, {})] }), (17, { j := some { vs := [(46, .x .b)] } }), (22, { j := some { vs := [(4, .x (.i .i64))] }, e := [(.ret, { vs := [(2, .x .b)] }), (.exit 2, {})] })]) (.cons ok1 (.cons ok2 .nil)) (by kernel_rfl) (by kernel_rfl)
/- turnout/turnoutref09.One -/
noncomputable def ref09_One (a_0 : api_Act) (ports_1 : Int) : Option Bool :=
 bif ((api_Act.Kind a_0) == 1) then ((bif (((decide ((api_Act.F a_0) ≥ 0)) && (decide ((api_Act.F a_0) ≤ 3))) && (decide ((api_Act.V a_0) ≥ 0))) then ((ref07_Top (api_Act.F a_0)).bind fun r1 =>
 some (decide ((api_Act.V a_0) ≤ r1))) else
 (some false) : Option Bool).bind fun b2 =>
 some b2) else
 (bif ((api_Act.Kind a_0) == 3) then (some (((api_Act.F a_0) == 0) && ((api_Act.V a_0) == 0))) else
 (some (((((api_Act.Kind a_0) == 2) && ((api_Act.F a_0) == 0)) && (decide ((api_Act.V a_0) ≥ 0))) && (decide ((api_Act.V a_0) < ports_1)))))
noncomputable def sp4 : Spc := ⟨[(false, .x y2), (false, .x (.i .i64))], [([.x .b], [])], true, [], fun p => match p with | (a_0, ports_1) => ref09_One a_0 ports_1⟩
theorem ok4 : SpcOk prog 79 sp4 := spc_ok mixed glbok (sig := sig) (np := 2) (an := [(6, { j := some { vs := [(4, .x .b)] } })]) (.cons ok1 .nil) (by kernel_rfl) (by kernel_rfl)
/- turnout/turnoutref09.Right -/
noncomputable def ref09_Right_L1 (l_0 : Sl api_Act) (ports_1 : Int) : Int → Option (Int ⊕ (Bool ⊕ Unit)) := fun i2 =>
 bif decide (i2 < (l_0.l.length : Int)) then ((ixI i2 l_0.l.length).bind fun n3 =>
 (ref09_One (gt l_0.l n3) ports_1).bind fun r4 =>
 bif (!r4) then (some (.inr (.inl false))) else
 (some (.inl (wr .i64 (i2 + 1))))) else
 (some (.inr (.inr ())))
noncomputable def ref09_Right (l_0 : Sl api_Act) (ports_1 : Int) : Option Bool :=
 (loopO (ref09_Right_L1 l_0 ports_1) 0).bind fun
 | .inl b5 => (some b5)
 | .inr _ => (some (decide ((l_0.l.length : Int) ≤ 16)))
noncomputable def sp5 : Spc := ⟨[(false, .x (.sl y2)), (false, .x (.i .i64))], [([.x .b], [])], true, [], fun p => match p with | (l_0, ports_1) => ref09_Right l_0 ports_1⟩
theorem ok5 : SpcOk prog 50 sp5 := spc_ok mixed glbok (sig := sig) (np := 2) (an := [(5, { j := some { vs := [(5, .x (.i .i64))] }, e := [(.ret, { vs := [(4, .x .b)] }), (.exit 0, {})] })]) (.cons ok4 .nil) (by kernel_rfl) (by kernel_rfl)
/- turnout/turnoutref10.Right -/
noncomputable def ref10_Right (x_0 : api_Rule) (ports_1 : Int) : Option Bool :=
 (bif ((decide ((api_Rule.Prio x_0) ≥ 0)) && (decide ((api_Rule.Prio x_0) ≤ 65535))) then ((ref08_Right (api_Rule.M x_0)).bind fun r1 =>
 bif r1 then ((ref09_Right (api_Rule.Acts x_0) ports_1).bind fun r2 =>
 some r2) else
 (some false)) else
 (some false) : Option Bool).bind fun b3 =>
 some b3
noncomputable def sp6 : Spc := ⟨[(false, .x y0), (false, .x (.i .i64))], [([.x .b], [])], true, [], fun p => match p with | (x_0, ports_1) => ref10_Right x_0 ports_1⟩
theorem ok6 : SpcOk prog 15 sp6 := spc_ok mixed glbok (sig := sig) (np := 2) (an := [(3, { j := some { vs := [(4, .x .b)] } })]) (.cons ok3 (.cons ok5 .nil)) (by kernel_rfl) (by kernel_rfl)
/- turnout/turnoutref11.key -/
noncomputable def ref11_key (a_0 : api_Rule) (b_1 : api_Rule) : Option Bool :=
 some (((api_Rule.Prio a_0) == (api_Rule.Prio b_1)) && (decide ((api_Rule.M a_0) = (api_Rule.M b_1))))
noncomputable def sp7 : Spc := ⟨[(false, .x y0), (false, .x y0)], [([.x .b], [])], true, [], fun p => match p with | (a_0, b_1) => ref11_key a_0 b_1⟩
theorem ok7 : SpcOk prog 45 sp7 := spc_ok mixed glbok (sig := sig) (np := 2) (an := []) .nil (by kernel_rfl) (by kernel_rfl)
/- turnout/turnoutref11.Right -/
noncomputable def ref11_Right_L1 (t_0 : Sl api_Rule) (i2 : Int) : Int → Option (Int ⊕ (Bool ⊕ Unit)) := fun i6 =>
 bif decide (i6 < i2) then (((ixI i6 t_0.l.length).bind fun n7 =>
 (ixI i2 t_0.l.length).bind fun n8 =>
 bif decide ((api_Rule.Prio (gt t_0.l n7)) < (api_Rule.Prio (gt t_0.l n8))) then (some true) else
 ((ixI i6 t_0.l.length).bind fun n9 =>
 (ixI i2 t_0.l.length).bind fun n10 =>
 (ref11_key (gt t_0.l n9) (gt t_0.l n10)).bind fun r11 =>
 some r11) : Option Bool).bind fun b12 =>
 bif b12 then (some (.inr (.inl false))) else
 (some (.inl (wr .i64 (i6 + 1))))) else
 (some (.inr (.inr ())))
noncomputable def ref11_Right_L2 (t_0 : Sl api_Rule) (ports_1 : Int) : Int → Option (Int ⊕ (Bool ⊕ Unit)) := fun i2 =>
 bif decide (i2 < (t_0.l.length : Int)) then ((ixI i2 t_0.l.length).bind fun n3 =>
 (ref10_Right (gt t_0.l n3) ports_1).bind fun r4 =>
 bif (!r4) then (some (.inr (.inl false))) else
 ((loopO (ref11_Right_L1 t_0 i2) 0).bind fun
 | .inl b13 => (some (.inr (.inl b13)))
 | .inr _ => (some (.inl (wr .i64 (i2 + 1)))))) else
 (some (.inr (.inr ())))
noncomputable def ref11_Right (t_0 : Sl api_Rule) (ports_1 : Int) (room_2 : Int) : Option Bool :=
 (loopO (ref11_Right_L2 t_0 ports_1) 0).bind fun
 | .inl b14 => (some b14)
 | .inr _ => (some (decide ((t_0.l.length : Int) ≤ room_2)))
noncomputable def sp8 : Spc := ⟨[(false, .x (.sl y0)), (false, .x (.i .i64)), (false, .x (.i .i64))], [([.x .b], [])], true, [], fun p => match p with | (t_0, ports_1, room_2) => ref11_Right t_0 ports_1 room_2⟩
theorem ok8 : SpcOk prog 11 sp8 := spc_ok mixed glbok (sig := sig) (np := 3) (an := [(5, { j := some { vs := [(7, .x (.i .i64))] }, e := [(.ret, { vs := [(6, .x .b)] }), (.exit 0, {})] }), (17, { j := some { vs := [(8, .x (.i .i64))] }, e := [(.ret, { vs := [(6, .x .b)] }), (.exit 2, {})] }), (23, { j := some { vs := [(48, .x .b)] } })]) (.cons ok6 (.cons ok7 .nil)) (by kernel_rfl) (by kernel_rfl)
/- turnout/match.Any -/
noncomputable def match_Any : Option api_Match :=
 some (⟨(-1), (zeE (.ar 4 (.i .i64))), (zeE (.ar 4 (.i .i64)))⟩ : api_Match)
noncomputable def sp9 : Spc := ⟨[], [([.x y1], [])], true, [], fun p => match p with | _ => match_Any⟩
theorem ok9 : SpcOk prog 46 sp9 := spc_ok mixed glbok (sig := sig) (np := 0) (an := []) .nil (by kernel_rfl) (by kernel_rfl)
/- turnout/packet.Bits -/
noncomputable def packet_Bits (f_0 : Int) : Option Int :=
 (bif (f_0 == 0) then (some (f_0 == 0)) else
 (bif (f_0 == 1) then (some (f_0 == 1)) else
 (some (f_0 == 3))) : Option Bool).bind fun b1 =>
 bif b1 then (some 8) else
 (bif (f_0 == 2) then (some 4) else
 (some 0))
noncomputable def sp10 : Spc := ⟨[(false, .x (.i .i64))], [([.x (.i .i64)], [])], true, [], fun p => match p with | f_0 => packet_Bits f_0⟩
theorem ok10 : SpcOk prog 105 sp10 := spc_ok mixed glbok (sig := sig) (np := 1) (an := [(5, { e := [(.normal, { vs := [(4, .x .b)] })] })]) .nil (by kernel_rfl) (by kernel_rfl)
/- turnout/packet.Top -/
noncomputable def packet_Top (f_0 : Int) : Option Int :=
 (packet_Bits f_0).bind fun r1 =>
 (shlI .i64 1 r1).bind fun i2 =>
 some (wr .i64 (i2 - 1))
noncomputable def sp11 : Spc := ⟨[(false, .x (.i .i64))], [([.x (.i .i64)], [])], true, [], fun p => match p with | f_0 => packet_Top f_0⟩
theorem ok11 : SpcOk prog 96 sp11 := spc_ok mixed glbok (sig := sig) (np := 1) (an := []) (.cons ok10 .nil) (by kernel_rfl) (by kernel_rfl)
/- turnout/match.Of -/
noncomputable def match_Of (f_0 : Int) (v_1 : Int) : Option api_Match :=
 (match_Any).bind fun r1 =>
 ((bif (((decide (f_0 ≥ 0)) && (decide (f_0 < 4))) && (decide (v_1 ≥ 0))) then ((packet_Top f_0).bind fun r2 =>
 some (decide (v_1 ≤ r2))) else
 (some false) : Option Bool).bind fun b3 =>
 bif b3 then ((packet_Top f_0).bind fun r4 =>
 (ixI f_0 4).bind fun n5 =>
 (ixI f_0 4).bind fun n6 =>
 some (⟨api_Match.Port r1, Arr.set (api_Match.Val r1) n5 v_1, Arr.set (api_Match.Mask r1) n6 r4⟩ : api_Match)) else
 (some r1) : Option api_Match).bind fun x7 =>
 some x7
noncomputable def sp12 : Spc := ⟨[(false, .x (.i .i64)), (false, .x (.i .i64))], [([.x y1], [])], true, [], fun p => match p with | (f_0, v_1) => match_Of f_0 v_1⟩
theorem ok12 : SpcOk prog 95 sp12 := spc_ok mixed glbok (sig := sig) (np := 2) (an := [(4, { e := [(.normal, { vs := [(5, .op 0 y1 [])], os := [.bx y1 (.x y1)], kl := [10] })] }), (6, { j := some { vs := [(22, .x .b)] } })]) (.cons ok9 (.cons ok11 .nil)) (by kernel_rfl) (by kernel_rfl)
/- turnout/rule.Drop -/
noncomputable def rule_Drop (f_0 : Int) (v_1 : Int) (prio_2 : Int) : Option api_Rule :=
 (match_Of f_0 v_1).bind fun r1 =>
 some (⟨prio_2, r1, Sl.nil⟩ : api_Rule)
noncomputable def sp13 : Spc := ⟨[(false, .x (.i .i64)), (false, .x (.i .i64)), (false, .x (.i .i64))], [([.x y0], [])], false, [], fun p => match p with | (f_0, v_1, prio_2) => rule_Drop f_0 v_1 prio_2⟩
theorem ok13 : SpcOk prog 76 sp13 := spc_ok mixed glbok (sig := sig) (np := 3) (an := []) (.cons ok12 .nil) (by kernel_rfl) (by kernel_rfl)
/- turnout/rule.Plain -/
noncomputable def rule_Plain (f_0 : Int) (v_1 : Int) (prio_2 : Int) (port_3 : Int) : Option api_Rule :=
 (rule_Drop f_0 v_1 prio_2).bind fun r1 =>
 some (⟨api_Rule.Prio r1, api_Rule.M r1, (Sl.mk [(⟨2, 0, port_3⟩ : api_Act)])⟩ : api_Rule)
noncomputable def sp14 : Spc := ⟨[(false, .x (.i .i64)), (false, .x (.i .i64)), (false, .x (.i .i64)), (false, .x (.i .i64))], [([.x y0], [])], false, [], fun p => match p with | (f_0, v_1, prio_2, port_3) => rule_Plain f_0 v_1 prio_2 port_3⟩
theorem ok14 : SpcOk prog 47 sp14 := spc_ok mixed glbok (sig := sig) (np := 4) (an := []) (.cons ok13 .nil) (by kernel_rfl) (by kernel_rfl)
/- turnout/match.Right -/
noncomputable def match_Right_L1 (m_0 : api_Match) : Int → Option (Int ⊕ (Bool ⊕ Unit)) := fun i2 =>
 bif decide (i2 < 4) then ((ixI i2 4).bind fun n3 =>
 (bif decide ((gt ((api_Match.Mask m_0).1) n3) < 0) then (some true) else
 ((packet_Top i2).bind fun r4 =>
 bif decide ((gt ((api_Match.Mask m_0).1) n3) > r4) then (some true) else
 ((ixI i2 4).bind fun n5 =>
 bif decide ((gt ((api_Match.Val m_0).1) n5) < 0) then (some true) else
 ((ixI i2 4).bind fun n6 =>
 some ((bAndNot .i64 (gt ((api_Match.Val m_0).1) n6) (gt ((api_Match.Mask m_0).1) n3)) != 0)))) : Option Bool).bind fun b7 =>
 bif b7 then (some (.inr (.inl false))) else
 (some (.inl (wr .i64 (i2 + 1))))) else
 (some (.inr (.inr ())))
noncomputable def match_Right (m_0 : api_Match) : Option Bool :=
 bif ((decide ((api_Match.Port m_0) < (-1))) || (decide ((api_Match.Port m_0) ≥ 8))) then (some false) else
 ((loopO (match_Right_L1 m_0) 0).bind fun
 | .inl b8 => (some b8)
 | .inr _ => (some true))
noncomputable def sp15 : Spc := ⟨[(false, .x y1)], [([.x .b], [])], true, [], fun p => match p with | m_0 => match_Right m_0⟩
theorem ok15 : SpcOk prog 80 sp15 := spc_ok mixed glbok (sig := sig) (np := 1) (an := [(10, { j := some { vs := [(15, .x (.i .i64))] }, e := [(.ret, { vs := [(2, .x .b)] }), (.exit 0, {})] }), (18, { j := some { vs := [(42, .x .b)] } })]) (.cons ok11 .nil) (by kernel_rfl) (by kernel_rfl)
/- turnout/act.right -/
noncomputable def act_right (a_0 : api_Act) (ports_1 : Int) : Option Bool :=
 bif ((api_Act.Kind a_0) == 1) then ((bif (((decide ((api_Act.F a_0) ≥ 0)) && (decide ((api_Act.F a_0) < 4))) && (decide ((api_Act.V a_0) ≥ 0))) then ((packet_Top (api_Act.F a_0)).bind fun r1 =>
 some (decide ((api_Act.V a_0) ≤ r1))) else
 (some false) : Option Bool).bind fun b2 =>
 some b2) else
 (bif ((api_Act.Kind a_0) == 2) then (some ((((api_Act.F a_0) == 0) && (decide ((api_Act.V a_0) ≥ 0))) && (decide ((api_Act.V a_0) < ports_1)))) else
 (some (decide (a_0 = (⟨3, 0, 0⟩ : api_Act)))))
noncomputable def sp16 : Spc := ⟨[(false, .x y2), (false, .x (.i .i64))], [([.x .b], [])], true, [], fun p => match p with | (a_0, ports_1) => act_right a_0 ports_1⟩
theorem ok16 : SpcOk prog 99 sp16 := spc_ok mixed glbok (sig := sig) (np := 2) (an := [(8, { j := some { vs := [(4, .x .b)] } })]) (.cons ok11 .nil) (by kernel_rfl) (by kernel_rfl)
/- turnout/act.Right$1 -/
noncomputable def act_Right_1 (a_0 : api_Act) (c_1 : Int) : Option Bool :=
 (act_right a_0 c_1).bind fun r1 =>
 some (!r1)
noncomputable def sp17 : Spc := ⟨[(false, .x y2), (false, .pt (.i .i64))], [([.x .b], [])], true, [], fun p => match p with | (a_0, c_1) => act_Right_1 a_0 c_1⟩
theorem ok17 : SpcOk prog 98 sp17 := spc_ok mixed glbok (sig := sig) (np := 2) (an := []) (.cons ok16 .nil) (by kernel_rfl) (by kernel_rfl)
/- slices.IndexFunc[[]turnout/api.Act,turnout/api.Act] -/
noncomputable def slices_IndexFunc_api_Act_api_Act_act_Right_1_L1 (s_0 : Sl api_Act) (f_1_c0 : Int) : Int → Option (Int ⊕ (Int ⊕ Unit)) := fun i2 =>
 bif decide (i2 < (s_0.l.length : Int)) then ((ixI i2 s_0.l.length).bind fun n3 =>
 (act_Right_1 (gt s_0.l n3) f_1_c0).bind fun r4 =>
 bif r4 then (some (.inr (.inl i2))) else
 (some (.inl (wr .i64 (i2 + 1))))) else
 (some (.inr (.inr ())))
noncomputable def slices_IndexFunc_api_Act_api_Act_act_Right_1 (s_0 : Sl api_Act) (f_1_c0 : Int) : Option Int :=
 (loopO (slices_IndexFunc_api_Act_api_Act_act_Right_1_L1 s_0 f_1_c0) 0).bind fun
 | .inl i5 => (some i5)
 | .inr _ => (some (-1))
noncomputable def sp18 : Spc := ⟨[(false, .x (.sl y2)), (false, .fn 98 (.pr (.pt (.i .i64)) .ni))], [([.x (.i .i64)], [])], true, [], fun p => match p with | (s_0, f_1_c0) => slices_IndexFunc_api_Act_api_Act_act_Right_1 s_0 f_1_c0⟩
theorem ok18 : SpcOk prog 106 sp18 := spc_ok mixed glbok (sig := sig) (np := 2) (an := [(5, { j := some { vs := [(8, .x (.i .i64))] }, e := [(.ret, { vs := [(4, .x (.i .i64))] }), (.exit 0, {})] })]) (.cons ok17 .nil) (by kernel_rfl) (by kernel_rfl)
/- slices.ContainsFunc[[]turnout/api.Act,turnout/api.Act] -/
noncomputable def slices_ContainsFunc_api_Act_api_Act_act_Right_1 (s_0 : Sl api_Act) (f_1_c0 : Int) : Option Bool :=
 (slices_IndexFunc_api_Act_api_Act_act_Right_1 s_0 f_1_c0).bind fun r1 =>
 some (decide (r1 ≥ 0))
noncomputable def sp19 : Spc := ⟨[(false, .x (.sl y2)), (false, .fn 98 (.pr (.pt (.i .i64)) .ni))], [([.x .b], [])], true, [], fun p => match p with | (s_0, f_1_c0) => slices_ContainsFunc_api_Act_api_Act_act_Right_1 s_0 f_1_c0⟩
theorem ok19 : SpcOk prog 97 sp19 := spc_ok mixed glbok (sig := sig) (np := 2) (an := []) (.cons ok18 .nil) (by kernel_rfl) (by kernel_rfl)
/- turnout/act.Right -/
noncomputable def act_Right (l_0 : Sl api_Act) (ports_1 : Int) : Option Bool :=
 (bif decide ((l_0.l.length : Int) ≤ 16) then ((slices_ContainsFunc_api_Act_api_Act_act_Right_1 l_0 ports_1).bind fun r1 =>
 some (!r1)) else
 (some false) : Option Bool).bind fun b2 =>
 some b2
noncomputable def sp20 : Spc := ⟨[(false, .x (.sl y2)), (false, .x (.i .i64))], [([.x .b], [])], true, [], fun p => match p with | (l_0, ports_1) => act_Right l_0 ports_1⟩
theorem ok20 : SpcOk prog 81 sp20 := spc_ok mixed glbok (sig := sig) (np := 2) (an := [(3, { j := some { vs := [(4, .x .b)] } })]) (.cons ok19 .nil) (by kernel_rfl) (by kernel_rfl)
/- turnout/rule.Right -/
noncomputable def rule_Right (x_0 : api_Rule) (ports_1 : Int) : Option Bool :=
 (bif ((decide ((api_Rule.Prio x_0) ≥ 0)) && (decide ((api_Rule.Prio x_0) < 65536))) then ((match_Right (api_Rule.M x_0)).bind fun r1 =>
 bif r1 then ((act_Right (api_Rule.Acts x_0) ports_1).bind fun r2 =>
 some r2) else
 (some false)) else
 (some false) : Option Bool).bind fun b3 =>
 some b3
noncomputable def sp21 : Spc := ⟨[(false, .x y0), (false, .x (.i .i64))], [([.x .b], [])], true, [], fun p => match p with | (x_0, ports_1) => rule_Right x_0 ports_1⟩
theorem ok21 : SpcOk prog 52 sp21 := spc_ok mixed glbok (sig := sig) (np := 2) (an := [(3, { j := some { vs := [(4, .x .b)] } })]) (.cons ok15 (.cons ok20 .nil)) (by kernel_rfl) (by kernel_rfl)
/- turnout/match.Meet -/
noncomputable def match_Meet_L1 (a_0 : api_Match) (b_1 : api_Match) : (Int × api_Match × api_Match) → Option ((Int × api_Match × api_Match) ⊕ ((Bool × api_Match) ⊕ (api_Match × api_Match))) := fun (i5, x6, x7) =>
 bif decide (i5 < 4) then ((ixI i5 4).bind fun n8 =>
 (ixI i5 4).bind fun n9 =>
 (ixI i5 4).bind fun n10 =>
 (ixI i5 4).bind fun n11 =>
 bif ((bAnd .i64 (bAnd .i64 (bXor .i64 (gt ((api_Match.Val a_0).1) n8) (gt ((api_Match.Val b_1).1) n9)) (gt ((api_Match.Mask a_0).1) n10)) (gt ((api_Match.Mask b_1).1) n11)) != 0) then (some (.inr (.inl (false, (⟨0, (zeE (.ar 4 (.i .i64))), (zeE (.ar 4 (.i .i64)))⟩ : api_Match))))) else
 ((ixI i5 4).bind fun n12 =>
 (ixI i5 4).bind fun n13 =>
 (ixI i5 4).bind fun n14 =>
 (ixI i5 4).bind fun n15 =>
 (ixI i5 4).bind fun n16 =>
 (ixI i5 4).bind fun n17 =>
 some (.inl (wr .i64 (i5 + 1), x6, (⟨api_Match.Port x7, Arr.set (api_Match.Val x7) n16 (bOr .i64 (gt ((api_Match.Val a_0).1) n12) (gt ((api_Match.Val b_1).1) n13)), Arr.set (api_Match.Mask x7) n17 (bOr .i64 (gt ((api_Match.Mask a_0).1) n14) (gt ((api_Match.Mask b_1).1) n15))⟩ : api_Match))))) else
 (some (.inr (.inr (x6, x7))))
noncomputable def match_Meet (a_0 : api_Match) (b_1 : api_Match) : Option (api_Match × Bool) :=
 bif ((((api_Match.Port a_0) != (api_Match.Port b_1)) && ((api_Match.Port a_0) != (-1))) && ((api_Match.Port b_1) != (-1))) then (some ((⟨0, (zeE (.ar 4 (.i .i64))), (zeE (.ar 4 (.i .i64)))⟩ : api_Match), false)) else
 ((loopO (match_Meet_L1 a_0 b_1) (0, (⟨0, (zeE (.ar 4 (.i .i64))), (zeE (.ar 4 (.i .i64)))⟩ : api_Match), (⟨(if (api_Match.Port b_1) > (api_Match.Port a_0) then (api_Match.Port b_1) else (api_Match.Port a_0)), (zeE (.ar 4 (.i .i64))), (zeE (.ar 4 (.i .i64)))⟩ : api_Match))).bind fun
 | .inl (b18, x19) => (some (x19, b18))
 | .inr (x20, x21) => (some (x21, true)))
noncomputable def sp22 : Spc := ⟨[(false, .x y1), (false, .x y1)], [([.x y1, .x .b], [])], true, [], fun p => match p with | (a_0, b_1) => match_Meet a_0 b_1⟩
theorem ok22 : SpcOk prog 87 sp22 := spc_ok mixed glbok (sig := sig) (np := 2) (an := [(12, { j := some { vs := [(4, .op 0 y1 []), (6, .op 1 y1 []), (30, .x (.i .i64))], os := [.bx y1 (.x y1), .bx y1 (.x y1)], kl := [2, 3] }, e := [(.ret, { vs := [(4, .op 0 y1 []), (5, .x .b)], os := [.bx y1 (.x y1)], kl := [2, 3] }), (.exit 0, { vs := [(4, .op 0 y1 []), (6, .op 1 y1 [])], os := [.bx y1 (.x y1), .bx y1 (.x y1)], kl := [2, 3] })] })]) .nil (by kernel_rfl) (by kernel_rfl)
/- turnout/rule.Overlaps -/
noncomputable def rule_Overlaps (a_0 : api_Rule) (b_1 : api_Rule) : Option Bool :=
 (match_Meet (api_Rule.M a_0) (api_Rule.M b_1)).bind fun (r1, r2) =>
 some ((((api_Rule.Prio a_0) == (api_Rule.Prio b_1)) && (!(decide ((api_Rule.M a_0) = (api_Rule.M b_1))))) && r2)
noncomputable def sp23 : Spc := ⟨[(false, .x y0), (false, .x y0)], [([.x .b], [])], true, [], fun p => match p with | (a_0, b_1) => rule_Overlaps a_0 b_1⟩
theorem ok23 : SpcOk prog 84 sp23 := spc_ok mixed glbok (sig := sig) (np := 2) (an := []) (.cons ok22 .nil) (by kernel_rfl) (by kernel_rfl)
/- turnout/table.add$1 -/
noncomputable def table_add_1 (y_0 : api_Rule) (c_1 : api_Rule) : Option Bool :=
 (rule_Overlaps c_1 y_0).bind fun r1 =>
 some r1
noncomputable def sp24 : Spc := ⟨[(false, .x y0), (false, .pt y0)], [([.x .b], [])], true, [], fun p => match p with | (y_0, c_1) => table_add_1 y_0 c_1⟩
theorem ok24 : SpcOk prog 83 sp24 := spc_ok mixed glbok (sig := sig) (np := 2) (an := []) (.cons ok23 .nil) (by kernel_rfl) (by kernel_rfl)
/- slices.IndexFunc[[]turnout/api.Rule,turnout/api.Rule] -/
noncomputable def slices_IndexFunc_api_Rule_api_Rule_table_add_1_L1 (s_0 : Sl api_Rule) (f_1_c0 : api_Rule) : Int → Option (Int ⊕ (Int ⊕ Unit)) := fun i2 =>
 bif decide (i2 < (s_0.l.length : Int)) then ((ixI i2 s_0.l.length).bind fun n3 =>
 (table_add_1 (gt s_0.l n3) f_1_c0).bind fun r4 =>
 bif r4 then (some (.inr (.inl i2))) else
 (some (.inl (wr .i64 (i2 + 1))))) else
 (some (.inr (.inr ())))
noncomputable def slices_IndexFunc_api_Rule_api_Rule_table_add_1 (s_0 : Sl api_Rule) (f_1_c0 : api_Rule) : Option Int :=
 (loopO (slices_IndexFunc_api_Rule_api_Rule_table_add_1_L1 s_0 f_1_c0) 0).bind fun
 | .inl i5 => (some i5)
 | .inr _ => (some (-1))
noncomputable def sp25 : Spc := ⟨[(false, .x (.sl y0)), (false, .fn 83 (.pr (.pt y0) .ni))], [([.x (.i .i64)], [])], true, [], fun p => match p with | (s_0, f_1_c0) => slices_IndexFunc_api_Rule_api_Rule_table_add_1 s_0 f_1_c0⟩
theorem ok25 : SpcOk prog 65 sp25 := spc_ok mixed glbok (sig := sig) (np := 2) (an := [(5, { j := some { vs := [(8, .x (.i .i64))] }, e := [(.ret, { vs := [(4, .x (.i .i64))] }), (.exit 0, {})] })]) (.cons ok24 .nil) (by kernel_rfl) (by kernel_rfl)
/- slices.ContainsFunc[[]turnout/api.Rule,turnout/api.Rule] -/
noncomputable def slices_ContainsFunc_api_Rule_api_Rule_table_add_1 (s_0 : Sl api_Rule) (f_1_c0 : api_Rule) : Option Bool :=
 (slices_IndexFunc_api_Rule_api_Rule_table_add_1 s_0 f_1_c0).bind fun r1 =>
 some (decide (r1 ≥ 0))
noncomputable def sp26 : Spc := ⟨[(false, .x (.sl y0)), (false, .fn 83 (.pr (.pt y0) .ni))], [([.x .b], [])], true, [], fun p => match p with | (s_0, f_1_c0) => slices_ContainsFunc_api_Rule_api_Rule_table_add_1 s_0 f_1_c0⟩
theorem ok26 : SpcOk prog 82 sp26 := spc_ok mixed glbok (sig := sig) (np := 2) (an := []) (.cons ok25 .nil) (by kernel_rfl) (by kernel_rfl)
/- turnout/rule.Key -/
noncomputable def rule_Key (a_0 : api_Rule) (b_1 : api_Rule) : Option Bool :=
 some (((api_Rule.Prio a_0) == (api_Rule.Prio b_1)) && (decide ((api_Rule.M a_0) = (api_Rule.M b_1))))
noncomputable def sp27 : Spc := ⟨[(false, .x y0), (false, .x y0)], [([.x .b], [])], true, [], fun p => match p with | (a_0, b_1) => rule_Key a_0 b_1⟩
theorem ok27 : SpcOk prog 17 sp27 := spc_ok mixed glbok (sig := sig) (np := 2) (an := []) .nil (by kernel_rfl) (by kernel_rfl)
/- turnout/table.key$1 -/
noncomputable def table_key_1 (y_0 : api_Rule) (c_1 : api_Rule) : Option Bool :=
 (rule_Key c_1 y_0).bind fun r1 =>
 some r1
noncomputable def sp28 : Spc := ⟨[(false, .x y0), (false, .pt y0)], [([.x .b], [])], true, [], fun p => match p with | (y_0, c_1) => table_key_1 y_0 c_1⟩
theorem ok28 : SpcOk prog 93 sp28 := spc_ok mixed glbok (sig := sig) (np := 2) (an := []) (.cons ok27 .nil) (by kernel_rfl) (by kernel_rfl)
/- slices.IndexFunc[[]turnout/api.Rule,turnout/api.Rule] -/
noncomputable def slices_IndexFunc_api_Rule_api_Rule_table_key_1_L1 (s_0 : Sl api_Rule) (f_1_c0 : api_Rule) : Int → Option (Int ⊕ (Int ⊕ Unit)) := fun i2 =>
 bif decide (i2 < (s_0.l.length : Int)) then ((ixI i2 s_0.l.length).bind fun n3 =>
 (table_key_1 (gt s_0.l n3) f_1_c0).bind fun r4 =>
 bif r4 then (some (.inr (.inl i2))) else
 (some (.inl (wr .i64 (i2 + 1))))) else
 (some (.inr (.inr ())))
noncomputable def slices_IndexFunc_api_Rule_api_Rule_table_key_1 (s_0 : Sl api_Rule) (f_1_c0 : api_Rule) : Option Int :=
 (loopO (slices_IndexFunc_api_Rule_api_Rule_table_key_1_L1 s_0 f_1_c0) 0).bind fun
 | .inl i5 => (some i5)
 | .inr _ => (some (-1))
noncomputable def sp29 : Spc := ⟨[(false, .x (.sl y0)), (false, .fn 93 (.pr (.pt y0) .ni))], [([.x (.i .i64)], [])], true, [], fun p => match p with | (s_0, f_1_c0) => slices_IndexFunc_api_Rule_api_Rule_table_key_1 s_0 f_1_c0⟩
theorem ok29 : SpcOk prog 65 sp29 := spc_ok mixed glbok (sig := sig) (np := 2) (an := [(5, { j := some { vs := [(8, .x (.i .i64))] }, e := [(.ret, { vs := [(4, .x (.i .i64))] }), (.exit 0, {})] })]) (.cons ok28 .nil) (by kernel_rfl) (by kernel_rfl)
/- turnout/table.key -/
noncomputable def table_key (t_0 : Sl api_Rule) (x_1 : api_Rule) : Option Int :=
 (slices_IndexFunc_api_Rule_api_Rule_table_key_1 t_0 x_1).bind fun r1 =>
 some r1
noncomputable def sp30 : Spc := ⟨[(false, .x (.sl y0)), (false, .x y0)], [([.x (.i .i64)], [])], true, [], fun p => match p with | (t_0, x_1) => table_key t_0 x_1⟩
theorem ok30 : SpcOk prog 70 sp30 := spc_ok mixed glbok (sig := sig) (np := 2) (an := []) (.cons ok29 .nil) (by kernel_rfl) (by kernel_rfl)
/- slices.Clone[[]turnout/api.Rule,turnout/api.Rule] -/
noncomputable def slices_Clone_api_Rule_api_Rule (s_0 : Sl api_Rule) : Option (Sl api_Rule) :=
 bif s_0.isNil then (some Sl.nil) else
 ((capI ([] ++ s_0.l)).bind fun l1 =>
 some (appS (Sl.mk []) s_0.l l1))
noncomputable def sp31 : Spc := ⟨[(false, .x (.sl y0))], [([.os y0], [])], false, [], fun p => match p with | s_0 => slices_Clone_api_Rule_api_Rule s_0⟩
theorem ok31 : SpcOk prog 56 sp31 := spc_ok mixed glbok (sig := sig) (np := 1) (an := []) .nil (by kernel_rfl) (by kernel_rfl)
/- turnout/table.replaced -/
noncomputable def table_replaced (t_0 : Sl api_Rule) (at_1 : Int) (l_2 : Sl api_Act) : Option (Sl api_Rule) :=
 (slices_Clone_api_Rule_api_Rule t_0).bind fun s1 =>
 (ixI at_1 s1.l.length).bind fun n2 =>
 some (Sl.mk (s1.l.set n2 (⟨api_Rule.Prio (gt s1.l n2), api_Rule.M (gt s1.l n2), l_2⟩ : api_Rule)))
noncomputable def sp32 : Spc := ⟨[(false, .x (.sl y0)), (false, .x (.i .i64)), (false, .x (.sl y2))], [([.x (.sl y0)], [])], false, [], fun p => match p with | (t_0, at_1, l_2) => table_replaced t_0 at_1 l_2⟩
theorem ok32 : SpcOk prog 60 sp32 := spc_ok mixed glbok (sig := sig) (np := 3) (an := []) (.cons ok31 .nil) (by kernel_rfl) (by kernel_rfl)
/- turnout/rule.Ahead -/
noncomputable def rule_Ahead (a_0 : api_Rule) (b_1 : api_Rule) : Option Bool :=
 some (decide ((api_Rule.Prio a_0) > (api_Rule.Prio b_1)))
noncomputable def sp33 : Spc := ⟨[(false, .x y0), (false, .x y0)], [([.x .b], [])], true, [], fun p => match p with | (a_0, b_1) => rule_Ahead a_0 b_1⟩
theorem ok33 : SpcOk prog 69 sp33 := spc_ok mixed glbok (sig := sig) (np := 2) (an := []) .nil (by kernel_rfl) (by kernel_rfl)
/- turnout/table.add$2 -/
noncomputable def table_add_2 (y_0 : api_Rule) (c_1 : api_Rule) : Option Bool :=
 (rule_Ahead c_1 y_0).bind fun r1 =>
 some r1
noncomputable def sp34 : Spc := ⟨[(false, .x y0), (false, .pt y0)], [([.x .b], [])], true, [], fun p => match p with | (y_0, c_1) => table_add_2 y_0 c_1⟩
theorem ok34 : SpcOk prog 85 sp34 := spc_ok mixed glbok (sig := sig) (np := 2) (an := []) (.cons ok33 .nil) (by kernel_rfl) (by kernel_rfl)
/- slices.IndexFunc[[]turnout/api.Rule,turnout/api.Rule] -/
noncomputable def slices_IndexFunc_api_Rule_api_Rule_table_add_2_L1 (s_0 : Sl api_Rule) (f_1_c0 : api_Rule) : Int → Option (Int ⊕ (Int ⊕ Unit)) := fun i2 =>
 bif decide (i2 < (s_0.l.length : Int)) then ((ixI i2 s_0.l.length).bind fun n3 =>
 (table_add_2 (gt s_0.l n3) f_1_c0).bind fun r4 =>
 bif r4 then (some (.inr (.inl i2))) else
 (some (.inl (wr .i64 (i2 + 1))))) else
 (some (.inr (.inr ())))
noncomputable def slices_IndexFunc_api_Rule_api_Rule_table_add_2 (s_0 : Sl api_Rule) (f_1_c0 : api_Rule) : Option Int :=
 (loopO (slices_IndexFunc_api_Rule_api_Rule_table_add_2_L1 s_0 f_1_c0) 0).bind fun
 | .inl i5 => (some i5)
 | .inr _ => (some (-1))
noncomputable def sp35 : Spc := ⟨[(false, .x (.sl y0)), (false, .fn 85 (.pr (.pt y0) .ni))], [([.x (.i .i64)], [])], true, [], fun p => match p with | (s_0, f_1_c0) => slices_IndexFunc_api_Rule_api_Rule_table_add_2 s_0 f_1_c0⟩
theorem ok35 : SpcOk prog 65 sp35 := spc_ok mixed glbok (sig := sig) (np := 2) (an := [(5, { j := some { vs := [(8, .x (.i .i64))] }, e := [(.ret, { vs := [(4, .x (.i .i64))] }), (.exit 0, {})] })]) (.cons ok34 .nil) (by kernel_rfl) (by kernel_rfl)
/- slices.Insert[[]turnout/api.Rule,turnout/api.Rule] -/
theorem ok36 : SpcOk prog 86 (insSpc y0) := ins_ok mixed (sig := sig) (nt := 95) (tl := insTl (szT y0) 101 false [true, false]) (z := zeL y0) (by kernel_rfl) (by kernel_rfl)
/- turnout/table.add -/
noncomputable def table_add (t_0 : Sl api_Rule) (m_1 : api_Mod) (room_2 : Int) : Option (Sl api_Rule × Int) :=
 (bif api_Mod.Check m_1 then ((slices_ContainsFunc_api_Rule_api_Rule_table_add_1 t_0 (api_Mod.R m_1)).bind fun r1 =>
 some r1) else
 (some false) : Option Bool).bind fun b2 =>
 bif b2 then (some (t_0, 14)) else
 ((table_key t_0 (api_Mod.R m_1)).bind fun r3 =>
 bif decide (r3 ≥ 0) then ((table_replaced t_0 r3 (api_Rule.Acts (api_Mod.R m_1))).bind fun r4 =>
 some (r4, 0)) else
 (bif decide ((t_0.l.length : Int) ≥ room_2) then (some (t_0, 6)) else
 ((slices_IndexFunc_api_Rule_api_Rule_table_add_2 t_0 (api_Mod.R m_1)).bind fun r5 =>
 (bif decide (r5 < 0) then (some (t_0.l.length : Int)) else
 (some r5) : Option Int).bind fun i6 =>
 (slices_Clone_api_Rule_api_Rule t_0).bind fun s7 =>
 (insF s7 i6 (Sl.mk [api_Mod.R m_1])).bind fun s8 =>
 some (s8, 0))))
noncomputable def sp37 : Spc := ⟨[(false, .x (.sl y0)), (false, .x y3), (false, .x (.i .i64))], [([.x (.sl y0), .x (.i .i64)], [])], false, [], fun p => match p with | (t_0, m_1, room_2) => table_add t_0 m_1 room_2⟩
theorem ok37 : SpcOk prog 53 sp37 := spc_ok mixed glbok (sig := sig) (np := 3) (an := [(6, { j := some { vs := [(19, .x .b)] } }), (23, { e := [(.normal, { vs := [(10, .x (.i .i64))] })] })]) (.cons ok26 (.cons ok30 (.cons ok32 (.cons ok35 (.cons ok31 (.cons ok36 .nil)))))) (by kernel_rfl) (by kernel_rfl)
/- turnout/match.Within -/
noncomputable def match_Within (a_0 : api_Match) (b_1 : api_Match) : Option Bool :=
 (match_Meet a_0 b_1).bind fun (r1, r2) =>
 some (r2 && (decide (r1 = a_0)))
noncomputable def sp38 : Spc := ⟨[(false, .x y1), (false, .x y1)], [([.x .b], [])], true, [], fun p => match p with | (a_0, b_1) => match_Within a_0 b_1⟩
theorem ok38 : SpcOk prog 58 sp38 := spc_ok mixed glbok (sig := sig) (np := 2) (an := []) (.cons ok22 .nil) (by kernel_rfl) (by kernel_rfl)
/- turnout/table.modify -/
noncomputable def table_modify_L1 (x_1 : api_Rule) (s1 : Sl api_Rule) : (Int × Sl api_Rule) → Option ((Int × Sl api_Rule) ⊕ (Sl api_Rule)) := fun (i5, s6) =>
 bif decide (i5 < (s1.l.length : Int)) then (((ixI i5 s6.l.length).bind fun n7 =>
 (match_Within (api_Rule.M (gt s6.l n7)) (api_Rule.M x_1)).bind fun r8 =>
 bif r8 then ((ixI i5 s6.l.length).bind fun n9 =>
 some (Sl.mk (s6.l.set n9 (⟨api_Rule.Prio (gt s6.l n9), api_Rule.M (gt s6.l n9), api_Rule.Acts x_1⟩ : api_Rule)))) else
 (some s6) : Option (Sl api_Rule)).bind fun s10 =>
 some (.inl (wr .i64 (i5 + 1), s10))) else
 (some (.inr s6))
noncomputable def table_modify (t_0 : Sl api_Rule) (x_1 : api_Rule) : Option (Sl api_Rule) :=
 (slices_Clone_api_Rule_api_Rule t_0).bind fun s1 =>
 (loopO (table_modify_L1 x_1 s1) (0, s1)).bind fun s11 =>
 some s11
noncomputable def sp39 : Spc := ⟨[(false, .x (.sl y0)), (false, .x y0)], [([.x (.sl y0)], [])], false, [], fun p => match p with | (t_0, x_1) => table_modify t_0 x_1⟩
theorem ok39 : SpcOk prog 54 sp39 := spc_ok mixed glbok (sig := sig) (np := 2) (an := [(7, { j := some { vs := [(0, .so 0), (9, .so 0), (11, .x (.i .i64))], os := [.ar y0], kl := [1] }, e := [(.exit 0, { vs := [(0, .so 0)], os := [.ar y0], kl := [1] })] }), (11, { e := [(.normal, { vs := [(0, .so 0), (9, .so 0)], os := [.ar y0], kl := [2] })] })]) (.cons ok31 (.cons ok38 .nil)) (by kernel_rfl) (by kernel_rfl)
/- turnout/table.Apply$1 -/
noncomputable def table_Apply_1 (y_0 : api_Rule) (c_1 : api_Mod) : Option Bool :=
 (match_Within (api_Rule.M y_0) (api_Rule.M (api_Mod.R c_1))).bind fun r1 =>
 some r1
noncomputable def sp40 : Spc := ⟨[(false, .x y0), (false, .pt y3)], [([.x .b], [])], true, [], fun p => match p with | (y_0, c_1) => table_Apply_1 y_0 c_1⟩
theorem ok40 : SpcOk prog 57 sp40 := spc_ok mixed glbok (sig := sig) (np := 2) (an := []) (.cons ok38 .nil) (by kernel_rfl) (by kernel_rfl)
/- slices.IndexFunc[[]turnout/api.Rule,turnout/api.Rule] -/
noncomputable def slices_IndexFunc_api_Rule_api_Rule_table_Apply_1_L1 (s_0 : Sl api_Rule) (f_1_c0 : api_Mod) : Int → Option (Int ⊕ (Int ⊕ Unit)) := fun i2 =>
 bif decide (i2 < (s_0.l.length : Int)) then ((ixI i2 s_0.l.length).bind fun n3 =>
 (table_Apply_1 (gt s_0.l n3) f_1_c0).bind fun r4 =>
 bif r4 then (some (.inr (.inl i2))) else
 (some (.inl (wr .i64 (i2 + 1))))) else
 (some (.inr (.inr ())))
noncomputable def slices_IndexFunc_api_Rule_api_Rule_table_Apply_1 (s_0 : Sl api_Rule) (f_1_c0 : api_Mod) : Option Int :=
 (loopO (slices_IndexFunc_api_Rule_api_Rule_table_Apply_1_L1 s_0 f_1_c0) 0).bind fun
 | .inl i5 => (some i5)
 | .inr _ => (some (-1))
noncomputable def sp41 : Spc := ⟨[(false, .x (.sl y0)), (false, .fn 57 (.pr (.pt y3) .ni))], [([.x (.i .i64)], [])], true, [], fun p => match p with | (s_0, f_1_c0) => slices_IndexFunc_api_Rule_api_Rule_table_Apply_1 s_0 f_1_c0⟩
theorem ok41 : SpcOk prog 65 sp41 := spc_ok mixed glbok (sig := sig) (np := 2) (an := [(5, { j := some { vs := [(8, .x (.i .i64))] }, e := [(.ret, { vs := [(4, .x (.i .i64))] }), (.exit 0, {})] })]) (.cons ok40 .nil) (by kernel_rfl) (by kernel_rfl)
/- slices.DeleteFunc[[]turnout/api.Rule,turnout/api.Rule] -/
noncomputable def slices_DeleteFunc_api_Rule_api_Rule_table_Apply_1_L1 (del_1_c0 : api_Mod) : (Int × Int × Sl api_Rule) → Option ((Int × Int × Sl api_Rule) ⊕ (Int × Sl api_Rule)) := fun (i7, i8, s9) =>
 bif decide (i8 < (s9.l.length : Int)) then (((ixI i8 s9.l.length).bind fun n10 =>
 (table_Apply_1 (gt s9.l n10) del_1_c0).bind fun r11 =>
 bif (!r11) then ((ixI i7 s9.l.length).bind fun n12 =>
 some (wr .i64 (i7 + 1), (Sl.mk (s9.l.set n12 (gt s9.l n10))))) else
 (some (i7, s9)) : Option (Int × Sl api_Rule)).bind fun (i13, s14) =>
 some (.inl (i13, wr .i64 (i8 + 1), s14))) else
 (some (.inr (i7, s9)))
noncomputable def slices_DeleteFunc_api_Rule_api_Rule_table_Apply_1 (s_0 : Sl api_Rule) (del_1_c0 : api_Mod) : Option (Sl api_Rule) :=
 (slices_IndexFunc_api_Rule_api_Rule_table_Apply_1 s_0 del_1_c0).bind fun r1 =>
 bif (r1 == (-1)) then (some s_0) else
 ((loopO (slices_DeleteFunc_api_Rule_api_Rule_table_Apply_1_L1 del_1_c0) (r1, wr .i64 (r1 + 1), s_0)).bind fun (i15, s16) =>
 (cutI s16.l i15 s16.l.length).bind fun l17 =>
 (clrS s16 i15.toNat ((s16.to l17).l).length (⟨0, (⟨0, (zeE (.ar 4 (.i .i64))), (zeE (.ar 4 (.i .i64)))⟩ : api_Match), Sl.nil⟩ : api_Rule)).bind fun s18 =>
 (cutI s18.l 0 i15).bind fun l19 =>
 some (s18.to l19))
noncomputable def sp42 : Spc := ⟨[(true, .os y0), (false, .fn 57 (.pr (.pt y3) .ni))], [([.x (.sl y0)], [.gn])], false, [true, false], fun p => match p with | (s_0, del_1_c0) => slices_DeleteFunc_api_Rule_api_Rule_table_Apply_1 s_0 del_1_c0⟩
theorem ok42 : SpcOk prog 55 sp42 := spc_ok mixed glbok (sig := sig) (np := 2) (an := [(12, { j := some { vs := [(0, .so 0), (5, .x (.i .i64)), (6, .x (.i .i64))], gs := (.co (.so 0) .ni), os := [.ar y0], kl := [0] }, e := [(.exit 0, { vs := [(0, .so 0), (5, .x (.i .i64))], gs := (.co (.so 0) .ni), os := [.ar y0], kl := [0] })] }), (16, { e := [(.normal, { vs := [(0, .so 0), (5, .x (.i .i64))], gs := (.co (.so 0) .ni), os := [.ar y0], kl := [2] })] })]) (.cons ok41 (.cons ok40 .nil)) (by kernel_rfl) (by kernel_rfl)
/- turnout/table.strict -/
noncomputable def table_strict (t_0 : Sl api_Rule) (x_1 : api_Rule) : Option (Int × Int) :=
 (table_key t_0 x_1).bind fun r1 =>
 bif decide (r1 < 0) then (some (r1, 7)) else
 (some (r1, 0))
noncomputable def sp43 : Spc := ⟨[(false, .x (.sl y0)), (false, .x y0)], [([.x (.i .i64), .x (.i .i64)], [])], true, [], fun p => match p with | (t_0, x_1) => table_strict t_0 x_1⟩
theorem ok43 : SpcOk prog 59 sp43 := spc_ok mixed glbok (sig := sig) (np := 2) (an := []) (.cons ok30 .nil) (by kernel_rfl) (by kernel_rfl)
/- slices.Delete[[]turnout/api.Rule,turnout/api.Rule] -/
theorem ok44 : SpcOk prog 61 (delSpc y0) := del_ok mixed (sig := sig) (nt := 33) (z := zeL y0) (by kernel_rfl) (by kernel_rfl)
/- turnout/table.Apply -/
noncomputable def table_Apply (t_0 : Sl api_Rule) (m_1 : api_Mod) (ports_2 : Int) (room_3 : Int) : Option (Sl api_Rule × Int) :=
 (rule_Right (api_Mod.R m_1) ports_2).bind fun r1 =>
 bif (!r1) then (some (t_0, 2)) else
 (bif ((api_Mod.Kind m_1) == 1) then ((table_add t_0 m_1 room_3).bind fun (r2, r3) =>
 some (r2, r3)) else
 (bif ((api_Mod.Kind m_1) == 2) then ((table_modify t_0 (api_Mod.R m_1)).bind fun r4 =>
 some (r4, 0)) else
 (bif ((api_Mod.Kind m_1) == 4) then ((slices_Clone_api_Rule_api_Rule t_0).bind fun s5 =>
 (slices_DeleteFunc_api_Rule_api_Rule_table_Apply_1 s5 m_1).bind fun r6 =>
 some (r6, 0)) else
 ((bif ((api_Mod.Kind m_1) == 3) then (some ((api_Mod.Kind m_1) == 3)) else
 (some ((api_Mod.Kind m_1) == 5)) : Option Bool).bind fun b7 =>
 bif b7 then ((table_strict t_0 (api_Mod.R m_1)).bind fun (r8, r9) =>
 bif (r9 != 0) then (some (t_0, r9)) else
 (bif ((api_Mod.Kind m_1) == 3) then ((table_replaced t_0 r8 (api_Rule.Acts (api_Mod.R m_1))).bind fun r10 =>
 some (r10, 0)) else
 ((slices_Clone_api_Rule_api_Rule t_0).bind fun s11 =>
 (delF s11 r8 (wr .i64 (r8 + 1))).bind fun s12 =>
 some (s12, 0)))) else
 (some (t_0, 2))))))
noncomputable def sp45 : Spc := ⟨[(false, .x (.sl y0)), (false, .x y3), (false, .x (.i .i64)), (false, .x (.i .i64))], [([.x (.sl y0), .x (.i .i64)], [])], false, [], fun p => match p with | (t_0, m_1, ports_2, room_3) => table_Apply t_0 m_1 ports_2 room_3⟩
theorem ok45 : SpcOk prog 18 sp45 := spc_ok mixed glbok (sig := sig) (np := 4) (an := [(22, { e := [(.normal, { vs := [(40, .x .b)] })] })]) (.cons ok21 (.cons ok37 (.cons ok39 (.cons ok31 (.cons ok42 (.cons ok43 (.cons ok32 (.cons ok44 .nil)))))))) (by kernel_rfl) (by kernel_rfl)
/- turnout/table.Mods -/
noncomputable def table_Mods_L1 (t_0 : Sl api_Rule) (l_1 : Sl api_Mod) (ports_2 : Int) (room_3 : Int) : (Sl api_Rule × Int) → Option ((Sl api_Rule × Int) ⊕ ((Sl api_Rule × Int × Int) ⊕ (Sl api_Rule))) := fun (s3, i4) =>
 bif decide (i4 < (l_1.l.length : Int)) then ((ixI i4 l_1.l.length).bind fun n5 =>
 (table_Apply s3 (gt l_1.l n5) ports_2 room_3).bind fun (r6, r7) =>
 bif (r7 != 0) then (some (.inr (.inl (t_0, i4, r7)))) else
 (some (.inl (r6, wr .i64 (i4 + 1))))) else
 (some (.inr (.inr s3)))
noncomputable def table_Mods (t_0 : Sl api_Rule) (l_1 : Sl api_Mod) (ports_2 : Int) (room_3 : Int) : Option (Sl api_Rule × Int × Int) :=
 (loopO (table_Mods_L1 t_0 l_1 ports_2 room_3) (t_0, 0)).bind fun
 | .inl (s8, i9, i10) => (some (s8, i9, i10))
 | .inr s11 => (some (s11, (-1), 0))
noncomputable def sp46 : Spc := ⟨[(false, .x (.sl y0)), (false, .x (.sl y3)), (false, .x (.i .i64)), (false, .x (.i .i64))], [([.x (.sl y0), .x (.i .i64), .x (.i .i64)], [])], false, [], fun p => match p with | (t_0, l_1, ports_2, room_3) => table_Mods t_0 l_1 ports_2 room_3⟩
theorem ok46 : SpcOk prog 13 sp46 := spc_ok mixed glbok (sig := sig) (np := 4) (an := [(7, { j := some { vs := [(11, .x (.sl y0)), (18, .x (.i .i64))] }, e := [(.ret, { vs := [(8, .x (.sl y0)), (9, .x (.i .i64)), (10, .x (.i .i64))] }), (.exit 0, { vs := [(11, .x (.sl y0))] })] })]) (.cons ok45 .nil) (by kernel_rfl) (by kernel_rfl)
/- turnout/match.Hits -/
/- turnout/table.Find$1 -/
/- slices.IndexFunc[[]turnout/api.Rule,turnout/api.Rule] -/
/- turnout/table.Find -/
/- turnout/packet.is -/
/- turnout/packet.With -/
/- turnout/act.Run -/
/- turnout/table.Run -/
/- turnout/turnoutlaw11.awake -/
/- turnout/turnoutref09.Same -/
noncomputable def ref09_Same_L1 (a_0 : Sl api_Act) (b_1 : Sl api_Act) : Int → Option (Int ⊕ (Bool ⊕ Unit)) := fun i2 =>
 bif decide (i2 < (a_0.l.length : Int)) then ((ixI i2 a_0.l.length).bind fun n3 =>
 (ixI i2 b_1.l.length).bind fun n4 =>
 bif (!(decide ((gt a_0.l n3) = (gt b_1.l n4)))) then (some (.inr (.inl false))) else
 (some (.inl (wr .i64 (i2 + 1))))) else
 (some (.inr (.inr ())))
noncomputable def ref09_Same (a_0 : Sl api_Act) (b_1 : Sl api_Act) : Option Bool :=
 bif ((a_0.l.length : Int) != (b_1.l.length : Int)) then (some false) else
 ((loopO (ref09_Same_L1 a_0 b_1) 0).bind fun
 | .inl b5 => (some b5)
 | .inr _ => (some true))
noncomputable def sp56 : Spc := ⟨[(false, .x (.sl y2)), (false, .x (.sl y2))], [([.x .b], [])], true, [], fun p => match p with | (a_0, b_1) => ref09_Same a_0 b_1⟩
theorem ok56 : SpcOk prog 77 sp56 := spc_ok mixed glbok (sig := sig) (np := 2) (an := [(10, { j := some { vs := [(5, .x (.i .i64))] }, e := [(.ret, { vs := [(4, .x .b)] }), (.exit 0, {})] })]) .nil (by kernel_rfl) (by kernel_rfl)
/- turnout/turnoutref10.Same -/
noncomputable def ref10_Same (a_0 : api_Rule) (b_1 : api_Rule) : Option Bool :=
 (bif (((api_Rule.Prio a_0) == (api_Rule.Prio b_1)) && (decide ((api_Rule.M a_0) = (api_Rule.M b_1)))) then ((ref09_Same (api_Rule.Acts a_0) (api_Rule.Acts b_1)).bind fun r1 =>
 some r1) else
 (some false) : Option Bool).bind fun b2 =>
 some b2
noncomputable def sp57 : Spc := ⟨[(false, .x y0), (false, .x y0)], [([.x .b], [])], true, [], fun p => match p with | (a_0, b_1) => ref10_Same a_0 b_1⟩
theorem ok57 : SpcOk prog 48 sp57 := spc_ok mixed glbok (sig := sig) (np := 2) (an := [(3, { j := some { vs := [(4, .x .b)] } })]) (.cons ok56 .nil) (by kernel_rfl) (by kernel_rfl)
/- turnout/turnoutref10.Rules -/
noncomputable def ref10_Rules_L1 (a_0 : Sl api_Rule) (b_1 : Sl api_Rule) : Int → Option (Int ⊕ (Bool ⊕ Unit)) := fun i2 =>
 bif decide (i2 < (a_0.l.length : Int)) then ((ixI i2 a_0.l.length).bind fun n3 =>
 (ixI i2 b_1.l.length).bind fun n4 =>
 (ref10_Same (gt a_0.l n3) (gt b_1.l n4)).bind fun r5 =>
 bif (!r5) then (some (.inr (.inl false))) else
 (some (.inl (wr .i64 (i2 + 1))))) else
 (some (.inr (.inr ())))
noncomputable def ref10_Rules (a_0 : Sl api_Rule) (b_1 : Sl api_Rule) : Option Bool :=
 bif ((a_0.l.length : Int) != (b_1.l.length : Int)) then (some false) else
 ((loopO (ref10_Rules_L1 a_0 b_1) 0).bind fun
 | .inl b6 => (some b6)
 | .inr _ => (some true))
noncomputable def sp58 : Spc := ⟨[(false, .x (.sl y0)), (false, .x (.sl y0))], [([.x .b], [])], true, [], fun p => match p with | (a_0, b_1) => ref10_Rules a_0 b_1⟩
theorem ok58 : SpcOk prog 14 sp58 := spc_ok mixed glbok (sig := sig) (np := 2) (an := [(10, { j := some { vs := [(5, .x (.i .i64))] }, e := [(.ret, { vs := [(4, .x .b)] }), (.exit 0, {})] })]) (.cons ok57 .nil) (by kernel_rfl) (by kernel_rfl)
/- turnout/turnoutlaw11.TableNone -/
/- turnout/turnoutref07.Right -/
/- turnout/turnoutref08.Hits -/
/- turnout/turnoutref11.Find -/
/- turnout/turnoutref07.With -/
/- turnout/turnoutref09.Run -/
/- turnout/turnoutref11.Run -/
/- turnout/turnoutref09.Sent -/
/- turnout/turnoutlaw11.TableBack -/
/- turnout/turnoutlaw11.TableFirst -/
/- turnout/turnoutref08.Meet -/
/- turnout/turnoutref10.Overlaps -/
/- turnout/turnoutref08.Within -/
/- turnout/turnoutref11.with -/
/- turnout/turnoutref11.changed -/
/- turnout/turnoutref11.added -/
/- turnout/turnoutref11.add -/
/- turnout/turnoutref11.Apply -/
/- turnout/table.Right -/
/- turnout/turnoutref11.Mods -/
/- turnout/turnoutlaw11.TableChanges -/
/- slices.Equal[[]turnout/api.Act,turnout/api.Act] -/
noncomputable def slices_Equal_api_Act_api_Act_L1 (s1_0 : Sl api_Act) (s2_1 : Sl api_Act) : Int → Option (Int ⊕ (Bool ⊕ Unit)) := fun i2 =>
 bif decide (i2 < (s1_0.l.length : Int)) then ((ixI i2 s1_0.l.length).bind fun n3 =>
 (ixI i2 s2_1.l.length).bind fun n4 =>
 bif (!(decide ((gt s1_0.l n3) = (gt s2_1.l n4)))) then (some (.inr (.inl false))) else
 (some (.inl (wr .i64 (i2 + 1))))) else
 (some (.inr (.inr ())))
noncomputable def slices_Equal_api_Act_api_Act (s1_0 : Sl api_Act) (s2_1 : Sl api_Act) : Option Bool :=
 bif ((s1_0.l.length : Int) != (s2_1.l.length : Int)) then (some false) else
 ((loopO (slices_Equal_api_Act_api_Act_L1 s1_0 s2_1) 0).bind fun
 | .inl b5 => (some b5)
 | .inr _ => (some true))
noncomputable def sp80 : Spc := ⟨[(false, .x (.sl y2)), (false, .x (.sl y2))], [([.x .b], [])], true, [], fun p => match p with | (s1_0, s2_1) => slices_Equal_api_Act_api_Act s1_0 s2_1⟩
theorem ok80 : SpcOk prog 104 sp80 := spc_ok mixed glbok (sig := sig) (np := 2) (an := [(10, { j := some { vs := [(13, .x (.i .i64))] }, e := [(.ret, { vs := [(4, .x .b)] }), (.exit 0, {})] })]) .nil (by kernel_rfl) (by kernel_rfl)
/- turnout/act.Same -/
noncomputable def act_Same (a_0 : Sl api_Act) (b_1 : Sl api_Act) : Option Bool :=
 (slices_Equal_api_Act_api_Act a_0 b_1).bind fun r1 =>
 some r1
noncomputable def sp81 : Spc := ⟨[(false, .x (.sl y2)), (false, .x (.sl y2))], [([.x .b], [])], true, [], fun p => match p with | (a_0, b_1) => act_Same a_0 b_1⟩
theorem ok81 : SpcOk prog 94 sp81 := spc_ok mixed glbok (sig := sig) (np := 2) (an := []) (.cons ok80 .nil) (by kernel_rfl) (by kernel_rfl)
/- turnout/rule.Same -/
noncomputable def rule_Same (a_0 : api_Rule) (b_1 : api_Rule) : Option Bool :=
 ((rule_Key a_0 b_1).bind fun r1 =>
 bif r1 then ((act_Same (api_Rule.Acts a_0) (api_Rule.Acts b_1)).bind fun r2 =>
 some r2) else
 (some false) : Option Bool).bind fun b3 =>
 some b3
noncomputable def sp82 : Spc := ⟨[(false, .x y0), (false, .x y0)], [([.x .b], [])], true, [], fun p => match p with | (a_0, b_1) => rule_Same a_0 b_1⟩
theorem ok82 : SpcOk prog 72 sp82 := spc_ok mixed glbok (sig := sig) (np := 2) (an := [(3, { j := some { vs := [(4, .x .b)] } })]) (.cons ok27 (.cons ok81 .nil)) (by kernel_rfl) (by kernel_rfl)
/- slices.EqualFunc[[]turnout/api.Rule,[]turnout/api.Rule,turnout/api.Rule,turnout/api.Rule] -/
/- turnout/table.Same -/
/- turnout/turnoutlaw11.TableTells -/
/- turnout/bundle.New -/
noncomputable def bundle_New : Option bundle_Bundle :=
 some (⟨0, (zeE (.ar 16 .b)), (zeE (.ar 16 y3)), 0⟩ : bundle_Bundle)
noncomputable def sp86 : Spc := ⟨[], [([.pb y5 (.x y5)], [])], false, [], fun p => match p with | _ => bundle_New⟩
theorem ok86 : SpcOk prog 31 sp86 := spc_ok mixed glbok (sig := sig) (np := 0) (an := []) .nil (by kernel_rfl) (by kernel_rfl)
/- (*turnout/bundle.Bundle).State -/
noncomputable def bundle_Bundle_State (b_0 : bundle_Bundle) : Option Int :=
 some (bundle_Bundle.state b_0)
noncomputable def sp87 : Spc := ⟨[(false, .pt y5)], [([.x (.i .i64)], [])], true, [], fun p => match p with | b_0 => bundle_Bundle_State b_0⟩
theorem ok87 : SpcOk prog 41 sp87 := spc_ok mixed glbok (sig := sig) (np := 1) (an := []) .nil (by kernel_rfl) (by kernel_rfl)
/- turnout/bundle.same -/
noncomputable def bundle_same (a_0 : api_Mod) (b_1 : api_Mod) : Option Bool :=
 (bif (((api_Mod.Kind a_0) == (api_Mod.Kind b_1)) && ((api_Mod.Check a_0) == (api_Mod.Check b_1))) then ((rule_Same (api_Mod.R a_0) (api_Mod.R b_1)).bind fun r1 =>
 some r1) else
 (some false) : Option Bool).bind fun b2 =>
 some b2
noncomputable def sp88 : Spc := ⟨[(false, .x y3), (false, .x y3)], [([.x .b], [])], true, [], fun p => match p with | (a_0, b_1) => bundle_same a_0 b_1⟩
theorem ok88 : SpcOk prog 74 sp88 := spc_ok mixed glbok (sig := sig) (np := 2) (an := [(3, { j := some { vs := [(4, .x .b)] } })]) (.cons ok82 .nil) (by kernel_rfl) (by kernel_rfl)
/- (*turnout/bundle.Bundle).Add -/
noncomputable def bundle_Bundle_Add (b_0 : bundle_Bundle) (i_1 : Int) (m_2 : api_Mod) : Option (Int × bundle_Bundle) :=
 (bundle_Bundle_State b_0).bind fun r1 =>
 bif (r1 != 0) then (some (16, b_0)) else
 (bif ((decide (i_1 < 0)) || (decide (i_1 ≥ 16))) then (some (2, b_0)) else
 (((ixI i_1 16).bind fun n2 =>
 bif gt ((bundle_Bundle.has b_0).1) n2 then ((ixI i_1 16).bind fun n3 =>
 (bundle_same (gt ((bundle_Bundle.l b_0).1) n3) m_2).bind fun r4 =>
 some (!r4)) else
 (some false) : Option Bool).bind fun b5 =>
 bif b5 then (some (8, b_0)) else
 ((ixI i_1 16).bind fun n6 =>
 (ixI i_1 16).bind fun n7 =>
 some (0, (⟨bundle_Bundle.state b_0, Arr.set (bundle_Bundle.has b_0) n6 true, Arr.set (bundle_Bundle.l b_0) n7 m_2, bundle_Bundle.n b_0⟩ : bundle_Bundle)))))
noncomputable def sp89 : Spc := ⟨[(true, .pb y5 (.x y5)), (false, .x (.i .i64)), (false, .x y3)], [([.x (.i .i64)], [.pb y5 (.x y5)])], false, [true, false, false], fun p => match p with | (b_0, i_1, m_2) => bundle_Bundle_Add b_0 i_1 m_2⟩
theorem ok89 : SpcOk prog 32 sp89 := spc_ok mixed glbok (sig := sig) (np := 3) (an := [(12, { j := some { vs := [(18, .x .b)] } })]) (.cons ok87 (.cons ok88 .nil)) (by kernel_rfl) (by kernel_rfl)
/- (*turnout/bundle.Bundle).Close -/
noncomputable def bundle_Bundle_Close_L1 (b_0 : bundle_Bundle) : Int → Option (Int ⊕ (Int ⊕ Unit)) := fun i3 =>
 bif decide (i3 < 16) then ((ixI i3 16).bind fun n4 =>
 bif gt ((bundle_Bundle.has b_0).1) n4 then (some (.inr (.inl 8))) else
 (some (.inl (wr .i64 (i3 + 1))))) else
 (some (.inr (.inr ())))
noncomputable def bundle_Bundle_Close_L2 (b_0 : bundle_Bundle) (n_1 : Int) : Int → Option (Int ⊕ (Int ⊕ Unit)) := fun i7 =>
 bif decide (i7 < n_1) then ((ixI i7 16).bind fun n8 =>
 bif (!(gt ((bundle_Bundle.has b_0).1) n8)) then (some (.inr (.inl 7))) else
 (some (.inl (wr .i64 (i7 + 1))))) else
 (some (.inr (.inr ())))
noncomputable def bundle_Bundle_Close (b_0 : bundle_Bundle) (n_1 : Int) : Option (Int × bundle_Bundle) :=
 (bundle_Bundle_State b_0).bind fun r1 =>
 bif (r1 == 2) then (some (16, b_0)) else
 (bif (((bundle_Bundle.state b_0) == 1) && (n_1 == (bundle_Bundle.n b_0))) then (some (0, b_0)) else
 (bif ((((bundle_Bundle.state b_0) == 1) || (decide (n_1 < 0))) || (decide (n_1 > 16))) then (some (2, b_0)) else
 ((loopO (bundle_Bundle_Close_L1 b_0) n_1).bind fun
 | .inl i5 => (some (i5, b_0))
 | .inr _ => ((loopO (bundle_Bundle_Close_L2 b_0 n_1) 0).bind fun
 | .inl i9 => (some (i9, b_0))
 | .inr _ => (some (0, (⟨1, bundle_Bundle.has b_0, bundle_Bundle.l b_0, n_1⟩ : bundle_Bundle)))))))
noncomputable def sp90 : Spc := ⟨[(true, .pb y5 (.x y5)), (false, .x (.i .i64))], [([.x (.i .i64)], [.pb y5 (.x y5)])], false, [true, false], fun p => match p with | (b_0, n_1) => bundle_Bundle_Close b_0 n_1⟩
theorem ok90 : SpcOk prog 34 sp90 := spc_ok mixed glbok (sig := sig) (np := 2) (an := [(18, { j := some { vs := [(5, .x (.i .i64))] }, e := [(.ret, { vs := [(4, .x (.i .i64))] }), (.exit 1, {})] }), (31, { j := some { vs := [(51, .x (.i .i64))] }, e := [(.ret, { vs := [(4, .x (.i .i64))] }), (.exit 3, {})] })]) (.cons ok87 .nil) (by kernel_rfl) (by kernel_rfl)
/- (*turnout/bundle.Bundle).Mods -/
noncomputable def bundle_Bundle_Mods_L1 (b_0 : bundle_Bundle) : (Int × Sl api_Mod) → Option ((Int × Sl api_Mod) ⊕ (Sl api_Mod)) := fun (i5, s6) =>
 bif decide (i5 < (bundle_Bundle.n b_0)) then ((ixI i5 16).bind fun n7 =>
 (capI (s6.l ++ [gt ((bundle_Bundle.l b_0).1) n7])).bind fun l8 =>
 some (.inl (wr .i64 (i5 + 1), (Sl.mk l8)))) else
 (some (.inr s6))
noncomputable def bundle_Bundle_Mods (b_0 : bundle_Bundle) : Option (Sl api_Mod × bundle_Bundle) :=
 (bundle_Bundle_State b_0).bind fun r1 =>
 bif (r1 != 1) then (some (Sl.nil, b_0)) else
 ((loopO (bundle_Bundle_Mods_L1 b_0) (0, Sl.nil)).bind fun s9 =>
 some (s9, b_0))
noncomputable def sp91 : Spc := ⟨[(true, .pb y5 (.x y5))], [([.x (.sl y3)], [.pb y5 (.x y5)])], false, [true], fun p => match p with | b_0 => bundle_Bundle_Mods b_0⟩
theorem ok91 : SpcOk prog 43 sp91 := spc_ok mixed glbok (sig := sig) (np := 1) (an := [(12, { j := some { vs := [(3, .so 0), (12, .x (.i .i64))], os := [.ar y3] }, e := [(.exit 0, { vs := [(3, .so 0)], os := [.ar y3] })] })]) (.cons ok87 .nil) (by kernel_rfl) (by kernel_rfl)
/- turnout/turnoutref12.Same -/
noncomputable def ref12_Same (a_0 : api_Mod) (b_1 : api_Mod) : Option Bool :=
 (bif (((api_Mod.Kind a_0) == (api_Mod.Kind b_1)) && ((api_Mod.Check a_0) == (api_Mod.Check b_1))) then ((ref10_Same (api_Mod.R a_0) (api_Mod.R b_1)).bind fun r1 =>
 some r1) else
 (some false) : Option Bool).bind fun b2 =>
 some b2
noncomputable def sp92 : Spc := ⟨[(false, .x y3), (false, .x y3)], [([.x .b], [])], true, [], fun p => match p with | (a_0, b_1) => ref12_Same a_0 b_1⟩
theorem ok92 : SpcOk prog 73 sp92 := spc_ok mixed glbok (sig := sig) (np := 2) (an := [(3, { j := some { vs := [(4, .x .b)] } })]) (.cons ok57 .nil) (by kernel_rfl) (by kernel_rfl)
/- turnout/turnoutlaw12.awake -/
noncomputable def law12_awake : Option Bool :=
 (bundle_New).bind fun r1 =>
 (rule_Plain 1 1 5 0).bind fun r2 =>
 (rule_Plain 1 2 5 1).bind fun r3 =>
 (bundle_Bundle_Add r1 1 (⟨1, r3, false⟩ : api_Mod)).bind fun (r4, q5) =>
 (bundle_Bundle_Add q5 0 (⟨1, r2, false⟩ : api_Mod)).bind fun (r6, q7) =>
 (bundle_Bundle_Add q7 1 (⟨1, r3, false⟩ : api_Mod)).bind fun (r8, q9) =>
 (bundle_Bundle_Close q9 2).bind fun (r10, q11) =>
 (bundle_Bundle_Mods q11).bind fun (r12, q13) =>
 (bif (((((r4 == 0) && (r6 == r4)) && (r8 == r4)) && (r10 == r4)) && ((r12.l.length : Int) == 2)) then ((ixI 0 r12.l.length).bind fun n14 =>
 (ref12_Same (gt r12.l n14) (⟨1, r2, false⟩ : api_Mod)).bind fun r15 =>
 bif r15 then ((ixI 1 r12.l.length).bind fun n16 =>
 (ref12_Same (gt r12.l n16) (⟨1, r3, false⟩ : api_Mod)).bind fun r17 =>
 bif r17 then ((bundle_Bundle_State q13).bind fun r18 =>
 some (r18 == 1)) else
 (some false)) else
 (some false)) else
 (some false) : Option Bool).bind fun b19 =>
 some b19
noncomputable def sp93 : Spc := ⟨[], [([.x .b], [])], true, [], fun p => match p with | _ => law12_awake⟩
theorem ok93 : SpcOk prog 30 sp93 := spc_ok mixed glbok (sig := sig) (np := 0) (an := [(11, { j := some { vs := [(0, .x .b)] } })]) (.cons ok86 (.cons ok14 (.cons ok89 (.cons ok90 (.cons ok91 (.cons ok92 (.cons ok87 .nil))))))) (by kernel_rfl) (by kernel_rfl)
/- (*turnout/turnoutref12.Bundle).Has -/
/- (*turnout/turnoutref12.Bundle).Add -/
/- (*turnout/turnoutref12.Bundle).Close -/
/- (*turnout/bundle.Bundle).Check -/
noncomputable def bundle_Bundle_Check (b_0 : bundle_Bundle) (t_1 : Sl api_Rule) (ports_2 : Int) (room_3 : Int) : Option (Int × bundle_Bundle) :=
 (bundle_Bundle_State b_0).bind fun r1 =>
 bif (r1 != 1) then (some (16, b_0)) else
 ((bundle_Bundle_Mods b_0).bind fun (r2, q3) =>
 (table_Mods t_1 r2 ports_2 room_3).bind fun (r4, r5, r6) =>
 some (r6, q3))
noncomputable def sp97 : Spc := ⟨[(true, .pb y5 (.x y5)), (false, .x (.sl y0)), (false, .x (.i .i64)), (false, .x (.i .i64))], [([.x (.i .i64)], [.pb y5 (.x y5)])], false, [true, false, false, false], fun p => match p with | (b_0, t_1, ports_2, room_3) => bundle_Bundle_Check b_0 t_1 ports_2 room_3⟩
theorem ok97 : SpcOk prog 36 sp97 := spc_ok mixed glbok (sig := sig) (np := 4) (an := []) (.cons ok87 (.cons ok91 (.cons ok46 .nil))) (by kernel_rfl) (by kernel_rfl)
/- (*turnout/turnoutref12.Bundle).Mods -/
/- (*turnout/turnoutref12.Bundle).Check -/
/- (*turnout/bundle.Bundle).Discard -/
noncomputable def bundle_Bundle_Discard (b_0 : bundle_Bundle) : Option bundle_Bundle :=
 some (⟨2, (zeE (.ar 16 .b)), (zeE (.ar 16 y3)), 0⟩ : bundle_Bundle)
noncomputable def sp100 : Spc := ⟨[(true, .pb y5 (.x y5))], [([], [.pb y5 (.x y5)])], false, [true], fun p => match p with | b_0 => bundle_Bundle_Discard b_0⟩
theorem ok100 : SpcOk prog 40 sp100 := spc_ok mixed glbok (sig := sig) (np := 1) (an := []) .nil (by kernel_rfl) (by kernel_rfl)
/- (*turnout/bundle.Bundle).Commit -/
noncomputable def bundle_Bundle_Commit (b_0 : bundle_Bundle) (t_1 : Sl api_Rule) (ports_2 : Int) (room_3 : Int) : Option (Sl api_Rule × Int × bundle_Bundle) :=
 (bundle_Bundle_Check b_0 t_1 ports_2 room_3).bind fun (r1, q2) =>
 bif (r1 != 0) then (some (t_1, r1, q2)) else
 ((bundle_Bundle_Mods q2).bind fun (r3, q4) =>
 (table_Mods t_1 r3 ports_2 room_3).bind fun (r5, r6, r7) =>
 (bundle_Bundle_Discard q4).bind fun q8 =>
 some (r5, 0, q8))
noncomputable def sp101 : Spc := ⟨[(true, .pb y5 (.x y5)), (false, .x (.sl y0)), (false, .x (.i .i64)), (false, .x (.i .i64))], [([.x (.sl y0), .x (.i .i64)], [.pb y5 (.x y5)])], false, [true, false, false, false], fun p => match p with | (b_0, t_1, ports_2, room_3) => bundle_Bundle_Commit b_0 t_1 ports_2 room_3⟩
theorem ok101 : SpcOk prog 38 sp101 := spc_ok mixed glbok (sig := sig) (np := 4) (an := []) (.cons ok97 (.cons ok91 (.cons ok46 (.cons ok100 .nil)))) (by kernel_rfl) (by kernel_rfl)
/- (*turnout/turnoutref12.Bundle).Commit -/
/- turnout/turnoutref12.Mods -/
noncomputable def ref12_Mods_L1 (a_0 : Sl api_Mod) (b_1 : Sl api_Mod) : Int → Option (Int ⊕ (Bool ⊕ Unit)) := fun i2 =>
 bif decide (i2 < (a_0.l.length : Int)) then ((ixI i2 a_0.l.length).bind fun n3 =>
 (ixI i2 b_1.l.length).bind fun n4 =>
 (ref12_Same (gt a_0.l n3) (gt b_1.l n4)).bind fun r5 =>
 bif (!r5) then (some (.inr (.inl false))) else
 (some (.inl (wr .i64 (i2 + 1))))) else
 (some (.inr (.inr ())))
noncomputable def ref12_Mods (a_0 : Sl api_Mod) (b_1 : Sl api_Mod) : Option Bool :=
 bif ((a_0.l.length : Int) != (b_1.l.length : Int)) then (some false) else
 ((loopO (ref12_Mods_L1 a_0 b_1) 0).bind fun
 | .inl b6 => (some b6)
 | .inr _ => (some true))
noncomputable def sp103 : Spc := ⟨[(false, .x (.sl y3)), (false, .x (.sl y3))], [([.x .b], [])], true, [], fun p => match p with | (a_0, b_1) => ref12_Mods a_0 b_1⟩
theorem ok103 : SpcOk prog 42 sp103 := spc_ok mixed glbok (sig := sig) (np := 2) (an := [(10, { j := some { vs := [(5, .x (.i .i64))] }, e := [(.ret, { vs := [(4, .x .b)] }), (.exit 0, {})] })]) (.cons ok92 .nil) (by kernel_rfl) (by kernel_rfl)
/- turnout/turnoutlaw12.BundlePlays -/
/- turnout/turnoutlaw12.BundleOrder -/
noncomputable def law12_BundleOrder_L1 (l_0 : Sl api_Mod) : Int → Option (Int ⊕ (Bool ⊕ Unit)) := fun i5 =>
 bif decide (i5 < (l_0.l.length : Int)) then ((ixI i5 l_0.l.length).bind fun n6 =>
 bif decide ((((api_Rule.Acts (api_Mod.R (gt l_0.l n6))).l).length : Int) > 10) then ((law12_awake).bind fun r7 =>
 some (.inr (.inl r7))) else
 (some (.inl (wr .i64 (i5 + 1))))) else
 (some (.inr (.inr ())))
noncomputable def law12_BundleOrder_L2 (l_0 : Sl api_Mod) (order_1 : Sl Int) : (Int × bundle_Bundle) → Option ((Int × bundle_Bundle) ⊕ (Bool ⊕ bundle_Bundle)) := fun (i13, x14) =>
 bif decide (i13 < (order_1.l.length : Int)) then (((ixI i13 order_1.l.length).bind fun n15 =>
 bif decide ((gt order_1.l n15) ≥ 0) then ((ixI i13 order_1.l.length).bind fun n16 =>
 bif decide ((gt order_1.l n16) < (l_0.l.length : Int)) then ((ixI i13 order_1.l.length).bind fun n17 =>
 (ixI i13 order_1.l.length).bind fun n18 =>
 (ixI (gt order_1.l n18) l_0.l.length).bind fun n19 =>
 (bundle_Bundle_Add x14 (gt order_1.l n17) (gt l_0.l n19)).bind fun (r20, q21) =>
 some ((r20 != 0), q21)) else
 (some (false, x14))) else
 (some (false, x14)) : Option (Bool × bundle_Bundle)).bind fun (b22, x23) =>
 bif b22 then (some (.inr (.inl false))) else
 (some (.inl (wr .i64 (i13 + 1), x23)))) else
 (some (.inr (.inr x14)))
noncomputable def law12_BundleOrder_L3 (l_0 : Sl api_Mod) : (Int × bundle_Bundle) → Option ((Int × bundle_Bundle) ⊕ (Bool ⊕ bundle_Bundle)) := fun (i29, x30) =>
 bif decide (i29 ≥ 0) then ((ixI i29 l_0.l.length).bind fun n31 =>
 (bundle_Bundle_Add x30 i29 (gt l_0.l n31)).bind fun (r32, q33) =>
 bif (r32 != 0) then (some (.inr (.inl false))) else
 (some (.inl (wr .i64 (i29 - 1), q33)))) else
 (some (.inr (.inr x30)))
noncomputable def law12_BundleOrder (l_0 : Sl api_Mod) (order_1 : Sl Int) (t_2 : Sl api_Rule) (ports_3 : Int) (room_4 : Int) : Option Bool :=
 (bif (((decide ((l_0.l.length : Int) > 16)) || (decide ((order_1.l.length : Int) > 60))) || (decide ((t_2.l.length : Int) > 20))) then (some true) else
 ((ref11_Right t_2 ports_3 room_4).bind fun r1 =>
 some (!r1)) : Option Bool).bind fun b2 =>
 bif b2 then ((law12_awake).bind fun r3 =>
 some r3) else
 ((loopO (law12_BundleOrder_L1 l_0) 0).bind fun
 | .inl b8 => (some b8)
 | .inr _ => ((bundle_New).bind fun r9 =>
 (loopO (law12_BundleOrder_L2 l_0 order_1) (0, r9)).bind fun
 | .inl b24 => (some b24)
 | .inr x25 => ((loopO (law12_BundleOrder_L3 l_0) (wr .i64 ((l_0.l.length : Int) - 1), x25)).bind fun
 | .inl b34 => (some b34)
 | .inr x35 => (((bundle_Bundle_Close x35 (l_0.l.length : Int)).bind fun (r36, q37) =>
 bif (r36 != 0) then (some (true, q37)) else
 ((bundle_Bundle_Mods q37).bind fun (r38, q39) =>
 (ref12_Mods r38 l_0).bind fun r40 =>
 some ((!r40), q39)) : Option (Bool × bundle_Bundle)).bind fun (b41, x42) =>
 bif b41 then (some false) else
 ((table_Mods t_2 l_0 ports_3 room_4).bind fun (r43, r44, r45) =>
 (bundle_Bundle_Commit x42 t_2 ports_3 room_4).bind fun (r46, r47, q48) =>
 (bundle_Bundle_Commit q48 t_2 ports_3 room_4).bind fun (r49, r50, q51) =>
 (ref10_Rules r46 r43).bind fun r52 =>
 bif ((!r52) || (r47 != r45)) then (some false) else
 (bif (r47 != 0) then (((ref10_Rules r46 t_2).bind fun r53 =>
 bif (r53 && (r50 == r47)) then ((bundle_Bundle_State q51).bind fun r54 =>
 bif (r54 == 1) then ((law12_awake).bind fun r55 =>
 some r55) else
 (some false)) else
 (some false) : Option Bool).bind fun b56 =>
 some b56) else
 (((ref10_Rules r49 t_2).bind fun r57 =>
 bif (r57 && (r50 == 16)) then ((bundle_Bundle_State q51).bind fun r58 =>
 bif (r58 == 2) then ((law12_awake).bind fun r59 =>
 some r59) else
 (some false)) else
 (some false) : Option Bool).bind fun b60 =>
 some b60)))))))
noncomputable def sp105 : Spc := ⟨[(false, .x (.sl y3)), (false, .x (.sl (.i .i64))), (false, .x (.sl y0)), (false, .x (.i .i64)), (false, .x (.i .i64))], [([.x .b], [])], true, [], fun p => match p with | (l_0, order_1, t_2, ports_3, room_4) => law12_BundleOrder l_0 order_1 t_2 ports_3 room_4⟩
theorem ok105 : SpcOk prog 9 sp105 := spc_ok mixed glbok (sig := sig) (np := 5) (an := [(4, { j := some { vs := [(41, .x .b)] } }), (10, { j := some { vs := [(11, .x (.i .i64))] }, e := [(.ret, { vs := [(10, .x .b)] }), (.exit 0, {})] }), (25, { j := some { vs := [(12, .op 0 y5 []), (13, .x (.i .i64))], os := [.bx y5 (.x y5)], kl := [0] }, e := [(.ret, { vs := [(10, .x .b)], kl := [0] }), (.exit 2, { vs := [(12, .op 0 y5 [])], os := [.bx y5 (.x y5)], kl := [0] })] }), (31, { j := some { vs := [(12, .op 0 y5 []), (94, .x .b)], os := [.bx y5 (.x y5)], kl := [227] } }), (38, { j := some { vs := [(12, .op 0 y5 []), (14, .x (.i .i64))], os := [.bx y5 (.x y5)], kl := [227] }, e := [(.ret, { vs := [(10, .x .b)], kl := [227] }), (.exit 4, { vs := [(12, .op 0 y5 [])], os := [.bx y5 (.x y5)], kl := [227] })] }), (50, { j := some { vs := [(12, .op 0 y5 []), (121, .x .b)], os := [.bx y5 (.x y5)], kl := [228] } }), (68, { j := some { vs := [(10, .x .b)] } }), (70, { j := some { vs := [(10, .x .b)] } })]) (.cons ok8 (.cons ok93 (.cons ok86 (.cons ok89 (.cons ok90 (.cons ok91 (.cons ok103 (.cons ok46 (.cons ok101 (.cons ok58 (.cons ok87 .nil))))))))))) (by kernel_rfl) (by kernel_rfl)
end Go.Proofs.Ytmeemkllagjnmaa.B
