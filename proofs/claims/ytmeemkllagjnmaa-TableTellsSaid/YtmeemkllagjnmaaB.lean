/- What functions of the program compute, and that the model's run computes it. Conditions: as stated. -/
import Derived.Test.YtmeemkllagjnmaaKm
import Derived.Test.YtmeemkllagjnmaaChecked
import Derived.KernelRfl
open Go.Ev Go
namespace Go.Proofs.Ytmeemkllagjnmaa.B
noncomputable abbrev prog : Program := Try.prog
theorem mixed : prog.follows .mixedOrders = true := by kernel_rfl
theorem glbok : GlbOk := glb_ok fun _ => rfl
def sig : Sig := fun f =>
 if f = 2 then (true, []) else if f = 3 then (true, []) else if f = 4 then (true, []) else if f = 5 then (true, []) else if f = 6 then (true, []) else if f = 7 then (true, []) else if f = 8 then (true, []) else if f = 9 then (true, []) else if f = 10 then (true, []) else if f = 11 then (true, []) else if f = 12 then (true, []) else if f = 14 then (true, []) else if f = 15 then (true, []) else if f = 16 then (true, []) else if f = 17 then (true, []) else if f = 19 then (true, []) else if f = 20 then (true, []) else if f = 21 then (true, []) else if f = 25 then (true, []) else if f = 27 then (true, []) else if f = 29 then (true, []) else if f = 30 then (true, []) else if f = 32 then (false, [true, false, false]) else if f = 33 then (false, [true, false, false]) else if f = 34 then (false, [true, false]) else if f = 35 then (false, [true, false]) else if f = 36 then (false, [true, false, false, false]) else if f = 37 then (false, [true, false, false, false]) else if f = 38 then (false, [true, false, false, false]) else if f = 39 then (false, [true, false, false, false]) else if f = 40 then (false, [true]) else if f = 41 then (true, []) else if f = 42 then (true, []) else if f = 43 then (false, [true]) else if f = 44 then (false, [true]) else if f = 45 then (true, []) else if f = 46 then (true, []) else if f = 48 then (true, []) else if f = 49 then (true, []) else if f = 50 then (true, []) else if f = 51 then (true, []) else if f = 52 then (true, []) else if f = 55 then (false, [true, false]) else if f = 57 then (true, []) else if f = 58 then (true, []) else if f = 59 then (true, []) else if f = 61 then (false, [true, false, false]) else if f = 62 then (true, []) else if f = 64 then (true, []) else if f = 65 then (true, []) else if f = 66 then (true, []) else if f = 69 then (true, []) else if f = 70 then (true, []) else if f = 71 then (true, []) else if f = 72 then (true, []) else if f = 73 then (true, []) else if f = 74 then (true, []) else if f = 75 then (false, [true, false]) else if f = 77 then (true, []) else if f = 78 then (true, []) else if f = 79 then (true, []) else if f = 80 then (true, []) else if f = 81 then (true, []) else if f = 82 then (true, []) else if f = 83 then (true, []) else if f = 84 then (true, []) else if f = 85 then (true, []) else if f = 86 then (false, [true, false, true]) else if f = 87 then (true, []) else if f = 88 then (true, []) else if f = 89 then (true, []) else if f = 91 then (true, []) else if f = 93 then (true, []) else if f = 94 then (true, []) else if f = 95 then (true, []) else if f = 96 then (true, []) else if f = 97 then (true, []) else if f = 98 then (true, []) else if f = 99 then (true, []) else if f = 100 then (false, [false, false, false, false, false, false, false, false, false]) else if f = 101 then (false, [true, false]) else if f = 102 then (true, []) else if f = 103 then (true, []) else if f = 104 then (true, []) else if f = 105 then (true, []) else if f = 106 then (true, []) else if f = 107 then (false, [true, false]) else if f = 108 then (false, [true]) else (false, [])
@[reducible] def api_Match : Type := Int × Arr 4 Int × Arr 4 Int
@[reducible] def api_Match.Port (x : api_Match) : Int := x.1
@[reducible] def api_Match.Val (x : api_Match) : Arr 4 Int := x.2.1
@[reducible] def api_Match.Mask (x : api_Match) : Arr 4 Int := x.2.2
@[reducible] def api_Act : Type := Int × Int × Int
@[reducible] def api_Act.Kind (x : api_Act) : Int := x.1
@[reducible] def api_Act.F (x : api_Act) : Int := x.2.1
@[reducible] def api_Act.V (x : api_Act) : Int := x.2.2
@[reducible] def api_Rule : Type := Int × api_Match × Sl api_Act
@[reducible] def api_Rule.Prio (x : api_Rule) : Int := x.1
@[reducible] def api_Rule.M (x : api_Rule) : api_Match := x.2.1
@[reducible] def api_Rule.Acts (x : api_Rule) : Sl api_Act := x.2.2
@[reducible] def api_Mod : Type := Int × api_Rule × Bool
@[reducible] def api_Mod.Kind (x : api_Mod) : Int := x.1
@[reducible] def api_Mod.R (x : api_Mod) : api_Rule := x.2.1
@[reducible] def api_Mod.Check (x : api_Mod) : Bool := x.2.2
@[reducible] def y1 : Ty := .st (.pr (.i .i64) (.pr (.ar 4 (.i .i64)) (.ar 4 (.i .i64))))
@[reducible] def y2 : Ty := .st (.pr (.i .i64) (.pr (.i .i64) (.i .i64)))
@[reducible] def y0 : Ty := .st (.pr (.i .i64) (.pr y1 (.sl y2)))
@[reducible] def y3 : Ty := .st (.pr (.i .i64) (.pr y0 .b))
@[reducible] def api_Sent : Type := Int × Arr 4 Int
@[reducible] def api_Sent.Port (x : api_Sent) : Int := x.1
@[reducible] def y4 : Ty := .st (.pr (.i .i64) (.ar 4 (.i .i64)))
/- turnout/turnoutlaw11.small -/
noncomputable def law11_small_L1 (t_0 : Sl api_Rule) : Int → Option (Int ⊕ (Bool ⊕ Unit)) := fun i2 =>
 bif decide (i2 < (t_0.l.length : Int)) then ((ixI i2 t_0.l.length).bind fun n3 =>
 bif decide ((((api_Rule.Acts (gt t_0.l n3)).l).length : Int) > 10) then (some (.inr (.inl false))) else
 (some (.inl (wr .i64 (i2 + 1))))) else
 (some (.inr (.inr ())))
noncomputable def law11_small (t_0 : Sl api_Rule) : Option Bool :=
 (loopO (law11_small_L1 t_0) 0).bind fun
 | .inl b4 => (some b4)
 | .inr _ => (some (decide ((t_0.l.length : Int) ≤ 20)))
noncomputable def sp0 : Spc := ⟨[(false, .x (.sl y0))], [([.x .b], [])], true, [], fun p => match p with | t_0 => law11_small t_0⟩
theorem ok0 : SpcOk prog 10 sp0 := spc_ok mixed glbok (sig := sig) (np := 1) (an := [(5, { j := some { vs := [(3, .x (.i .i64))] }, e := [(.ret, { vs := [(2, .x .b)] }), (.exit 0, {})] })]) .nil (by kernel_rfl) (by kernel_rfl)
/- turnout/turnoutref07.Top -/
noncomputable def ref07_Top (f_0 : Int) : Option Int :=
 bif (f_0 == 2) then (some 15) else
 (bif (((f_0 == 0) || (f_0 == 1)) || (f_0 == 3)) then (some 255) else
 (some 0))
noncomputable def sp1 : Spc := ⟨[(false, .x (.i .i64))], [([.x (.i .i64)], [])], true, [], fun p => match p with | f_0 => ref07_Top f_0⟩
theorem ok1 : SpcOk prog 51 sp1 := spc_ok mixed glbok (sig := sig) (np := 1) (an := []) .nil (by kernel_rfl) (by kernel_rfl)
/- turnout/turnoutref08.Bit -/
noncomputable def ref08_Bit_L1 (i_1 : Int) : (Int × Int) → Option ((Int × Int) ⊕ Int) := fun (i3, i4) =>
 bif decide (i4 < i_1) then (some (.inl (wr .i64 (i3.tdiv 2), wr .i64 (i4 + 1)))) else
 (some (.inr i3))
noncomputable def ref08_Bit (n_0 : Int) (i_1 : Int) : Option Int :=
 (loopO (ref08_Bit_L1 i_1) (n_0, 0)).bind fun i5 =>
 some (i5.tmod 2)
noncomputable def sp2 : Spc := ⟨[(false, .x (.i .i64)), (false, .x (.i .i64))], [([.x (.i .i64)], [])], true, [], fun p => match p with | (n_0, i_1) => ref08_Bit n_0 i_1⟩
theorem ok2 : SpcOk prog 78 sp2 := spc_ok mixed glbok (sig := sig) (np := 2) (an := [(5, { j := some { vs := [(0, .x (.i .i64)), (5, .x (.i .i64))] }, e := [(.exit 0, { vs := [(0, .x (.i .i64))] })] })]) .nil (by kernel_rfl) (by kernel_rfl)
/- turnout/turnoutref08.Right -/
noncomputable def ref08_Right_L1 (m_0 : api_Match) (i2 : Int) : Int → Option (Int ⊕ (Bool ⊕ Unit)) := fun i11 =>
 bif decide (i11 < 8) then ((ixI i2 4).bind fun n12 =>
 (ref08_Bit (gt ((api_Match.Val m_0).1) n12) i11).bind fun r13 =>
 (ixI i2 4).bind fun n14 =>
 (ref08_Bit (gt ((api_Match.Mask m_0).1) n14) i11).bind fun r15 =>
 bif decide (r13 > r15) then (some (.inr (.inl false))) else
 (some (.inl (wr .i64 (i11 + 1))))) else
 (some (.inr (.inr ())))
noncomputable def ref08_Right_L2 (m_0 : api_Match) : Int → Option (Int ⊕ (Bool ⊕ Unit)) := fun i2 =>
 bif decide (i2 < 4) then (((ixI i2 4).bind fun n3 =>
 bif decide ((gt ((api_Match.Mask m_0).1) n3) < 0) then (some true) else
 ((ixI i2 4).bind fun n4 =>
 (ref07_Top i2).bind fun r5 =>
 bif decide ((gt ((api_Match.Mask m_0).1) n4) > r5) then (some true) else
 ((ixI i2 4).bind fun n6 =>
 bif decide ((gt ((api_Match.Val m_0).1) n6) < 0) then (some true) else
 ((ixI i2 4).bind fun n7 =>
 (ref07_Top i2).bind fun r8 =>
 some (decide ((gt ((api_Match.Val m_0).1) n7) > r8))))) : Option Bool).bind fun b9 =>
 bif b9 then (some (.inr (.inl false))) else
 ((loopO (ref08_Right_L1 m_0 i2) 0).bind fun
 | .inl b16 => (some (.inr (.inl b16)))
 | .inr _ => (some (.inl (wr .i64 (i2 + 1)))))) else
 (some (.inr (.inr ())))
noncomputable def ref08_Right (m_0 : api_Match) : Option Bool :=
 bif ((decide ((api_Match.Port m_0) < (-1))) || (decide ((api_Match.Port m_0) > 7))) then (some false) else
 ((loopO (ref08_Right_L2 m_0) 0).bind fun
 | .inl b17 => (some b17)
 | .inr _ => (some true))
noncomputable def sp3 : Spc := ⟨[(false, .x y1)], [([.x .b], [])], true, [], fun p => match p with | m_0 => ref08_Right m_0⟩
theorem ok3 : SpcOk prog 49 sp3 := spc_ok mixed glbok (sig := sig) (np := 1) (an := [(10, { j := some { vs := [(3, .x (.i .i64))] }, e := [(.ret, { vs := [(2, .x .b)] }), (.exit 0, {})] }), (17, { j := some { vs := [(46, .x .b)] } }), (22, { j := some { vs := [(4, .x (.i .i64))] }, e := [(.ret, { vs := [(2, .x .b)] }), (.exit 2, {})] })]) (.cons ok1 (.cons ok2 .nil)) (by kernel_rfl) (by kernel_rfl)
/- turnout/turnoutref09.One -/
noncomputable def ref09_One (a_0 : api_Act) (ports_1 : Int) : Option Bool :=
 bif ((api_Act.Kind a_0) == 1) then ((bif (((decide ((api_Act.F a_0) ≥ 0)) && (decide ((api_Act.F a_0) ≤ 3))) && (decide ((api_Act.V a_0) ≥ 0))) then ((ref07_Top (api_Act.F a_0)).bind fun r1 =>
 some (decide ((api_Act.V a_0) ≤ r1))) else
 (some false) : Option Bool).bind fun b2 =>
 some b2) else
 (bif ((api_Act.Kind a_0) == 3) then (some (((api_Act.F a_0) == 0) && ((api_Act.V a_0) == 0))) else
 (some (((((api_Act.Kind a_0) == 2) && ((api_Act.F a_0) == 0)) && (decide ((api_Act.V a_0) ≥ 0))) && (decide ((api_Act.V a_0) < ports_1)))))
noncomputable def sp4 : Spc := ⟨[(false, .x y2), (false, .x (.i .i64))], [([.x .b], [])], true, [], fun p => match p with | (a_0, ports_1) => ref09_One a_0 ports_1⟩
theorem ok4 : SpcOk prog 79 sp4 := spc_ok mixed glbok (sig := sig) (np := 2) (an := [(6, { j := some { vs := [(4, .x .b)] } })]) (.cons ok1 .nil) (by kernel_rfl) (by kernel_rfl)
/- turnout/turnoutref09.Right -/
noncomputable def ref09_Right_L1 (l_0 : Sl api_Act) (ports_1 : Int) : Int → Option (Int ⊕ (Bool ⊕ Unit)) := fun i2 =>
 bif decide (i2 < (l_0.l.length : Int)) then ((ixI i2 l_0.l.length).bind fun n3 =>
 (ref09_One (gt l_0.l n3) ports_1).bind fun r4 =>
 bif (!r4) then (some (.inr (.inl false))) else
 (some (.inl (wr .i64 (i2 + 1))))) else
 (some (.inr (.inr ())))
noncomputable def ref09_Right (l_0 : Sl api_Act) (ports_1 : Int) : Option Bool :=
 (loopO (ref09_Right_L1 l_0 ports_1) 0).bind fun
 | .inl b5 => (some b5)
 | .inr _ => (some (decide ((l_0.l.length : Int) ≤ 16)))
noncomputable def sp5 : Spc := ⟨[(false, .x (.sl y2)), (false, .x (.i .i64))], [([.x .b], [])], true, [], fun p => match p with | (l_0, ports_1) => ref09_Right l_0 ports_1⟩
theorem ok5 : SpcOk prog 50 sp5 := spc_ok mixed glbok (sig := sig) (np := 2) (an := [(5, { j := some { vs := [(5, .x (.i .i64))] }, e := [(.ret, { vs := [(4, .x .b)] }), (.exit 0, {})] })]) (.cons ok4 .nil) (by kernel_rfl) (by kernel_rfl)
/- turnout/turnoutref10.Right -/
noncomputable def ref10_Right (x_0 : api_Rule) (ports_1 : Int) : Option Bool :=
 (bif ((decide ((api_Rule.Prio x_0) ≥ 0)) && (decide ((api_Rule.Prio x_0) ≤ 65535))) then ((ref08_Right (api_Rule.M x_0)).bind fun r1 =>
 bif r1 then ((ref09_Right (api_Rule.Acts x_0) ports_1).bind fun r2 =>
 some r2) else
 (some false)) else
 (some false) : Option Bool).bind fun b3 =>
 some b3
noncomputable def sp6 : Spc := ⟨[(false, .x y0), (false, .x (.i .i64))], [([.x .b], [])], true, [], fun p => match p with | (x_0, ports_1) => ref10_Right x_0 ports_1⟩
theorem ok6 : SpcOk prog 15 sp6 := spc_ok mixed glbok (sig := sig) (np := 2) (an := [(3, { j := some { vs := [(4, .x .b)] } })]) (.cons ok3 (.cons ok5 .nil)) (by kernel_rfl) (by kernel_rfl)
/- turnout/turnoutref11.key -/
noncomputable def ref11_key (a_0 : api_Rule) (b_1 : api_Rule) : Option Bool :=
 some (((api_Rule.Prio a_0) == (api_Rule.Prio b_1)) && (decide ((api_Rule.M a_0) = (api_Rule.M b_1))))
noncomputable def sp7 : Spc := ⟨[(false, .x y0), (false, .x y0)], [([.x .b], [])], true, [], fun p => match p with | (a_0, b_1) => ref11_key a_0 b_1⟩
theorem ok7 : SpcOk prog 45 sp7 := spc_ok mixed glbok (sig := sig) (np := 2) (an := []) .nil (by kernel_rfl) (by kernel_rfl)
/- turnout/turnoutref11.Right -/
noncomputable def ref11_Right_L1 (t_0 : Sl api_Rule) (i2 : Int) : Int → Option (Int ⊕ (Bool ⊕ Unit)) := fun i6 =>
 bif decide (i6 < i2) then (((ixI i6 t_0.l.length).bind fun n7 =>
 (ixI i2 t_0.l.length).bind fun n8 =>
 bif decide ((api_Rule.Prio (gt t_0.l n7)) < (api_Rule.Prio (gt t_0.l n8))) then (some true) else
 ((ixI i6 t_0.l.length).bind fun n9 =>
 (ixI i2 t_0.l.length).bind fun n10 =>
 (ref11_key (gt t_0.l n9) (gt t_0.l n10)).bind fun r11 =>
 some r11) : Option Bool).bind fun b12 =>
 bif b12 then (some (.inr (.inl false))) else
 (some (.inl (wr .i64 (i6 + 1))))) else
 (some (.inr (.inr ())))
noncomputable def ref11_Right_L2 (t_0 : Sl api_Rule) (ports_1 : Int) : Int → Option (Int ⊕ (Bool ⊕ Unit)) := fun i2 =>
 bif decide (i2 < (t_0.l.length : Int)) then ((ixI i2 t_0.l.length).bind fun n3 =>
 (ref10_Right (gt t_0.l n3) ports_1).bind fun r4 =>
 bif (!r4) then (some (.inr (.inl false))) else
 ((loopO (ref11_Right_L1 t_0 i2) 0).bind fun
 | .inl b13 => (some (.inr (.inl b13)))
 | .inr _ => (some (.inl (wr .i64 (i2 + 1)))))) else
 (some (.inr (.inr ())))
noncomputable def ref11_Right (t_0 : Sl api_Rule) (ports_1 : Int) (room_2 : Int) : Option Bool :=
 (loopO (ref11_Right_L2 t_0 ports_1) 0).bind fun
 | .inl b14 => (some b14)
 | .inr _ => (some (decide ((t_0.l.length : Int) ≤ room_2)))
noncomputable def sp8 : Spc := ⟨[(false, .x (.sl y0)), (false, .x (.i .i64)), (false, .x (.i .i64))], [([.x .b], [])], true, [], fun p => match p with | (t_0, ports_1, room_2) => ref11_Right t_0 ports_1 room_2⟩
theorem ok8 : SpcOk prog 11 sp8 := spc_ok mixed glbok (sig := sig) (np := 3) (an := [(5, { j := some { vs := [(7, .x (.i .i64))] }, e := [(.ret, { vs := [(6, .x .b)] }), (.exit 0, {})] }), (17, { j := some { vs := [(8, .x (.i .i64))] }, e := [(.ret, { vs := [(6, .x .b)] }), (.exit 2, {})] }), (23, { j := some { vs := [(48, .x .b)] } })]) (.cons ok6 (.cons ok7 .nil)) (by kernel_rfl) (by kernel_rfl)
/- turnout/match.Any -/
noncomputable def match_Any : Option api_Match :=
 some (⟨(-1), (zeE (.ar 4 (.i .i64))), (zeE (.ar 4 (.i .i64)))⟩ : api_Match)
noncomputable def sp9 : Spc := ⟨[], [([.x y1], [])], true, [], fun p => match p with | _ => match_Any⟩
theorem ok9 : SpcOk prog 46 sp9 := spc_ok mixed glbok (sig := sig) (np := 0) (an := []) .nil (by kernel_rfl) (by kernel_rfl)
/- turnout/packet.Bits -/
noncomputable def packet_Bits (f_0 : Int) : Option Int :=
 (bif (f_0 == 0) then (some (f_0 == 0)) else
 (bif (f_0 == 1) then (some (f_0 == 1)) else
 (some (f_0 == 3))) : Option Bool).bind fun b1 =>
 bif b1 then (some 8) else
 (bif (f_0 == 2) then (some 4) else
 (some 0))
noncomputable def sp10 : Spc := ⟨[(false, .x (.i .i64))], [([.x (.i .i64)], [])], true, [], fun p => match p with | f_0 => packet_Bits f_0⟩
theorem ok10 : SpcOk prog 105 sp10 := spc_ok mixed glbok (sig := sig) (np := 1) (an := [(5, { e := [(.normal, { vs := [(4, .x .b)] })] })]) .nil (by kernel_rfl) (by kernel_rfl)
/- turnout/packet.Top -/
noncomputable def packet_Top (f_0 : Int) : Option Int :=
 (packet_Bits f_0).bind fun r1 =>
 (shlI .i64 1 r1).bind fun i2 =>
 some (wr .i64 (i2 - 1))
noncomputable def sp11 : Spc := ⟨[(false, .x (.i .i64))], [([.x (.i .i64)], [])], true, [], fun p => match p with | f_0 => packet_Top f_0⟩
theorem ok11 : SpcOk prog 96 sp11 := spc_ok mixed glbok (sig := sig) (np := 1) (an := []) (.cons ok10 .nil) (by kernel_rfl) (by kernel_rfl)
/- turnout/match.Of -/
noncomputable def match_Of (f_0 : Int) (v_1 : Int) : Option api_Match :=
 (match_Any).bind fun r1 =>
 ((bif (((decide (f_0 ≥ 0)) && (decide (f_0 < 4))) && (decide (v_1 ≥ 0))) then ((packet_Top f_0).bind fun r2 =>
 some (decide (v_1 ≤ r2))) else
 (some false) : Option Bool).bind fun b3 =>
 bif b3 then ((packet_Top f_0).bind fun r4 =>
 (ixI f_0 4).bind fun n5 =>
 (ixI f_0 4).bind fun n6 =>
 some (⟨api_Match.Port r1, Arr.set (api_Match.Val r1) n5 v_1, Arr.set (api_Match.Mask r1) n6 r4⟩ : api_Match)) else
 (some r1) : Option api_Match).bind fun x7 =>
 some x7
noncomputable def sp12 : Spc := ⟨[(false, .x (.i .i64)), (false, .x (.i .i64))], [([.x y1], [])], true, [], fun p => match p with | (f_0, v_1) => match_Of f_0 v_1⟩
theorem ok12 : SpcOk prog 95 sp12 := spc_ok mixed glbok (sig := sig) (np := 2) (an := [(4, { e := [(.normal, { vs := [(5, .op 0 y1 [])], os := [.bx y1 (.x y1)], kl := [10] })] }), (6, { j := some { vs := [(22, .x .b)] } })]) (.cons ok9 (.cons ok11 .nil)) (by kernel_rfl) (by kernel_rfl)
/- turnout/rule.Drop -/
noncomputable def rule_Drop (f_0 : Int) (v_1 : Int) (prio_2 : Int) : Option api_Rule :=
 (match_Of f_0 v_1).bind fun r1 =>
 some (⟨prio_2, r1, Sl.nil⟩ : api_Rule)
noncomputable def sp13 : Spc := ⟨[(false, .x (.i .i64)), (false, .x (.i .i64)), (false, .x (.i .i64))], [([.x y0], [])], false, [], fun p => match p with | (f_0, v_1, prio_2) => rule_Drop f_0 v_1 prio_2⟩
theorem ok13 : SpcOk prog 76 sp13 := spc_ok mixed glbok (sig := sig) (np := 3) (an := []) (.cons ok12 .nil) (by kernel_rfl) (by kernel_rfl)
/- turnout/rule.Plain -/
noncomputable def rule_Plain (f_0 : Int) (v_1 : Int) (prio_2 : Int) (port_3 : Int) : Option api_Rule :=
 (rule_Drop f_0 v_1 prio_2).bind fun r1 =>
 some (⟨api_Rule.Prio r1, api_Rule.M r1, (Sl.mk [(⟨2, 0, port_3⟩ : api_Act)])⟩ : api_Rule)
noncomputable def sp14 : Spc := ⟨[(false, .x (.i .i64)), (false, .x (.i .i64)), (false, .x (.i .i64)), (false, .x (.i .i64))], [([.x y0], [])], false, [], fun p => match p with | (f_0, v_1, prio_2, port_3) => rule_Plain f_0 v_1 prio_2 port_3⟩
theorem ok14 : SpcOk prog 47 sp14 := spc_ok mixed glbok (sig := sig) (np := 4) (an := []) (.cons ok13 .nil) (by kernel_rfl) (by kernel_rfl)
/- turnout/match.Right -/
noncomputable def match_Right_L1 (m_0 : api_Match) : Int → Option (Int ⊕ (Bool ⊕ Unit)) := fun i2 =>
 bif decide (i2 < 4) then ((ixI i2 4).bind fun n3 =>
 (bif decide ((gt ((api_Match.Mask m_0).1) n3) < 0) then (some true) else
 ((packet_Top i2).bind fun r4 =>
 bif decide ((gt ((api_Match.Mask m_0).1) n3) > r4) then (some true) else
 ((ixI i2 4).bind fun n5 =>
 bif decide ((gt ((api_Match.Val m_0).1) n5) < 0) then (some true) else
 ((ixI i2 4).bind fun n6 =>
 some ((bAndNot .i64 (gt ((api_Match.Val m_0).1) n6) (gt ((api_Match.Mask m_0).1) n3)) != 0)))) : Option Bool).bind fun b7 =>
 bif b7 then (some (.inr (.inl false))) else
 (some (.inl (wr .i64 (i2 + 1))))) else
 (some (.inr (.inr ())))
noncomputable def match_Right (m_0 : api_Match) : Option Bool :=
 bif ((decide ((api_Match.Port m_0) < (-1))) || (decide ((api_Match.Port m_0) ≥ 8))) then (some false) else
 ((loopO (match_Right_L1 m_0) 0).bind fun
 | .inl b8 => (some b8)
 | .inr _ => (some true))
noncomputable def sp15 : Spc := ⟨[(false, .x y1)], [([.x .b], [])], true, [], fun p => match p with | m_0 => match_Right m_0⟩
theorem ok15 : SpcOk prog 80 sp15 := spc_ok mixed glbok (sig := sig) (np := 1) (an := [(10, { j := some { vs := [(15, .x (.i .i64))] }, e := [(.ret, { vs := [(2, .x .b)] }), (.exit 0, {})] }), (18, { j := some { vs := [(42, .x .b)] } })]) (.cons ok11 .nil) (by kernel_rfl) (by kernel_rfl)
/- turnout/act.right -/
noncomputable def act_right (a_0 : api_Act) (ports_1 : Int) : Option Bool :=
 bif ((api_Act.Kind a_0) == 1) then ((bif (((decide ((api_Act.F a_0) ≥ 0)) && (decide ((api_Act.F a_0) < 4))) && (decide ((api_Act.V a_0) ≥ 0))) then ((packet_Top (api_Act.F a_0)).bind fun r1 =>
 some (decide ((api_Act.V a_0) ≤ r1))) else
 (some false) : Option Bool).bind fun b2 =>
 some b2) else
 (bif ((api_Act.Kind a_0) == 2) then (some ((((api_Act.F a_0) == 0) && (decide ((api_Act.V a_0) ≥ 0))) && (decide ((api_Act.V a_0) < ports_1)))) else
 (some (decide (a_0 = (⟨3, 0, 0⟩ : api_Act)))))
noncomputable def sp16 : Spc := ⟨[(false, .x y2), (false, .x (.i .i64))], [([.x .b], [])], true, [], fun p => match p with | (a_0, ports_1) => act_right a_0 ports_1⟩
theorem ok16 : SpcOk prog 99 sp16 := spc_ok mixed glbok (sig := sig) (np := 2) (an := [(8, { j := some { vs := [(4, .x .b)] } })]) (.cons ok11 .nil) (by kernel_rfl) (by kernel_rfl)
/- turnout/act.Right$1 -/
noncomputable def act_Right_1 (a_0 : api_Act) (c_1 : Int) : Option Bool :=
 (act_right a_0 c_1).bind fun r1 =>
 some (!r1)
noncomputable def sp17 : Spc := ⟨[(false, .x y2), (false, .pt (.i .i64))], [([.x .b], [])], true, [], fun p => match p with | (a_0, c_1) => act_Right_1 a_0 c_1⟩
theorem ok17 : SpcOk prog 98 sp17 := spc_ok mixed glbok (sig := sig) (np := 2) (an := []) (.cons ok16 .nil) (by kernel_rfl) (by kernel_rfl)
/- slices.IndexFunc[[]turnout/api.Act,turnout/api.Act] -/
noncomputable def slices_IndexFunc_api_Act_api_Act_act_Right_1_L1 (s_0 : Sl api_Act) (f_1_c0 : Int) : Int → Option (Int ⊕ (Int ⊕ Unit)) := fun i2 =>
 bif decide (i2 < (s_0.l.length : Int)) then ((ixI i2 s_0.l.length).bind fun n3 =>
 (act_Right_1 (gt s_0.l n3) f_1_c0).bind fun r4 =>
 bif r4 then (some (.inr (.inl i2))) else
 (some (.inl (wr .i64 (i2 + 1))))) else
 (some (.inr (.inr ())))
noncomputable def slices_IndexFunc_api_Act_api_Act_act_Right_1 (s_0 : Sl api_Act) (f_1_c0 : Int) : Option Int :=
 (loopO (slices_IndexFunc_api_Act_api_Act_act_Right_1_L1 s_0 f_1_c0) 0).bind fun
 | .inl i5 => (some i5)
 | .inr _ => (some (-1))
noncomputable def sp18 : Spc := ⟨[(false, .x (.sl y2)), (false, .fn 98 (.pr (.pt (.i .i64)) .ni))], [([.x (.i .i64)], [])], true, [], fun p => match p with | (s_0, f_1_c0) => slices_IndexFunc_api_Act_api_Act_act_Right_1 s_0 f_1_c0⟩
theorem ok18 : SpcOk prog 106 sp18 := spc_ok mixed glbok (sig := sig) (np := 2) (an := [(5, { j := some { vs := [(8, .x (.i .i64))] }, e := [(.ret, { vs := [(4, .x (.i .i64))] }), (.exit 0, {})] })]) (.cons ok17 .nil) (by kernel_rfl) (by kernel_rfl)
/- slices.ContainsFunc[[]turnout/api.Act,turnout/api.Act] -/
noncomputable def slices_ContainsFunc_api_Act_api_Act_act_Right_1 (s_0 : Sl api_Act) (f_1_c0 : Int) : Option Bool :=
 (slices_IndexFunc_api_Act_api_Act_act_Right_1 s_0 f_1_c0).bind fun r1 =>
 some (decide (r1 ≥ 0))
noncomputable def sp19 : Spc := ⟨[(false, .x (.sl y2)), (false, .fn 98 (.pr (.pt (.i .i64)) .ni))], [([.x .b], [])], true, [], fun p => match p with | (s_0, f_1_c0) => slices_ContainsFunc_api_Act_api_Act_act_Right_1 s_0 f_1_c0⟩
theorem ok19 : SpcOk prog 97 sp19 := spc_ok mixed glbok (sig := sig) (np := 2) (an := []) (.cons ok18 .nil) (by kernel_rfl) (by kernel_rfl)
/- turnout/act.Right -/
noncomputable def act_Right (l_0 : Sl api_Act) (ports_1 : Int) : Option Bool :=
 (bif decide ((l_0.l.length : Int) ≤ 16) then ((slices_ContainsFunc_api_Act_api_Act_act_Right_1 l_0 ports_1).bind fun r1 =>
 some (!r1)) else
 (some false) : Option Bool).bind fun b2 =>
 some b2
noncomputable def sp20 : Spc := ⟨[(false, .x (.sl y2)), (false, .x (.i .i64))], [([.x .b], [])], true, [], fun p => match p with | (l_0, ports_1) => act_Right l_0 ports_1⟩
theorem ok20 : SpcOk prog 81 sp20 := spc_ok mixed glbok (sig := sig) (np := 2) (an := [(3, { j := some { vs := [(4, .x .b)] } })]) (.cons ok19 .nil) (by kernel_rfl) (by kernel_rfl)
/- turnout/rule.Right -/
noncomputable def rule_Right (x_0 : api_Rule) (ports_1 : Int) : Option Bool :=
 (bif ((decide ((api_Rule.Prio x_0) ≥ 0)) && (decide ((api_Rule.Prio x_0) < 65536))) then ((match_Right (api_Rule.M x_0)).bind fun r1 =>
 bif r1 then ((act_Right (api_Rule.Acts x_0) ports_1).bind fun r2 =>
 some r2) else
 (some false)) else
 (some false) : Option Bool).bind fun b3 =>
 some b3
noncomputable def sp21 : Spc := ⟨[(false, .x y0), (false, .x (.i .i64))], [([.x .b], [])], true, [], fun p => match p with | (x_0, ports_1) => rule_Right x_0 ports_1⟩
theorem ok21 : SpcOk prog 52 sp21 := spc_ok mixed glbok (sig := sig) (np := 2) (an := [(3, { j := some { vs := [(4, .x .b)] } })]) (.cons ok15 (.cons ok20 .nil)) (by kernel_rfl) (by kernel_rfl)
/- turnout/match.Meet -/
noncomputable def match_Meet_L1 (a_0 : api_Match) (b_1 : api_Match) : (Int × api_Match × api_Match) → Option ((Int × api_Match × api_Match) ⊕ ((Bool × api_Match) ⊕ (api_Match × api_Match))) := fun (i5, x6, x7) =>
 bif decide (i5 < 4) then ((ixI i5 4).bind fun n8 =>
 (ixI i5 4).bind fun n9 =>
 (ixI i5 4).bind fun n10 =>
 (ixI i5 4).bind fun n11 =>
 bif ((bAnd .i64 (bAnd .i64 (bXor .i64 (gt ((api_Match.Val a_0).1) n8) (gt ((api_Match.Val b_1).1) n9)) (gt ((api_Match.Mask a_0).1) n10)) (gt ((api_Match.Mask b_1).1) n11)) != 0) then (some (.inr (.inl (false, (⟨0, (zeE (.ar 4 (.i .i64))), (zeE (.ar 4 (.i .i64)))⟩ : api_Match))))) else
 ((ixI i5 4).bind fun n12 =>
 (ixI i5 4).bind fun n13 =>
 (ixI i5 4).bind fun n14 =>
 (ixI i5 4).bind fun n15 =>
 (ixI i5 4).bind fun n16 =>
 (ixI i5 4).bind fun n17 =>
 some (.inl (wr .i64 (i5 + 1), x6, (⟨api_Match.Port x7, Arr.set (api_Match.Val x7) n16 (bOr .i64 (gt ((api_Match.Val a_0).1) n12) (gt ((api_Match.Val b_1).1) n13)), Arr.set (api_Match.Mask x7) n17 (bOr .i64 (gt ((api_Match.Mask a_0).1) n14) (gt ((api_Match.Mask b_1).1) n15))⟩ : api_Match))))) else
 (some (.inr (.inr (x6, x7))))
noncomputable def match_Meet (a_0 : api_Match) (b_1 : api_Match) : Option (api_Match × Bool) :=
 bif ((((api_Match.Port a_0) != (api_Match.Port b_1)) && ((api_Match.Port a_0) != (-1))) && ((api_Match.Port b_1) != (-1))) then (some ((⟨0, (zeE (.ar 4 (.i .i64))), (zeE (.ar 4 (.i .i64)))⟩ : api_Match), false)) else
 ((loopO (match_Meet_L1 a_0 b_1) (0, (⟨0, (zeE (.ar 4 (.i .i64))), (zeE (.ar 4 (.i .i64)))⟩ : api_Match), (⟨(if (api_Match.Port b_1) > (api_Match.Port a_0) then (api_Match.Port b_1) else (api_Match.Port a_0)), (zeE (.ar 4 (.i .i64))), (zeE (.ar 4 (.i .i64)))⟩ : api_Match))).bind fun
 | .inl (b18, x19) => (some (x19, b18))
 | .inr (x20, x21) => (some (x21, true)))
noncomputable def sp22 : Spc := ⟨[(false, .x y1), (false, .x y1)], [([.x y1, .x .b], [])], true, [], fun p => match p with | (a_0, b_1) => match_Meet a_0 b_1⟩
theorem ok22 : SpcOk prog 87 sp22 := spc_ok mixed glbok (sig := sig) (np := 2) (an := [(12, { j := some { vs := [(4, .op 0 y1 []), (6, .op 1 y1 []), (30, .x (.i .i64))], os := [.bx y1 (.x y1), .bx y1 (.x y1)], kl := [2, 3] }, e := [(.ret, { vs := [(4, .op 0 y1 []), (5, .x .b)], os := [.bx y1 (.x y1)], kl := [2, 3] }), (.exit 0, { vs := [(4, .op 0 y1 []), (6, .op 1 y1 [])], os := [.bx y1 (.x y1), .bx y1 (.x y1)], kl := [2, 3] })] })]) .nil (by kernel_rfl) (by kernel_rfl)
/- turnout/rule.Overlaps -/
noncomputable def rule_Overlaps (a_0 : api_Rule) (b_1 : api_Rule) : Option Bool :=
 (match_Meet (api_Rule.M a_0) (api_Rule.M b_1)).bind fun (r1, r2) =>
 some ((((api_Rule.Prio a_0) == (api_Rule.Prio b_1)) && (!(decide ((api_Rule.M a_0) = (api_Rule.M b_1))))) && r2)
noncomputable def sp23 : Spc := ⟨[(false, .x y0), (false, .x y0)], [([.x .b], [])], true, [], fun p => match p with | (a_0, b_1) => rule_Overlaps a_0 b_1⟩
theorem ok23 : SpcOk prog 84 sp23 := spc_ok mixed glbok (sig := sig) (np := 2) (an := []) (.cons ok22 .nil) (by kernel_rfl) (by kernel_rfl)
/- turnout/table.add$1 -/
noncomputable def table_add_1 (y_0 : api_Rule) (c_1 : api_Rule) : Option Bool :=
 (rule_Overlaps c_1 y_0).bind fun r1 =>
 some r1
noncomputable def sp24 : Spc := ⟨[(false, .x y0), (false, .pt y0)], [([.x .b], [])], true, [], fun p => match p with | (y_0, c_1) => table_add_1 y_0 c_1⟩
theorem ok24 : SpcOk prog 83 sp24 := spc_ok mixed glbok (sig := sig) (np := 2) (an := []) (.cons ok23 .nil) (by kernel_rfl) (by kernel_rfl)
/- slices.IndexFunc[[]turnout/api.Rule,turnout/api.Rule] -/
noncomputable def slices_IndexFunc_api_Rule_api_Rule_table_add_1_L1 (s_0 : Sl api_Rule) (f_1_c0 : api_Rule) : Int → Option (Int ⊕ (Int ⊕ Unit)) := fun i2 =>
 bif decide (i2 < (s_0.l.length : Int)) then ((ixI i2 s_0.l.length).bind fun n3 =>
 (table_add_1 (gt s_0.l n3) f_1_c0).bind fun r4 =>
 bif r4 then (some (.inr (.inl i2))) else
 (some (.inl (wr .i64 (i2 + 1))))) else
 (some (.inr (.inr ())))
noncomputable def slices_IndexFunc_api_Rule_api_Rule_table_add_1 (s_0 : Sl api_Rule) (f_1_c0 : api_Rule) : Option Int :=
 (loopO (slices_IndexFunc_api_Rule_api_Rule_table_add_1_L1 s_0 f_1_c0) 0).bind fun
 | .inl i5 => (some i5)
 | .inr _ => (some (-1))
noncomputable def sp25 : Spc := ⟨[(false, .x (.sl y0)), (false, .fn 83 (.pr (.pt y0) .ni))], [([.x (.i .i64)], [])], true, [], fun p => match p with | (s_0, f_1_c0) => slices_IndexFunc_api_Rule_api_Rule_table_add_1 s_0 f_1_c0⟩
theorem ok25 : SpcOk prog 65 sp25 := spc_ok mixed glbok (sig := sig) (np := 2) (an := [(5, { j := some { vs := [(8, .x (.i .i64))] }, e := [(.ret, { vs := [(4, .x (.i .i64))] }), (.exit 0, {})] })]) (.cons ok24 .nil) (by kernel_rfl) (by kernel_rfl)
/- slices.ContainsFunc[[]turnout/api.Rule,turnout/api.Rule] -/
noncomputable def slices_ContainsFunc_api_Rule_api_Rule_table_add_1 (s_0 : Sl api_Rule) (f_1_c0 : api_Rule) : Option Bool :=
 (slices_IndexFunc_api_Rule_api_Rule_table_add_1 s_0 f_1_c0).bind fun r1 =>
 some (decide (r1 ≥ 0))
noncomputable def sp26 : Spc := ⟨[(false, .x (.sl y0)), (false, .fn 83 (.pr (.pt y0) .ni))], [([.x .b], [])], true, [], fun p => match p with | (s_0, f_1_c0) => slices_ContainsFunc_api_Rule_api_Rule_table_add_1 s_0 f_1_c0⟩
theorem ok26 : SpcOk prog 82 sp26 := spc_ok mixed glbok (sig := sig) (np := 2) (an := []) (.cons ok25 .nil) (by kernel_rfl) (by kernel_rfl)
/- turnout/rule.Key -/
noncomputable def rule_Key (a_0 : api_Rule) (b_1 : api_Rule) : Option Bool :=
 some (((api_Rule.Prio a_0) == (api_Rule.Prio b_1)) && (decide ((api_Rule.M a_0) = (api_Rule.M b_1))))
noncomputable def sp27 : Spc := ⟨[(false, .x y0), (false, .x y0)], [([.x .b], [])], true, [], fun p => match p with | (a_0, b_1) => rule_Key a_0 b_1⟩
theorem ok27 : SpcOk prog 17 sp27 := spc_ok mixed glbok (sig := sig) (np := 2) (an := []) .nil (by kernel_rfl) (by kernel_rfl)
/- turnout/table.key$1 -/
noncomputable def table_key_1 (y_0 : api_Rule) (c_1 : api_Rule) : Option Bool :=
 (rule_Key c_1 y_0).bind fun r1 =>
 some r1
noncomputable def sp28 : Spc := ⟨[(false, .x y0), (false, .pt y0)], [([.x .b], [])], true, [], fun p => match p with | (y_0, c_1) => table_key_1 y_0 c_1⟩
theorem ok28 : SpcOk prog 93 sp28 := spc_ok mixed glbok (sig := sig) (np := 2) (an := []) (.cons ok27 .nil) (by kernel_rfl) (by kernel_rfl)
/- slices.IndexFunc[[]turnout/api.Rule,turnout/api.Rule] -/
noncomputable def slices_IndexFunc_api_Rule_api_Rule_table_key_1_L1 (s_0 : Sl api_Rule) (f_1_c0 : api_Rule) : Int → Option (Int ⊕ (Int ⊕ Unit)) := fun i2 =>
 bif decide (i2 < (s_0.l.length : Int)) then ((ixI i2 s_0.l.length).bind fun n3 =>
 (table_key_1 (gt s_0.l n3) f_1_c0).bind fun r4 =>
 bif r4 then (some (.inr (.inl i2))) else
 (some (.inl (wr .i64 (i2 + 1))))) else
 (some (.inr (.inr ())))
noncomputable def slices_IndexFunc_api_Rule_api_Rule_table_key_1 (s_0 : Sl api_Rule) (f_1_c0 : api_Rule) : Option Int :=
 (loopO (slices_IndexFunc_api_Rule_api_Rule_table_key_1_L1 s_0 f_1_c0) 0).bind fun
 | .inl i5 => (some i5)
 | .inr _ => (some (-1))
noncomputable def sp29 : Spc := ⟨[(false, .x (.sl y0)), (false, .fn 93 (.pr (.pt y0) .ni))], [([.x (.i .i64)], [])], true, [], fun p => match p with | (s_0, f_1_c0) => slices_IndexFunc_api_Rule_api_Rule_table_key_1 s_0 f_1_c0⟩
theorem ok29 : SpcOk prog 65 sp29 := spc_ok mixed glbok (sig := sig) (np := 2) (an := [(5, { j := some { vs := [(8, .x (.i .i64))] }, e := [(.ret, { vs := [(4, .x (.i .i64))] }), (.exit 0, {})] })]) (.cons ok28 .nil) (by kernel_rfl) (by kernel_rfl)
/- turnout/table.key -/
noncomputable def table_key (t_0 : Sl api_Rule) (x_1 : api_Rule) : Option Int :=
 (slices_IndexFunc_api_Rule_api_Rule_table_key_1 t_0 x_1).bind fun r1 =>
 some r1
noncomputable def sp30 : Spc := ⟨[(false, .x (.sl y0)), (false, .x y0)], [([.x (.i .i64)], [])], true, [], fun p => match p with | (t_0, x_1) => table_key t_0 x_1⟩
theorem ok30 : SpcOk prog 70 sp30 := spc_ok mixed glbok (sig := sig) (np := 2) (an := []) (.cons ok29 .nil) (by kernel_rfl) (by kernel_rfl)
/- slices.Clone[[]turnout/api.Rule,turnout/api.Rule] -/
noncomputable def slices_Clone_api_Rule_api_Rule (s_0 : Sl api_Rule) : Option (Sl api_Rule) :=
 bif s_0.isNil then (some Sl.nil) else
 ((capI ([] ++ s_0.l)).bind fun l1 =>
 some (appS (Sl.mk []) s_0.l l1))
noncomputable def sp31 : Spc := ⟨[(false, .x (.sl y0))], [([.os y0], [])], false, [], fun p => match p with | s_0 => slices_Clone_api_Rule_api_Rule s_0⟩
theorem ok31 : SpcOk prog 56 sp31 := spc_ok mixed glbok (sig := sig) (np := 1) (an := []) .nil (by kernel_rfl) (by kernel_rfl)
/- turnout/table.replaced -/
noncomputable def table_replaced (t_0 : Sl api_Rule) (at_1 : Int) (l_2 : Sl api_Act) : Option (Sl api_Rule) :=
 (slices_Clone_api_Rule_api_Rule t_0).bind fun s1 =>
 (ixI at_1 s1.l.length).bind fun n2 =>
 some (Sl.mk (s1.l.set n2 (⟨api_Rule.Prio (gt s1.l n2), api_Rule.M (gt s1.l n2), l_2⟩ : api_Rule)))
noncomputable def sp32 : Spc := ⟨[(false, .x (.sl y0)), (false, .x (.i .i64)), (false, .x (.sl y2))], [([.x (.sl y0)], [])], false, [], fun p => match p with | (t_0, at_1, l_2) => table_replaced t_0 at_1 l_2⟩
theorem ok32 : SpcOk prog 60 sp32 := spc_ok mixed glbok (sig := sig) (np := 3) (an := []) (.cons ok31 .nil) (by kernel_rfl) (by kernel_rfl)
/- turnout/rule.Ahead -/
noncomputable def rule_Ahead (a_0 : api_Rule) (b_1 : api_Rule) : Option Bool :=
 some (decide ((api_Rule.Prio a_0) > (api_Rule.Prio b_1)))
noncomputable def sp33 : Spc := ⟨[(false, .x y0), (false, .x y0)], [([.x .b], [])], true, [], fun p => match p with | (a_0, b_1) => rule_Ahead a_0 b_1⟩
theorem ok33 : SpcOk prog 69 sp33 := spc_ok mixed glbok (sig := sig) (np := 2) (an := []) .nil (by kernel_rfl) (by kernel_rfl)
/- turnout/table.add$2 -/
noncomputable def table_add_2 (y_0 : api_Rule) (c_1 : api_Rule) : Option Bool :=
 (rule_Ahead c_1 y_0).bind fun r1 =>
 some r1
noncomputable def sp34 : Spc := ⟨[(false, .x y0), (false, .pt y0)], [([.x .b], [])], true, [], fun p => match p with | (y_0, c_1) => table_add_2 y_0 c_1⟩
theorem ok34 : SpcOk prog 85 sp34 := spc_ok mixed glbok (sig := sig) (np := 2) (an := []) (.cons ok33 .nil) (by kernel_rfl) (by kernel_rfl)
/- slices.IndexFunc[[]turnout/api.Rule,turnout/api.Rule] -/
noncomputable def slices_IndexFunc_api_Rule_api_Rule_table_add_2_L1 (s_0 : Sl api_Rule) (f_1_c0 : api_Rule) : Int → Option (Int ⊕ (Int ⊕ Unit)) := fun i2 =>
 bif decide (i2 < (s_0.l.length : Int)) then ((ixI i2 s_0.l.length).bind fun n3 =>
 (table_add_2 (gt s_0.l n3) f_1_c0).bind fun r4 =>
 bif r4 then (some (.inr (.inl i2))) else
 (some (.inl (wr .i64 (i2 + 1))))) else
 (some (.inr (.inr ())))
noncomputable def slices_IndexFunc_api_Rule_api_Rule_table_add_2 (s_0 : Sl api_Rule) (f_1_c0 : api_Rule) : Option Int :=
 (loopO (slices_IndexFunc_api_Rule_api_Rule_table_add_2_L1 s_0 f_1_c0) 0).bind fun
 | .inl i5 => (some i5)
 | .inr _ => (some (-1))
noncomputable def sp35 : Spc := ⟨[(false, .x (.sl y0)), (false, .fn 85 (.pr (.pt y0) .ni))], [([.x (.i .i64)], [])], true, [], fun p => match p with | (s_0, f_1_c0) => slices_IndexFunc_api_Rule_api_Rule_table_add_2 s_0 f_1_c0⟩
theorem ok35 : SpcOk prog 65 sp35 := spc_ok mixed glbok (sig := sig) (np := 2) (an := [(5, { j := some { vs := [(8, .x (.i .i64))] }, e := [(.ret, { vs := [(4, .x (.i .i64))] }), (.exit 0, {})] })]) (.cons ok34 .nil) (by kernel_rfl) (by kernel_rfl)
/- slices.Insert[[]turnout/api.Rule,turnout/api.Rule] -/
theorem ok36 : SpcOk prog 86 (insSpc y0) := ins_ok mixed (sig := sig) (nt := 95) (tl := insTl (szT y0) 101 false [true, false]) (z := zeL y0) (by kernel_rfl) (by kernel_rfl)
/- turnout/table.add -/
noncomputable def table_add (t_0 : Sl api_Rule) (m_1 : api_Mod) (room_2 : Int) : Option (Sl api_Rule × Int) :=
 (bif api_Mod.Check m_1 then ((slices_ContainsFunc_api_Rule_api_Rule_table_add_1 t_0 (api_Mod.R m_1)).bind fun r1 =>
 some r1) else
 (some false) : Option Bool).bind fun b2 =>
 bif b2 then (some (t_0, 14)) else
 ((table_key t_0 (api_Mod.R m_1)).bind fun r3 =>
 bif decide (r3 ≥ 0) then ((table_replaced t_0 r3 (api_Rule.Acts (api_Mod.R m_1))).bind fun r4 =>
 some (r4, 0)) else
 (bif decide ((t_0.l.length : Int) ≥ room_2) then (some (t_0, 6)) else
 ((slices_IndexFunc_api_Rule_api_Rule_table_add_2 t_0 (api_Mod.R m_1)).bind fun r5 =>
 (bif decide (r5 < 0) then (some (t_0.l.length : Int)) else
 (some r5) : Option Int).bind fun i6 =>
 (slices_Clone_api_Rule_api_Rule t_0).bind fun s7 =>
 (insF s7 i6 (Sl.mk [api_Mod.R m_1])).bind fun s8 =>
 some (s8, 0))))
noncomputable def sp37 : Spc := ⟨[(false, .x (.sl y0)), (false, .x y3), (false, .x (.i .i64))], [([.x (.sl y0), .x (.i .i64)], [])], false, [], fun p => match p with | (t_0, m_1, room_2) => table_add t_0 m_1 room_2⟩
theorem ok37 : SpcOk prog 53 sp37 := spc_ok mixed glbok (sig := sig) (np := 3) (an := [(6, { j := some { vs := [(19, .x .b)] } }), (23, { e := [(.normal, { vs := [(10, .x (.i .i64))] })] })]) (.cons ok26 (.cons ok30 (.cons ok32 (.cons ok35 (.cons ok31 (.cons ok36 .nil)))))) (by kernel_rfl) (by kernel_rfl)
/- turnout/match.Within -/
noncomputable def match_Within (a_0 : api_Match) (b_1 : api_Match) : Option Bool :=
 (match_Meet a_0 b_1).bind fun (r1, r2) =>
 some (r2 && (decide (r1 = a_0)))
noncomputable def sp38 : Spc := ⟨[(false, .x y1), (false, .x y1)], [([.x .b], [])], true, [], fun p => match p with | (a_0, b_1) => match_Within a_0 b_1⟩
theorem ok38 : SpcOk prog 58 sp38 := spc_ok mixed glbok (sig := sig) (np := 2) (an := []) (.cons ok22 .nil) (by kernel_rfl) (by kernel_rfl)
/- turnout/table.modify -/
noncomputable def table_modify_L1 (x_1 : api_Rule) (s1 : Sl api_Rule) : (Int × Sl api_Rule) → Option ((Int × Sl api_Rule) ⊕ (Sl api_Rule)) := fun (i5, s6) =>
 bif decide (i5 < (s1.l.length : Int)) then (((ixI i5 s6.l.length).bind fun n7 =>
 (match_Within (api_Rule.M (gt s6.l n7)) (api_Rule.M x_1)).bind fun r8 =>
 bif r8 then ((ixI i5 s6.l.length).bind fun n9 =>
 some (Sl.mk (s6.l.set n9 (⟨api_Rule.Prio (gt s6.l n9), api_Rule.M (gt s6.l n9), api_Rule.Acts x_1⟩ : api_Rule)))) else
 (some s6) : Option (Sl api_Rule)).bind fun s10 =>
 some (.inl (wr .i64 (i5 + 1), s10))) else
 (some (.inr s6))
noncomputable def table_modify (t_0 : Sl api_Rule) (x_1 : api_Rule) : Option (Sl api_Rule) :=
 (slices_Clone_api_Rule_api_Rule t_0).bind fun s1 =>
 (loopO (table_modify_L1 x_1 s1) (0, s1)).bind fun s11 =>
 some s11
noncomputable def sp39 : Spc := ⟨[(false, .x (.sl y0)), (false, .x y0)], [([.x (.sl y0)], [])], false, [], fun p => match p with | (t_0, x_1) => table_modify t_0 x_1⟩
theorem ok39 : SpcOk prog 54 sp39 := spc_ok mixed glbok (sig := sig) (np := 2) (an := [(7, { j := some { vs := [(0, .so 0), (9, .so 0), (11, .x (.i .i64))], os := [.ar y0], kl := [1] }, e := [(.exit 0, { vs := [(0, .so 0)], os := [.ar y0], kl := [1] })] }), (11, { e := [(.normal, { vs := [(0, .so 0), (9, .so 0)], os := [.ar y0], kl := [2] })] })]) (.cons ok31 (.cons ok38 .nil)) (by kernel_rfl) (by kernel_rfl)
/- turnout/table.Apply$1 -/
noncomputable def table_Apply_1 (y_0 : api_Rule) (c_1 : api_Mod) : Option Bool :=
 (match_Within (api_Rule.M y_0) (api_Rule.M (api_Mod.R c_1))).bind fun r1 =>
 some r1
noncomputable def sp40 : Spc := ⟨[(false, .x y0), (false, .pt y3)], [([.x .b], [])], true, [], fun p => match p with | (y_0, c_1) => table_Apply_1 y_0 c_1⟩
theorem ok40 : SpcOk prog 57 sp40 := spc_ok mixed glbok (sig := sig) (np := 2) (an := []) (.cons ok38 .nil) (by kernel_rfl) (by kernel_rfl)
/- slices.IndexFunc[[]turnout/api.Rule,turnout/api.Rule] -/
noncomputable def slices_IndexFunc_api_Rule_api_Rule_table_Apply_1_L1 (s_0 : Sl api_Rule) (f_1_c0 : api_Mod) : Int → Option (Int ⊕ (Int ⊕ Unit)) := fun i2 =>
 bif decide (i2 < (s_0.l.length : Int)) then ((ixI i2 s_0.l.length).bind fun n3 =>
 (table_Apply_1 (gt s_0.l n3) f_1_c0).bind fun r4 =>
 bif r4 then (some (.inr (.inl i2))) else
 (some (.inl (wr .i64 (i2 + 1))))) else
 (some (.inr (.inr ())))
noncomputable def slices_IndexFunc_api_Rule_api_Rule_table_Apply_1 (s_0 : Sl api_Rule) (f_1_c0 : api_Mod) : Option Int :=
 (loopO (slices_IndexFunc_api_Rule_api_Rule_table_Apply_1_L1 s_0 f_1_c0) 0).bind fun
 | .inl i5 => (some i5)
 | .inr _ => (some (-1))
noncomputable def sp41 : Spc := ⟨[(false, .x (.sl y0)), (false, .fn 57 (.pr (.pt y3) .ni))], [([.x (.i .i64)], [])], true, [], fun p => match p with | (s_0, f_1_c0) => slices_IndexFunc_api_Rule_api_Rule_table_Apply_1 s_0 f_1_c0⟩
theorem ok41 : SpcOk prog 65 sp41 := spc_ok mixed glbok (sig := sig) (np := 2) (an := [(5, { j := some { vs := [(8, .x (.i .i64))] }, e := [(.ret, { vs := [(4, .x (.i .i64))] }), (.exit 0, {})] })]) (.cons ok40 .nil) (by kernel_rfl) (by kernel_rfl)
/- slices.DeleteFunc[[]turnout/api.Rule,turnout/api.Rule] -/
noncomputable def slices_DeleteFunc_api_Rule_api_Rule_table_Apply_1_L1 (del_1_c0 : api_Mod) : (Int × Int × Sl api_Rule) → Option ((Int × Int × Sl api_Rule) ⊕ (Int × Sl api_Rule)) := fun (i7, i8, s9) =>
 bif decide (i8 < (s9.l.length : Int)) then (((ixI i8 s9.l.length).bind fun n10 =>
 (table_Apply_1 (gt s9.l n10) del_1_c0).bind fun r11 =>
 bif (!r11) then ((ixI i7 s9.l.length).bind fun n12 =>
 some (wr .i64 (i7 + 1), (Sl.mk (s9.l.set n12 (gt s9.l n10))))) else
 (some (i7, s9)) : Option (Int × Sl api_Rule)).bind fun (i13, s14) =>
 some (.inl (i13, wr .i64 (i8 + 1), s14))) else
 (some (.inr (i7, s9)))
noncomputable def slices_DeleteFunc_api_Rule_api_Rule_table_Apply_1 (s_0 : Sl api_Rule) (del_1_c0 : api_Mod) : Option (Sl api_Rule) :=
 (slices_IndexFunc_api_Rule_api_Rule_table_Apply_1 s_0 del_1_c0).bind fun r1 =>
 bif (r1 == (-1)) then (some s_0) else
 ((loopO (slices_DeleteFunc_api_Rule_api_Rule_table_Apply_1_L1 del_1_c0) (r1, wr .i64 (r1 + 1), s_0)).bind fun (i15, s16) =>
 (cutI s16.l i15 s16.l.length).bind fun l17 =>
 (clrS s16 i15.toNat ((s16.to l17).l).length (⟨0, (⟨0, (zeE (.ar 4 (.i .i64))), (zeE (.ar 4 (.i .i64)))⟩ : api_Match), Sl.nil⟩ : api_Rule)).bind fun s18 =>
 (cutI s18.l 0 i15).bind fun l19 =>
 some (s18.to l19))
noncomputable def sp42 : Spc := ⟨[(true, .os y0), (false, .fn 57 (.pr (.pt y3) .ni))], [([.x (.sl y0)], [.gn])], false, [true, false], fun p => match p with | (s_0, del_1_c0) => slices_DeleteFunc_api_Rule_api_Rule_table_Apply_1 s_0 del_1_c0⟩
theorem ok42 : SpcOk prog 55 sp42 := spc_ok mixed glbok (sig := sig) (np := 2) (an := [(12, { j := some { vs := [(0, .so 0), (5, .x (.i .i64)), (6, .x (.i .i64))], gs := (.co (.so 0) .ni), os := [.ar y0], kl := [0] }, e := [(.exit 0, { vs := [(0, .so 0), (5, .x (.i .i64))], gs := (.co (.so 0) .ni), os := [.ar y0], kl := [0] })] }), (16, { e := [(.normal, { vs := [(0, .so 0), (5, .x (.i .i64))], gs := (.co (.so 0) .ni), os := [.ar y0], kl := [2] })] })]) (.cons ok41 (.cons ok40 .nil)) (by kernel_rfl) (by kernel_rfl)
/- turnout/table.strict -/
noncomputable def table_strict (t_0 : Sl api_Rule) (x_1 : api_Rule) : Option (Int × Int) :=
 (table_key t_0 x_1).bind fun r1 =>
 bif decide (r1 < 0) then (some (r1, 7)) else
 (some (r1, 0))
noncomputable def sp43 : Spc := ⟨[(false, .x (.sl y0)), (false, .x y0)], [([.x (.i .i64), .x (.i .i64)], [])], true, [], fun p => match p with | (t_0, x_1) => table_strict t_0 x_1⟩
theorem ok43 : SpcOk prog 59 sp43 := spc_ok mixed glbok (sig := sig) (np := 2) (an := []) (.cons ok30 .nil) (by kernel_rfl) (by kernel_rfl)
/- slices.Delete[[]turnout/api.Rule,turnout/api.Rule] -/
theorem ok44 : SpcOk prog 61 (delSpc y0) := del_ok mixed (sig := sig) (nt := 33) (z := zeL y0) (by kernel_rfl) (by kernel_rfl)
/- turnout/table.Apply -/
noncomputable def table_Apply (t_0 : Sl api_Rule) (m_1 : api_Mod) (ports_2 : Int) (room_3 : Int) : Option (Sl api_Rule × Int) :=
 (rule_Right (api_Mod.R m_1) ports_2).bind fun r1 =>
 bif (!r1) then (some (t_0, 2)) else
 (bif ((api_Mod.Kind m_1) == 1) then ((table_add t_0 m_1 room_3).bind fun (r2, r3) =>
 some (r2, r3)) else
 (bif ((api_Mod.Kind m_1) == 2) then ((table_modify t_0 (api_Mod.R m_1)).bind fun r4 =>
 some (r4, 0)) else
 (bif ((api_Mod.Kind m_1) == 4) then ((slices_Clone_api_Rule_api_Rule t_0).bind fun s5 =>
 (slices_DeleteFunc_api_Rule_api_Rule_table_Apply_1 s5 m_1).bind fun r6 =>
 some (r6, 0)) else
 ((bif ((api_Mod.Kind m_1) == 3) then (some ((api_Mod.Kind m_1) == 3)) else
 (some ((api_Mod.Kind m_1) == 5)) : Option Bool).bind fun b7 =>
 bif b7 then ((table_strict t_0 (api_Mod.R m_1)).bind fun (r8, r9) =>
 bif (r9 != 0) then (some (t_0, r9)) else
 (bif ((api_Mod.Kind m_1) == 3) then ((table_replaced t_0 r8 (api_Rule.Acts (api_Mod.R m_1))).bind fun r10 =>
 some (r10, 0)) else
 ((slices_Clone_api_Rule_api_Rule t_0).bind fun s11 =>
 (delF s11 r8 (wr .i64 (r8 + 1))).bind fun s12 =>
 some (s12, 0)))) else
 (some (t_0, 2))))))
noncomputable def sp45 : Spc := ⟨[(false, .x (.sl y0)), (false, .x y3), (false, .x (.i .i64)), (false, .x (.i .i64))], [([.x (.sl y0), .x (.i .i64)], [])], false, [], fun p => match p with | (t_0, m_1, ports_2, room_3) => table_Apply t_0 m_1 ports_2 room_3⟩
theorem ok45 : SpcOk prog 18 sp45 := spc_ok mixed glbok (sig := sig) (np := 4) (an := [(22, { e := [(.normal, { vs := [(40, .x .b)] })] })]) (.cons ok21 (.cons ok37 (.cons ok39 (.cons ok31 (.cons ok42 (.cons ok43 (.cons ok32 (.cons ok44 .nil)))))))) (by kernel_rfl) (by kernel_rfl)
/- turnout/table.Mods -/
noncomputable def table_Mods_L1 (t_0 : Sl api_Rule) (l_1 : Sl api_Mod) (ports_2 : Int) (room_3 : Int) : (Sl api_Rule × Int) → Option ((Sl api_Rule × Int) ⊕ ((Sl api_Rule × Int × Int) ⊕ (Sl api_Rule))) := fun (s3, i4) =>
 bif decide (i4 < (l_1.l.length : Int)) then ((ixI i4 l_1.l.length).bind fun n5 =>
 (table_Apply s3 (gt l_1.l n5) ports_2 room_3).bind fun (r6, r7) =>
 bif (r7 != 0) then (some (.inr (.inl (t_0, i4, r7)))) else
 (some (.inl (r6, wr .i64 (i4 + 1))))) else
 (some (.inr (.inr s3)))
noncomputable def table_Mods (t_0 : Sl api_Rule) (l_1 : Sl api_Mod) (ports_2 : Int) (room_3 : Int) : Option (Sl api_Rule × Int × Int) :=
 (loopO (table_Mods_L1 t_0 l_1 ports_2 room_3) (t_0, 0)).bind fun
 | .inl (s8, i9, i10) => (some (s8, i9, i10))
 | .inr s11 => (some (s11, (-1), 0))
noncomputable def sp46 : Spc := ⟨[(false, .x (.sl y0)), (false, .x (.sl y3)), (false, .x (.i .i64)), (false, .x (.i .i64))], [([.x (.sl y0), .x (.i .i64), .x (.i .i64)], [])], false, [], fun p => match p with | (t_0, l_1, ports_2, room_3) => table_Mods t_0 l_1 ports_2 room_3⟩
theorem ok46 : SpcOk prog 13 sp46 := spc_ok mixed glbok (sig := sig) (np := 4) (an := [(7, { j := some { vs := [(11, .x (.sl y0)), (18, .x (.i .i64))] }, e := [(.ret, { vs := [(8, .x (.sl y0)), (9, .x (.i .i64)), (10, .x (.i .i64))] }), (.exit 0, { vs := [(11, .x (.sl y0))] })] })]) (.cons ok45 .nil) (by kernel_rfl) (by kernel_rfl)
/- turnout/match.Hits -/
noncomputable def match_Hits_L1 (m_0 : api_Match) (p_2 : Arr 4 Int) : Int → Option (Int ⊕ (Bool ⊕ Unit)) := fun i2 =>
 bif decide (i2 < 4) then ((ixI i2 4).bind fun n3 =>
 (ixI i2 4).bind fun n4 =>
 (ixI i2 4).bind fun n5 =>
 bif ((bAnd .i64 (bXor .i64 (gt p_2.1 n4) (gt ((api_Match.Val m_0).1) n5)) (gt ((api_Match.Mask m_0).1) n3)) != 0) then (some (.inr (.inl false))) else
 (some (.inl (wr .i64 (i2 + 1))))) else
 (some (.inr (.inr ())))
noncomputable def match_Hits (m_0 : api_Match) (port_1 : Int) (p_2 : Arr 4 Int) : Option Bool :=
 bif (((api_Match.Port m_0) != (-1)) && ((api_Match.Port m_0) != port_1)) then (some false) else
 ((loopO (match_Hits_L1 m_0 p_2) 0).bind fun
 | .inl b6 => (some b6)
 | .inr _ => (some true))
noncomputable def sp47 : Spc := ⟨[(false, .x y1), (false, .x (.i .i64)), (false, .x (.ar 4 (.i .i64)))], [([.x .b], [])], true, [], fun p => match p with | (m_0, port_1, p_2) => match_Hits m_0 port_1 p_2⟩
theorem ok47 : SpcOk prog 20 sp47 := spc_ok mixed glbok (sig := sig) (np := 3) (an := [(10, { j := some { vs := [(20, .x (.i .i64))] }, e := [(.ret, { vs := [(6, .x .b)] }), (.exit 0, {})] })]) .nil (by kernel_rfl) (by kernel_rfl)
/- turnout/table.Find$1 -/
noncomputable def table_Find_1 (x_0 : api_Rule) (c_1 : Int) (c_2 : Arr 4 Int) : Option Bool :=
 (match_Hits (api_Rule.M x_0) c_1 c_2).bind fun r1 =>
 some r1
noncomputable def sp48 : Spc := ⟨[(false, .x y0), (false, .pt (.i .i64)), (false, .pt (.ar 4 (.i .i64)))], [([.x .b], [])], true, [], fun p => match p with | (x_0, c_1, c_2) => table_Find_1 x_0 c_1 c_2⟩
theorem ok48 : SpcOk prog 66 sp48 := spc_ok mixed glbok (sig := sig) (np := 3) (an := []) (.cons ok47 .nil) (by kernel_rfl) (by kernel_rfl)
/- slices.IndexFunc[[]turnout/api.Rule,turnout/api.Rule] -/
noncomputable def slices_IndexFunc_api_Rule_api_Rule_table_Find_1_L1 (s_0 : Sl api_Rule) (f_1_c0 : Int) (f_1_c1 : Arr 4 Int) : Int → Option (Int ⊕ (Int ⊕ Unit)) := fun i2 =>
 bif decide (i2 < (s_0.l.length : Int)) then ((ixI i2 s_0.l.length).bind fun n3 =>
 (table_Find_1 (gt s_0.l n3) f_1_c0 f_1_c1).bind fun r4 =>
 bif r4 then (some (.inr (.inl i2))) else
 (some (.inl (wr .i64 (i2 + 1))))) else
 (some (.inr (.inr ())))
noncomputable def slices_IndexFunc_api_Rule_api_Rule_table_Find_1 (s_0 : Sl api_Rule) (f_1_c0 : Int) (f_1_c1 : Arr 4 Int) : Option Int :=
 (loopO (slices_IndexFunc_api_Rule_api_Rule_table_Find_1_L1 s_0 f_1_c0 f_1_c1) 0).bind fun
 | .inl i5 => (some i5)
 | .inr _ => (some (-1))
noncomputable def sp49 : Spc := ⟨[(false, .x (.sl y0)), (false, .fn 66 (.pr (.pt (.i .i64)) (.pr (.pt (.ar 4 (.i .i64))) .ni)))], [([.x (.i .i64)], [])], true, [], fun p => match p with | (s_0, f_1_c0, f_1_c1) => slices_IndexFunc_api_Rule_api_Rule_table_Find_1 s_0 f_1_c0 f_1_c1⟩
theorem ok49 : SpcOk prog 65 sp49 := spc_ok mixed glbok (sig := sig) (np := 2) (an := [(5, { j := some { vs := [(8, .x (.i .i64))] }, e := [(.ret, { vs := [(4, .x (.i .i64))] }), (.exit 0, {})] })]) (.cons ok48 .nil) (by kernel_rfl) (by kernel_rfl)
/- turnout/table.Find -/
noncomputable def table_Find (t_0 : Sl api_Rule) (port_1 : Int) (p_2 : Arr 4 Int) : Option Int :=
 (slices_IndexFunc_api_Rule_api_Rule_table_Find_1 t_0 port_1 p_2).bind fun r1 =>
 some r1
noncomputable def sp50 : Spc := ⟨[(false, .x (.sl y0)), (false, .x (.i .i64)), (false, .x (.ar 4 (.i .i64)))], [([.x (.i .i64)], [])], true, [], fun p => match p with | (t_0, port_1, p_2) => table_Find t_0 port_1 p_2⟩
theorem ok50 : SpcOk prog 25 sp50 := spc_ok mixed glbok (sig := sig) (np := 3) (an := []) (.cons ok49 .nil) (by kernel_rfl) (by kernel_rfl)
/- turnout/packet.is -/
noncomputable def packet_is (f_0 : Int) : Option Bool :=
 some ((decide (f_0 ≥ 0)) && (decide (f_0 < 4)))
noncomputable def sp51 : Spc := ⟨[(false, .x (.i .i64))], [([.x .b], [])], true, [], fun p => match p with | f_0 => packet_is f_0⟩
theorem ok51 : SpcOk prog 102 sp51 := spc_ok mixed glbok (sig := sig) (np := 1) (an := []) .nil (by kernel_rfl) (by kernel_rfl)
/- turnout/packet.With -/
noncomputable def packet_With (p_0 : Arr 4 Int) (f_1 : Int) (v_2 : Int) : Option (Arr 4 Int) :=
 (((packet_is f_1).bind fun r1 =>
 bif (r1 && (decide (v_2 ≥ 0))) then ((packet_Top f_1).bind fun r2 =>
 some (decide (v_2 ≤ r2))) else
 (some false) : Option Bool).bind fun b3 =>
 bif b3 then ((ixI f_1 4).bind fun n4 =>
 some (Arr.set p_0 n4 v_2)) else
 (some p_0) : Option (Arr 4 Int)).bind fun v5 =>
 some v5
noncomputable def sp52 : Spc := ⟨[(false, .x (.ar 4 (.i .i64))), (false, .x (.i .i64)), (false, .x (.i .i64))], [([.x (.ar 4 (.i .i64))], [])], true, [], fun p => match p with | (p_0, f_1, v_2) => packet_With p_0 f_1 v_2⟩
theorem ok52 : SpcOk prog 88 sp52 := spc_ok mixed glbok (sig := sig) (np := 3) (an := [(2, { e := [(.normal, { vs := [(3, .op 0 (.ar 4 (.i .i64)) [])], os := [.bx (.ar 4 (.i .i64)) (.x (.ar 4 (.i .i64)))], kl := [0] })] }), (4, { j := some { vs := [(18, .x .b)] } })]) (.cons ok51 (.cons ok11 .nil)) (by kernel_rfl) (by kernel_rfl)
/- turnout/act.Run -/
noncomputable def act_Run_L1 (l_0 : Sl api_Act) (p_1 : Arr 4 Int) : (Int × Arr 4 Int × Sl api_Sent) → Option ((Int × Arr 4 Int × Sl api_Sent) ⊕ (Sl api_Sent)) := fun (i5, v6, s7) =>
 bif decide (i5 < (l_0.l.length : Int)) then (((ixI i5 l_0.l.length).bind fun n8 =>
 bif ((api_Act.Kind (gt l_0.l n8)) == 3) then (some (p_1, s7)) else
 (bif ((api_Act.Kind (gt l_0.l n8)) == 1) then ((packet_With v6 (api_Act.F (gt l_0.l n8)) (api_Act.V (gt l_0.l n8))).bind fun r9 =>
 some (r9, s7)) else
 (bif ((api_Act.Kind (gt l_0.l n8)) == 2) then ((capI (s7.l ++ [(⟨api_Act.V (gt l_0.l n8), v6⟩ : api_Sent)])).bind fun l10 =>
 some (v6, (Sl.mk l10))) else
 (some (v6, s7)))) : Option (Arr 4 Int × Sl api_Sent)).bind fun (v11, s12) =>
 some (.inl (wr .i64 (i5 + 1), v11, s12))) else
 (some (.inr s7))
noncomputable def act_Run (l_0 : Sl api_Act) (p_1 : Arr 4 Int) : Option (Sl api_Sent) :=
 (loopO (act_Run_L1 l_0 p_1) (0, p_1, Sl.nil)).bind fun s13 =>
 some s13
noncomputable def sp53 : Spc := ⟨[(false, .x (.sl y2)), (false, .x (.ar 4 (.i .i64)))], [([.x (.sl y4)], [])], false, [], fun p => match p with | (l_0, p_1) => act_Run l_0 p_1⟩
theorem ok53 : SpcOk prog 63 sp53 := spc_ok mixed glbok (sig := sig) (np := 2) (an := [(9, { j := some { vs := [(3, .op 0 (.ar 4 (.i .i64)) []), (5, .so 1), (12, .x (.i .i64))], os := [.bx (.ar 4 (.i .i64)) (.x (.ar 4 (.i .i64))), .ar y4], kl := [0] }, e := [(.exit 0, { vs := [(5, .so 0)], os := [.ar y4], kl := [0] })] }), (13, { e := [(.normal, { vs := [(3, .op 0 (.ar 4 (.i .i64)) []), (5, .so 1)], os := [.bx (.ar 4 (.i .i64)) (.x (.ar 4 (.i .i64))), .ar y4], kl := [2, 3] })] })]) (.cons ok52 .nil) (by kernel_rfl) (by kernel_rfl)
/- turnout/table.Run -/
noncomputable def table_Run (t_0 : Sl api_Rule) (port_1 : Int) (p_2 : Arr 4 Int) : Option (Sl api_Sent) :=
 (table_Find t_0 port_1 p_2).bind fun r1 =>
 bif decide (r1 < 0) then (some Sl.nil) else
 ((ixI r1 t_0.l.length).bind fun n2 =>
 (act_Run (api_Rule.Acts (gt t_0.l n2)) p_2).bind fun r3 =>
 some r3)
noncomputable def sp54 : Spc := ⟨[(false, .x (.sl y0)), (false, .x (.i .i64)), (false, .x (.ar 4 (.i .i64)))], [([.x (.sl y4)], [])], false, [], fun p => match p with | (t_0, port_1, p_2) => table_Run t_0 port_1 p_2⟩
theorem ok54 : SpcOk prog 22 sp54 := spc_ok mixed glbok (sig := sig) (np := 3) (an := []) (.cons ok50 (.cons ok53 .nil)) (by kernel_rfl) (by kernel_rfl)
/- turnout/turnoutlaw11.awake -/
noncomputable def law11_awake : Option Bool :=
 (match_Any).bind fun r1 =>
 (rule_Plain 1 3 20 2).bind fun r2 =>
 (table_Mods Sl.nil (Sl.mk [(⟨1, (⟨10, r1, (Sl.mk [(⟨2, 0, 1⟩ : api_Act)])⟩ : api_Rule), false⟩ : api_Mod), (⟨1, r2, false⟩ : api_Mod)]) 4 9).bind fun (r3, r4, r5) =>
 (table_Run r3 0 (Arr.set (Arr.set (Arr.set (Arr.set (zeE (.ar 4 (.i .i64))) 0 1) 1 3) 2 0) 3 0)).bind fun r6 =>
 (bif ((((r3.l.length : Int) == 2) && (r4 == (-1))) && (r5 == 0)) then ((ixI 0 r3.l.length).bind fun n7 =>
 bif (((api_Rule.Prio (gt r3.l n7)) == 20) && ((r6.l.length : Int) == 1)) then ((ixI 0 r6.l.length).bind fun n8 =>
 bif ((api_Sent.Port (gt r6.l n8)) == 2) then ((table_Find r3 0 (zeE (.ar 4 (.i .i64)))).bind fun r9 =>
 some (r9 == 1)) else
 (some false)) else
 (some false)) else
 (some false) : Option Bool).bind fun b10 =>
 some b10
noncomputable def sp55 : Spc := ⟨[], [([.x .b], [])], true, [], fun p => match p with | _ => law11_awake⟩
theorem ok55 : SpcOk prog 12 sp55 := spc_ok mixed glbok (sig := sig) (np := 0) (an := [(9, { j := some { vs := [(0, .x .b)] } })]) (.cons ok9 (.cons ok14 (.cons ok46 (.cons ok54 (.cons ok50 .nil))))) (by kernel_rfl) (by kernel_rfl)
/- turnout/turnoutref09.Same -/
/- turnout/turnoutref10.Same -/
/- turnout/turnoutref10.Rules -/
/- turnout/turnoutlaw11.TableNone -/
/- turnout/turnoutref07.Right -/
noncomputable def ref07_Right_L1 (p_0 : Arr 4 Int) : Int → Option (Int ⊕ (Bool ⊕ Unit)) := fun i2 =>
 bif decide (i2 < 4) then (((ixI i2 4).bind fun n3 =>
 bif decide ((gt p_0.1 n3) < 0) then (some true) else
 ((ixI i2 4).bind fun n4 =>
 (ref07_Top i2).bind fun r5 =>
 some (decide ((gt p_0.1 n4) > r5))) : Option Bool).bind fun b6 =>
 bif b6 then (some (.inr (.inl false))) else
 (some (.inl (wr .i64 (i2 + 1))))) else
 (some (.inr (.inr ())))
noncomputable def ref07_Right (p_0 : Arr 4 Int) : Option Bool :=
 (loopO (ref07_Right_L1 p_0) 0).bind fun
 | .inl b7 => (some b7)
 | .inr _ => (some true)
noncomputable def sp60 : Spc := ⟨[(false, .x (.ar 4 (.i .i64)))], [([.x .b], [])], true, [], fun p => match p with | p_0 => ref07_Right p_0⟩
theorem ok60 : SpcOk prog 16 sp60 := spc_ok mixed glbok (sig := sig) (np := 1) (an := [(5, { j := some { vs := [(3, .x (.i .i64))] }, e := [(.ret, { vs := [(2, .x .b)] }), (.exit 0, {})] }), (11, { j := some { vs := [(19, .x .b)] } })]) (.cons ok1 .nil) (by kernel_rfl) (by kernel_rfl)
/- turnout/turnoutref08.Hits -/
noncomputable def ref08_Hits_L1 (m_0 : api_Match) (p_2 : Arr 4 Int) (i2 : Int) : Int → Option (Int ⊕ (Bool ⊕ Unit)) := fun i4 =>
 bif decide (i4 < 8) then (((ixI i2 4).bind fun n5 =>
 (ref08_Bit (gt ((api_Match.Mask m_0).1) n5) i4).bind fun r6 =>
 bif (r6 == 1) then ((ixI i2 4).bind fun n7 =>
 (ref08_Bit (gt ((api_Match.Val m_0).1) n7) i4).bind fun r8 =>
 (ixI i2 4).bind fun n9 =>
 (ref08_Bit (gt p_2.1 n9) i4).bind fun r10 =>
 some (r8 != r10)) else
 (some false) : Option Bool).bind fun b11 =>
 bif b11 then (some (.inr (.inl false))) else
 (some (.inl (wr .i64 (i4 + 1))))) else
 (some (.inr (.inr ())))
noncomputable def ref08_Hits_L2 (m_0 : api_Match) (p_2 : Arr 4 Int) : Int → Option (Int ⊕ (Bool ⊕ Unit)) := fun i2 =>
 bif decide (i2 < 4) then ((loopO (ref08_Hits_L1 m_0 p_2 i2) 0).bind fun
 | .inl b12 => (some (.inr (.inl b12)))
 | .inr _ => (some (.inl (wr .i64 (i2 + 1))))) else
 (some (.inr (.inr ())))
noncomputable def ref08_Hits (m_0 : api_Match) (port_1 : Int) (p_2 : Arr 4 Int) : Option Bool :=
 bif (((api_Match.Port m_0) != (-1)) && ((api_Match.Port m_0) != port_1)) then (some false) else
 ((loopO (ref08_Hits_L2 m_0 p_2) 0).bind fun
 | .inl b13 => (some b13)
 | .inr _ => (some true))
noncomputable def sp61 : Spc := ⟨[(false, .x y1), (false, .x (.i .i64)), (false, .x (.ar 4 (.i .i64)))], [([.x .b], [])], true, [], fun p => match p with | (m_0, port_1, p_2) => ref08_Hits m_0 port_1 p_2⟩
theorem ok61 : SpcOk prog 62 sp61 := spc_ok mixed glbok (sig := sig) (np := 3) (an := [(10, { j := some { vs := [(7, .x (.i .i64))] }, e := [(.ret, { vs := [(6, .x .b)] }), (.exit 0, {})] }), (17, { j := some { vs := [(8, .x (.i .i64))] }, e := [(.ret, { vs := [(6, .x .b)] }), (.exit 2, {})] }), (23, { j := some { vs := [(46, .x .b)] } })]) (.cons ok2 .nil) (by kernel_rfl) (by kernel_rfl)
/- turnout/turnoutref11.Find -/
noncomputable def ref11_Find_L1 (t_0 : Sl api_Rule) (port_1 : Int) (p_2 : Arr 4 Int) : Int → Option (Int ⊕ (Int ⊕ Unit)) := fun i2 =>
 bif decide (i2 < (t_0.l.length : Int)) then ((ixI i2 t_0.l.length).bind fun n3 =>
 (ref08_Hits (api_Rule.M (gt t_0.l n3)) port_1 p_2).bind fun r4 =>
 bif r4 then (some (.inr (.inl i2))) else
 (some (.inl (wr .i64 (i2 + 1))))) else
 (some (.inr (.inr ())))
noncomputable def ref11_Find (t_0 : Sl api_Rule) (port_1 : Int) (p_2 : Arr 4 Int) : Option Int :=
 (loopO (ref11_Find_L1 t_0 port_1 p_2) 0).bind fun
 | .inl i5 => (some i5)
 | .inr _ => (some (-1))
noncomputable def sp62 : Spc := ⟨[(false, .x (.sl y0)), (false, .x (.i .i64)), (false, .x (.ar 4 (.i .i64)))], [([.x (.i .i64)], [])], true, [], fun p => match p with | (t_0, port_1, p_2) => ref11_Find t_0 port_1 p_2⟩
theorem ok62 : SpcOk prog 19 sp62 := spc_ok mixed glbok (sig := sig) (np := 3) (an := [(5, { j := some { vs := [(7, .x (.i .i64))] }, e := [(.ret, { vs := [(6, .x (.i .i64))] }), (.exit 0, {})] })]) (.cons ok61 .nil) (by kernel_rfl) (by kernel_rfl)
/- turnout/turnoutref07.With -/
noncomputable def ref07_With (p_0 : Arr 4 Int) (f_1 : Int) (v_2 : Int) : Option (Arr 4 Int) :=
 ((bif (((decide (f_1 ≥ 0)) && (decide (f_1 < 4))) && (decide (v_2 ≥ 0))) then ((ref07_Top f_1).bind fun r1 =>
 some (decide (v_2 ≤ r1))) else
 (some false) : Option Bool).bind fun b2 =>
 bif b2 then ((ixI f_1 4).bind fun n3 =>
 some (Arr.set p_0 n3 v_2)) else
 (some p_0) : Option (Arr 4 Int)).bind fun v4 =>
 some v4
noncomputable def sp63 : Spc := ⟨[(false, .x (.ar 4 (.i .i64))), (false, .x (.i .i64)), (false, .x (.i .i64))], [([.x (.ar 4 (.i .i64))], [])], true, [], fun p => match p with | (p_0, f_1, v_2) => ref07_With p_0 f_1 v_2⟩
theorem ok63 : SpcOk prog 64 sp63 := spc_ok mixed glbok (sig := sig) (np := 3) (an := [(2, { e := [(.normal, { vs := [(3, .op 0 (.ar 4 (.i .i64)) [])], os := [.bx (.ar 4 (.i .i64)) (.x (.ar 4 (.i .i64)))], kl := [0] })] }), (4, { j := some { vs := [(22, .x .b)] } })]) (.cons ok1 .nil) (by kernel_rfl) (by kernel_rfl)
/- turnout/turnoutref09.Run -/
noncomputable def ref09_Run_L1 (l_0 : Sl api_Act) (p_1 : Arr 4 Int) : (Int × Arr 4 Int × Sl api_Sent) → Option ((Int × Arr 4 Int × Sl api_Sent) ⊕ (Sl api_Sent)) := fun (i5, v6, s7) =>
 bif decide (i5 < (l_0.l.length : Int)) then ((((ixI i5 l_0.l.length).bind fun n8 =>
 bif ((api_Act.Kind (gt l_0.l n8)) == 3) then (some p_1) else
 (some v6) : Option (Arr 4 Int)).bind fun v9 =>
 ((ixI i5 l_0.l.length).bind fun n10 =>
 bif ((api_Act.Kind (gt l_0.l n10)) == 1) then ((ixI i5 l_0.l.length).bind fun n11 =>
 (ixI i5 l_0.l.length).bind fun n12 =>
 (ref07_With v9 (api_Act.F (gt l_0.l n11)) (api_Act.V (gt l_0.l n12))).bind fun r13 =>
 some r13) else
 (some v9) : Option (Arr 4 Int)).bind fun v14 =>
 (ixI i5 l_0.l.length).bind fun n15 =>
 bif ((api_Act.Kind (gt l_0.l n15)) == 2) then ((ixI i5 l_0.l.length).bind fun n16 =>
 (capI (s7.l ++ [(⟨api_Act.V (gt l_0.l n16), v14⟩ : api_Sent)])).bind fun l17 =>
 some (v14, (Sl.mk l17))) else
 (some (v14, s7)) : Option (Arr 4 Int × Sl api_Sent)).bind fun (v18, s19) =>
 some (.inl (wr .i64 (i5 + 1), v18, s19))) else
 (some (.inr s7))
noncomputable def ref09_Run (l_0 : Sl api_Act) (p_1 : Arr 4 Int) : Option (Sl api_Sent) :=
 (loopO (ref09_Run_L1 l_0 p_1) (0, p_1, Sl.nil)).bind fun s20 =>
 some s20
noncomputable def sp64 : Spc := ⟨[(false, .x (.sl y2)), (false, .x (.ar 4 (.i .i64)))], [([.x (.sl y4)], [])], false, [], fun p => match p with | (l_0, p_1) => ref09_Run l_0 p_1⟩
theorem ok64 : SpcOk prog 24 sp64 := spc_ok mixed glbok (sig := sig) (np := 2) (an := [(9, { j := some { vs := [(3, .op 0 (.ar 4 (.i .i64)) []), (5, .so 1), (7, .x (.i .i64))], os := [.bx (.ar 4 (.i .i64)) (.x (.ar 4 (.i .i64))), .ar y4], kl := [0] }, e := [(.exit 0, { vs := [(5, .so 0)], os := [.ar y4], kl := [0] })] }), (13, { e := [(.normal, { vs := [(3, .op 0 (.ar 4 (.i .i64)) []), (5, .so 1)], os := [.bx (.ar 4 (.i .i64)) (.x (.ar 4 (.i .i64))), .ar y4], kl := [2, 3] })] }), (14, { e := [(.normal, { vs := [(3, .op 0 (.ar 4 (.i .i64)) [])], os := [.bx (.ar 4 (.i .i64)) (.x (.ar 4 (.i .i64)))], kl := [2] })] }), (18, { e := [(.normal, { vs := [(3, .op 0 (.ar 4 (.i .i64)) [])], os := [.bx (.ar 4 (.i .i64)) (.x (.ar 4 (.i .i64)))], kl := [4] })] })]) (.cons ok63 .nil) (by kernel_rfl) (by kernel_rfl)
/- turnout/turnoutref11.Run -/
noncomputable def ref11_Run (t_0 : Sl api_Rule) (port_1 : Int) (p_2 : Arr 4 Int) : Option (Sl api_Sent) :=
 (ref11_Find t_0 port_1 p_2).bind fun r1 =>
 bif (r1 == (-1)) then (some Sl.nil) else
 ((ixI r1 t_0.l.length).bind fun n2 =>
 (ref09_Run (api_Rule.Acts (gt t_0.l n2)) p_2).bind fun r3 =>
 some r3)
noncomputable def sp65 : Spc := ⟨[(false, .x (.sl y0)), (false, .x (.i .i64)), (false, .x (.ar 4 (.i .i64)))], [([.x (.sl y4)], [])], false, [], fun p => match p with | (t_0, port_1, p_2) => ref11_Run t_0 port_1 p_2⟩
theorem ok65 : SpcOk prog 23 sp65 := spc_ok mixed glbok (sig := sig) (np := 3) (an := []) (.cons ok62 (.cons ok64 .nil)) (by kernel_rfl) (by kernel_rfl)
/- turnout/turnoutref09.Sent -/
noncomputable def ref09_Sent_L1 (a_0 : Sl api_Sent) (b_1 : Sl api_Sent) : Int → Option (Int ⊕ (Bool ⊕ Unit)) := fun i2 =>
 bif decide (i2 < (a_0.l.length : Int)) then ((ixI i2 a_0.l.length).bind fun n3 =>
 (ixI i2 b_1.l.length).bind fun n4 =>
 bif (!(decide ((gt a_0.l n3) = (gt b_1.l n4)))) then (some (.inr (.inl false))) else
 (some (.inl (wr .i64 (i2 + 1))))) else
 (some (.inr (.inr ())))
noncomputable def ref09_Sent (a_0 : Sl api_Sent) (b_1 : Sl api_Sent) : Option Bool :=
 bif ((a_0.l.length : Int) != (b_1.l.length : Int)) then (some false) else
 ((loopO (ref09_Sent_L1 a_0 b_1) 0).bind fun
 | .inl b5 => (some b5)
 | .inr _ => (some true))
noncomputable def sp66 : Spc := ⟨[(false, .x (.sl y4)), (false, .x (.sl y4))], [([.x .b], [])], true, [], fun p => match p with | (a_0, b_1) => ref09_Sent a_0 b_1⟩
theorem ok66 : SpcOk prog 21 sp66 := spc_ok mixed glbok (sig := sig) (np := 2) (an := [(10, { j := some { vs := [(5, .x (.i .i64))] }, e := [(.ret, { vs := [(4, .x .b)] }), (.exit 0, {})] })]) .nil (by kernel_rfl) (by kernel_rfl)
/- turnout/turnoutlaw11.TableBack -/
/- turnout/turnoutlaw11.TableFirst -/
/- turnout/turnoutref08.Meet -/
/- turnout/turnoutref10.Overlaps -/
/- turnout/turnoutref08.Within -/
/- turnout/turnoutref11.with -/
/- turnout/turnoutref11.changed -/
/- turnout/turnoutref11.added -/
/- turnout/turnoutref11.add -/
/- turnout/turnoutref11.Apply -/
/- turnout/table.Right -/
noncomputable def table_Right_L1 (t_0 : Sl api_Rule) (ports_1 : Int) : Int → Option (Int ⊕ (Bool ⊕ Unit)) := fun i2 =>
 bif decide (i2 < (t_0.l.length : Int)) then ((ixI i2 t_0.l.length).bind fun n3 =>
 ((rule_Right (gt t_0.l n3) ports_1).bind fun r4 =>
 bif (!r4) then (some true) else
 (bif decide (i2 > 0) then ((ixI (wr .i64 (i2 - 1)) t_0.l.length).bind fun n5 =>
 (rule_Ahead (gt t_0.l n3) (gt t_0.l n5)).bind fun r6 =>
 some r6) else
 (some false)) : Option Bool).bind fun b7 =>
 bif b7 then (some (.inr (.inl false))) else
 ((cutI t_0.l 0 i2).bind fun l8 =>
 (table_key (t_0.to l8) (gt t_0.l n3)).bind fun r9 =>
 bif decide (r9 ≥ 0) then (some (.inr (.inl false))) else
 (some (.inl (wr .i64 (i2 + 1)))))) else
 (some (.inr (.inr ())))
noncomputable def table_Right (t_0 : Sl api_Rule) (ports_1 : Int) (room_2 : Int) : Option Bool :=
 bif decide ((t_0.l.length : Int) > room_2) then (some false) else
 ((loopO (table_Right_L1 t_0 ports_1) 0).bind fun
 | .inl b10 => (some b10)
 | .inr _ => (some true))
noncomputable def sp77 : Spc := ⟨[(false, .x (.sl y0)), (false, .x (.i .i64)), (false, .x (.i .i64))], [([.x .b], [])], true, [], fun p => match p with | (t_0, ports_1, room_2) => table_Right t_0 ports_1 room_2⟩
theorem ok77 : SpcOk prog 27 sp77 := spc_ok mixed glbok (sig := sig) (np := 3) (an := [(10, { j := some { vs := [(15, .x (.i .i64))] }, e := [(.ret, { vs := [(6, .x .b)] }), (.exit 0, {})] }), (19, { j := some { vs := [(36, .x .b)] } })]) (.cons ok21 (.cons ok33 (.cons ok30 .nil))) (by kernel_rfl) (by kernel_rfl)
/- turnout/turnoutref11.Mods -/
/- turnout/turnoutlaw11.TableChanges -/
/- slices.Equal[[]turnout/api.Act,turnout/api.Act] -/
noncomputable def slices_Equal_api_Act_api_Act_L1 (s1_0 : Sl api_Act) (s2_1 : Sl api_Act) : Int → Option (Int ⊕ (Bool ⊕ Unit)) := fun i2 =>
 bif decide (i2 < (s1_0.l.length : Int)) then ((ixI i2 s1_0.l.length).bind fun n3 =>
 (ixI i2 s2_1.l.length).bind fun n4 =>
 bif (!(decide ((gt s1_0.l n3) = (gt s2_1.l n4)))) then (some (.inr (.inl false))) else
 (some (.inl (wr .i64 (i2 + 1))))) else
 (some (.inr (.inr ())))
noncomputable def slices_Equal_api_Act_api_Act (s1_0 : Sl api_Act) (s2_1 : Sl api_Act) : Option Bool :=
 bif ((s1_0.l.length : Int) != (s2_1.l.length : Int)) then (some false) else
 ((loopO (slices_Equal_api_Act_api_Act_L1 s1_0 s2_1) 0).bind fun
 | .inl b5 => (some b5)
 | .inr _ => (some true))
noncomputable def sp80 : Spc := ⟨[(false, .x (.sl y2)), (false, .x (.sl y2))], [([.x .b], [])], true, [], fun p => match p with | (s1_0, s2_1) => slices_Equal_api_Act_api_Act s1_0 s2_1⟩
theorem ok80 : SpcOk prog 104 sp80 := spc_ok mixed glbok (sig := sig) (np := 2) (an := [(10, { j := some { vs := [(13, .x (.i .i64))] }, e := [(.ret, { vs := [(4, .x .b)] }), (.exit 0, {})] })]) .nil (by kernel_rfl) (by kernel_rfl)
/- turnout/act.Same -/
noncomputable def act_Same (a_0 : Sl api_Act) (b_1 : Sl api_Act) : Option Bool :=
 (slices_Equal_api_Act_api_Act a_0 b_1).bind fun r1 =>
 some r1
noncomputable def sp81 : Spc := ⟨[(false, .x (.sl y2)), (false, .x (.sl y2))], [([.x .b], [])], true, [], fun p => match p with | (a_0, b_1) => act_Same a_0 b_1⟩
theorem ok81 : SpcOk prog 94 sp81 := spc_ok mixed glbok (sig := sig) (np := 2) (an := []) (.cons ok80 .nil) (by kernel_rfl) (by kernel_rfl)
/- turnout/rule.Same -/
noncomputable def rule_Same (a_0 : api_Rule) (b_1 : api_Rule) : Option Bool :=
 ((rule_Key a_0 b_1).bind fun r1 =>
 bif r1 then ((act_Same (api_Rule.Acts a_0) (api_Rule.Acts b_1)).bind fun r2 =>
 some r2) else
 (some false) : Option Bool).bind fun b3 =>
 some b3
noncomputable def sp82 : Spc := ⟨[(false, .x y0), (false, .x y0)], [([.x .b], [])], true, [], fun p => match p with | (a_0, b_1) => rule_Same a_0 b_1⟩
theorem ok82 : SpcOk prog 72 sp82 := spc_ok mixed glbok (sig := sig) (np := 2) (an := [(3, { j := some { vs := [(4, .x .b)] } })]) (.cons ok27 (.cons ok81 .nil)) (by kernel_rfl) (by kernel_rfl)
/- slices.EqualFunc[[]turnout/api.Rule,[]turnout/api.Rule,turnout/api.Rule,turnout/api.Rule] -/
noncomputable def slices_EqualFunc_api_Rule_api_Rule_api_Rule_api_Rule_rule_Same_L1 (s1_0 : Sl api_Rule) (s2_1 : Sl api_Rule) : Int → Option (Int ⊕ (Bool ⊕ Unit)) := fun i2 =>
 bif decide (i2 < (s1_0.l.length : Int)) then ((ixI i2 s1_0.l.length).bind fun n3 =>
 (ixI i2 s2_1.l.length).bind fun n4 =>
 (rule_Same (gt s1_0.l n3) (gt s2_1.l n4)).bind fun r5 =>
 bif (!r5) then (some (.inr (.inl false))) else
 (some (.inl (wr .i64 (i2 + 1))))) else
 (some (.inr (.inr ())))
noncomputable def slices_EqualFunc_api_Rule_api_Rule_api_Rule_api_Rule_rule_Same (s1_0 : Sl api_Rule) (s2_1 : Sl api_Rule) : Option Bool :=
 bif ((s1_0.l.length : Int) != (s2_1.l.length : Int)) then (some false) else
 ((loopO (slices_EqualFunc_api_Rule_api_Rule_api_Rule_api_Rule_rule_Same_L1 s1_0 s2_1) 0).bind fun
 | .inl b6 => (some b6)
 | .inr _ => (some true))
noncomputable def sp83 : Spc := ⟨[(false, .x (.sl y0)), (false, .x (.sl y0)), (false, .fn 72 .ni)], [([.x .b], [])], true, [], fun p => match p with | (s1_0, s2_1) => slices_EqualFunc_api_Rule_api_Rule_api_Rule_api_Rule_rule_Same s1_0 s2_1⟩
theorem ok83 : SpcOk prog 71 sp83 := spc_ok mixed glbok (sig := sig) (np := 3) (an := [(10, { j := some { vs := [(17, .x (.i .i64))] }, e := [(.ret, { vs := [(6, .x .b)] }), (.exit 0, {})] })]) (.cons ok82 .nil) (by kernel_rfl) (by kernel_rfl)
/- turnout/table.Same -/
noncomputable def table_Same (a_0 : Sl api_Rule) (b_1 : Sl api_Rule) : Option Bool :=
 (slices_EqualFunc_api_Rule_api_Rule_api_Rule_api_Rule_rule_Same a_0 b_1).bind fun r1 =>
 some r1
noncomputable def sp84 : Spc := ⟨[(false, .x (.sl y0)), (false, .x (.sl y0))], [([.x .b], [])], true, [], fun p => match p with | (a_0, b_1) => table_Same a_0 b_1⟩
theorem ok84 : SpcOk prog 29 sp84 := spc_ok mixed glbok (sig := sig) (np := 2) (an := []) (.cons ok83 .nil) (by kernel_rfl) (by kernel_rfl)
/- turnout/turnoutlaw11.TableTells -/
noncomputable def law11_TableTells (t_0 : Sl api_Rule) (ports_1 : Int) (room_2 : Int) (port_3 : Int) (p_4 : Arr 4 Int) : Option Bool :=
 (law11_small t_0).bind fun r1 =>
 bif (!r1) then ((law11_awake).bind fun r2 =>
 some r2) else
 (((table_Right t_0 ports_1 room_2).bind fun r3 =>
 (ref11_Right t_0 ports_1 room_2).bind fun r4 =>
 bif (!(r3 == r4)) then (some true) else
 ((table_Same t_0 t_0).bind fun r5 =>
 some (!r5)) : Option Bool).bind fun b6 =>
 bif b6 then (some false) else
 (((ref11_Right t_0 ports_1 room_2).bind fun r7 =>
 bif (!r7) then (some true) else
 ((ref07_Right p_4).bind fun r8 =>
 some (!r8)) : Option Bool).bind fun b9 =>
 bif b9 then ((law11_awake).bind fun r10 =>
 some r10) else
 (((table_Find t_0 port_3 p_4).bind fun r11 =>
 (ref11_Find t_0 port_3 p_4).bind fun r12 =>
 bif (r11 == r12) then ((table_Run t_0 port_3 p_4).bind fun r13 =>
 (ref11_Run t_0 port_3 p_4).bind fun r14 =>
 (ref09_Sent r13 r14).bind fun r15 =>
 bif r15 then ((law11_awake).bind fun r16 =>
 some r16) else
 (some false)) else
 (some false) : Option Bool).bind fun b17 =>
 some b17)))
noncomputable def sp85 : Spc := ⟨[(false, .x (.sl y0)), (false, .x (.i .i64)), (false, .x (.i .i64)), (false, .x (.i .i64)), (false, .x (.ar 4 (.i .i64)))], [([.x .b], [])], true, [], fun p => match p with | (t_0, ports_1, room_2, port_3, p_4) => law11_TableTells t_0 ports_1 room_2 port_3 p_4⟩
theorem ok85 : SpcOk prog 7 sp85 := spc_ok mixed glbok (sig := sig) (np := 5) (an := [(9, { j := some { vs := [(29, .x .b)] } }), (14, { j := some { vs := [(39, .x .b)] } }), (18, { j := some { vs := [(10, .x .b)] } })]) (.cons ok0 (.cons ok55 (.cons ok77 (.cons ok8 (.cons ok84 (.cons ok60 (.cons ok50 (.cons ok62 (.cons ok54 (.cons ok65 (.cons ok66 .nil))))))))))) (by kernel_rfl) (by kernel_rfl)
/- turnout/bundle.New -/
/- (*turnout/bundle.Bundle).State -/
/- turnout/bundle.same -/
/- (*turnout/bundle.Bundle).Add -/
/- (*turnout/bundle.Bundle).Close -/
/- (*turnout/bundle.Bundle).Mods -/
/- turnout/turnoutref12.Same -/
/- turnout/turnoutlaw12.awake -/
/- (*turnout/turnoutref12.Bundle).Has -/
/- (*turnout/turnoutref12.Bundle).Add -/
/- (*turnout/turnoutref12.Bundle).Close -/
/- (*turnout/bundle.Bundle).Check -/
/- (*turnout/turnoutref12.Bundle).Mods -/
/- (*turnout/turnoutref12.Bundle).Check -/
/- (*turnout/bundle.Bundle).Discard -/
/- (*turnout/bundle.Bundle).Commit -/
/- (*turnout/turnoutref12.Bundle).Commit -/
/- turnout/turnoutref12.Mods -/
/- turnout/turnoutlaw12.BundlePlays -/
/- turnout/turnoutlaw12.BundleOrder -/
end Go.Proofs.Ytmeemkllagjnmaa.B
