/- What functions of the program compute, and that the model's run computes it. Conditions: as stated. -/
import Derived.Test.YtmeemkllagjnmaaKm
import Derived.Test.YtmeemkllagjnmaaChecked
import Derived.KernelRfl
open Go.Ev Go
namespace Go.Proofs.Ytmeemkllagjnmaa.B
noncomputable abbrev prog : Program := Try.prog
theorem mixed : prog.follows .mixedOrders = true := by kernel_rfl
theorem glbok : GlbOk := que fun _ => rfl
def sig : Sig := fun f =>
 if f = 2 then (true, []) else if f = 3 then (true, []) else if f = 4 then (true, []) else if f = 5 then (true, []) else if f = 6 then (true, []) else if f = 7 then (true, []) else if f = 8 then (true, []) else if f = 9 then (true, []) else if f = 10 then (true, []) else if f = 11 then (true, []) else if f = 12 then (true, []) else if f = 14 then (true, []) else if f = 15 then (true, []) else if f = 16 then (true, []) else if f = 17 then (true, []) else if f = 19 then (true, []) else if f = 20 then (true, []) else if f = 21 then (true, []) else if f = 25 then (true, []) else if f = 27 then (true, []) else if f = 29 then (true, []) else if f = 30 then (true, []) else if f = 32 then (false, [true, false, false]) else if f = 33 then (false, [true, false, false]) else if f = 34 then (false, [true, false]) else if f = 35 then (false, [true, false]) else if f = 36 then (false, [true, false, false, false]) else if f = 37 then (false, [true, false, false, false]) else if f = 38 then (false, [true, false, false, false]) else if f = 39 then (false, [true, false, false, false]) else if f = 40 then (false, [true]) else if f = 41 then (true, []) else if f = 42 then (true, []) else if f = 43 then (false, [true]) else if f = 44 then (false, [true]) else if f = 45 then (true, []) else if f = 46 then (true, []) else if f = 48 then (true, []) else if f = 49 then (true, []) else if f = 50 then (true, []) else if f = 51 then (true, []) else if f = 52 then (true, []) else if f = 55 then (false, [true, false]) else if f = 57 then (true, []) else if f = 58 then (true, []) else if f = 59 then (true, []) else if f = 61 then (false, [true, false, false]) else if f = 62 then (true, []) else if f = 64 then (true, []) else if f = 65 then (true, []) else if f = 66 then (true, []) else if f = 69 then (true, []) else if f = 70 then (true, []) else if f = 71 then (true, []) else if f = 72 then (true, []) else if f = 73 then (true, []) else if f = 74 then (true, []) else if f = 75 then (false, [true, false]) else if f = 77 then (true, []) else if f = 78 then (true, []) else if f = 79 then (true, []) else if f = 80 then (true, []) else if f = 81 then (true, []) else if f = 82 then (true, []) else if f = 83 then (true, []) else if f = 84 then (true, []) else if f = 85 then (true, []) else if f = 86 then (false, [true, false, true]) else if f = 87 then (true, []) else if f = 88 then (true, []) else if f = 89 then (true, []) else if f = 91 then (true, []) else if f = 93 then (true, []) else if f = 94 then (true, []) else if f = 95 then (true, []) else if f = 96 then (true, []) else if f = 97 then (true, []) else if f = 98 then (true, []) else if f = 99 then (true, []) else if f = 100 then (false, [false, false, false, false, false, false, false, false, false]) else if f = 101 then (false, [true, false]) else if f = 102 then (true, []) else if f = 103 then (true, []) else if f = 104 then (true, []) else if f = 105 then (true, []) else if f = 106 then (true, []) else if f = 107 then (false, [true, false]) else if f = 108 then (false, [true]) else (false, [])
@[reducible] def api_Match : Type := Int × Arr 4 Int × Arr 4 Int
@[reducible] def api_Match.Port (x : api_Match) : Int := x.1
@[reducible] def api_Match.Val (x : api_Match) : Arr 4 Int := x.2.1
@[reducible] def api_Match.Mask (x : api_Match) : Arr 4 Int := x.2.2
@[reducible] def api_Act : Type := Int × Int × Int
@[reducible] def api_Act.Kind (x : api_Act) : Int := x.1
@[reducible] def api_Act.F (x : api_Act) : Int := x.2.1
@[reducible] def api_Act.V (x : api_Act) : Int := x.2.2
@[reducible] def api_Rule : Type := Int × api_Match × Sl api_Act
@[reducible] def api_Rule.Prio (x : api_Rule) : Int := x.1
@[reducible] def api_Rule.M (x : api_Rule) : api_Match := x.2.1
@[reducible] def api_Rule.Acts (x : api_Rule) : Sl api_Act := x.2.2
@[reducible] def api_Mod : Type := Int × api_Rule × Bool
@[reducible] def api_Mod.Kind (x : api_Mod) : Int := x.1
@[reducible] def api_Mod.R (x : api_Mod) : api_Rule := x.2.1
@[reducible] def api_Mod.Check (x : api_Mod) : Bool := x.2.2
@[reducible] def y1 : Ty := .st (.pr (.i .i64) (.pr (.ar 4 (.i .i64)) (.ar 4 (.i .i64))))
@[reducible] def y2 : Ty := .st (.pr (.i .i64) (.pr (.i .i64) (.i .i64)))
@[reducible] def y0 : Ty := .st (.pr (.i .i64) (.pr y1 (.sl y2)))
@[reducible] def y3 : Ty := .st (.pr (.i .i64) (.pr y0 .b))
@[reducible] def law12_Deed : Type := Int × Int × api_Mod
@[reducible] def law12_Deed.Kind (x : law12_Deed) : Int := x.1
@[reducible] def law12_Deed.I (x : law12_Deed) : Int := x.2.1
@[reducible] def law12_Deed.M (x : law12_Deed) : api_Mod := x.2.2
@[reducible] def bundle_Bundle : Type := Int × Arr 16 Bool × Arr 16 api_Mod × Int
@[reducible] def bundle_Bundle.state (x : bundle_Bundle) : Int := x.1
@[reducible] def bundle_Bundle.has (x : bundle_Bundle) : Arr 16 Bool := x.2.1
@[reducible] def bundle_Bundle.l (x : bundle_Bundle) : Arr 16 api_Mod := x.2.2.1
@[reducible] def bundle_Bundle.n (x : bundle_Bundle) : Int := x.2.2.2
@[reducible] def y5 : Ty := .st (.pr (.i .i64) (.pr (.ar 16 .b) (.pr (.ar 16 y3) (.i .i64))))
@[reducible] def ref12_Item : Type := Int × api_Mod
@[reducible] def ref12_Item.I (x : ref12_Item) : Int := x.1
@[reducible] def ref12_Item.M (x : ref12_Item) : api_Mod := x.2
@[reducible] def y7 : Ty := .st (.pr (.i .i64) y3)
@[reducible] def y6 : Ty := .st (.pr (.i .i64) (.pr (.i .i64) (.sl y7)))
@[reducible] def y8 : Ty := .st (.pr (.i .i64) (.pr (.i .i64) y3))
/- turnout/turnoutlaw11.small -/
/- turnout/turnoutref07.Top -/
noncomputable def q7b (f_0 : Int) : Option Int :=
 bif (f_0 == 2) then (some 15) else
 (bif (((f_0 == 0) || (f_0 == 1)) || (f_0 == 3)) then (some 255) else
 (some 0))
noncomputable def sp1 : Spc := ⟨[(false, .x (.i .i64))], [([.x (.i .i64)], [])], true, [], fun p => match p with | f_0 => q7b f_0⟩
theorem ok1 : SpcOk prog 51 sp1 := q07 mixed glbok (sig := sig) (np := 1) (an := []) .nil (by kernel_rfl) (by kernel_rfl)
/- turnout/turnoutref08.Bit -/
noncomputable def q4c (i_1 : Int) : (Int × Int) → Option ((Int × Int) ⊕ Int) := fun (i3, i4) =>
 bif decide (i4 < i_1) then (some (.inl (wr .i64 (i3.tdiv 2), wr .i64 (i4 + 1)))) else
 (some (.inr i3))
noncomputable def q1l (n_0 : Int) (i_1 : Int) : Option Int :=
 (loopO (q4c i_1) (n_0, 0)).bind fun i5 =>
 some (i5.tmod 2)
noncomputable def sp2 : Spc := ⟨[(false, .x (.i .i64)), (false, .x (.i .i64))], [([.x (.i .i64)], [])], true, [], fun p => match p with | (n_0, i_1) => q1l n_0 i_1⟩
theorem ok2 : SpcOk prog 78 sp2 := q07 mixed glbok (sig := sig) (np := 2) (an := [(5, { j := some { vs := [(0, .x (.i .i64)), (5, .x (.i .i64))] }, e := [(.exit 0, { vs := [(0, .x (.i .i64))] })] })]) .nil (by kernel_rfl) (by kernel_rfl)
/- turnout/turnoutref08.Right -/
noncomputable def q5k (m_0 : api_Match) (i2 : Int) : Int → Option (Int ⊕ (Bool ⊕ Unit)) := fun i11 =>
 bif decide (i11 < 8) then ((ixI i2 4).bind fun n12 =>
 (q1l (gt ((api_Match.Val m_0).1) n12) i11).bind fun r13 =>
 (ixI i2 4).bind fun n14 =>
 (q1l (gt ((api_Match.Mask m_0).1) n14) i11).bind fun r15 =>
 bif decide (r13 > r15) then (some (.inr (.inl false))) else
 (some (.inl (wr .i64 (i11 + 1))))) else
 (some (.inr (.inr ())))
noncomputable def q5p (m_0 : api_Match) : Int → Option (Int ⊕ (Bool ⊕ Unit)) := fun i2 =>
 bif decide (i2 < 4) then (((ixI i2 4).bind fun n3 =>
 bif decide ((gt ((api_Match.Mask m_0).1) n3) < 0) then (some true) else
 ((ixI i2 4).bind fun n4 =>
 (q7b i2).bind fun r5 =>
 bif decide ((gt ((api_Match.Mask m_0).1) n4) > r5) then (some true) else
 ((ixI i2 4).bind fun n6 =>
 bif decide ((gt ((api_Match.Val m_0).1) n6) < 0) then (some true) else
 ((ixI i2 4).bind fun n7 =>
 (q7b i2).bind fun r8 =>
 some (decide ((gt ((api_Match.Val m_0).1) n7) > r8))))) : Option Bool).bind fun b9 =>
 bif b9 then (some (.inr (.inl false))) else
 ((loopO (q5k m_0 i2) 0).bind fun
 | .inl b16 => (some (.inr (.inl b16)))
 | .inr _ => (some (.inl (wr .i64 (i2 + 1)))))) else
 (some (.inr (.inr ())))
noncomputable def q6u (m_0 : api_Match) : Option Bool :=
 bif ((decide ((api_Match.Port m_0) < (-1))) || (decide ((api_Match.Port m_0) > 7))) then (some false) else
 ((loopO (q5p m_0) 0).bind fun
 | .inl b17 => (some b17)
 | .inr _ => (some true))
noncomputable def sp3 : Spc := ⟨[(false, .x y1)], [([.x .b], [])], true, [], fun p => match p with | m_0 => q6u m_0⟩
theorem ok3 : SpcOk prog 49 sp3 := q07 mixed glbok (sig := sig) (np := 1) (an := [(10, { j := some { vs := [(3, .x (.i .i64))] }, e := [(.ret, { vs := [(2, .x .b)] }), (.exit 0, {})] }), (17, { j := some { vs := [(46, .x .b)] } }), (22, { j := some { vs := [(4, .x (.i .i64))] }, e := [(.ret, { vs := [(2, .x .b)] }), (.exit 2, {})] })]) (.cons ok1 (.cons ok2 .nil)) (by kernel_rfl) (by kernel_rfl)
/- turnout/turnoutref09.One -/
noncomputable def q8w (a_0 : api_Act) (ports_1 : Int) : Option Bool :=
 bif ((api_Act.Kind a_0) == 1) then ((bif (((decide ((api_Act.F a_0) ≥ 0)) && (decide ((api_Act.F a_0) ≤ 3))) && (decide ((api_Act.V a_0) ≥ 0))) then ((q7b (api_Act.F a_0)).bind fun r1 =>
 some (decide ((api_Act.V a_0) ≤ r1))) else
 (some false) : Option Bool).bind fun b2 =>
 some b2) else
 (bif ((api_Act.Kind a_0) == 3) then (some (((api_Act.F a_0) == 0) && ((api_Act.V a_0) == 0))) else
 (some (((((api_Act.Kind a_0) == 2) && ((api_Act.F a_0) == 0)) && (decide ((api_Act.V a_0) ≥ 0))) && (decide ((api_Act.V a_0) < ports_1)))))
noncomputable def sp4 : Spc := ⟨[(false, .x y2), (false, .x (.i .i64))], [([.x .b], [])], true, [], fun p => match p with | (a_0, ports_1) => q8w a_0 ports_1⟩
theorem ok4 : SpcOk prog 79 sp4 := q07 mixed glbok (sig := sig) (np := 2) (an := [(6, { j := some { vs := [(4, .x .b)] } })]) (.cons ok1 .nil) (by kernel_rfl) (by kernel_rfl)
/- turnout/turnoutref09.Right -/
noncomputable def q46 (l_0 : Sl api_Act) (ports_1 : Int) : Int → Option (Int ⊕ (Bool ⊕ Unit)) := fun i2 =>
 bif decide (i2 < (l_0.l.length : Int)) then ((ixI i2 l_0.l.length).bind fun n3 =>
 (q8w (gt l_0.l n3) ports_1).bind fun r4 =>
 bif (!r4) then (some (.inr (.inl false))) else
 (some (.inl (wr .i64 (i2 + 1))))) else
 (some (.inr (.inr ())))
noncomputable def q6p (l_0 : Sl api_Act) (ports_1 : Int) : Option Bool :=
 (loopO (q46 l_0 ports_1) 0).bind fun
 | .inl b5 => (some b5)
 | .inr _ => (some (decide ((l_0.l.length : Int) ≤ 16)))
noncomputable def sp5 : Spc := ⟨[(false, .x (.sl y2)), (false, .x (.i .i64))], [([.x .b], [])], true, [], fun p => match p with | (l_0, ports_1) => q6p l_0 ports_1⟩
theorem ok5 : SpcOk prog 50 sp5 := q07 mixed glbok (sig := sig) (np := 2) (an := [(5, { j := some { vs := [(5, .x (.i .i64))] }, e := [(.ret, { vs := [(4, .x .b)] }), (.exit 0, {})] })]) (.cons ok4 .nil) (by kernel_rfl) (by kernel_rfl)
/- turnout/turnoutref10.Right -/
noncomputable def q4w (x_0 : api_Rule) (ports_1 : Int) : Option Bool :=
 (bif ((decide ((api_Rule.Prio x_0) ≥ 0)) && (decide ((api_Rule.Prio x_0) ≤ 65535))) then ((q6u (api_Rule.M x_0)).bind fun r1 =>
 bif r1 then ((q6p (api_Rule.Acts x_0) ports_1).bind fun r2 =>
 some r2) else
 (some false)) else
 (some false) : Option Bool).bind fun b3 =>
 some b3
noncomputable def sp6 : Spc := ⟨[(false, .x y0), (false, .x (.i .i64))], [([.x .b], [])], true, [], fun p => match p with | (x_0, ports_1) => q4w x_0 ports_1⟩
theorem ok6 : SpcOk prog 15 sp6 := q07 mixed glbok (sig := sig) (np := 2) (an := [(3, { j := some { vs := [(4, .x .b)] } })]) (.cons ok3 (.cons ok5 .nil)) (by kernel_rfl) (by kernel_rfl)
/- turnout/turnoutref11.key -/
noncomputable def q90 (a_0 : api_Rule) (b_1 : api_Rule) : Option Bool :=
 some (((api_Rule.Prio a_0) == (api_Rule.Prio b_1)) && (decide ((api_Rule.M a_0) = (api_Rule.M b_1))))
noncomputable def sp7 : Spc := ⟨[(false, .x y0), (false, .x y0)], [([.x .b], [])], true, [], fun p => match p with | (a_0, b_1) => q90 a_0 b_1⟩
theorem ok7 : SpcOk prog 45 sp7 := q07 mixed glbok (sig := sig) (np := 2) (an := []) .nil (by kernel_rfl) (by kernel_rfl)
/- turnout/turnoutref11.Right -/
noncomputable def q43 (t_0 : Sl api_Rule) (i2 : Int) : Int → Option (Int ⊕ (Bool ⊕ Unit)) := fun i6 =>
 bif decide (i6 < i2) then (((ixI i6 t_0.l.length).bind fun n7 =>
 (ixI i2 t_0.l.length).bind fun n8 =>
 bif decide ((api_Rule.Prio (gt t_0.l n7)) < (api_Rule.Prio (gt t_0.l n8))) then (some true) else
 ((ixI i6 t_0.l.length).bind fun n9 =>
 (ixI i2 t_0.l.length).bind fun n10 =>
 (q90 (gt t_0.l n9) (gt t_0.l n10)).bind fun r11 =>
 some r11) : Option Bool).bind fun b12 =>
 bif b12 then (some (.inr (.inl false))) else
 (some (.inl (wr .i64 (i6 + 1))))) else
 (some (.inr (.inr ())))
noncomputable def q4a (t_0 : Sl api_Rule) (ports_1 : Int) : Int → Option (Int ⊕ (Bool ⊕ Unit)) := fun i2 =>
 bif decide (i2 < (t_0.l.length : Int)) then ((ixI i2 t_0.l.length).bind fun n3 =>
 (q4w (gt t_0.l n3) ports_1).bind fun r4 =>
 bif (!r4) then (some (.inr (.inl false))) else
 ((loopO (q43 t_0 i2) 0).bind fun
 | .inl b13 => (some (.inr (.inl b13)))
 | .inr _ => (some (.inl (wr .i64 (i2 + 1)))))) else
 (some (.inr (.inr ())))
noncomputable def q6c (t_0 : Sl api_Rule) (ports_1 : Int) (room_2 : Int) : Option Bool :=
 (loopO (q4a t_0 ports_1) 0).bind fun
 | .inl b14 => (some b14)
 | .inr _ => (some (decide ((t_0.l.length : Int) ≤ room_2)))
noncomputable def sp8 : Spc := ⟨[(false, .x (.sl y0)), (false, .x (.i .i64)), (false, .x (.i .i64))], [([.x .b], [])], true, [], fun p => match p with | (t_0, ports_1, room_2) => q6c t_0 ports_1 room_2⟩
theorem ok8 : SpcOk prog 11 sp8 := q07 mixed glbok (sig := sig) (np := 3) (an := [(5, { j := some { vs := [(7, .x (.i .i64))] }, e := [(.ret, { vs := [(6, .x .b)] }), (.exit 0, {})] }), (17, { j := some { vs := [(8, .x (.i .i64))] }, e := [(.ret, { vs := [(6, .x .b)] }), (.exit 2, {})] }), (23, { j := some { vs := [(48, .x .b)] } })]) (.cons ok6 (.cons ok7 .nil)) (by kernel_rfl) (by kernel_rfl)
/- turnout/match.Any -/
noncomputable def q9h : Option api_Match :=
 some (⟨(-1), (zeE (.ar 4 (.i .i64))), (zeE (.ar 4 (.i .i64)))⟩ : api_Match)
noncomputable def sp9 : Spc := ⟨[], [([.x y1], [])], true, [], fun p => match p with | _ => q9h⟩
theorem ok9 : SpcOk prog 46 sp9 := q07 mixed glbok (sig := sig) (np := 0) (an := []) .nil (by kernel_rfl) (by kernel_rfl)
/- turnout/packet.Bits -/
noncomputable def q6k (f_0 : Int) : Option Int :=
 (bif (f_0 == 0) then (some (f_0 == 0)) else
 (bif (f_0 == 1) then (some (f_0 == 1)) else
 (some (f_0 == 3))) : Option Bool).bind fun b1 =>
 bif b1 then (some 8) else
 (bif (f_0 == 2) then (some 4) else
 (some 0))
noncomputable def sp10 : Spc := ⟨[(false, .x (.i .i64))], [([.x (.i .i64)], [])], true, [], fun p => match p with | f_0 => q6k f_0⟩
theorem ok10 : SpcOk prog 105 sp10 := q07 mixed glbok (sig := sig) (np := 1) (an := [(5, { e := [(.normal, { vs := [(4, .x .b)] })] })]) .nil (by kernel_rfl) (by kernel_rfl)
/- turnout/packet.Top -/
noncomputable def q3h (f_0 : Int) : Option Int :=
 (q6k f_0).bind fun r1 =>
 (shlI .i64 1 r1).bind fun i2 =>
 some (wr .i64 (i2 - 1))
noncomputable def sp11 : Spc := ⟨[(false, .x (.i .i64))], [([.x (.i .i64)], [])], true, [], fun p => match p with | f_0 => q3h f_0⟩
theorem ok11 : SpcOk prog 96 sp11 := q07 mixed glbok (sig := sig) (np := 1) (an := []) (.cons ok10 .nil) (by kernel_rfl) (by kernel_rfl)
/- turnout/match.Of -/
noncomputable def qas (f_0 : Int) (v_1 : Int) : Option api_Match :=
 (q9h).bind fun r1 =>
 ((bif (((decide (f_0 ≥ 0)) && (decide (f_0 < 4))) && (decide (v_1 ≥ 0))) then ((q3h f_0).bind fun r2 =>
 some (decide (v_1 ≤ r2))) else
 (some false) : Option Bool).bind fun b3 =>
 bif b3 then ((q3h f_0).bind fun r4 =>
 (ixI f_0 4).bind fun n5 =>
 (ixI f_0 4).bind fun n6 =>
 some (⟨api_Match.Port r1, Arr.set (api_Match.Val r1) n5 v_1, Arr.set (api_Match.Mask r1) n6 r4⟩ : api_Match)) else
 (some r1) : Option api_Match).bind fun x7 =>
 some x7
noncomputable def sp12 : Spc := ⟨[(false, .x (.i .i64)), (false, .x (.i .i64))], [([.x y1], [])], true, [], fun p => match p with | (f_0, v_1) => qas f_0 v_1⟩
theorem ok12 : SpcOk prog 95 sp12 := q07 mixed glbok (sig := sig) (np := 2) (an := [(4, { e := [(.normal, { vs := [(5, .op 0 y1 [])], os := [.bx y1 (.x y1)], kl := [10] })] }), (6, { j := some { vs := [(22, .x .b)] } })]) (.cons ok9 (.cons ok11 .nil)) (by kernel_rfl) (by kernel_rfl)
/- turnout/rule.Drop -/
noncomputable def q98 (f_0 : Int) (v_1 : Int) (prio_2 : Int) : Option api_Rule :=
 (qas f_0 v_1).bind fun r1 =>
 some (⟨prio_2, r1, Sl.nil⟩ : api_Rule)
noncomputable def sp13 : Spc := ⟨[(false, .x (.i .i64)), (false, .x (.i .i64)), (false, .x (.i .i64))], [([.x y0], [])], false, [], fun p => match p with | (f_0, v_1, prio_2) => q98 f_0 v_1 prio_2⟩
theorem ok13 : SpcOk prog 76 sp13 := q07 mixed glbok (sig := sig) (np := 3) (an := []) (.cons ok12 .nil) (by kernel_rfl) (by kernel_rfl)
/- turnout/rule.Plain -/
noncomputable def q5s (f_0 : Int) (v_1 : Int) (prio_2 : Int) (port_3 : Int) : Option api_Rule :=
 (q98 f_0 v_1 prio_2).bind fun r1 =>
 some (⟨api_Rule.Prio r1, api_Rule.M r1, (Sl.mk [(⟨2, 0, port_3⟩ : api_Act)])⟩ : api_Rule)
noncomputable def sp14 : Spc := ⟨[(false, .x (.i .i64)), (false, .x (.i .i64)), (false, .x (.i .i64)), (false, .x (.i .i64))], [([.x y0], [])], false, [], fun p => match p with | (f_0, v_1, prio_2, port_3) => q5s f_0 v_1 prio_2 port_3⟩
theorem ok14 : SpcOk prog 47 sp14 := q07 mixed glbok (sig := sig) (np := 4) (an := []) (.cons ok13 .nil) (by kernel_rfl) (by kernel_rfl)
/- turnout/match.Right -/
noncomputable def q5l (m_0 : api_Match) : Int → Option (Int ⊕ (Bool ⊕ Unit)) := fun i2 =>
 bif decide (i2 < 4) then ((ixI i2 4).bind fun n3 =>
 (bif decide ((gt ((api_Match.Mask m_0).1) n3) < 0) then (some true) else
 ((q3h i2).bind fun r4 =>
 bif decide ((gt ((api_Match.Mask m_0).1) n3) > r4) then (some true) else
 ((ixI i2 4).bind fun n5 =>
 bif decide ((gt ((api_Match.Val m_0).1) n5) < 0) then (some true) else
 ((ixI i2 4).bind fun n6 =>
 some ((q9y .i64 (gt ((api_Match.Val m_0).1) n6) (gt ((api_Match.Mask m_0).1) n3)) != 0)))) : Option Bool).bind fun b7 =>
 bif b7 then (some (.inr (.inl false))) else
 (some (.inl (wr .i64 (i2 + 1))))) else
 (some (.inr (.inr ())))
noncomputable def q6y (m_0 : api_Match) : Option Bool :=
 bif ((decide ((api_Match.Port m_0) < (-1))) || (decide ((api_Match.Port m_0) ≥ 8))) then (some false) else
 ((loopO (q5l m_0) 0).bind fun
 | .inl b8 => (some b8)
 | .inr _ => (some true))
noncomputable def sp15 : Spc := ⟨[(false, .x y1)], [([.x .b], [])], true, [], fun p => match p with | m_0 => q6y m_0⟩
theorem ok15 : SpcOk prog 80 sp15 := q07 mixed glbok (sig := sig) (np := 1) (an := [(10, { j := some { vs := [(15, .x (.i .i64))] }, e := [(.ret, { vs := [(2, .x .b)] }), (.exit 0, {})] }), (18, { j := some { vs := [(42, .x .b)] } })]) (.cons ok11 .nil) (by kernel_rfl) (by kernel_rfl)
/- turnout/act.right -/
noncomputable def q9f (a_0 : api_Act) (ports_1 : Int) : Option Bool :=
 bif ((api_Act.Kind a_0) == 1) then ((bif (((decide ((api_Act.F a_0) ≥ 0)) && (decide ((api_Act.F a_0) < 4))) && (decide ((api_Act.V a_0) ≥ 0))) then ((q3h (api_Act.F a_0)).bind fun r1 =>
 some (decide ((api_Act.V a_0) ≤ r1))) else
 (some false) : Option Bool).bind fun b2 =>
 some b2) else
 (bif ((api_Act.Kind a_0) == 2) then (some ((((api_Act.F a_0) == 0) && (decide ((api_Act.V a_0) ≥ 0))) && (decide ((api_Act.V a_0) < ports_1)))) else
 (some (decide (a_0 = (⟨3, 0, 0⟩ : api_Act)))))
noncomputable def sp16 : Spc := ⟨[(false, .x y2), (false, .x (.i .i64))], [([.x .b], [])], true, [], fun p => match p with | (a_0, ports_1) => q9f a_0 ports_1⟩
theorem ok16 : SpcOk prog 99 sp16 := q07 mixed glbok (sig := sig) (np := 2) (an := [(8, { j := some { vs := [(4, .x .b)] } })]) (.cons ok11 .nil) (by kernel_rfl) (by kernel_rfl)
/- turnout/act.Right$1 -/
noncomputable def q6q (a_0 : api_Act) (c_1 : Int) : Option Bool :=
 (q9f a_0 c_1).bind fun r1 =>
 some (!r1)
noncomputable def sp17 : Spc := ⟨[(false, .x y2), (false, .pt (.i .i64))], [([.x .b], [])], true, [], fun p => match p with | (a_0, c_1) => q6q a_0 c_1⟩
theorem ok17 : SpcOk prog 98 sp17 := q07 mixed glbok (sig := sig) (np := 2) (an := []) (.cons ok16 .nil) (by kernel_rfl) (by kernel_rfl)
/- slices.IndexFunc[[]turnout/api.Act,turnout/api.Act] -/
noncomputable def q0f (s_0 : Sl api_Act) (f_1_c0 : Int) : Int → Option (Int ⊕ (Int ⊕ Unit)) := fun i2 =>
 bif decide (i2 < (s_0.l.length : Int)) then ((ixI i2 s_0.l.length).bind fun n3 =>
 (q6q (gt s_0.l n3) f_1_c0).bind fun r4 =>
 bif r4 then (some (.inr (.inl i2))) else
 (some (.inl (wr .i64 (i2 + 1))))) else
 (some (.inr (.inr ())))
noncomputable def q0k (s_0 : Sl api_Act) (f_1_c0 : Int) : Option Int :=
 (loopO (q0f s_0 f_1_c0) 0).bind fun
 | .inl i5 => (some i5)
 | .inr _ => (some (-1))
noncomputable def sp18 : Spc := ⟨[(false, .x (.sl y2)), (false, .fn 98 (.pr (.pt (.i .i64)) .ni))], [([.x (.i .i64)], [])], true, [], fun p => match p with | (s_0, f_1_c0) => q0k s_0 f_1_c0⟩
theorem ok18 : SpcOk prog 106 sp18 := q07 mixed glbok (sig := sig) (np := 2) (an := [(5, { j := some { vs := [(8, .x (.i .i64))] }, e := [(.ret, { vs := [(4, .x (.i .i64))] }), (.exit 0, {})] })]) (.cons ok17 .nil) (by kernel_rfl) (by kernel_rfl)
/- slices.ContainsFunc[[]turnout/api.Act,turnout/api.Act] -/
noncomputable def q0r (s_0 : Sl api_Act) (f_1_c0 : Int) : Option Bool :=
 (q0k s_0 f_1_c0).bind fun r1 =>
 some (decide (r1 ≥ 0))
noncomputable def sp19 : Spc := ⟨[(false, .x (.sl y2)), (false, .fn 98 (.pr (.pt (.i .i64)) .ni))], [([.x .b], [])], true, [], fun p => match p with | (s_0, f_1_c0) => q0r s_0 f_1_c0⟩
theorem ok19 : SpcOk prog 97 sp19 := q07 mixed glbok (sig := sig) (np := 2) (an := []) (.cons ok18 .nil) (by kernel_rfl) (by kernel_rfl)
/- turnout/act.Right -/
noncomputable def q8x (l_0 : Sl api_Act) (ports_1 : Int) : Option Bool :=
 (bif decide ((l_0.l.length : Int) ≤ 16) then ((q0r l_0 ports_1).bind fun r1 =>
 some (!r1)) else
 (some false) : Option Bool).bind fun b2 =>
 some b2
noncomputable def sp20 : Spc := ⟨[(false, .x (.sl y2)), (false, .x (.i .i64))], [([.x .b], [])], true, [], fun p => match p with | (l_0, ports_1) => q8x l_0 ports_1⟩
theorem ok20 : SpcOk prog 81 sp20 := q07 mixed glbok (sig := sig) (np := 2) (an := [(3, { j := some { vs := [(4, .x .b)] } })]) (.cons ok19 .nil) (by kernel_rfl) (by kernel_rfl)
/- turnout/rule.Right -/
noncomputable def q81 (x_0 : api_Rule) (ports_1 : Int) : Option Bool :=
 (bif ((decide ((api_Rule.Prio x_0) ≥ 0)) && (decide ((api_Rule.Prio x_0) < 65536))) then ((q6y (api_Rule.M x_0)).bind fun r1 =>
 bif r1 then ((q8x (api_Rule.Acts x_0) ports_1).bind fun r2 =>
 some r2) else
 (some false)) else
 (some false) : Option Bool).bind fun b3 =>
 some b3
noncomputable def sp21 : Spc := ⟨[(false, .x y0), (false, .x (.i .i64))], [([.x .b], [])], true, [], fun p => match p with | (x_0, ports_1) => q81 x_0 ports_1⟩
theorem ok21 : SpcOk prog 52 sp21 := q07 mixed glbok (sig := sig) (np := 2) (an := [(3, { j := some { vs := [(4, .x .b)] } })]) (.cons ok15 (.cons ok20 .nil)) (by kernel_rfl) (by kernel_rfl)
/- turnout/match.Meet -/
noncomputable def q1o (a_0 : api_Match) (b_1 : api_Match) : (Int × api_Match × api_Match) → Option ((Int × api_Match × api_Match) ⊕ ((Bool × api_Match) ⊕ (api_Match × api_Match))) := fun (i5, x6, x7) =>
 bif decide (i5 < 4) then ((ixI i5 4).bind fun n8 =>
 (ixI i5 4).bind fun n9 =>
 (ixI i5 4).bind fun n10 =>
 (ixI i5 4).bind fun n11 =>
 bif ((bAnd .i64 (bAnd .i64 (bXor .i64 (gt ((api_Match.Val a_0).1) n8) (gt ((api_Match.Val b_1).1) n9)) (gt ((api_Match.Mask a_0).1) n10)) (gt ((api_Match.Mask b_1).1) n11)) != 0) then (some (.inr (.inl (false, (⟨0, (zeE (.ar 4 (.i .i64))), (zeE (.ar 4 (.i .i64)))⟩ : api_Match))))) else
 ((ixI i5 4).bind fun n12 =>
 (ixI i5 4).bind fun n13 =>
 (ixI i5 4).bind fun n14 =>
 (ixI i5 4).bind fun n15 =>
 (ixI i5 4).bind fun n16 =>
 (ixI i5 4).bind fun n17 =>
 some (.inl (wr .i64 (i5 + 1), x6, (⟨api_Match.Port x7, Arr.set (api_Match.Val x7) n16 (bOr .i64 (gt ((api_Match.Val a_0).1) n12) (gt ((api_Match.Val b_1).1) n13)), Arr.set (api_Match.Mask x7) n17 (bOr .i64 (gt ((api_Match.Mask a_0).1) n14) (gt ((api_Match.Mask b_1).1) n15))⟩ : api_Match))))) else
 (some (.inr (.inr (x6, x7))))
noncomputable def q5x (a_0 : api_Match) (b_1 : api_Match) : Option (api_Match × Bool) :=
 bif ((((api_Match.Port a_0) != (api_Match.Port b_1)) && ((api_Match.Port a_0) != (-1))) && ((api_Match.Port b_1) != (-1))) then (some ((⟨0, (zeE (.ar 4 (.i .i64))), (zeE (.ar 4 (.i .i64)))⟩ : api_Match), false)) else
 ((loopO (q1o a_0 b_1) (0, (⟨0, (zeE (.ar 4 (.i .i64))), (zeE (.ar 4 (.i .i64)))⟩ : api_Match), (⟨(if (api_Match.Port b_1) > (api_Match.Port a_0) then (api_Match.Port b_1) else (api_Match.Port a_0)), (zeE (.ar 4 (.i .i64))), (zeE (.ar 4 (.i .i64)))⟩ : api_Match))).bind fun
 | .inl (b18, x19) => (some (x19, b18))
 | .inr (x20, x21) => (some (x21, true)))
noncomputable def sp22 : Spc := ⟨[(false, .x y1), (false, .x y1)], [([.x y1, .x .b], [])], true, [], fun p => match p with | (a_0, b_1) => q5x a_0 b_1⟩
theorem ok22 : SpcOk prog 87 sp22 := q07 mixed glbok (sig := sig) (np := 2) (an := [(12, { j := some { vs := [(4, .op 0 y1 []), (6, .op 1 y1 []), (30, .x (.i .i64))], os := [.bx y1 (.x y1), .bx y1 (.x y1)], kl := [2, 3] }, e := [(.ret, { vs := [(4, .op 0 y1 []), (5, .x .b)], os := [.bx y1 (.x y1)], kl := [2, 3] }), (.exit 0, { vs := [(4, .op 0 y1 []), (6, .op 1 y1 [])], os := [.bx y1 (.x y1), .bx y1 (.x y1)], kl := [2, 3] })] })]) .nil (by kernel_rfl) (by kernel_rfl)
/- turnout/rule.Overlaps -/
noncomputable def q4m (a_0 : api_Rule) (b_1 : api_Rule) : Option Bool :=
 (q5x (api_Rule.M a_0) (api_Rule.M b_1)).bind fun (r1, r2) =>
 some ((((api_Rule.Prio a_0) == (api_Rule.Prio b_1)) && (!(decide ((api_Rule.M a_0) = (api_Rule.M b_1))))) && r2)
noncomputable def sp23 : Spc := ⟨[(false, .x y0), (false, .x y0)], [([.x .b], [])], true, [], fun p => match p with | (a_0, b_1) => q4m a_0 b_1⟩
theorem ok23 : SpcOk prog 84 sp23 := q07 mixed glbok (sig := sig) (np := 2) (an := []) (.cons ok22 .nil) (by kernel_rfl) (by kernel_rfl)
/- turnout/table.add$1 -/
noncomputable def q6w (y_0 : api_Rule) (c_1 : api_Rule) : Option Bool :=
 (q4m c_1 y_0).bind fun r1 =>
 some r1
noncomputable def sp24 : Spc := ⟨[(false, .x y0), (false, .pt y0)], [([.x .b], [])], true, [], fun p => match p with | (y_0, c_1) => q6w y_0 c_1⟩
theorem ok24 : SpcOk prog 83 sp24 := q07 mixed glbok (sig := sig) (np := 2) (an := []) (.cons ok23 .nil) (by kernel_rfl) (by kernel_rfl)
/- slices.IndexFunc[[]turnout/api.Rule,turnout/api.Rule] -/
noncomputable def q0a (s_0 : Sl api_Rule) (f_1_c0 : api_Rule) : Int → Option (Int ⊕ (Int ⊕ Unit)) := fun i2 =>
 bif decide (i2 < (s_0.l.length : Int)) then ((ixI i2 s_0.l.length).bind fun n3 =>
 (q6w (gt s_0.l n3) f_1_c0).bind fun r4 =>
 bif r4 then (some (.inr (.inl i2))) else
 (some (.inl (wr .i64 (i2 + 1))))) else
 (some (.inr (.inr ())))
noncomputable def q0h (s_0 : Sl api_Rule) (f_1_c0 : api_Rule) : Option Int :=
 (loopO (q0a s_0 f_1_c0) 0).bind fun
 | .inl i5 => (some i5)
 | .inr _ => (some (-1))
noncomputable def sp25 : Spc := ⟨[(false, .x (.sl y0)), (false, .fn 83 (.pr (.pt y0) .ni))], [([.x (.i .i64)], [])], true, [], fun p => match p with | (s_0, f_1_c0) => q0h s_0 f_1_c0⟩
theorem ok25 : SpcOk prog 65 sp25 := q07 mixed glbok (sig := sig) (np := 2) (an := [(5, { j := some { vs := [(8, .x (.i .i64))] }, e := [(.ret, { vs := [(4, .x (.i .i64))] }), (.exit 0, {})] })]) (.cons ok24 .nil) (by kernel_rfl) (by kernel_rfl)
/- slices.ContainsFunc[[]turnout/api.Rule,turnout/api.Rule] -/
noncomputable def q09 (s_0 : Sl api_Rule) (f_1_c0 : api_Rule) : Option Bool :=
 (q0h s_0 f_1_c0).bind fun r1 =>
 some (decide (r1 ≥ 0))
noncomputable def sp26 : Spc := ⟨[(false, .x (.sl y0)), (false, .fn 83 (.pr (.pt y0) .ni))], [([.x .b], [])], true, [], fun p => match p with | (s_0, f_1_c0) => q09 s_0 f_1_c0⟩
theorem ok26 : SpcOk prog 82 sp26 := q07 mixed glbok (sig := sig) (np := 2) (an := []) (.cons ok25 .nil) (by kernel_rfl) (by kernel_rfl)
/- turnout/rule.Key -/
noncomputable def q6v (a_0 : api_Rule) (b_1 : api_Rule) : Option Bool :=
 some (((api_Rule.Prio a_0) == (api_Rule.Prio b_1)) && (decide ((api_Rule.M a_0) = (api_Rule.M b_1))))
noncomputable def sp27 : Spc := ⟨[(false, .x y0), (false, .x y0)], [([.x .b], [])], true, [], fun p => match p with | (a_0, b_1) => q6v a_0 b_1⟩
theorem ok27 : SpcOk prog 17 sp27 := q07 mixed glbok (sig := sig) (np := 2) (an := []) .nil (by kernel_rfl) (by kernel_rfl)
/- turnout/table.key$1 -/
noncomputable def q6a (y_0 : api_Rule) (c_1 : api_Rule) : Option Bool :=
 (q6v c_1 y_0).bind fun r1 =>
 some r1
noncomputable def sp28 : Spc := ⟨[(false, .x y0), (false, .pt y0)], [([.x .b], [])], true, [], fun p => match p with | (y_0, c_1) => q6a y_0 c_1⟩
theorem ok28 : SpcOk prog 93 sp28 := q07 mixed glbok (sig := sig) (np := 2) (an := []) (.cons ok27 .nil) (by kernel_rfl) (by kernel_rfl)
/- slices.IndexFunc[[]turnout/api.Rule,turnout/api.Rule] -/
noncomputable def q0c (s_0 : Sl api_Rule) (f_1_c0 : api_Rule) : Int → Option (Int ⊕ (Int ⊕ Unit)) := fun i2 =>
 bif decide (i2 < (s_0.l.length : Int)) then ((ixI i2 s_0.l.length).bind fun n3 =>
 (q6a (gt s_0.l n3) f_1_c0).bind fun r4 =>
 bif r4 then (some (.inr (.inl i2))) else
 (some (.inl (wr .i64 (i2 + 1))))) else
 (some (.inr (.inr ())))
noncomputable def q0i (s_0 : Sl api_Rule) (f_1_c0 : api_Rule) : Option Int :=
 (loopO (q0c s_0 f_1_c0) 0).bind fun
 | .inl i5 => (some i5)
 | .inr _ => (some (-1))
noncomputable def sp29 : Spc := ⟨[(false, .x (.sl y0)), (false, .fn 93 (.pr (.pt y0) .ni))], [([.x (.i .i64)], [])], true, [], fun p => match p with | (s_0, f_1_c0) => q0i s_0 f_1_c0⟩
theorem ok29 : SpcOk prog 65 sp29 := q07 mixed glbok (sig := sig) (np := 2) (an := [(5, { j := some { vs := [(8, .x (.i .i64))] }, e := [(.ret, { vs := [(4, .x (.i .i64))] }), (.exit 0, {})] })]) (.cons ok28 .nil) (by kernel_rfl) (by kernel_rfl)
/- turnout/table.key -/
noncomputable def q76 (t_0 : Sl api_Rule) (x_1 : api_Rule) : Option Int :=
 (q0i t_0 x_1).bind fun r1 =>
 some r1
noncomputable def sp30 : Spc := ⟨[(false, .x (.sl y0)), (false, .x y0)], [([.x (.i .i64)], [])], true, [], fun p => match p with | (t_0, x_1) => q76 t_0 x_1⟩
theorem ok30 : SpcOk prog 70 sp30 := q07 mixed glbok (sig := sig) (np := 2) (an := []) (.cons ok29 .nil) (by kernel_rfl) (by kernel_rfl)
/- slices.Clone[[]turnout/api.Rule,turnout/api.Rule] -/
noncomputable def q05 (s_0 : Sl api_Rule) : Option (Sl api_Rule) :=
 bif s_0.isNil then (some Sl.nil) else
 ((capI ([] ++ s_0.l)).bind fun l1 =>
 some (appS (Sl.mk []) s_0.l l1))
noncomputable def sp31 : Spc := ⟨[(false, .x (.sl y0))], [([.os y0], [])], false, [], fun p => match p with | s_0 => q05 s_0⟩
theorem ok31 : SpcOk prog 56 sp31 := q07 mixed glbok (sig := sig) (np := 1) (an := []) .nil (by kernel_rfl) (by kernel_rfl)
/- turnout/table.replaced -/
noncomputable def q2z (t_0 : Sl api_Rule) (at_1 : Int) (l_2 : Sl api_Act) : Option (Sl api_Rule) :=
 (q05 t_0).bind fun s1 =>
 (ixI at_1 s1.l.length).bind fun n2 =>
 some (Sl.mk (s1.l.set n2 (⟨api_Rule.Prio (gt s1.l n2), api_Rule.M (gt s1.l n2), l_2⟩ : api_Rule)))
noncomputable def sp32 : Spc := ⟨[(false, .x (.sl y0)), (false, .x (.i .i64)), (false, .x (.sl y2))], [([.x (.sl y0)], [])], false, [], fun p => match p with | (t_0, at_1, l_2) => q2z t_0 at_1 l_2⟩
theorem ok32 : SpcOk prog 60 sp32 := q07 mixed glbok (sig := sig) (np := 3) (an := []) (.cons ok31 .nil) (by kernel_rfl) (by kernel_rfl)
/- turnout/rule.Ahead -/
noncomputable def qcu (a_0 : api_Rule) (b_1 : api_Rule) : Option Bool :=
 some (decide ((api_Rule.Prio a_0) > (api_Rule.Prio b_1)))
noncomputable def sp33 : Spc := ⟨[(false, .x y0), (false, .x y0)], [([.x .b], [])], true, [], fun p => match p with | (a_0, b_1) => qcu a_0 b_1⟩
theorem ok33 : SpcOk prog 69 sp33 := q07 mixed glbok (sig := sig) (np := 2) (an := []) .nil (by kernel_rfl) (by kernel_rfl)
/- turnout/table.add$2 -/
noncomputable def q8r (y_0 : api_Rule) (c_1 : api_Rule) : Option Bool :=
 (qcu c_1 y_0).bind fun r1 =>
 some r1
noncomputable def sp34 : Spc := ⟨[(false, .x y0), (false, .pt y0)], [([.x .b], [])], true, [], fun p => match p with | (y_0, c_1) => q8r y_0 c_1⟩
theorem ok34 : SpcOk prog 85 sp34 := q07 mixed glbok (sig := sig) (np := 2) (an := []) (.cons ok33 .nil) (by kernel_rfl) (by kernel_rfl)
/- slices.IndexFunc[[]turnout/api.Rule,turnout/api.Rule] -/
noncomputable def q0b (s_0 : Sl api_Rule) (f_1_c0 : api_Rule) : Int → Option (Int ⊕ (Int ⊕ Unit)) := fun i2 =>
 bif decide (i2 < (s_0.l.length : Int)) then ((ixI i2 s_0.l.length).bind fun n3 =>
 (q8r (gt s_0.l n3) f_1_c0).bind fun r4 =>
 bif r4 then (some (.inr (.inl i2))) else
 (some (.inl (wr .i64 (i2 + 1))))) else
 (some (.inr (.inr ())))
noncomputable def q0g (s_0 : Sl api_Rule) (f_1_c0 : api_Rule) : Option Int :=
 (loopO (q0b s_0 f_1_c0) 0).bind fun
 | .inl i5 => (some i5)
 | .inr _ => (some (-1))
noncomputable def sp35 : Spc := ⟨[(false, .x (.sl y0)), (false, .fn 85 (.pr (.pt y0) .ni))], [([.x (.i .i64)], [])], true, [], fun p => match p with | (s_0, f_1_c0) => q0g s_0 f_1_c0⟩
theorem ok35 : SpcOk prog 65 sp35 := q07 mixed glbok (sig := sig) (np := 2) (an := [(5, { j := some { vs := [(8, .x (.i .i64))] }, e := [(.ret, { vs := [(4, .x (.i .i64))] }), (.exit 0, {})] })]) (.cons ok34 .nil) (by kernel_rfl) (by kernel_rfl)
/- slices.Insert[[]turnout/api.Rule,turnout/api.Rule] -/
theorem ok36 : SpcOk prog 86 (qpy y0) := qth mixed (sig := sig) (nt := 95) (tl := insTl (szT y0) 101 false [true, false]) (z := zeL y0) (by kernel_rfl) (by kernel_rfl)
/- turnout/table.add -/
noncomputable def q95 (t_0 : Sl api_Rule) (m_1 : api_Mod) (room_2 : Int) : Option (Sl api_Rule × Int) :=
 (bif api_Mod.Check m_1 then ((q09 t_0 (api_Mod.R m_1)).bind fun r1 =>
 some r1) else
 (some false) : Option Bool).bind fun b2 =>
 bif b2 then (some (t_0, 14)) else
 ((q76 t_0 (api_Mod.R m_1)).bind fun r3 =>
 bif decide (r3 ≥ 0) then ((q2z t_0 r3 (api_Rule.Acts (api_Mod.R m_1))).bind fun r4 =>
 some (r4, 0)) else
 (bif decide ((t_0.l.length : Int) ≥ room_2) then (some (t_0, 6)) else
 ((q0g t_0 (api_Mod.R m_1)).bind fun r5 =>
 (bif decide (r5 < 0) then (some (t_0.l.length : Int)) else
 (some r5) : Option Int).bind fun i6 =>
 (q05 t_0).bind fun s7 =>
 (insF s7 i6 (Sl.mk [api_Mod.R m_1])).bind fun s8 =>
 some (s8, 0))))
noncomputable def sp37 : Spc := ⟨[(false, .x (.sl y0)), (false, .x y3), (false, .x (.i .i64))], [([.x (.sl y0), .x (.i .i64)], [])], false, [], fun p => match p with | (t_0, m_1, room_2) => q95 t_0 m_1 room_2⟩
theorem ok37 : SpcOk prog 53 sp37 := q07 mixed glbok (sig := sig) (np := 3) (an := [(6, { j := some { vs := [(19, .x .b)] } }), (23, { e := [(.normal, { vs := [(10, .x (.i .i64))] })] })]) (.cons ok26 (.cons ok30 (.cons ok32 (.cons ok35 (.cons ok31 (.cons ok36 .nil)))))) (by kernel_rfl) (by kernel_rfl)
/- turnout/match.Within -/
noncomputable def q4f (a_0 : api_Match) (b_1 : api_Match) : Option Bool :=
 (q5x a_0 b_1).bind fun (r1, r2) =>
 some (r2 && (decide (r1 = a_0)))
noncomputable def sp38 : Spc := ⟨[(false, .x y1), (false, .x y1)], [([.x .b], [])], true, [], fun p => match p with | (a_0, b_1) => q4f a_0 b_1⟩
theorem ok38 : SpcOk prog 58 sp38 := q07 mixed glbok (sig := sig) (np := 2) (an := []) (.cons ok22 .nil) (by kernel_rfl) (by kernel_rfl)
/- turnout/table.modify -/
noncomputable def q2p (x_1 : api_Rule) (s1 : Sl api_Rule) : (Int × Sl api_Rule) → Option ((Int × Sl api_Rule) ⊕ (Sl api_Rule)) := fun (i5, s6) =>
 bif decide (i5 < (s1.l.length : Int)) then (((ixI i5 s6.l.length).bind fun n7 =>
 (q4f (api_Rule.M (gt s6.l n7)) (api_Rule.M x_1)).bind fun r8 =>
 bif r8 then ((ixI i5 s6.l.length).bind fun n9 =>
 some (Sl.mk (s6.l.set n9 (⟨api_Rule.Prio (gt s6.l n9), api_Rule.M (gt s6.l n9), api_Rule.Acts x_1⟩ : api_Rule)))) else
 (some s6) : Option (Sl api_Rule)).bind fun s10 =>
 some (.inl (wr .i64 (i5 + 1), s10))) else
 (some (.inr s6))
noncomputable def q5e (t_0 : Sl api_Rule) (x_1 : api_Rule) : Option (Sl api_Rule) :=
 (q05 t_0).bind fun s1 =>
 (loopO (q2p x_1 s1) (0, s1)).bind fun s11 =>
 some s11
noncomputable def sp39 : Spc := ⟨[(false, .x (.sl y0)), (false, .x y0)], [([.x (.sl y0)], [])], false, [], fun p => match p with | (t_0, x_1) => q5e t_0 x_1⟩
theorem ok39 : SpcOk prog 54 sp39 := q07 mixed glbok (sig := sig) (np := 2) (an := [(7, { j := some { vs := [(0, .so 0), (9, .so 0), (11, .x (.i .i64))], os := [.ar y0], kl := [1] }, e := [(.exit 0, { vs := [(0, .so 0)], os := [.ar y0], kl := [1] })] }), (11, { e := [(.normal, { vs := [(0, .so 0), (9, .so 0)], os := [.ar y0], kl := [2] })] })]) (.cons ok31 (.cons ok38 .nil)) (by kernel_rfl) (by kernel_rfl)
/- turnout/table.Apply$1 -/
noncomputable def q2v (y_0 : api_Rule) (c_1 : api_Mod) : Option Bool :=
 (q4f (api_Rule.M y_0) (api_Rule.M (api_Mod.R c_1))).bind fun r1 =>
 some r1
noncomputable def sp40 : Spc := ⟨[(false, .x y0), (false, .pt y3)], [([.x .b], [])], true, [], fun p => match p with | (y_0, c_1) => q2v y_0 c_1⟩
theorem ok40 : SpcOk prog 57 sp40 := q07 mixed glbok (sig := sig) (np := 2) (an := []) (.cons ok38 .nil) (by kernel_rfl) (by kernel_rfl)
/- slices.IndexFunc[[]turnout/api.Rule,turnout/api.Rule] -/
noncomputable def q06 (s_0 : Sl api_Rule) (f_1_c0 : api_Mod) : Int → Option (Int ⊕ (Int ⊕ Unit)) := fun i2 =>
 bif decide (i2 < (s_0.l.length : Int)) then ((ixI i2 s_0.l.length).bind fun n3 =>
 (q2v (gt s_0.l n3) f_1_c0).bind fun r4 =>
 bif r4 then (some (.inr (.inl i2))) else
 (some (.inl (wr .i64 (i2 + 1))))) else
 (some (.inr (.inr ())))
noncomputable def q0e (s_0 : Sl api_Rule) (f_1_c0 : api_Mod) : Option Int :=
 (loopO (q06 s_0 f_1_c0) 0).bind fun
 | .inl i5 => (some i5)
 | .inr _ => (some (-1))
noncomputable def sp41 : Spc := ⟨[(false, .x (.sl y0)), (false, .fn 57 (.pr (.pt y3) .ni))], [([.x (.i .i64)], [])], true, [], fun p => match p with | (s_0, f_1_c0) => q0e s_0 f_1_c0⟩
theorem ok41 : SpcOk prog 65 sp41 := q07 mixed glbok (sig := sig) (np := 2) (an := [(5, { j := some { vs := [(8, .x (.i .i64))] }, e := [(.ret, { vs := [(4, .x (.i .i64))] }), (.exit 0, {})] })]) (.cons ok40 .nil) (by kernel_rfl) (by kernel_rfl)
/- slices.DeleteFunc[[]turnout/api.Rule,turnout/api.Rule] -/
noncomputable def q04 (del_1_c0 : api_Mod) : (Int × Int × Sl api_Rule) → Option ((Int × Int × Sl api_Rule) ⊕ (Int × Sl api_Rule)) := fun (i7, i8, s9) =>
 bif decide (i8 < (s9.l.length : Int)) then (((ixI i8 s9.l.length).bind fun n10 =>
 (q2v (gt s9.l n10) del_1_c0).bind fun r11 =>
 bif (!r11) then ((ixI i7 s9.l.length).bind fun n12 =>
 some (wr .i64 (i7 + 1), (Sl.mk (s9.l.set n12 (gt s9.l n10))))) else
 (some (i7, s9)) : Option (Int × Sl api_Rule)).bind fun (i13, s14) =>
 some (.inl (i13, wr .i64 (i8 + 1), s14))) else
 (some (.inr (i7, s9)))
noncomputable def q08 (s_0 : Sl api_Rule) (del_1_c0 : api_Mod) : Option (Sl api_Rule) :=
 (q0e s_0 del_1_c0).bind fun r1 =>
 bif (r1 == (-1)) then (some s_0) else
 ((loopO (q04 del_1_c0) (r1, wr .i64 (r1 + 1), s_0)).bind fun (i15, s16) =>
 (cutI s16.l i15 s16.l.length).bind fun l17 =>
 (clrS s16 i15.toNat ((s16.to l17).l).length (⟨0, (⟨0, (zeE (.ar 4 (.i .i64))), (zeE (.ar 4 (.i .i64)))⟩ : api_Match), Sl.nil⟩ : api_Rule)).bind fun s18 =>
 (cutI s18.l 0 i15).bind fun l19 =>
 some (s18.to l19))
noncomputable def sp42 : Spc := ⟨[(true, .os y0), (false, .fn 57 (.pr (.pt y3) .ni))], [([.x (.sl y0)], [.gn])], false, [true, false], fun p => match p with | (s_0, del_1_c0) => q08 s_0 del_1_c0⟩
theorem ok42 : SpcOk prog 55 sp42 := q07 mixed glbok (sig := sig) (np := 2) (an := [(12, { j := some { vs := [(0, .so 0), (5, .x (.i .i64)), (6, .x (.i .i64))], gs := (.co (.so 0) .ni), os := [.ar y0], kl := [0] }, e := [(.exit 0, { vs := [(0, .so 0), (5, .x (.i .i64))], gs := (.co (.so 0) .ni), os := [.ar y0], kl := [0] })] }), (16, { e := [(.normal, { vs := [(0, .so 0), (5, .x (.i .i64))], gs := (.co (.so 0) .ni), os := [.ar y0], kl := [2] })] })]) (.cons ok41 (.cons ok40 .nil)) (by kernel_rfl) (by kernel_rfl)
/- turnout/table.strict -/
noncomputable def q7g (t_0 : Sl api_Rule) (x_1 : api_Rule) : Option (Int × Int) :=
 (q76 t_0 x_1).bind fun r1 =>
 bif decide (r1 < 0) then (some (r1, 7)) else
 (some (r1, 0))
noncomputable def sp43 : Spc := ⟨[(false, .x (.sl y0)), (false, .x y0)], [([.x (.i .i64), .x (.i .i64)], [])], true, [], fun p => match p with | (t_0, x_1) => q7g t_0 x_1⟩
theorem ok43 : SpcOk prog 59 sp43 := q07 mixed glbok (sig := sig) (np := 2) (an := []) (.cons ok30 .nil) (by kernel_rfl) (by kernel_rfl)
/- slices.Delete[[]turnout/api.Rule,turnout/api.Rule] -/
theorem ok44 : SpcOk prog 61 (qqj y0) := qty mixed (sig := sig) (nt := 33) (z := zeL y0) (by kernel_rfl) (by kernel_rfl)
/- turnout/table.Apply -/
noncomputable def q6r (t_0 : Sl api_Rule) (m_1 : api_Mod) (ports_2 : Int) (room_3 : Int) : Option (Sl api_Rule × Int) :=
 (q81 (api_Mod.R m_1) ports_2).bind fun r1 =>
 bif (!r1) then (some (t_0, 2)) else
 (bif ((api_Mod.Kind m_1) == 1) then ((q95 t_0 m_1 room_3).bind fun (r2, r3) =>
 some (r2, r3)) else
 (bif ((api_Mod.Kind m_1) == 2) then ((q5e t_0 (api_Mod.R m_1)).bind fun r4 =>
 some (r4, 0)) else
 (bif ((api_Mod.Kind m_1) == 4) then ((q05 t_0).bind fun s5 =>
 (q08 s5 m_1).bind fun r6 =>
 some (r6, 0)) else
 ((bif ((api_Mod.Kind m_1) == 3) then (some ((api_Mod.Kind m_1) == 3)) else
 (some ((api_Mod.Kind m_1) == 5)) : Option Bool).bind fun b7 =>
 bif b7 then ((q7g t_0 (api_Mod.R m_1)).bind fun (r8, r9) =>
 bif (r9 != 0) then (some (t_0, r9)) else
 (bif ((api_Mod.Kind m_1) == 3) then ((q2z t_0 r8 (api_Rule.Acts (api_Mod.R m_1))).bind fun r10 =>
 some (r10, 0)) else
 ((q05 t_0).bind fun s11 =>
 (delF s11 r8 (wr .i64 (r8 + 1))).bind fun s12 =>
 some (s12, 0)))) else
 (some (t_0, 2))))))
noncomputable def sp45 : Spc := ⟨[(false, .x (.sl y0)), (false, .x y3), (false, .x (.i .i64)), (false, .x (.i .i64))], [([.x (.sl y0), .x (.i .i64)], [])], false, [], fun p => match p with | (t_0, m_1, ports_2, room_3) => q6r t_0 m_1 ports_2 room_3⟩
theorem ok45 : SpcOk prog 18 sp45 := q07 mixed glbok (sig := sig) (np := 4) (an := [(22, { e := [(.normal, { vs := [(40, .x .b)] })] })]) (.cons ok21 (.cons ok37 (.cons ok39 (.cons ok31 (.cons ok42 (.cons ok43 (.cons ok32 (.cons ok44 .nil)))))))) (by kernel_rfl) (by kernel_rfl)
/- turnout/table.Mods -/
noncomputable def q3n (t_0 : Sl api_Rule) (l_1 : Sl api_Mod) (ports_2 : Int) (room_3 : Int) : (Sl api_Rule × Int) → Option ((Sl api_Rule × Int) ⊕ ((Sl api_Rule × Int × Int) ⊕ (Sl api_Rule))) := fun (s3, i4) =>
 bif decide (i4 < (l_1.l.length : Int)) then ((ixI i4 l_1.l.length).bind fun n5 =>
 (q6r s3 (gt l_1.l n5) ports_2 room_3).bind fun (r6, r7) =>
 bif (r7 != 0) then (some (.inr (.inl (t_0, i4, r7)))) else
 (some (.inl (r6, wr .i64 (i4 + 1))))) else
 (some (.inr (.inr s3)))
noncomputable def q83 (t_0 : Sl api_Rule) (l_1 : Sl api_Mod) (ports_2 : Int) (room_3 : Int) : Option (Sl api_Rule × Int × Int) :=
 (loopO (q3n t_0 l_1 ports_2 room_3) (t_0, 0)).bind fun
 | .inl (s8, i9, i10) => (some (s8, i9, i10))
 | .inr s11 => (some (s11, (-1), 0))
noncomputable def sp46 : Spc := ⟨[(false, .x (.sl y0)), (false, .x (.sl y3)), (false, .x (.i .i64)), (false, .x (.i .i64))], [([.x (.sl y0), .x (.i .i64), .x (.i .i64)], [])], false, [], fun p => match p with | (t_0, l_1, ports_2, room_3) => q83 t_0 l_1 ports_2 room_3⟩
theorem ok46 : SpcOk prog 13 sp46 := q07 mixed glbok (sig := sig) (np := 4) (an := [(7, { j := some { vs := [(11, .x (.sl y0)), (18, .x (.i .i64))] }, e := [(.ret, { vs := [(8, .x (.sl y0)), (9, .x (.i .i64)), (10, .x (.i .i64))] }), (.exit 0, { vs := [(11, .x (.sl y0))] })] })]) (.cons ok45 .nil) (by kernel_rfl) (by kernel_rfl)
/- turnout/match.Hits -/
/- turnout/table.Find$1 -/
/- slices.IndexFunc[[]turnout/api.Rule,turnout/api.Rule] -/
/- turnout/table.Find -/
/- turnout/packet.is -/
/- turnout/packet.With -/
/- turnout/act.Run -/
/- turnout/table.Run -/
/- turnout/turnoutlaw11.awake -/
/- turnout/turnoutref09.Same -/
noncomputable def q2w (a_0 : Sl api_Act) (b_1 : Sl api_Act) : Int → Option (Int ⊕ (Bool ⊕ Unit)) := fun i2 =>
 bif decide (i2 < (a_0.l.length : Int)) then ((ixI i2 a_0.l.length).bind fun n3 =>
 (ixI i2 b_1.l.length).bind fun n4 =>
 bif (!(decide ((gt a_0.l n3) = (gt b_1.l n4)))) then (some (.inr (.inl false))) else
 (some (.inl (wr .i64 (i2 + 1))))) else
 (some (.inr (.inr ())))
noncomputable def q4p (a_0 : Sl api_Act) (b_1 : Sl api_Act) : Option Bool :=
 bif ((a_0.l.length : Int) != (b_1.l.length : Int)) then (some false) else
 ((loopO (q2w a_0 b_1) 0).bind fun
 | .inl b5 => (some b5)
 | .inr _ => (some true))
noncomputable def sp56 : Spc := ⟨[(false, .x (.sl y2)), (false, .x (.sl y2))], [([.x .b], [])], true, [], fun p => match p with | (a_0, b_1) => q4p a_0 b_1⟩
theorem ok56 : SpcOk prog 77 sp56 := q07 mixed glbok (sig := sig) (np := 2) (an := [(10, { j := some { vs := [(5, .x (.i .i64))] }, e := [(.ret, { vs := [(4, .x .b)] }), (.exit 0, {})] })]) .nil (by kernel_rfl) (by kernel_rfl)
/- turnout/turnoutref10.Same -/
noncomputable def q40 (a_0 : api_Rule) (b_1 : api_Rule) : Option Bool :=
 (bif (((api_Rule.Prio a_0) == (api_Rule.Prio b_1)) && (decide ((api_Rule.M a_0) = (api_Rule.M b_1)))) then ((q4p (api_Rule.Acts a_0) (api_Rule.Acts b_1)).bind fun r1 =>
 some r1) else
 (some false) : Option Bool).bind fun b2 =>
 some b2
noncomputable def sp57 : Spc := ⟨[(false, .x y0), (false, .x y0)], [([.x .b], [])], true, [], fun p => match p with | (a_0, b_1) => q40 a_0 b_1⟩
theorem ok57 : SpcOk prog 48 sp57 := q07 mixed glbok (sig := sig) (np := 2) (an := [(3, { j := some { vs := [(4, .x .b)] } })]) (.cons ok56 .nil) (by kernel_rfl) (by kernel_rfl)
/- turnout/turnoutref10.Rules -/
noncomputable def q47 (a_0 : Sl api_Rule) (b_1 : Sl api_Rule) : Int → Option (Int ⊕ (Bool ⊕ Unit)) := fun i2 =>
 bif decide (i2 < (a_0.l.length : Int)) then ((ixI i2 a_0.l.length).bind fun n3 =>
 (ixI i2 b_1.l.length).bind fun n4 =>
 (q40 (gt a_0.l n3) (gt b_1.l n4)).bind fun r5 =>
 bif (!r5) then (some (.inr (.inl false))) else
 (some (.inl (wr .i64 (i2 + 1))))) else
 (some (.inr (.inr ())))
noncomputable def q6l (a_0 : Sl api_Rule) (b_1 : Sl api_Rule) : Option Bool :=
 bif ((a_0.l.length : Int) != (b_1.l.length : Int)) then (some false) else
 ((loopO (q47 a_0 b_1) 0).bind fun
 | .inl b6 => (some b6)
 | .inr _ => (some true))
noncomputable def sp58 : Spc := ⟨[(false, .x (.sl y0)), (false, .x (.sl y0))], [([.x .b], [])], true, [], fun p => match p with | (a_0, b_1) => q6l a_0 b_1⟩
theorem ok58 : SpcOk prog 14 sp58 := q07 mixed glbok (sig := sig) (np := 2) (an := [(10, { j := some { vs := [(5, .x (.i .i64))] }, e := [(.ret, { vs := [(4, .x .b)] }), (.exit 0, {})] })]) (.cons ok57 .nil) (by kernel_rfl) (by kernel_rfl)
/- turnout/turnoutlaw11.TableNone -/
/- turnout/turnoutref07.Right -/
/- turnout/turnoutref08.Hits -/
/- turnout/turnoutref11.Find -/
/- turnout/turnoutref07.With -/
/- turnout/turnoutref09.Run -/
/- turnout/turnoutref11.Run -/
/- turnout/turnoutref09.Sent -/
/- turnout/turnoutlaw11.TableBack -/
/- turnout/turnoutlaw11.TableFirst -/
/- turnout/turnoutref08.Meet -/
noncomputable def q6g (a_0 : api_Match) (b_1 : api_Match) (i6 : Int) : (Int × Int × api_Match × api_Match) → Option ((Int × Int × api_Match × api_Match) ⊕ ((Bool × api_Match) ⊕ (api_Match × api_Match))) := fun (i15, i16, x17, x18) =>
 bif decide (i16 < 8) then (((ixI i6 4).bind fun n19 =>
 (q1l (gt ((api_Match.Mask b_1).1) n19) i16).bind fun r20 =>
 bif (r20 == 1) then ((ixI i6 4).bind fun n21 =>
 (q1l (gt ((api_Match.Mask a_0).1) n21) i16).bind fun r22 =>
 bif (r22 == 1) then ((ixI i6 4).bind fun n23 =>
 (q1l (gt ((api_Match.Val a_0).1) n23) i16).bind fun r24 =>
 (ixI i6 4).bind fun n25 =>
 (q1l (gt ((api_Match.Val b_1).1) n25) i16).bind fun r26 =>
 some (r24 != r26)) else
 (some false)) else
 (some false) : Option Bool).bind fun b27 =>
 bif b27 then (some (.inr (.inl (false, (⟨0, (zeE (.ar 4 (.i .i64))), (zeE (.ar 4 (.i .i64)))⟩ : api_Match))))) else
 ((((ixI i6 4).bind fun n28 =>
 (q1l (gt ((api_Match.Mask b_1).1) n28) i16).bind fun r29 =>
 bif (r29 == 1) then ((ixI i6 4).bind fun n30 =>
 (q1l (gt ((api_Match.Mask a_0).1) n30) i16).bind fun r31 =>
 some (r31 == 0)) else
 (some false) : Option Bool).bind fun b32 =>
 bif b32 then ((ixI i6 4).bind fun n33 =>
 (ixI i6 4).bind fun n34 =>
 (ixI i6 4).bind fun n35 =>
 (ixI i6 4).bind fun n36 =>
 (q1l (gt ((api_Match.Val b_1).1) n36) i16).bind fun r37 =>
 (ixI i6 4).bind fun n38 =>
 some (⟨api_Match.Port x18, Arr.set (api_Match.Val x18) n38 (wr .i64 ((gt ((api_Match.Val x18).1) n35) + (wr .i64 (i15 * r37)))), Arr.set (api_Match.Mask x18) n34 (wr .i64 ((gt ((api_Match.Mask x18).1) n33) + i15))⟩ : api_Match)) else
 (some x18) : Option api_Match).bind fun x39 =>
 some (.inl (wr .i64 (i15 * 2), wr .i64 (i16 + 1), x17, x39)))) else
 (some (.inr (.inr (x17, x18))))
noncomputable def q6f (a_0 : api_Match) (b_1 : api_Match) : (Int × api_Match × api_Match) → Option ((Int × api_Match × api_Match) ⊕ ((Bool × api_Match) ⊕ (api_Match × api_Match))) := fun (i6, x7, x8) =>
 bif decide (i6 < 4) then ((loopO (q6g a_0 b_1 i6) (1, 0, x7, x8)).bind fun
 | .inl (b40, x41) => (some (.inr (.inl (b40, x41))))
 | .inr (x42, x43) => (some (.inl (wr .i64 (i6 + 1), x42, x43)))) else
 (some (.inr (.inr (x7, x8))))
noncomputable def q85 (a_0 : api_Match) (b_1 : api_Match) : Option (api_Match × Bool) :=
 (bif ((api_Match.Port a_0) == (-1)) then (some (⟨api_Match.Port b_1, api_Match.Val a_0, api_Match.Mask a_0⟩ : api_Match)) else
 (some a_0) : Option api_Match).bind fun x1 =>
 bif (((api_Match.Port b_1) != (-1)) && ((api_Match.Port x1) != (api_Match.Port b_1))) then (some ((⟨0, (zeE (.ar 4 (.i .i64))), (zeE (.ar 4 (.i .i64)))⟩ : api_Match), false)) else
 ((loopO (q6f a_0 b_1) (0, (⟨0, (zeE (.ar 4 (.i .i64))), (zeE (.ar 4 (.i .i64)))⟩ : api_Match), x1)).bind fun
 | .inl (b44, x45) => (some (x45, b44))
 | .inr (x46, x47) => (some (x47, true)))
noncomputable def sp69 : Spc := ⟨[(false, .x y1), (false, .x y1)], [([.x y1, .x .b], [])], true, [], fun p => match p with | (a_0, b_1) => q85 a_0 b_1⟩
theorem ok69 : SpcOk prog 103 sp69 := q07 mixed glbok (sig := sig) (np := 2) (an := [(4, { e := [(.normal, { vs := [(6, .op 0 y1 [])], os := [.bx y1 (.x y1)], kl := [3] })] }), (16, { j := some { vs := [(4, .op 0 y1 []), (6, .op 1 y1 []), (7, .x (.i .i64))], os := [.bx y1 (.x y1), .bx y1 (.x y1)], kl := [2, 4] }, e := [(.ret, { vs := [(4, .op 0 y1 []), (5, .x .b)], os := [.bx y1 (.x y1)], kl := [2, 4] }), (.exit 0, { vs := [(4, .op 0 y1 []), (6, .op 1 y1 [])], os := [.bx y1 (.x y1), .bx y1 (.x y1)], kl := [2, 4] })] }), (25, { j := some { vs := [(4, .op 0 y1 []), (6, .op 1 y1 []), (8, .x (.i .i64)), (9, .x (.i .i64))], os := [.bx y1 (.x y1), .bx y1 (.x y1)], kl := [5, 6] }, e := [(.ret, { vs := [(4, .op 0 y1 []), (5, .x .b)], os := [.bx y1 (.x y1)], kl := [5, 6] }), (.exit 2, { vs := [(4, .op 0 y1 []), (6, .op 1 y1 [])], os := [.bx y1 (.x y1), .bx y1 (.x y1)], kl := [5, 6] })] }), (32, { j := some { vs := [(66, .x .b)] } }), (35, { e := [(.normal, { vs := [(6, .op 0 y1 [])], os := [.bx y1 (.x y1)], kl := [8] })] }), (37, { j := some { vs := [(83, .x .b)] } })]) (.cons ok2 .nil) (by kernel_rfl) (by kernel_rfl)
/- turnout/turnoutref10.Overlaps -/
noncomputable def q48 (a_0 : api_Rule) (b_1 : api_Rule) : Option Bool :=
 bif (((api_Rule.Prio a_0) != (api_Rule.Prio b_1)) || (decide ((api_Rule.M a_0) = (api_Rule.M b_1)))) then (some false) else
 ((q85 (api_Rule.M a_0) (api_Rule.M b_1)).bind fun (r1, r2) =>
 some r2)
noncomputable def sp70 : Spc := ⟨[(false, .x y0), (false, .x y0)], [([.x .b], [])], true, [], fun p => match p with | (a_0, b_1) => q48 a_0 b_1⟩
theorem ok70 : SpcOk prog 89 sp70 := q07 mixed glbok (sig := sig) (np := 2) (an := []) (.cons ok69 .nil) (by kernel_rfl) (by kernel_rfl)
/- turnout/turnoutref08.Within -/
noncomputable def q4u (a_0 : api_Match) (b_1 : api_Match) (i2 : Int) : Int → Option (Int ⊕ (Bool ⊕ Unit)) := fun i4 =>
 bif decide (i4 < 8) then (((ixI i2 4).bind fun n5 =>
 (q1l (gt ((api_Match.Mask b_1).1) n5) i4).bind fun r6 =>
 bif (r6 == 1) then ((ixI i2 4).bind fun n7 =>
 (q1l (gt ((api_Match.Mask a_0).1) n7) i4).bind fun r8 =>
 bif (r8 == 0) then (some true) else
 ((ixI i2 4).bind fun n9 =>
 (q1l (gt ((api_Match.Val a_0).1) n9) i4).bind fun r10 =>
 (ixI i2 4).bind fun n11 =>
 (q1l (gt ((api_Match.Val b_1).1) n11) i4).bind fun r12 =>
 some (r10 != r12))) else
 (some false) : Option Bool).bind fun b13 =>
 bif b13 then (some (.inr (.inl false))) else
 (some (.inl (wr .i64 (i4 + 1))))) else
 (some (.inr (.inr ())))
noncomputable def q4s (a_0 : api_Match) (b_1 : api_Match) : Int → Option (Int ⊕ (Bool ⊕ Unit)) := fun i2 =>
 bif decide (i2 < 4) then ((loopO (q4u a_0 b_1 i2) 0).bind fun
 | .inl b14 => (some (.inr (.inl b14)))
 | .inr _ => (some (.inl (wr .i64 (i2 + 1))))) else
 (some (.inr (.inr ())))
noncomputable def q5h (a_0 : api_Match) (b_1 : api_Match) : Option Bool :=
 bif (((api_Match.Port b_1) != (-1)) && ((api_Match.Port a_0) != (api_Match.Port b_1))) then (some false) else
 ((loopO (q4s a_0 b_1) 0).bind fun
 | .inl b15 => (some b15)
 | .inr _ => (some true))
noncomputable def sp71 : Spc := ⟨[(false, .x y1), (false, .x y1)], [([.x .b], [])], true, [], fun p => match p with | (a_0, b_1) => q5h a_0 b_1⟩
theorem ok71 : SpcOk prog 91 sp71 := q07 mixed glbok (sig := sig) (np := 2) (an := [(10, { j := some { vs := [(5, .x (.i .i64))] }, e := [(.ret, { vs := [(4, .x .b)] }), (.exit 0, {})] }), (17, { j := some { vs := [(6, .x (.i .i64))] }, e := [(.ret, { vs := [(4, .x .b)] }), (.exit 2, {})] }), (23, { j := some { vs := [(55, .x .b)] } })]) (.cons ok2 .nil) (by kernel_rfl) (by kernel_rfl)
/- turnout/turnoutref11.with -/
noncomputable def q9p (x_0 : api_Rule) (l_1 : Sl api_Act) : Option api_Rule :=
 some (⟨api_Rule.Prio x_0, api_Rule.M x_0, l_1⟩ : api_Rule)
noncomputable def sp72 : Spc := ⟨[(false, .x y0), (false, .x (.sl y2))], [([.x y0], [])], false, [], fun p => match p with | (x_0, l_1) => q9p x_0 l_1⟩
theorem ok72 : SpcOk prog 92 sp72 := q07 mixed glbok (sig := sig) (np := 2) (an := []) .nil (by kernel_rfl) (by kernel_rfl)
/- turnout/turnoutref11.changed -/
noncomputable def q2j (t_0 : Sl api_Rule) (m_1 : api_Mod) (strict_2 : Bool) (gone_3 : Bool) : (Int × Int × Sl api_Rule) → Option ((Int × Int × Sl api_Rule) ⊕ (Int × Sl api_Rule)) := fun (i6, i7, s8) =>
 bif decide (i7 < (t_0.l.length : Int)) then (((ixI i7 t_0.l.length).bind fun n9 =>
 (q5h (api_Rule.M (gt t_0.l n9)) (api_Rule.M (api_Mod.R m_1))).bind fun r10 =>
 (bif strict_2 then ((ixI i7 t_0.l.length).bind fun n11 =>
 (q90 (gt t_0.l n11) (api_Mod.R m_1)).bind fun r12 =>
 some r12) else
 (some r10) : Option Bool).bind fun b13 =>
 bif (!b13) then ((ixI i7 t_0.l.length).bind fun n14 =>
 (capI (s8.l ++ [gt t_0.l n14])).bind fun l15 =>
 some (i6, (Sl.mk l15))) else
 (bif (!gone_3) then ((ixI i7 t_0.l.length).bind fun n16 =>
 (q9p (gt t_0.l n16) (api_Rule.Acts (api_Mod.R m_1))).bind fun r17 =>
 (capI (s8.l ++ [r17])).bind fun l18 =>
 some (wr .i64 (i6 + 1), (Sl.mk l18))) else
 (some (wr .i64 (i6 + 1), s8))) : Option (Int × Sl api_Rule)).bind fun (i19, s20) =>
 some (.inl (i19, wr .i64 (i7 + 1), s20))) else
 (some (.inr (i6, s8)))
noncomputable def q3p (t_0 : Sl api_Rule) (m_1 : api_Mod) (strict_2 : Bool) (gone_3 : Bool) : Option (Sl api_Rule × Int) :=
 (loopO (q2j t_0 m_1 strict_2 gone_3) (0, 0, Sl.nil)).bind fun (i21, s22) =>
 some (s22, i21)
noncomputable def sp73 : Spc := ⟨[(false, .x (.sl y0)), (false, .x y3), (false, .x .b), (false, .x .b)], [([.x (.sl y0), .x (.i .i64)], [])], false, [], fun p => match p with | (t_0, m_1, strict_2, gone_3) => q3p t_0 m_1 strict_2 gone_3⟩
theorem ok73 : SpcOk prog 68 sp73 := q07 mixed glbok (sig := sig) (np := 4) (an := [(9, { j := some { vs := [(10, .so 0), (11, .x (.i .i64)), (12, .x (.i .i64))], os := [.ar y0] }, e := [(.exit 0, { vs := [(10, .so 0), (11, .x (.i .i64))], os := [.ar y0] })] }), (13, { e := [(.normal, { vs := [(10, .so 0), (11, .x (.i .i64))], os := [.ar y0], kl := [1] })] }), (16, { e := [(.normal, { vs := [(13, .x .b)] })] })]) (.cons ok71 (.cons ok7 (.cons ok72 .nil))) (by kernel_rfl) (by kernel_rfl)
/- turnout/turnoutref11.added -/
noncomputable def q33 (t_0 : Sl api_Rule) (x_1 : api_Rule) : (Bool × Int × Sl api_Rule) → Option ((Bool × Int × Sl api_Rule) ⊕ (Bool × Sl api_Rule)) := fun (b6, i7, s8) =>
 bif decide (i7 < (t_0.l.length : Int)) then (((bif (!b6) then ((ixI i7 t_0.l.length).bind fun n9 =>
 some (decide ((api_Rule.Prio (gt t_0.l n9)) < (api_Rule.Prio x_1)))) else
 (some false) : Option Bool).bind fun b10 =>
 bif b10 then ((capI (s8.l ++ [x_1])).bind fun l11 =>
 some (true, (Sl.mk l11))) else
 (some (b6, s8)) : Option (Bool × Sl api_Rule)).bind fun (b12, s13) =>
 (ixI i7 t_0.l.length).bind fun n14 =>
 (capI (s13.l ++ [gt t_0.l n14])).bind fun l15 =>
 some (.inl (b12, wr .i64 (i7 + 1), (Sl.mk l15)))) else
 (some (.inr (b6, s8)))
noncomputable def q6z (t_0 : Sl api_Rule) (x_1 : api_Rule) : Option (Sl api_Rule) :=
 (loopO (q33 t_0 x_1) (false, 0, Sl.nil)).bind fun (b16, s17) =>
 (bif (!b16) then ((capI (s17.l ++ [x_1])).bind fun l18 =>
 some (Sl.mk l18)) else
 (some s17) : Option (Sl api_Rule)).bind fun s19 =>
 some s19
noncomputable def sp74 : Spc := ⟨[(false, .x (.sl y0)), (false, .x y0)], [([.x (.sl y0)], [])], false, [], fun p => match p with | (t_0, x_1) => q6z t_0 x_1⟩
theorem ok74 : SpcOk prog 90 sp74 := q07 mixed glbok (sig := sig) (np := 2) (an := [(9, { j := some { vs := [(5, .so 0), (6, .x .b), (7, .x (.i .i64))], os := [.ar y0] }, e := [(.exit 0, { vs := [(5, .so 0), (6, .x .b)], os := [.ar y0] })] }), (14, { e := [(.normal, { vs := [(5, .so 0), (6, .x .b)], os := [.ar y0], kl := [1] })] }), (16, { j := some { vs := [(25, .x .b)] } }), (22, { e := [(.normal, { vs := [(5, .so 0)], os := [.ar y0], kl := [1] })] })]) .nil (by kernel_rfl) (by kernel_rfl)
/- turnout/turnoutref11.add -/
noncomputable def q1r (t_0 : Sl api_Rule) (m_1 : api_Mod) : Int → Option (Int ⊕ ((Sl api_Rule × Int) ⊕ Unit)) := fun i2 =>
 bif ((api_Mod.Check m_1) && (decide (i2 < (t_0.l.length : Int)))) then ((ixI i2 t_0.l.length).bind fun n3 =>
 (q48 (gt t_0.l n3) (api_Mod.R m_1)).bind fun r4 =>
 bif r4 then (some (.inr (.inl (t_0, 14)))) else
 (some (.inl (wr .i64 (i2 + 1))))) else
 (some (.inr (.inr ())))
noncomputable def q9a (t_0 : Sl api_Rule) (m_1 : api_Mod) (room_2 : Int) : Option (Sl api_Rule × Int) :=
 (loopO (q1r t_0 m_1) 0).bind fun
 | .inl (s5, i6) => (some (s5, i6))
 | .inr _ => ((q3p t_0 m_1 true false).bind fun (r7, r8) =>
 bif decide (r8 > 0) then (some (r7, 0)) else
 (bif decide ((t_0.l.length : Int) ≥ room_2) then (some (t_0, 6)) else
 ((q6z t_0 (api_Mod.R m_1)).bind fun r9 =>
 some (r9, 0))))
noncomputable def sp75 : Spc := ⟨[(false, .x (.sl y0)), (false, .x y3), (false, .x (.i .i64))], [([.x (.sl y0), .x (.i .i64)], [])], false, [], fun p => match p with | (t_0, m_1, room_2) => q9a t_0 m_1 room_2⟩
theorem ok75 : SpcOk prog 67 sp75 := q07 mixed glbok (sig := sig) (np := 3) (an := [(5, { j := some { vs := [(8, .x (.i .i64))] }, e := [(.ret, { vs := [(6, .x (.sl y0)), (7, .x (.i .i64))] }), (.exit 0, {})] })]) (.cons ok70 (.cons ok73 (.cons ok74 .nil))) (by kernel_rfl) (by kernel_rfl)
/- turnout/turnoutref11.Apply -/
noncomputable def q6b (t_0 : Sl api_Rule) (m_1 : api_Mod) (ports_2 : Int) (room_3 : Int) : Option (Sl api_Rule × Int) :=
 (bif ((decide ((api_Mod.Kind m_1) < 1)) || (decide ((api_Mod.Kind m_1) > 5))) then (some true) else
 ((q4w (api_Mod.R m_1) ports_2).bind fun r1 =>
 some (!r1)) : Option Bool).bind fun b2 =>
 bif b2 then (some (t_0, 2)) else
 (bif ((api_Mod.Kind m_1) == 1) then ((q9a t_0 m_1 room_3).bind fun (r3, r4) =>
 some (r3, r4)) else
 ((q3p t_0 m_1 (((api_Mod.Kind m_1) == 3) || ((api_Mod.Kind m_1) == 5)) (decide ((api_Mod.Kind m_1) ≥ 4))).bind fun (r5, r6) =>
 bif ((((api_Mod.Kind m_1) == 3) || ((api_Mod.Kind m_1) == 5)) && (r6 == 0)) then (some (t_0, 7)) else
 (some (r5, 0))))
noncomputable def sp76 : Spc := ⟨[(false, .x (.sl y0)), (false, .x y3), (false, .x (.i .i64)), (false, .x (.i .i64))], [([.x (.sl y0), .x (.i .i64)], [])], false, [], fun p => match p with | (t_0, m_1, ports_2, room_3) => q6b t_0 m_1 ports_2 room_3⟩
theorem ok76 : SpcOk prog 26 sp76 := q07 mixed glbok (sig := sig) (np := 4) (an := [(4, { j := some { vs := [(27, .x .b)] } })]) (.cons ok6 (.cons ok75 (.cons ok73 .nil))) (by kernel_rfl) (by kernel_rfl)
/- turnout/table.Right -/
/- turnout/turnoutref11.Mods -/
noncomputable def q3r (t_0 : Sl api_Rule) (l_1 : Sl api_Mod) (ports_2 : Int) (room_3 : Int) : (Sl api_Rule × Int) → Option ((Sl api_Rule × Int) ⊕ ((Sl api_Rule × Int × Int) ⊕ (Sl api_Rule))) := fun (s3, i4) =>
 bif decide (i4 < (l_1.l.length : Int)) then ((ixI i4 l_1.l.length).bind fun n5 =>
 (q6b s3 (gt l_1.l n5) ports_2 room_3).bind fun (r6, r7) =>
 bif (r7 != 0) then (some (.inr (.inl (t_0, i4, r7)))) else
 (some (.inl (r6, wr .i64 (i4 + 1))))) else
 (some (.inr (.inr s3)))
noncomputable def q86 (t_0 : Sl api_Rule) (l_1 : Sl api_Mod) (ports_2 : Int) (room_3 : Int) : Option (Sl api_Rule × Int × Int) :=
 (loopO (q3r t_0 l_1 ports_2 room_3) (t_0, 0)).bind fun
 | .inl (s8, i9, i10) => (some (s8, i9, i10))
 | .inr s11 => (some (s11, (-1), 0))
noncomputable def sp78 : Spc := ⟨[(false, .x (.sl y0)), (false, .x (.sl y3)), (false, .x (.i .i64)), (false, .x (.i .i64))], [([.x (.sl y0), .x (.i .i64), .x (.i .i64)], [])], false, [], fun p => match p with | (t_0, l_1, ports_2, room_3) => q86 t_0 l_1 ports_2 room_3⟩
theorem ok78 : SpcOk prog 28 sp78 := q07 mixed glbok (sig := sig) (np := 4) (an := [(7, { j := some { vs := [(11, .x (.sl y0)), (12, .x (.i .i64))] }, e := [(.ret, { vs := [(8, .x (.sl y0)), (9, .x (.i .i64)), (10, .x (.i .i64))] }), (.exit 0, { vs := [(11, .x (.sl y0))] })] })]) (.cons ok76 .nil) (by kernel_rfl) (by kernel_rfl)
/- turnout/turnoutlaw11.TableChanges -/
/- slices.Equal[[]turnout/api.Act,turnout/api.Act] -/
noncomputable def q0m (s1_0 : Sl api_Act) (s2_1 : Sl api_Act) : Int → Option (Int ⊕ (Bool ⊕ Unit)) := fun i2 =>
 bif decide (i2 < (s1_0.l.length : Int)) then ((ixI i2 s1_0.l.length).bind fun n3 =>
 (ixI i2 s2_1.l.length).bind fun n4 =>
 bif (!(decide ((gt s1_0.l n3) = (gt s2_1.l n4)))) then (some (.inr (.inl false))) else
 (some (.inl (wr .i64 (i2 + 1))))) else
 (some (.inr (.inr ())))
noncomputable def q0s (s1_0 : Sl api_Act) (s2_1 : Sl api_Act) : Option Bool :=
 bif ((s1_0.l.length : Int) != (s2_1.l.length : Int)) then (some false) else
 ((loopO (q0m s1_0 s2_1) 0).bind fun
 | .inl b5 => (some b5)
 | .inr _ => (some true))
noncomputable def sp80 : Spc := ⟨[(false, .x (.sl y2)), (false, .x (.sl y2))], [([.x .b], [])], true, [], fun p => match p with | (s1_0, s2_1) => q0s s1_0 s2_1⟩
theorem ok80 : SpcOk prog 104 sp80 := q07 mixed glbok (sig := sig) (np := 2) (an := [(10, { j := some { vs := [(13, .x (.i .i64))] }, e := [(.ret, { vs := [(4, .x .b)] }), (.exit 0, {})] })]) .nil (by kernel_rfl) (by kernel_rfl)
/- turnout/act.Same -/
noncomputable def q9b (a_0 : Sl api_Act) (b_1 : Sl api_Act) : Option Bool :=
 (q0s a_0 b_1).bind fun r1 =>
 some r1
noncomputable def sp81 : Spc := ⟨[(false, .x (.sl y2)), (false, .x (.sl y2))], [([.x .b], [])], true, [], fun p => match p with | (a_0, b_1) => q9b a_0 b_1⟩
theorem ok81 : SpcOk prog 94 sp81 := q07 mixed glbok (sig := sig) (np := 2) (an := []) (.cons ok80 .nil) (by kernel_rfl) (by kernel_rfl)
/- turnout/rule.Same -/
noncomputable def q5u (a_0 : api_Rule) (b_1 : api_Rule) : Option Bool :=
 ((q6v a_0 b_1).bind fun r1 =>
 bif r1 then ((q9b (api_Rule.Acts a_0) (api_Rule.Acts b_1)).bind fun r2 =>
 some r2) else
 (some false) : Option Bool).bind fun b3 =>
 some b3
noncomputable def sp82 : Spc := ⟨[(false, .x y0), (false, .x y0)], [([.x .b], [])], true, [], fun p => match p with | (a_0, b_1) => q5u a_0 b_1⟩
theorem ok82 : SpcOk prog 72 sp82 := q07 mixed glbok (sig := sig) (np := 2) (an := [(3, { j := some { vs := [(4, .x .b)] } })]) (.cons ok27 (.cons ok81 .nil)) (by kernel_rfl) (by kernel_rfl)
/- slices.EqualFunc[[]turnout/api.Rule,[]turnout/api.Rule,turnout/api.Rule,turnout/api.Rule] -/
/- turnout/table.Same -/
/- turnout/turnoutlaw11.TableTells -/
/- turnout/bundle.New -/
noncomputable def q4o : Option bundle_Bundle :=
 some (⟨0, (zeE (.ar 16 .b)), (zeE (.ar 16 y3)), 0⟩ : bundle_Bundle)
noncomputable def sp86 : Spc := ⟨[], [([.pb y5 (.x y5)], [])], false, [], fun p => match p with | _ => q4o⟩
theorem ok86 : SpcOk prog 31 sp86 := q07 mixed glbok (sig := sig) (np := 0) (an := []) .nil (by kernel_rfl) (by kernel_rfl)
/- (*turnout/bundle.Bundle).State -/
noncomputable def q01 (b_0 : bundle_Bundle) : Option Int :=
 some (bundle_Bundle.state b_0)
noncomputable def sp87 : Spc := ⟨[(false, .pt y5)], [([.x (.i .i64)], [])], true, [], fun p => match p with | b_0 => q01 b_0⟩
theorem ok87 : SpcOk prog 41 sp87 := q07 mixed glbok (sig := sig) (np := 1) (an := []) .nil (by kernel_rfl) (by kernel_rfl)
/- turnout/bundle.same -/
noncomputable def q3w (a_0 : api_Mod) (b_1 : api_Mod) : Option Bool :=
 (bif (((api_Mod.Kind a_0) == (api_Mod.Kind b_1)) && ((api_Mod.Check a_0) == (api_Mod.Check b_1))) then ((q5u (api_Mod.R a_0) (api_Mod.R b_1)).bind fun r1 =>
 some r1) else
 (some false) : Option Bool).bind fun b2 =>
 some b2
noncomputable def sp88 : Spc := ⟨[(false, .x y3), (false, .x y3)], [([.x .b], [])], true, [], fun p => match p with | (a_0, b_1) => q3w a_0 b_1⟩
theorem ok88 : SpcOk prog 74 sp88 := q07 mixed glbok (sig := sig) (np := 2) (an := [(3, { j := some { vs := [(4, .x .b)] } })]) (.cons ok82 .nil) (by kernel_rfl) (by kernel_rfl)
/- (*turnout/bundle.Bundle).Add -/
noncomputable def q0w (b_0 : bundle_Bundle) (i_1 : Int) (m_2 : api_Mod) : Option (Int × bundle_Bundle) :=
 (q01 b_0).bind fun r1 =>
 bif (r1 != 0) then (some (16, b_0)) else
 (bif ((decide (i_1 < 0)) || (decide (i_1 ≥ 16))) then (some (2, b_0)) else
 (((ixI i_1 16).bind fun n2 =>
 bif gt ((bundle_Bundle.has b_0).1) n2 then ((ixI i_1 16).bind fun n3 =>
 (q3w (gt ((bundle_Bundle.l b_0).1) n3) m_2).bind fun r4 =>
 some (!r4)) else
 (some false) : Option Bool).bind fun b5 =>
 bif b5 then (some (8, b_0)) else
 ((ixI i_1 16).bind fun n6 =>
 (ixI i_1 16).bind fun n7 =>
 some (0, (⟨bundle_Bundle.state b_0, Arr.set (bundle_Bundle.has b_0) n6 true, Arr.set (bundle_Bundle.l b_0) n7 m_2, bundle_Bundle.n b_0⟩ : bundle_Bundle)))))
noncomputable def sp89 : Spc := ⟨[(true, .pb y5 (.x y5)), (false, .x (.i .i64)), (false, .x y3)], [([.x (.i .i64)], [.pb y5 (.x y5)])], false, [true, false, false], fun p => match p with | (b_0, i_1, m_2) => q0w b_0 i_1 m_2⟩
theorem ok89 : SpcOk prog 32 sp89 := q07 mixed glbok (sig := sig) (np := 3) (an := [(12, { j := some { vs := [(18, .x .b)] } })]) (.cons ok87 (.cons ok88 .nil)) (by kernel_rfl) (by kernel_rfl)
/- (*turnout/bundle.Bundle).Close -/
noncomputable def q0d (b_0 : bundle_Bundle) : Int → Option (Int ⊕ (Int ⊕ Unit)) := fun i3 =>
 bif decide (i3 < 16) then ((ixI i3 16).bind fun n4 =>
 bif gt ((bundle_Bundle.has b_0).1) n4 then (some (.inr (.inl 8))) else
 (some (.inl (wr .i64 (i3 + 1))))) else
 (some (.inr (.inr ())))
noncomputable def q02 (b_0 : bundle_Bundle) (n_1 : Int) : Int → Option (Int ⊕ (Int ⊕ Unit)) := fun i7 =>
 bif decide (i7 < n_1) then ((ixI i7 16).bind fun n8 =>
 bif (!(gt ((bundle_Bundle.has b_0).1) n8)) then (some (.inr (.inl 7))) else
 (some (.inl (wr .i64 (i7 + 1))))) else
 (some (.inr (.inr ())))
noncomputable def q17 (b_0 : bundle_Bundle) (n_1 : Int) : Option (Int × bundle_Bundle) :=
 (q01 b_0).bind fun r1 =>
 bif (r1 == 2) then (some (16, b_0)) else
 (bif (((bundle_Bundle.state b_0) == 1) && (n_1 == (bundle_Bundle.n b_0))) then (some (0, b_0)) else
 (bif ((((bundle_Bundle.state b_0) == 1) || (decide (n_1 < 0))) || (decide (n_1 > 16))) then (some (2, b_0)) else
 ((loopO (q0d b_0) n_1).bind fun
 | .inl i5 => (some (i5, b_0))
 | .inr _ => ((loopO (q02 b_0 n_1) 0).bind fun
 | .inl i9 => (some (i9, b_0))
 | .inr _ => (some (0, (⟨1, bundle_Bundle.has b_0, bundle_Bundle.l b_0, n_1⟩ : bundle_Bundle)))))))
noncomputable def sp90 : Spc := ⟨[(true, .pb y5 (.x y5)), (false, .x (.i .i64))], [([.x (.i .i64)], [.pb y5 (.x y5)])], false, [true, false], fun p => match p with | (b_0, n_1) => q17 b_0 n_1⟩
theorem ok90 : SpcOk prog 34 sp90 := q07 mixed glbok (sig := sig) (np := 2) (an := [(18, { j := some { vs := [(5, .x (.i .i64))] }, e := [(.ret, { vs := [(4, .x (.i .i64))] }), (.exit 1, {})] }), (31, { j := some { vs := [(51, .x (.i .i64))] }, e := [(.ret, { vs := [(4, .x (.i .i64))] }), (.exit 3, {})] })]) (.cons ok87 .nil) (by kernel_rfl) (by kernel_rfl)
/- (*turnout/bundle.Bundle).Mods -/
noncomputable def q0v (b_0 : bundle_Bundle) : (Int × Sl api_Mod) → Option ((Int × Sl api_Mod) ⊕ (Sl api_Mod)) := fun (i5, s6) =>
 bif decide (i5 < (bundle_Bundle.n b_0)) then ((ixI i5 16).bind fun n7 =>
 (capI (s6.l ++ [gt ((bundle_Bundle.l b_0).1) n7])).bind fun l8 =>
 some (.inl (wr .i64 (i5 + 1), (Sl.mk l8)))) else
 (some (.inr s6))
noncomputable def q0q (b_0 : bundle_Bundle) : Option (Sl api_Mod × bundle_Bundle) :=
 (q01 b_0).bind fun r1 =>
 bif (r1 != 1) then (some (Sl.nil, b_0)) else
 ((loopO (q0v b_0) (0, Sl.nil)).bind fun s9 =>
 some (s9, b_0))
noncomputable def sp91 : Spc := ⟨[(true, .pb y5 (.x y5))], [([.x (.sl y3)], [.pb y5 (.x y5)])], false, [true], fun p => match p with | b_0 => q0q b_0⟩
theorem ok91 : SpcOk prog 43 sp91 := q07 mixed glbok (sig := sig) (np := 1) (an := [(12, { j := some { vs := [(3, .so 0), (12, .x (.i .i64))], os := [.ar y3] }, e := [(.exit 0, { vs := [(3, .so 0)], os := [.ar y3] })] })]) (.cons ok87 .nil) (by kernel_rfl) (by kernel_rfl)
/- turnout/turnoutref12.Same -/
noncomputable def q2u (a_0 : api_Mod) (b_1 : api_Mod) : Option Bool :=
 (bif (((api_Mod.Kind a_0) == (api_Mod.Kind b_1)) && ((api_Mod.Check a_0) == (api_Mod.Check b_1))) then ((q40 (api_Mod.R a_0) (api_Mod.R b_1)).bind fun r1 =>
 some r1) else
 (some false) : Option Bool).bind fun b2 =>
 some b2
noncomputable def sp92 : Spc := ⟨[(false, .x y3), (false, .x y3)], [([.x .b], [])], true, [], fun p => match p with | (a_0, b_1) => q2u a_0 b_1⟩
theorem ok92 : SpcOk prog 73 sp92 := q07 mixed glbok (sig := sig) (np := 2) (an := [(3, { j := some { vs := [(4, .x .b)] } })]) (.cons ok57 .nil) (by kernel_rfl) (by kernel_rfl)
/- turnout/turnoutlaw12.awake -/
noncomputable def q2s : Option Bool :=
 (q4o).bind fun r1 =>
 (q5s 1 1 5 0).bind fun r2 =>
 (q5s 1 2 5 1).bind fun r3 =>
 (q0w r1 1 (⟨1, r3, false⟩ : api_Mod)).bind fun (r4, q5) =>
 (q0w q5 0 (⟨1, r2, false⟩ : api_Mod)).bind fun (r6, q7) =>
 (q0w q7 1 (⟨1, r3, false⟩ : api_Mod)).bind fun (r8, q9) =>
 (q17 q9 2).bind fun (r10, q11) =>
 (q0q q11).bind fun (r12, q13) =>
 (bif (((((r4 == 0) && (r6 == r4)) && (r8 == r4)) && (r10 == r4)) && ((r12.l.length : Int) == 2)) then ((ixI 0 r12.l.length).bind fun n14 =>
 (q2u (gt r12.l n14) (⟨1, r2, false⟩ : api_Mod)).bind fun r15 =>
 bif r15 then ((ixI 1 r12.l.length).bind fun n16 =>
 (q2u (gt r12.l n16) (⟨1, r3, false⟩ : api_Mod)).bind fun r17 =>
 bif r17 then ((q01 q13).bind fun r18 =>
 some (r18 == 1)) else
 (some false)) else
 (some false)) else
 (some false) : Option Bool).bind fun b19 =>
 some b19
noncomputable def sp93 : Spc := ⟨[], [([.x .b], [])], true, [], fun p => match p with | _ => q2s⟩
theorem ok93 : SpcOk prog 30 sp93 := q07 mixed glbok (sig := sig) (np := 0) (an := [(11, { j := some { vs := [(0, .x .b)] } })]) (.cons ok86 (.cons ok14 (.cons ok89 (.cons ok90 (.cons ok91 (.cons ok92 (.cons ok87 .nil))))))) (by kernel_rfl) (by kernel_rfl)
/- (*turnout/turnoutref12.Bundle).Has -/
noncomputable def q0t (b_0_L : Sl ref12_Item) (i_1 : Int) : (Int × api_Mod) → Option ((Int × api_Mod) ⊕ ((Bool × api_Mod) ⊕ api_Mod)) := fun (i4, x5) =>
 bif decide (i4 < (b_0_L.l.length : Int)) then ((ixI i4 b_0_L.l.length).bind fun n6 =>
 bif ((ref12_Item.I (gt b_0_L.l n6)) == i_1) then ((ixI i4 b_0_L.l.length).bind fun n7 =>
 some (.inr (.inl (true, ref12_Item.M (gt b_0_L.l n7))))) else
 (some (.inl (wr .i64 (i4 + 1), x5)))) else
 (some (.inr (.inr x5)))
noncomputable def q1k (b_0_State : Int) (b_0_N : Int) (b_0_L : Sl ref12_Item) (i_1 : Int) : Option (api_Mod × Bool × Int × Int × Sl ref12_Item) :=
 (loopO (q0t b_0_L i_1) (0, (⟨0, (⟨0, (⟨0, (zeE (.ar 4 (.i .i64))), (zeE (.ar 4 (.i .i64)))⟩ : api_Match), Sl.nil⟩ : api_Rule), false⟩ : api_Mod))).bind fun
 | .inl (b8, x9) => (some (x9, b8, b_0_State, b_0_N, b_0_L))
 | .inr x10 => (some ((⟨0, (⟨0, (⟨0, (zeE (.ar 4 (.i .i64))), (zeE (.ar 4 (.i .i64)))⟩ : api_Match), Sl.nil⟩ : api_Rule), false⟩ : api_Mod), false, b_0_State, b_0_N, b_0_L))
noncomputable def sp94 : Spc := ⟨[(true, .pb y6 (.st (.pr (.x (.i .i64)) (.pr (.x (.i .i64)) (.pr (.os y7) .ni))))), (false, .x (.i .i64))], [([.x y3, .x .b], [.pb y6 (.st (.pr (.x (.i .i64)) (.pr (.x (.i .i64)) (.pr (.os y7) .ni))))])], false, [true, false], fun p => match p with | (b_0_State, b_0_N, b_0_L, i_1) => q1k b_0_State b_0_N b_0_L i_1⟩
theorem ok94 : SpcOk prog 75 sp94 := q07 mixed glbok (sig := sig) (np := 2) (an := [(5, { j := some { vs := [(4, .op 0 y3 []), (6, .x (.i .i64))], os := [.bx y3 (.x y3)], kl := [4] }, e := [(.ret, { vs := [(4, .op 0 y3 []), (5, .x .b)], os := [.bx y3 (.x y3)], kl := [4] }), (.exit 0, { vs := [(4, .op 0 y3 [])], os := [.bx y3 (.x y3)], kl := [4] })] })]) .nil (by kernel_rfl) (by kernel_rfl)
/- (*turnout/turnoutref12.Bundle).Add -/
noncomputable def q3c (b_0_State : Int) (b_0_N : Int) (b_0_L : Sl ref12_Item) (i_1 : Int) (m_2 : api_Mod) : Option (Int × Int × Int × Sl ref12_Item) :=
 bif (b_0_State != 0) then (some (16, b_0_State, b_0_N, b_0_L)) else
 (bif ((decide (i_1 < 0)) || (decide (i_1 > 15))) then (some (2, b_0_State, b_0_N, b_0_L)) else
 ((q1k b_0_State b_0_N b_0_L i_1).bind fun (r1, r2, q3, q4, s5) =>
 (bif r2 then ((q2u r1 m_2).bind fun r6 =>
 some (!r6)) else
 (some false) : Option Bool).bind fun b7 =>
 bif b7 then (some (8, q3, q4, s5)) else
 ((bif (!r2) then ((capI (s5.l ++ [(⟨i_1, m_2⟩ : ref12_Item)])).bind fun l8 =>
 some (q3, q4, (Sl.mk l8))) else
 (some (q3, q4, s5)) : Option (Int × Int × Sl ref12_Item)).bind fun (i9, i10, s11) =>
 some (0, i9, i10, s11))))
noncomputable def sp95 : Spc := ⟨[(true, .pb y6 (.st (.pr (.x (.i .i64)) (.pr (.x (.i .i64)) (.pr (.os y7) .ni))))), (false, .x (.i .i64)), (false, .x y3)], [([.x (.i .i64)], [.pb y6 (.st (.pr (.x (.i .i64)) (.pr (.x (.i .i64)) (.pr (.os y7) .ni))))])], false, [true, false, false], fun p => match p with | (b_0_State, b_0_N, b_0_L, i_1, m_2) => q3c b_0_State b_0_N b_0_L i_1 m_2⟩
theorem ok95 : SpcOk prog 33 sp95 := q07 mixed glbok (sig := sig) (np := 3) (an := [(16, { j := some { vs := [(32, .x .b)] } }), (19, { e := [(.normal, { gs := (.co (.op 0 y6 []) .ni), os := [.bx y6 (.rc (.co (.x (.i .i64)) (.co (.x (.i .i64)) (.co (.so 1) .ni)))), .ar y7], kl := [0, 7] })] })]) (.cons ok94 (.cons ok92 .nil)) (by kernel_rfl) (by kernel_rfl)
/- (*turnout/turnoutref12.Bundle).Close -/
noncomputable def q0l (b_0_L : Sl ref12_Item) (n_1 : Int) : Int → Option (Int ⊕ (Int ⊕ Unit)) := fun i2 =>
 bif decide (i2 < (b_0_L.l.length : Int)) then ((ixI i2 b_0_L.l.length).bind fun n3 =>
 bif decide ((ref12_Item.I (gt b_0_L.l n3)) ≥ n_1) then (some (.inr (.inl 8))) else
 (some (.inl (wr .i64 (i2 + 1))))) else
 (some (.inr (.inr ())))
noncomputable def q2o (b_0_State : Int) (b_0_N : Int) (b_0_L : Sl ref12_Item) (n_1 : Int) : Option (Int × Int × Int × Sl ref12_Item) :=
 bif (b_0_State == 2) then (some (16, b_0_State, b_0_N, b_0_L)) else
 (bif ((b_0_State == 1) && (n_1 == b_0_N)) then (some (0, b_0_State, b_0_N, b_0_L)) else
 (bif (((b_0_State == 1) || (decide (n_1 < 0))) || (decide (n_1 > 16))) then (some (2, b_0_State, b_0_N, b_0_L)) else
 ((loopO (q0l b_0_L n_1) 0).bind fun
 | .inl i4 => (some (i4, b_0_State, b_0_N, b_0_L))
 | .inr _ => (bif decide ((b_0_L.l.length : Int) < n_1) then (some (7, b_0_State, b_0_N, b_0_L)) else
 (some (0, 1, n_1, b_0_L))))))
noncomputable def sp96 : Spc := ⟨[(true, .pb y6 (.st (.pr (.x (.i .i64)) (.pr (.x (.i .i64)) (.pr (.os y7) .ni))))), (false, .x (.i .i64))], [([.x (.i .i64)], [.pb y6 (.st (.pr (.x (.i .i64)) (.pr (.x (.i .i64)) (.pr (.os y7) .ni))))])], false, [true, false], fun p => match p with | (b_0_State, b_0_N, b_0_L, n_1) => q2o b_0_State b_0_N b_0_L n_1⟩
theorem ok96 : SpcOk prog 35 sp96 := q07 mixed glbok (sig := sig) (np := 2) (an := [(20, { j := some { vs := [(5, .x (.i .i64))] }, e := [(.ret, { vs := [(4, .x (.i .i64))] }), (.exit 0, {})] })]) .nil (by kernel_rfl) (by kernel_rfl)
/- (*turnout/bundle.Bundle).Check -/
noncomputable def q1v (b_0 : bundle_Bundle) (t_1 : Sl api_Rule) (ports_2 : Int) (room_3 : Int) : Option (Int × bundle_Bundle) :=
 (q01 b_0).bind fun r1 =>
 bif (r1 != 1) then (some (16, b_0)) else
 ((q0q b_0).bind fun (r2, q3) =>
 (q83 t_1 r2 ports_2 room_3).bind fun (r4, r5, r6) =>
 some (r6, q3))
noncomputable def sp97 : Spc := ⟨[(true, .pb y5 (.x y5)), (false, .x (.sl y0)), (false, .x (.i .i64)), (false, .x (.i .i64))], [([.x (.i .i64)], [.pb y5 (.x y5)])], false, [true, false, false, false], fun p => match p with | (b_0, t_1, ports_2, room_3) => q1v b_0 t_1 ports_2 room_3⟩
theorem ok97 : SpcOk prog 36 sp97 := q07 mixed glbok (sig := sig) (np := 4) (an := []) (.cons ok87 (.cons ok91 (.cons ok46 .nil))) (by kernel_rfl) (by kernel_rfl)
/- (*turnout/turnoutref12.Bundle).Mods -/
noncomputable def q1c : (Int × Int × Int × Sl api_Mod × Sl ref12_Item) → Option ((Int × Int × Int × Sl api_Mod × Sl ref12_Item) ⊕ (Sl api_Mod × Int × Int × Sl ref12_Item)) := fun (i7, i8, i9, s10, s11) =>
 bif ((i8 == 1) && (decide (i7 < i9))) then ((q1k i8 i9 s11 i7).bind fun (r12, r13, q14, q15, s16) =>
 (capI (s10.l ++ [r12])).bind fun l17 =>
 some (.inl (wr .i64 (i7 + 1), q14, q15, (Sl.mk l17), s16))) else
 (some (.inr (s10, i8, i9, s11)))
noncomputable def q1h (b_0_State : Int) (b_0_N : Int) (b_0_L : Sl ref12_Item) : Option (Sl api_Mod × Int × Int × Sl ref12_Item) :=
 (loopO (q1c) (0, b_0_State, b_0_N, Sl.nil, b_0_L)).bind fun (s18, i19, i20, s21) =>
 some (s18, i19, i20, s21)
noncomputable def sp98 : Spc := ⟨[(true, .pb y6 (.st (.pr (.x (.i .i64)) (.pr (.x (.i .i64)) (.pr (.os y7) .ni)))))], [([.x (.sl y3)], [.pb y6 (.st (.pr (.x (.i .i64)) (.pr (.x (.i .i64)) (.pr (.os y7) .ni))))])], false, [true], fun p => match p with | (b_0_State, b_0_N, b_0_L) => q1h b_0_State b_0_N b_0_L⟩
theorem ok98 : SpcOk prog 44 sp98 := q07 mixed glbok (sig := sig) (np := 1) (an := [(7, { j := some { vs := [(0, .op 0 y6 []), (3, .so 1), (4, .x (.i .i64))], gs := (.co (.op 0 y6 []) .ni), os := [.bx y6 (.rc (.co (.x (.i .i64)) (.co (.x (.i .i64)) (.co (.so 2) .ni)))), .ar y3, .ar y7], kl := [0, 3] }, e := [(.exit 0, { vs := [(3, .so 0)], gs := (.co (.op 1 y6 []) .ni), os := [.ar y3, .bx y6 (.rc (.co (.x (.i .i64)) (.co (.x (.i .i64)) (.co (.so 2) .ni)))), .ar y7], kl := [0, 3] })] })]) (.cons ok94 .nil) (by kernel_rfl) (by kernel_rfl)
/- (*turnout/turnoutref12.Bundle).Check -/
noncomputable def q23 (b_0_State : Int) (b_0_N : Int) (b_0_L : Sl ref12_Item) (t_1 : Sl api_Rule) (ports_2 : Int) (room_3 : Int) : Option (Int × Int × Int × Sl ref12_Item) :=
 bif (b_0_State != 1) then (some (16, b_0_State, b_0_N, b_0_L)) else
 ((q1h b_0_State b_0_N b_0_L).bind fun (r1, q2, q3, s4) =>
 (q86 t_1 r1 ports_2 room_3).bind fun (r5, r6, r7) =>
 some (r7, q2, q3, s4))
noncomputable def sp99 : Spc := ⟨[(true, .pb y6 (.st (.pr (.x (.i .i64)) (.pr (.x (.i .i64)) (.pr (.os y7) .ni))))), (false, .x (.sl y0)), (false, .x (.i .i64)), (false, .x (.i .i64))], [([.x (.i .i64)], [.pb y6 (.st (.pr (.x (.i .i64)) (.pr (.x (.i .i64)) (.pr (.os y7) .ni))))])], false, [true, false, false, false], fun p => match p with | (b_0_State, b_0_N, b_0_L, t_1, ports_2, room_3) => q23 b_0_State b_0_N b_0_L t_1 ports_2 room_3⟩
theorem ok99 : SpcOk prog 37 sp99 := q07 mixed glbok (sig := sig) (np := 4) (an := []) (.cons ok98 (.cons ok78 .nil)) (by kernel_rfl) (by kernel_rfl)
/- (*turnout/bundle.Bundle).Discard -/
noncomputable def q25 (b_0 : bundle_Bundle) : Option bundle_Bundle :=
 some (⟨2, (zeE (.ar 16 .b)), (zeE (.ar 16 y3)), 0⟩ : bundle_Bundle)
noncomputable def sp100 : Spc := ⟨[(true, .pb y5 (.x y5))], [([], [.pb y5 (.x y5)])], false, [true], fun p => match p with | b_0 => q25 b_0⟩
theorem ok100 : SpcOk prog 40 sp100 := q07 mixed glbok (sig := sig) (np := 1) (an := []) .nil (by kernel_rfl) (by kernel_rfl)
/- (*turnout/bundle.Bundle).Commit -/
noncomputable def q28 (b_0 : bundle_Bundle) (t_1 : Sl api_Rule) (ports_2 : Int) (room_3 : Int) : Option (Sl api_Rule × Int × bundle_Bundle) :=
 (q1v b_0 t_1 ports_2 room_3).bind fun (r1, q2) =>
 bif (r1 != 0) then (some (t_1, r1, q2)) else
 ((q0q q2).bind fun (r3, q4) =>
 (q83 t_1 r3 ports_2 room_3).bind fun (r5, r6, r7) =>
 (q25 q4).bind fun q8 =>
 some (r5, 0, q8))
noncomputable def sp101 : Spc := ⟨[(true, .pb y5 (.x y5)), (false, .x (.sl y0)), (false, .x (.i .i64)), (false, .x (.i .i64))], [([.x (.sl y0), .x (.i .i64)], [.pb y5 (.x y5)])], false, [true, false, false, false], fun p => match p with | (b_0, t_1, ports_2, room_3) => q28 b_0 t_1 ports_2 room_3⟩
theorem ok101 : SpcOk prog 38 sp101 := q07 mixed glbok (sig := sig) (np := 4) (an := []) (.cons ok97 (.cons ok91 (.cons ok46 (.cons ok100 .nil)))) (by kernel_rfl) (by kernel_rfl)
/- (*turnout/turnoutref12.Bundle).Commit -/
noncomputable def q2f (b_0_State : Int) (b_0_N : Int) (b_0_L : Sl ref12_Item) (t_1 : Sl api_Rule) (ports_2 : Int) (room_3 : Int) : Option (Sl api_Rule × Int × Int × Int × Sl ref12_Item) :=
 (q23 b_0_State b_0_N b_0_L t_1 ports_2 room_3).bind fun (r1, q2, q3, s4) =>
 bif (r1 != 0) then (some (t_1, r1, q2, q3, s4)) else
 ((q1h q2 q3 s4).bind fun (r5, q6, q7, s8) =>
 (q86 t_1 r5 ports_2 room_3).bind fun (r9, r10, r11) =>
 some (r9, 0, 2, q7, Sl.nil))
noncomputable def sp102 : Spc := ⟨[(true, .pb y6 (.st (.pr (.x (.i .i64)) (.pr (.x (.i .i64)) (.pr (.os y7) .ni))))), (false, .x (.sl y0)), (false, .x (.i .i64)), (false, .x (.i .i64))], [([.x (.sl y0), .x (.i .i64)], [.pb y6 (.st (.pr (.x (.i .i64)) (.pr (.x (.i .i64)) (.pr (.os y7) .ni))))])], false, [true, false, false, false], fun p => match p with | (b_0_State, b_0_N, b_0_L, t_1, ports_2, room_3) => q2f b_0_State b_0_N b_0_L t_1 ports_2 room_3⟩
theorem ok102 : SpcOk prog 39 sp102 := q07 mixed glbok (sig := sig) (np := 4) (an := []) (.cons ok99 (.cons ok98 (.cons ok78 .nil))) (by kernel_rfl) (by kernel_rfl)
/- turnout/turnoutref12.Mods -/
noncomputable def q4j (a_0 : Sl api_Mod) (b_1 : Sl api_Mod) : Int → Option (Int ⊕ (Bool ⊕ Unit)) := fun i2 =>
 bif decide (i2 < (a_0.l.length : Int)) then ((ixI i2 a_0.l.length).bind fun n3 =>
 (ixI i2 b_1.l.length).bind fun n4 =>
 (q2u (gt a_0.l n3) (gt b_1.l n4)).bind fun r5 =>
 bif (!r5) then (some (.inr (.inl false))) else
 (some (.inl (wr .i64 (i2 + 1))))) else
 (some (.inr (.inr ())))
noncomputable def q82 (a_0 : Sl api_Mod) (b_1 : Sl api_Mod) : Option Bool :=
 bif ((a_0.l.length : Int) != (b_1.l.length : Int)) then (some false) else
 ((loopO (q4j a_0 b_1) 0).bind fun
 | .inl b6 => (some b6)
 | .inr _ => (some true))
noncomputable def sp103 : Spc := ⟨[(false, .x (.sl y3)), (false, .x (.sl y3))], [([.x .b], [])], true, [], fun p => match p with | (a_0, b_1) => q82 a_0 b_1⟩
theorem ok103 : SpcOk prog 42 sp103 := q07 mixed glbok (sig := sig) (np := 2) (an := [(10, { j := some { vs := [(5, .x (.i .i64))] }, e := [(.ret, { vs := [(4, .x .b)] }), (.exit 0, {})] })]) (.cons ok92 .nil) (by kernel_rfl) (by kernel_rfl)
/- turnout/turnoutlaw12.BundlePlays -/
noncomputable def q1n (l_0 : Sl law12_Deed) (ports_2 : Int) (room_3 : Int) : (Sl api_Rule × Int × bundle_Bundle × Int × Int × Sl ref12_Item) → Option ((Sl api_Rule × Int × bundle_Bundle × Int × Int × Sl ref12_Item) ⊕ (Bool ⊕ Unit)) := fun (s13, i14, x15, i16, i17, s18) =>
 bif ((decide (i14 < (l_0.l.length : Int))) && (decide (i14 < 40))) then ((ixI i14 l_0.l.length).bind fun n19 =>
 bif decide ((((api_Rule.Acts (api_Mod.R (law12_Deed.M (gt l_0.l n19)))).l).length : Int) > 10) then ((q2s).bind fun r20 =>
 some (.inr (.inl r20))) else
 (((ixI i14 l_0.l.length).bind fun n21 =>
 (bif ((law12_Deed.Kind (gt l_0.l n21)) == 0) then (some ((law12_Deed.Kind (gt l_0.l n21)) == 0)) else
 (bif ((law12_Deed.Kind (gt l_0.l n21)) == 1) then (some ((law12_Deed.Kind (gt l_0.l n21)) == 1)) else
 (bif ((law12_Deed.Kind (gt l_0.l n21)) == 2) then (some ((law12_Deed.Kind (gt l_0.l n21)) == 2)) else
 (some ((law12_Deed.Kind (gt l_0.l n21)) == 3)))) : Option Bool).bind fun b22 =>
 bif b22 then ((ixI i14 l_0.l.length).bind fun n23 =>
 (ixI i14 l_0.l.length).bind fun n24 =>
 (q0w x15 (law12_Deed.I (gt l_0.l n23)) (law12_Deed.M (gt l_0.l n24))).bind fun (r25, q26) =>
 (ixI i14 l_0.l.length).bind fun n27 =>
 (ixI i14 l_0.l.length).bind fun n28 =>
 (q3c i16 i17 s18 (law12_Deed.I (gt l_0.l n27)) (law12_Deed.M (gt l_0.l n28))).bind fun (r29, q30, q31, s32) =>
 some (.inl (s13, r25, r29, q26, q30, q31, s32))) else
 (bif ((law12_Deed.Kind (gt l_0.l n21)) == 4) then ((ixI i14 l_0.l.length).bind fun n33 =>
 (q17 x15 (law12_Deed.I (gt l_0.l n33))).bind fun (r34, q35) =>
 (ixI i14 l_0.l.length).bind fun n36 =>
 (q2o i16 i17 s18 (law12_Deed.I (gt l_0.l n36))).bind fun (r37, q38, q39, s40) =>
 some (.inl (s13, r34, r37, q35, q38, q39, s40))) else
 (bif ((law12_Deed.Kind (gt l_0.l n21)) == 5) then ((q1v x15 s13 ports_2 room_3).bind fun (r41, q42) =>
 (q23 i16 i17 s18 s13 ports_2 room_3).bind fun (r43, q44, q45, s46) =>
 some (.inl (s13, r41, r43, q42, q44, q45, s46))) else
 (bif ((law12_Deed.Kind (gt l_0.l n21)) == 6) then ((q28 x15 s13 ports_2 room_3).bind fun (r47, r48, q49) =>
 (q2f i16 i17 s18 s13 ports_2 room_3).bind fun (r50, r51, q52, q53, s54) =>
 (q6l r47 r50).bind fun r55 =>
 bif (!r55) then (some (.inr false)) else
 (some (.inl (r50, r48, r51, q49, q52, q53, s54)))) else
 (bif ((law12_Deed.Kind (gt l_0.l n21)) == 7) then ((q25 x15).bind fun q56 =>
 some (.inl (s13, 0, 0, q56, 2, i17, Sl.nil))) else
 (some (.inl (s13, 0, 0, x15, i16, i17, s18))))))) : Option ((Sl api_Rule × Int × Int × bundle_Bundle × Int × Int × Sl ref12_Item) ⊕ Bool)).bind fun
 | .inl (s57, i58, i59, x60, i61, i62, s63) => ((bif (i58 != i59) then (some (true, x60, i61, i62, s63)) else
 ((q01 x60).bind fun r64 =>
 bif (r64 != i61) then (some (true, x60, i61, i62, s63)) else
 ((q0q x60).bind fun (r65, q66) =>
 (q1h i61 i62 s63).bind fun (r67, q68, q69, s70) =>
 (q82 r65 r67).bind fun r71 =>
 some ((!r71), q66, q68, q69, s70))) : Option (Bool × bundle_Bundle × Int × Int × Sl ref12_Item)).bind fun (b72, x73, i74, i75, s76) =>
 bif b72 then (some (.inr (.inl false))) else
 (some (.inl (s57, wr .i64 (i14 + 1), x73, i74, i75, s76))))
 | .inr b77 => (some (.inr (.inl b77))))) else
 (some (.inr (.inr ())))
noncomputable def q3x (l_0 : Sl law12_Deed) (t_1 : Sl api_Rule) (ports_2 : Int) (room_3 : Int) : Option Bool :=
 (bif decide ((t_1.l.length : Int) > 20) then (some true) else
 ((q6c t_1 ports_2 room_3).bind fun r1 =>
 some (!r1)) : Option Bool).bind fun b2 =>
 bif b2 then ((q2s).bind fun r3 =>
 some r3) else
 ((q4o).bind fun r4 =>
 (loopO (q1n l_0 ports_2 room_3) (t_1, 0, r4, 0, 0, Sl.nil)).bind fun
 | .inl b78 => (some b78)
 | .inr _ => ((q2s).bind fun r79 =>
 some r79))
noncomputable def sp104 : Spc := ⟨[(false, .x (.sl y8)), (false, .x (.sl y0)), (false, .x (.i .i64)), (false, .x (.i .i64))], [([.x .b], [])], true, [], fun p => match p with | (l_0, t_1, ports_2, room_3) => q3x l_0 t_1 ports_2 room_3⟩
theorem ok104 : SpcOk prog 8 sp104 := q07 mixed glbok (sig := sig) (np := 4) (an := [(4, { j := some { vs := [(27, .x .b)] } }), (12, { j := some { vs := [(1, .x (.sl y0)), (9, .op 0 y5 []), (10, .op 1 y6 []), (11, .x (.i .i64))], os := [.bx y5 (.x y5), .bx y6 (.rc (.co (.x (.i .i64)) (.co (.x (.i .i64)) (.co (.so 2) .ni)))), .ar y7], kl := [0, 227] }, e := [(.ret, { vs := [(8, .x .b)], kl := [0, 227] }), (.exit 0, { kl := [0, 227] })] }), (24, { e := [(.normal, { vs := [(1, .x (.sl y0)), (9, .op 0 y5 []), (10, .op 1 y6 []), (12, .x (.i .i64)), (13, .x (.i .i64))], os := [.bx y5 (.x y5), .bx y6 (.rc (.co (.x (.i .i64)) (.co (.x (.i .i64)) (.co (.so 2) .ni)))), .ar y7], kl := [228, 229, 230] }), (.ret, { vs := [(8, .x .b)], kl := [228, 229, 230] })] }), (27, { e := [(.normal, { vs := [(57, .x .b)] })] }), (64, { j := some { vs := [(9, .op 0 y5 []), (10, .op 1 y6 []), (168, .x .b)], os := [.bx y5 (.x y5), .bx y6 (.rc (.co (.x (.i .i64)) (.co (.x (.i .i64)) (.co (.so 2) .ni)))), .ar y7], kl := [231, 232, 233] } })]) (.cons ok8 (.cons ok93 (.cons ok86 (.cons ok89 (.cons ok95 (.cons ok90 (.cons ok96 (.cons ok97 (.cons ok99 (.cons ok101 (.cons ok102 (.cons ok58 (.cons ok100 (.cons ok87 (.cons ok91 (.cons ok98 (.cons ok103 .nil))))))))))))))))) (by kernel_rfl) (by kernel_rfl)
/- turnout/turnoutlaw12.BundleOrder -/
end Go.Proofs.Ytmeemkllagjnmaa.B
