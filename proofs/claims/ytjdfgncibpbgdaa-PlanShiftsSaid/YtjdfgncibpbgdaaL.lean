/- What functions of the program compute, and that the model's run computes it. Conditions: as stated. -/
import Derived.Test.YtjdfgncibpbgdaaLS
import Derived.Test.YtjdfgncibpbgdaaChecked
import Derived.KernelRfl
open Go.Ev Go
namespace Go.Proofs.Ytjdfgncibpbgdaa.L
noncomputable abbrev prog : Program := Try.prog
theorem mixed : prog.follows .mixedOrders = true := by kernel_rfl
theorem glbok : GlbOk := qrb fun _ => rfl
def sig : Sig := fun f =>
 if f = 2 then (true, []) else if f = 3 then (true, []) else if f = 4 then (true, []) else if f = 5 then (true, []) else if f = 6 then (true, []) else if f = 7 then (true, []) else if f = 8 then (true, []) else if f = 9 then (true, []) else if f = 10 then (true, []) else if f = 11 then (true, []) else if f = 12 then (true, []) else if f = 15 then (true, []) else if f = 16 then (true, []) else if f = 17 then (true, []) else if f = 19 then (true, []) else if f = 21 then (true, []) else if f = 24 then (true, []) else if f = 25 then (true, []) else if f = 26 then (true, []) else if f = 27 then (true, []) else if f = 29 then (true, []) else if f = 30 then (true, []) else if f = 32 then (true, []) else if f = 35 then (false, [true, false]) else if f = 36 then (true, []) else if f = 37 then (true, []) else if f = 38 then (true, []) else if f = 40 then (false, [true, false]) else if f = 42 then (true, []) else if f = 43 then (true, []) else if f = 47 then (true, []) else if f = 49 then (true, []) else if f = 50 then (true, []) else if f = 51 then (true, []) else if f = 52 then (true, []) else if f = 53 then (true, []) else if f = 54 then (false, [true]) else if f = 55 then (false, [true]) else if f = 57 then (false, [true, false, false, false, false]) else if f = 58 then (true, []) else if f = 59 then (true, []) else if f = 60 then (true, []) else if f = 61 then (true, []) else if f = 62 then (true, []) else if f = 63 then (true, []) else if f = 64 then (true, []) else if f = 68 then (true, []) else if f = 70 then (true, []) else if f = 71 then (true, []) else if f = 72 then (true, []) else if f = 73 then (false, [true, false, false, false]) else if f = 74 then (true, []) else if f = 75 then (true, []) else if f = 76 then (true, []) else if f = 77 then (false, [true, false, false, false]) else if f = 78 then (false, [true, false, false, false]) else if f = 79 then (false, [true, false, false, false]) else if f = 80 then (true, []) else if f = 81 then (false, [true, false, false, false]) else if f = 82 then (false, [true, false, false, false]) else if f = 83 then (false, [true, false, false, false, false]) else if f = 84 then (false, [true, false, false, false, false]) else if f = 85 then (true, []) else if f = 86 then (true, []) else if f = 87 then (true, []) else if f = 89 then (true, []) else if f = 90 then (true, []) else if f = 91 then (true, []) else if f = 93 then (true, []) else if f = 94 then (false, [true, false, false]) else if f = 95 then (false, [true, false, false]) else if f = 96 then (false, [true, false, false]) else if f = 97 then (true, []) else if f = 98 then (false, [true, false, false]) else if f = 99 then (false, [true, false, false]) else if f = 100 then (true, []) else if f = 101 then (false, [true, false, false, false]) else if f = 102 then (false, [true, false, false, false]) else if f = 103 then (true, []) else if f = 104 then (false, [true, false, false, false, false]) else if f = 105 then (true, []) else if f = 106 then (false, [true]) else if f = 107 then (false, [false, false, true, false]) else if f = 108 then (false, [false, false, false, false, true, false]) else if f = 109 then (true, []) else if f = 110 then (true, []) else if f = 111 then (true, []) else if f = 112 then (true, []) else if f = 113 then (false, [true, false, false, false]) else if f = 114 then (false, [false, false, true]) else if f = 115 then (false, [false, false, false, false, true]) else if f = 116 then (false, [false, false, false, true, false]) else if f = 117 then (true, []) else if f = 118 then (true, []) else if f = 119 then (false, [false, false, false, true]) else (false, [])
@[reducible] def api_Link : Type := Int × Int × Int × Int × Int × Int
@[reducible] def api_Link.A (x : api_Link) : Int := x.1
@[reducible] def api_Link.PortA (x : api_Link) : Int := x.2.1
@[reducible] def api_Link.B (x : api_Link) : Int := x.2.2.1
@[reducible] def api_Link.PortB (x : api_Link) : Int := x.2.2.2.1
@[reducible] def api_Link.Least (x : api_Link) : Int := x.2.2.2.2.1
@[reducible] def api_Link.Most (x : api_Link) : Int := x.2.2.2.2.2
@[reducible] def api_Host : Type := Int × Int
@[reducible] def api_Host.At (x : api_Host) : Int := x.1
@[reducible] def api_Host.Port (x : api_Host) : Int := x.2
@[reducible] def api_Topo : Type := Int × Sl api_Link × Sl api_Host
@[reducible] def api_Topo.Switches (x : api_Topo) : Int := x.1
@[reducible] def api_Topo.Links (x : api_Topo) : Sl api_Link := x.2.1
@[reducible] def api_Topo.Hosts (x : api_Topo) : Sl api_Host := x.2.2
@[reducible] def y1 : Ty := .st (.pr (.i .i64) (.pr (.i .i64) (.pr (.i .i64) (.pr (.i .i64) (.pr (.i .i64) (.i .i64))))))
@[reducible] def y2 : Ty := .st (.pr (.i .i64) (.i .i64))
@[reducible] def y0 : Ty := .st (.pr (.i .i64) (.pr (.sl y1) (.sl y2)))
@[reducible] def topo_place : Type := Int × Int
@[reducible] def topo_place.sw (x : topo_place) : Int := x.1
@[reducible] def topo_place.port (x : topo_place) : Int := x.2
@[reducible] def level_Move : Type := Int × Int × Int × Int
@[reducible] def level_Move.Sw (x : level_Move) : Int := x.1
@[reducible] def level_Move.Host (x : level_Move) : Int := x.2.1
@[reducible] def level_Move.Port (x : level_Move) : Int := x.2.2.1
@[reducible] def level_Move.Round (x : level_Move) : Int := x.2.2.2
@[reducible] def y3 : Ty := .st (.pr (.i .i64) (.pr (.i .i64) (.pr (.i .i64) (.i .i64))))
@[reducible] def plan_Round : Type := Int × Int × Sl Int
@[reducible] def plan_Round.No (x : plan_Round) : Int := x.1
@[reducible] def plan_Round.At (x : plan_Round) : Int := x.2.1
@[reducible] def plan_Round.Sws (x : plan_Round) : Sl Int := x.2.2
@[reducible] def plan_Plan : Type := Sl level_Move × Sl plan_Round × Int × Int × Int × Int
@[reducible] def plan_Plan.Moves (x : plan_Plan) : Sl level_Move := x.1
@[reducible] def plan_Plan.Rounds (x : plan_Plan) : Sl plan_Round := x.2.1
@[reducible] def plan_Plan.Life (x : plan_Plan) : Int := x.2.2.2.1
@[reducible] def plan_Plan.From (x : plan_Plan) : Int := x.2.2.2.2.1
@[reducible] def plan_Plan.To (x : plan_Plan) : Int := x.2.2.2.2.2
@[reducible] def diff_After : Type := Int × Int × Int
@[reducible] def diff_After.I (x : diff_After) : Int := x.1
@[reducible] def diff_After.J (x : diff_After) : Int := x.2.1
@[reducible] def diff_After.Gap (x : diff_After) : Int := x.2.2
@[reducible] def y4 : Ty := .st (.pr (.i .i64) (.pr (.i .i64) (.i .i64)))
@[reducible] def y6 : Ty := .st (.pr (.i .i64) (.pr (.i .i64) (.sl (.i .i64))))
@[reducible] def y5 : Ty := .st (.pr (.sl y3) (.pr (.sl y6) (.pr (.i .i64) (.pr (.i .i64) (.pr (.i .i64) (.i .i64))))))
@[reducible] def y7 : Ty := .st (.pr (.i .i64) (.pr (.ar 4 (.i .i64)) (.ar 4 (.i .i64))))
@[reducible] def api_Match : Type := Int × Arr 4 Int × Arr 4 Int
@[reducible] def api_Match.Port (x : api_Match) : Int := x.1
@[reducible] def api_Match.Val (x : api_Match) : Arr 4 Int := x.2.1
@[reducible] def api_Match.Mask (x : api_Match) : Arr 4 Int := x.2.2
@[reducible] def api_Act : Type := Int × Int × Int
@[reducible] def api_Rule : Type := Int × api_Match × Sl api_Act
@[reducible] def api_Rule.Prio (x : api_Rule) : Int := x.1
@[reducible] def api_Rule.M (x : api_Rule) : api_Match := x.2.1
@[reducible] def y8 : Ty := .st (.pr (.i .i64) (.pr y7 (.sl y4)))
@[reducible] def api_Mod : Type := Int × api_Rule × Bool
@[reducible] def y9 : Ty := .st (.pr (.i .i64) (.pr y8 .b))
@[reducible] def plan_Part : Type := Int × Sl api_Mod
@[reducible] def y10 : Ty := .st (.pr (.i .i64) (.sl y9))
/- turnout/turnoutlaw23.Small -/
noncomputable def q3o (r_1 : Sl (Sl Int)) : Int → Option (Int ⊕ (Bool ⊕ Unit)) := fun i2 =>
 bif decide (i2 < (r_1.l.length : Int)) then ((ixI i2 r_1.l.length).bind fun n3 =>
 bif decide ((((gt r_1.l n3).l).length : Int) > 12) then (some (.inr (.inl false))) else
 (some (.inl (wr .i64 (i2 + 1))))) else
 (some (.inr (.inr ())))
noncomputable def q4q (t_0 : api_Topo) (r_1 : Sl (Sl Int)) : Option Bool :=
 (loopO (q3o r_1) 0).bind fun
 | .inl b4 => (some b4)
 | .inr _ => (some (((decide ((((api_Topo.Links t_0).l).length : Int) ≤ 30)) && (decide ((((api_Topo.Hosts t_0).l).length : Int) ≤ 12))) && (decide ((r_1.l.length : Int) ≤ 12))))
noncomputable def sp0 : Spc := ⟨[(false, .x y0), (false, .x (.sl (.sl (.i .i64))))], [([.x .b], [])], true, [], fun p => match p with | (t_0, r_1) => q4q t_0 r_1⟩
theorem ok0 : SpcOk prog 10 sp0 := q0j mixed glbok (sig := sig) (np := 2) (an := [(5, { j := some { vs := [(5, .x (.i .i64))] }, e := [(.ret, { vs := [(4, .x .b)] }), (.exit 0, {})] })]) .nil (by kernel_rfl) (by kernel_rfl)
/- turnout/turnoutref17.port -/
/- turnout/turnoutref17.Right -/
/- turnout/turnoutref21.Right -/
/- turnout/turnoutref17.Peer -/
/- turnout/turnoutref21.Next -/
/- turnout/turnoutref21.steps -/
/- turnout/turnoutref21.Walk -/
/- turnout/turnoutref21.Good -/
/- turnout/topo.places -/
noncomputable def q21 (t_0 : api_Topo) : (Int × Sl topo_place) → Option ((Int × Sl topo_place) ⊕ (Sl topo_place)) := fun (i4, s5) =>
 bif decide (i4 < (((api_Topo.Links t_0).l).length : Int)) then ((ixI i4 ((api_Topo.Links t_0).l).length).bind fun n6 =>
 (capI (s5.l ++ [(⟨api_Link.A (gt ((api_Topo.Links t_0).l) n6), api_Link.PortA (gt ((api_Topo.Links t_0).l) n6)⟩ : topo_place), (⟨api_Link.B (gt ((api_Topo.Links t_0).l) n6), api_Link.PortB (gt ((api_Topo.Links t_0).l) n6)⟩ : topo_place)])).bind fun l7 =>
 some (.inl (wr .i64 (i4 + 1), (Sl.mk l7)))) else
 (some (.inr s5))
noncomputable def q22 (t_0 : api_Topo) : (Int × Sl topo_place) → Option ((Int × Sl topo_place) ⊕ (Sl topo_place)) := fun (i11, s12) =>
 bif decide (i11 < (((api_Topo.Hosts t_0).l).length : Int)) then ((ixI i11 ((api_Topo.Hosts t_0).l).length).bind fun n13 =>
 (capI (s12.l ++ [gt ((api_Topo.Hosts t_0).l) n13])).bind fun l14 =>
 some (.inl (wr .i64 (i11 + 1), (Sl.mk l14)))) else
 (some (.inr s12))
noncomputable def q3i (t_0 : api_Topo) : Option (Sl topo_place) :=
 (loopO (q21 t_0) (0, Sl.nil)).bind fun s8 =>
 (loopO (q22 t_0) (0, s8)).bind fun s15 =>
 some s15
noncomputable def sp9 : Spc := ⟨[(false, .x y0)], [([.x (.sl y2)], [])], false, [], fun p => match p with | t_0 => q3i t_0⟩
theorem ok9 : SpcOk prog 88 sp9 := q0j mixed glbok (sig := sig) (np := 1) (an := [(7, { j := some { vs := [(3, .so 0), (11, .x (.i .i64))], os := [.ar y2] }, e := [(.exit 0, { vs := [(3, .so 0)], os := [.ar y2] })] }), (19, { j := some { vs := [(3, .so 0), (32, .x (.i .i64))], os := [.ar y2], kl := [1] }, e := [(.exit 2, { vs := [(3, .so 0)], os := [.ar y2], kl := [1] })] })]) .nil (by kernel_rfl) (by kernel_rfl)
/- turnout/topo.Right -/
noncomputable def q2k (t_0 : api_Topo) : Int → Option (Int ⊕ (Bool ⊕ Unit)) := fun i2 =>
 bif decide (i2 < (((api_Topo.Links t_0).l).length : Int)) then ((ixI i2 ((api_Topo.Links t_0).l).length).bind fun n3 =>
 bif (((((api_Link.A (gt ((api_Topo.Links t_0).l) n3)) == (api_Link.B (gt ((api_Topo.Links t_0).l) n3))) || (decide ((api_Link.Least (gt ((api_Topo.Links t_0).l) n3)) < 1))) || (decide ((api_Link.Least (gt ((api_Topo.Links t_0).l) n3)) > (api_Link.Most (gt ((api_Topo.Links t_0).l) n3))))) || (decide ((api_Link.Most (gt ((api_Topo.Links t_0).l) n3)) > 1000))) then (some (.inr (.inl false))) else
 (some (.inl (wr .i64 (i2 + 1))))) else
 (some (.inr (.inr ())))
noncomputable def q16 (t_0 : api_Topo) (r5 : Sl topo_place) : (Int × Mp topo_place Int) → Option ((Int × Mp topo_place Int) ⊕ (Bool ⊕ Unit)) := fun (i9, m10) =>
 bif decide (i9 < (r5.l.length : Int)) then ((ixI i9 r5.l.length).bind fun n11 =>
 (mpSet ((mpEnt m10 0 (gt r5.l n11)).1) ((mpEnt m10 0 (gt r5.l n11)).2.2) (wr .i64 ((mpGet m10 0 (gt r5.l n11)) + 1))).bind fun m12 =>
 bif (((((decide ((topo_place.sw (gt r5.l n11)) < 0)) || (decide ((topo_place.sw (gt r5.l n11)) ≥ (api_Topo.Switches t_0)))) || (decide ((topo_place.port (gt r5.l n11)) < 0))) || (decide ((topo_place.port (gt r5.l n11)) ≥ 8))) || (decide ((mpGet m12 0 (gt r5.l n11)) > 1))) then (some (.inr (.inl false))) else
 (some (.inl (wr .i64 (i9 + 1), m12)))) else
 (some (.inr (.inr ())))
noncomputable def q47 (t_0 : api_Topo) : Option Bool :=
 bif ((((decide ((api_Topo.Switches t_0) < 1)) || (decide ((api_Topo.Switches t_0) > 8))) || (decide ((((api_Topo.Links t_0).l).length : Int) > 24))) || (decide ((((api_Topo.Hosts t_0).l).length : Int) > 8))) then (some false) else
 ((loopO (q2k t_0) 0).bind fun
 | .inl b4 => (some b4)
 | .inr _ => ((q3i t_0).bind fun r5 =>
 (loopO (q16 t_0 r5) (0, (Mp.none : Mp topo_place Int))).bind fun
 | .inl b13 => (some b13)
 | .inr _ => (some true)))
noncomputable def sp10 : Spc := ⟨[(false, .x y0)], [([.x .b], [])], true, [], fun p => match p with | t_0 => q47 t_0⟩
theorem ok10 : SpcOk prog 61 sp10 := q0j mixed glbok (sig := sig) (np := 1) (an := [(10, { j := some { vs := [(31, .x (.i .i64))] }, e := [(.ret, { vs := [(2, .x .b)] }), (.exit 0, {})] }), (27, { j := some { vs := [(5, .om 0), (62, .x (.i .i64))], os := [.mp y2 (.i .i64)], kl := [1] }, e := [(.ret, { vs := [(2, .x .b)], kl := [1] }), (.exit 2, { kl := [1] })] })]) (.cons ok9 .nil) (by kernel_rfl) (by kernel_rfl)
/- turnout/route.Right$1 -/
noncomputable def q2y (p_0 : Int) : Option Bool :=
 some ((decide (p_0 < 0)) || (decide (p_0 ≥ 8)))
noncomputable def sp11 : Spc := ⟨[(false, .x (.i .i64))], [([.x .b], [])], true, [], fun p => match p with | p_0 => q2y p_0⟩
theorem ok11 : SpcOk prog 63 sp11 := q0j mixed glbok (sig := sig) (np := 1) (an := []) .nil (by kernel_rfl) (by kernel_rfl)
/- slices.IndexFunc[[]int,int] -/
noncomputable def q05 (s_0 : Sl Int) : Int → Option (Int ⊕ (Int ⊕ Unit)) := fun i2 =>
 bif decide (i2 < (s_0.l.length : Int)) then ((ixI i2 s_0.l.length).bind fun n3 =>
 (q2y (gt s_0.l n3)).bind fun r4 =>
 bif r4 then (some (.inr (.inl i2))) else
 (some (.inl (wr .i64 (i2 + 1))))) else
 (some (.inr (.inr ())))
noncomputable def q0a (s_0 : Sl Int) : Option Int :=
 (loopO (q05 s_0) 0).bind fun
 | .inl i5 => (some i5)
 | .inr _ => (some (-1))
noncomputable def sp12 : Spc := ⟨[(false, .x (.sl (.i .i64))), (false, .fn 63 .ni)], [([.x (.i .i64)], [])], true, [], fun p => match p with | s_0 => q0a s_0⟩
theorem ok12 : SpcOk prog 89 sp12 := q0j mixed glbok (sig := sig) (np := 2) (an := [(5, { j := some { vs := [(8, .x (.i .i64))] }, e := [(.ret, { vs := [(4, .x (.i .i64))] }), (.exit 0, {})] })]) (.cons ok11 .nil) (by kernel_rfl) (by kernel_rfl)
/- slices.ContainsFunc[[]int,int] -/
noncomputable def q04 (s_0 : Sl Int) : Option Bool :=
 (q0a s_0).bind fun r1 =>
 some (decide (r1 ≥ 0))
noncomputable def sp13 : Spc := ⟨[(false, .x (.sl (.i .i64))), (false, .fn 63 .ni)], [([.x .b], [])], true, [], fun p => match p with | s_0 => q04 s_0⟩
theorem ok13 : SpcOk prog 62 sp13 := q0j mixed glbok (sig := sig) (np := 2) (an := []) (.cons ok12 .nil) (by kernel_rfl) (by kernel_rfl)
/- turnout/route.Right -/
noncomputable def q23 (t_0 : api_Topo) (r_1 : Sl (Sl Int)) : Int → Option (Int ⊕ (Bool ⊕ Unit)) := fun i3 =>
 bif decide (i3 < (r_1.l.length : Int)) then ((ixI i3 r_1.l.length).bind fun n4 =>
 (bif ((((gt r_1.l n4).l).length : Int) != (((api_Topo.Hosts t_0).l).length : Int)) then (some true) else
 ((q04 (gt r_1.l n4)).bind fun r5 =>
 some r5) : Option Bool).bind fun b6 =>
 bif b6 then (some (.inr (.inl false))) else
 (some (.inl (wr .i64 (i3 + 1))))) else
 (some (.inr (.inr ())))
noncomputable def q1x (t_0 : api_Topo) (r_1 : Sl (Sl Int)) : Option Bool :=
 (q47 t_0).bind fun r1 =>
 bif ((!r1) || ((r_1.l.length : Int) != (api_Topo.Switches t_0))) then (some false) else
 ((loopO (q23 t_0 r_1) 0).bind fun
 | .inl b7 => (some b7)
 | .inr _ => (some true))
noncomputable def sp14 : Spc := ⟨[(false, .x y0), (false, .x (.sl (.sl (.i .i64))))], [([.x .b], [])], true, [], fun p => match p with | (t_0, r_1) => q1x t_0 r_1⟩
theorem ok14 : SpcOk prog 37 sp14 := q0j mixed glbok (sig := sig) (np := 2) (an := [(10, { j := some { vs := [(19, .x (.i .i64))] }, e := [(.ret, { vs := [(4, .x .b)] }), (.exit 0, {})] }), (18, { j := some { vs := [(32, .x .b)] } })]) (.cons ok10 (.cons ok13 .nil)) (by kernel_rfl) (by kernel_rfl)
/- turnout/route.port -/
noncomputable def q3f (r_0 : Sl (Sl Int)) (sw_1 : Int) (h_2 : Int) : Option (Int × Bool) :=
 (bif (((decide (sw_1 < 0)) || (decide (sw_1 ≥ (r_0.l.length : Int)))) || (decide (h_2 < 0))) then (some true) else
 ((ixI sw_1 r_0.l.length).bind fun n1 =>
 some (decide (h_2 ≥ (((gt r_0.l n1).l).length : Int)))) : Option Bool).bind fun b2 =>
 bif b2 then (some (0, false)) else
 ((ixI sw_1 r_0.l.length).bind fun n3 =>
 (ixI h_2 ((gt r_0.l n3).l).length).bind fun n4 =>
 some (gt ((gt r_0.l n3).l) n4, true))
noncomputable def sp15 : Spc := ⟨[(false, .x (.sl (.sl (.i .i64)))), (false, .x (.i .i64)), (false, .x (.i .i64))], [([.x (.i .i64), .x .b], [])], true, [], fun p => match p with | (r_0, sw_1, h_2) => q3f r_0 sw_1 h_2⟩
theorem ok15 : SpcOk prog 74 sp15 := q0j mixed glbok (sig := sig) (np := 3) (an := [(4, { j := some { vs := [(28, .x .b)] } })]) .nil (by kernel_rfl) (by kernel_rfl)
/- slices.Index[[]int,int] -/
noncomputable def q0m (s_0 : Sl Int) (v_1 : Int) : Int → Option (Int ⊕ (Int ⊕ Unit)) := fun i2 =>
 bif decide (i2 < (s_0.l.length : Int)) then ((ixI i2 s_0.l.length).bind fun n3 =>
 bif (v_1 == (gt s_0.l n3)) then (some (.inr (.inl i2))) else
 (some (.inl (wr .i64 (i2 + 1))))) else
 (some (.inr (.inr ())))
noncomputable def q13 (s_0 : Sl Int) (v_1 : Int) : Option Int :=
 (loopO (q0m s_0 v_1) 0).bind fun
 | .inl i4 => (some i4)
 | .inr _ => (some (-1))
noncomputable def sp16 : Spc := ⟨[(false, .x (.sl (.i .i64))), (false, .x (.i .i64))], [([.x (.i .i64)], [])], true, [], fun p => match p with | (s_0, v_1) => q13 s_0 v_1⟩
theorem ok16 : SpcOk prog 64 sp16 := q0j mixed glbok (sig := sig) (np := 2) (an := [(5, { j := some { vs := [(8, .x (.i .i64))] }, e := [(.ret, { vs := [(4, .x (.i .i64))] }), (.exit 0, {})] })]) .nil (by kernel_rfl) (by kernel_rfl)
/- slices.Contains[[]int,int] -/
noncomputable def q0e (s_0 : Sl Int) (v_1 : Int) : Option Bool :=
 (q13 s_0 v_1).bind fun r1 =>
 some (decide (r1 ≥ 0))
noncomputable def sp17 : Spc := ⟨[(false, .x (.sl (.i .i64))), (false, .x (.i .i64))], [([.x .b], [])], true, [], fun p => match p with | (s_0, v_1) => q0e s_0 v_1⟩
theorem ok17 : SpcOk prog 38 sp17 := q0j mixed glbok (sig := sig) (np := 2) (an := []) (.cons ok16 .nil) (by kernel_rfl) (by kernel_rfl)
/- turnout/route.twice[int] -/
noncomputable def q1b (l_0 : Sl Int) : Option Bool :=
 (bif decide ((l_0.l.length : Int) > 0) then ((cutI l_0.l 0 (wr .i64 ((l_0.l.length : Int) - 1))).bind fun l1 =>
 (ixI (wr .i64 ((l_0.l.length : Int) - 1)) l_0.l.length).bind fun n2 =>
 (q0e (l_0.to l1) (gt l_0.l n2)).bind fun r3 =>
 some r3) else
 (some false) : Option Bool).bind fun b4 =>
 some b4
noncomputable def sp18 : Spc := ⟨[(false, .x (.sl (.i .i64)))], [([.x .b], [])], true, [], fun p => match p with | l_0 => q1b l_0⟩
theorem ok18 : SpcOk prog 75 sp18 := q0j mixed glbok (sig := sig) (np := 1) (an := [(3, { j := some { vs := [(2, .x .b)] } })]) (.cons ok17 .nil) (by kernel_rfl) (by kernel_rfl)
/- turnout/topo.Peer -/
noncomputable def q2w (t_0 : api_Topo) (sw_1 : Int) (port_2 : Int) : Int → Option (Int ⊕ ((Int × Int × Int × Bool) ⊕ Unit)) := fun i2 =>
 bif decide (i2 < (((api_Topo.Links t_0).l).length : Int)) then ((ixI i2 ((api_Topo.Links t_0).l).length).bind fun n3 =>
 bif decide ((⟨sw_1, port_2⟩ : topo_place) = (⟨api_Link.A (gt ((api_Topo.Links t_0).l) n3), api_Link.PortA (gt ((api_Topo.Links t_0).l) n3)⟩ : topo_place)) then (some (.inr (.inl (api_Link.B (gt ((api_Topo.Links t_0).l) n3), api_Link.PortB (gt ((api_Topo.Links t_0).l) n3), i2, true)))) else
 (bif decide ((⟨sw_1, port_2⟩ : topo_place) = (⟨api_Link.B (gt ((api_Topo.Links t_0).l) n3), api_Link.PortB (gt ((api_Topo.Links t_0).l) n3)⟩ : topo_place)) then (some (.inr (.inl (api_Link.A (gt ((api_Topo.Links t_0).l) n3), api_Link.PortA (gt ((api_Topo.Links t_0).l) n3), i2, true)))) else
 (some (.inl (wr .i64 (i2 + 1)))))) else
 (some (.inr (.inr ())))
noncomputable def q5r (t_0 : api_Topo) (sw_1 : Int) (port_2 : Int) : Option (Int × Int × Int × Bool) :=
 (loopO (q2w t_0 sw_1 port_2) 0).bind fun
 | .inl (i4, i5, i6, b7) => (some (i4, i5, i6, b7))
 | .inr _ => (some (0, 0, 0, false))
noncomputable def sp19 : Spc := ⟨[(false, .x y0), (false, .x (.i .i64)), (false, .x (.i .i64))], [([.x (.i .i64), .x (.i .i64), .x (.i .i64), .x .b], [])], true, [], fun p => match p with | (t_0, sw_1, port_2) => q5r t_0 sw_1 port_2⟩
theorem ok19 : SpcOk prog 103 sp19 := q0j mixed glbok (sig := sig) (np := 3) (an := [(7, { j := some { vs := [(21, .x (.i .i64))] }, e := [(.ret, { vs := [(6, .x (.i .i64)), (7, .x (.i .i64)), (8, .x (.i .i64)), (9, .x .b)] }), (.exit 0, {})] })]) .nil (by kernel_rfl) (by kernel_rfl)
/- turnout/route.Next -/
noncomputable def q49 (t_0 : api_Topo) (r_1 : Sl (Sl Int)) (sw_2 : Int) (h_3 : Int) : Option (Int × Bool) :=
 (q3f r_1 sw_2 h_3).bind fun (r1, r2) =>
 bif (!r2) then (some (0, false)) else
 ((q5r t_0 sw_2 r1).bind fun (r3, r4, r5, r6) =>
 some (r3, r6))
noncomputable def sp20 : Spc := ⟨[(false, .x y0), (false, .x (.sl (.sl (.i .i64)))), (false, .x (.i .i64)), (false, .x (.i .i64))], [([.x (.i .i64), .x .b], [])], true, [], fun p => match p with | (t_0, r_1, sw_2, h_3) => q49 t_0 r_1 sw_2 h_3⟩
theorem ok20 : SpcOk prog 76 sp20 := q0j mixed glbok (sig := sig) (np := 4) (an := []) (.cons ok15 (.cons ok19 .nil)) (by kernel_rfl) (by kernel_rfl)
/- turnout/route.Walk -/
noncomputable def q0h (t_0 : api_Topo) (r_1 : Sl (Sl Int)) (h_3 : Int) : (Sl Int) → Option (Sl Int ⊕ ((Int × Sl Int) ⊕ Unit)) := fun s6 =>
 (q1b s6).bind fun r7 =>
 bif (!r7) then ((ixI (wr .i64 ((s6.l.length : Int) - 1)) s6.l.length).bind fun n8 =>
 (ixI h_3 ((api_Topo.Hosts t_0).l).length).bind fun n9 =>
 (ixI (gt s6.l n8) r_1.l.length).bind fun n10 =>
 (ixI h_3 ((gt r_1.l n10).l).length).bind fun n11 =>
 bif decide ((gt ((api_Topo.Hosts t_0).l) n9) = (⟨gt s6.l n8, gt ((gt r_1.l n10).l) n11⟩ : api_Host)) then (some (.inr (.inl (0, s6)))) else
 ((q49 t_0 r_1 (gt s6.l n8) h_3).bind fun (r12, r13) =>
 bif (!r13) then (some (.inr (.inl (13, Sl.nil)))) else
 ((capI (s6.l ++ [r12])).bind fun l14 =>
 some (.inl (Sl.mk l14))))) else
 (some (.inr (.inr ())))
noncomputable def q28 (t_0 : api_Topo) (r_1 : Sl (Sl Int)) (sw_2 : Int) (h_3 : Int) : Option (Sl Int × Int) :=
 (q3f r_1 sw_2 h_3).bind fun (r1, r2) =>
 (bif (!r2) then (some true) else
 ((q1x t_0 r_1).bind fun r3 =>
 some (!r3)) : Option Bool).bind fun b4 =>
 bif b4 then (some (Sl.nil, 2)) else
 ((loopO (q0h t_0 r_1 h_3) (Sl.mk [sw_2])).bind fun
 | .inl (i15, s16) => (some (s16, i15))
 | .inr _ => (some (Sl.nil, 12)))
noncomputable def sp21 : Spc := ⟨[(false, .x y0), (false, .x (.sl (.sl (.i .i64)))), (false, .x (.i .i64)), (false, .x (.i .i64))], [([.x (.sl (.i .i64)), .x (.i .i64)], [])], false, [], fun p => match p with | (t_0, r_1, sw_2, h_3) => q28 t_0 r_1 sw_2 h_3⟩
theorem ok21 : SpcOk prog 56 sp21 := q0j mixed glbok (sig := sig) (np := 4) (an := [(6, { j := some { vs := [(30, .x .b)] } }), (12, { j := some { vs := [(12, .so 0)], os := [.ar (.i .i64)], kl := [3] }, e := [(.ret, { vs := [(8, .so 0), (9, .x (.i .i64))], os := [.ar (.i .i64)], kl := [3] }), (.exit 0, { kl := [3] })] })]) (.cons ok15 (.cons ok14 (.cons ok18 (.cons ok20 .nil)))) (by kernel_rfl) (by kernel_rfl)
/- turnout/route.Far -/
noncomputable def q11 (t_0 : api_Topo) (r_1 : Sl (Sl Int)) (h_2 : Int) : (Int × Sl Int) → Option ((Int × Sl Int) ⊕ (Sl Int)) := fun (i5, s6) =>
 bif decide (i5 < (r_1.l.length : Int)) then ((q28 t_0 r_1 i5 h_2).bind fun (r7, r8) =>
 (capI (s6.l ++ [wr .i64 ((r7.l.length : Int) - 1)])).bind fun l9 =>
 some (.inl (wr .i64 (i5 + 1), (Sl.mk l9)))) else
 (some (.inr s6))
noncomputable def q30 (t_0 : api_Topo) (r_1 : Sl (Sl Int)) (h_2 : Int) : Option (Sl Int) :=
 (q1x t_0 r_1).bind fun r1 =>
 bif (((!r1) || (decide (h_2 < 0))) || (decide (h_2 ≥ (((api_Topo.Hosts t_0).l).length : Int)))) then (some Sl.nil) else
 ((loopO (q11 t_0 r_1 h_2) (0, Sl.nil)).bind fun s10 =>
 some s10)
noncomputable def sp22 : Spc := ⟨[(false, .x y0), (false, .x (.sl (.sl (.i .i64)))), (false, .x (.i .i64))], [([.x (.sl (.i .i64))], [])], false, [], fun p => match p with | (t_0, r_1, h_2) => q30 t_0 r_1 h_2⟩
theorem ok22 : SpcOk prog 34 sp22 := q0j mixed glbok (sig := sig) (np := 3) (an := [(12, { j := some { vs := [(7, .so 0), (28, .x (.i .i64))], os := [.ar (.i .i64)] }, e := [(.exit 0, { vs := [(7, .so 0)], os := [.ar (.i .i64)] })] })]) (.cons ok14 (.cons ok21 .nil)) (by kernel_rfl) (by kernel_rfl)
/- turnout/route.Good -/
noncomputable def q15 (t_0 : api_Topo) (r_1 : Sl (Sl Int)) : Int → Option (Int ⊕ (Bool ⊕ Unit)) := fun i3 =>
 bif decide (i3 < (((api_Topo.Hosts t_0).l).length : Int)) then ((q30 t_0 r_1 i3).bind fun r4 =>
 (q0e r4 (-1)).bind fun r5 =>
 bif r5 then (some (.inr (.inl false))) else
 (some (.inl (wr .i64 (i3 + 1))))) else
 (some (.inr (.inr ())))
noncomputable def q25 (t_0 : api_Topo) (r_1 : Sl (Sl Int)) : Option Bool :=
 (q1x t_0 r_1).bind fun r1 =>
 bif (!r1) then (some false) else
 ((loopO (q15 t_0 r_1) 0).bind fun
 | .inl b6 => (some b6)
 | .inr _ => (some true))
noncomputable def sp23 : Spc := ⟨[(false, .x y0), (false, .x (.sl (.sl (.i .i64))))], [([.x .b], [])], true, [], fun p => match p with | (t_0, r_1) => q25 t_0 r_1⟩
theorem ok23 : SpcOk prog 17 sp23 := q0j mixed glbok (sig := sig) (np := 2) (an := [(10, { j := some { vs := [(13, .x (.i .i64))] }, e := [(.ret, { vs := [(4, .x .b)] }), (.exit 0, {})] })]) (.cons ok14 (.cons ok22 (.cons ok17 .nil))) (by kernel_rfl) (by kernel_rfl)
/- slices.SortFunc[[]turnout/level.Move,turnout/level.Move] -/
theorem ok24 : SpcOk prog 35 (qh0 y3 36 srtMv) := qno
/- turnout/level.Moves -/
noncomputable def q18 (old_1 : Sl (Sl Int)) (now_2 : Sl (Sl Int)) (i7 : Int) (r9 : Sl Int) : (Int × Sl level_Move) → Option ((Int × Sl level_Move) ⊕ (Sl level_Move)) := fun (i12, s13) =>
 bif decide (i12 < (now_2.l.length : Int)) then (((ixI i12 now_2.l.length).bind fun n14 =>
 (ixI i7 ((gt now_2.l n14).l).length).bind fun n15 =>
 (ixI i12 old_1.l.length).bind fun n16 =>
 (ixI i7 ((gt old_1.l n16).l).length).bind fun n17 =>
 bif ((gt ((gt now_2.l n14).l) n15) != (gt ((gt old_1.l n16).l) n17)) then ((ixI i12 now_2.l.length).bind fun n18 =>
 (ixI i7 ((gt now_2.l n18).l).length).bind fun n19 =>
 (ixI i12 r9.l.length).bind fun n20 =>
 (capI (s13.l ++ [(⟨i12, i7, gt ((gt now_2.l n18).l) n19, gt r9.l n20⟩ : level_Move)])).bind fun l21 =>
 some (Sl.mk l21)) else
 (some s13) : Option (Sl level_Move)).bind fun s22 =>
 some (.inl (wr .i64 (i12 + 1), s22))) else
 (some (.inr s13))
noncomputable def q26 (t_0 : api_Topo) (old_1 : Sl (Sl Int)) (now_2 : Sl (Sl Int)) : (Int × Sl level_Move) → Option ((Int × Sl level_Move) ⊕ (Sl level_Move)) := fun (i7, s8) =>
 bif decide (i7 < (((api_Topo.Hosts t_0).l).length : Int)) then ((q30 t_0 now_2 i7).bind fun r9 =>
 (loopO (q18 old_1 now_2 i7 r9) (0, s8)).bind fun s23 =>
 some (.inl (wr .i64 (i7 + 1), s23))) else
 (some (.inr s8))
noncomputable def q2g (t_0 : api_Topo) (old_1 : Sl (Sl Int)) (now_2 : Sl (Sl Int)) : Option (Sl level_Move × Int) :=
 ((q25 t_0 old_1).bind fun r1 =>
 bif (!r1) then (some true) else
 ((q25 t_0 now_2).bind fun r2 =>
 some (!r2)) : Option Bool).bind fun b3 =>
 bif b3 then (some (Sl.nil, 2)) else
 ((loopO (q26 t_0 old_1 now_2) (0, Sl.nil)).bind fun s24 =>
 (sortF srtMv s24).bind fun s25 =>
 (lenS s25 s24).bind fun _ =>
 some (s25, 0))
noncomputable def sp25 : Spc := ⟨[(false, .x y0), (false, .x (.sl (.sl (.i .i64)))), (false, .x (.sl (.sl (.i .i64))))], [([.x (.sl y3), .x (.i .i64)], [])], false, [], fun p => match p with | (t_0, old_1, now_2) => q2g t_0 old_1 now_2⟩
theorem ok25 : SpcOk prog 13 sp25 := q0j mixed glbok (sig := sig) (np := 3) (an := [(4, { j := some { vs := [(21, .x .b)] } }), (12, { j := some { vs := [(8, .so 0), (25, .x (.i .i64))], os := [.ar y3] }, e := [(.exit 0, { vs := [(8, .so 0)], os := [.ar y3] })] }), (23, { j := some { vs := [(8, .so 0), (34, .x (.i .i64))], os := [.ar y3], kl := [1] }, e := [(.exit 2, { vs := [(8, .so 0)], os := [.ar y3], kl := [1] })] }), (27, { e := [(.normal, { vs := [(8, .so 0)], os := [.ar y3], kl := [3] })] })]) (.cons ok23 (.cons ok22 (.cons ok24 .nil))) (by kernel_rfl) (by kernel_rfl)
/- slices.Sort[[]int,int] -/
theorem ok26 : SpcOk prog 54 (qep (.i .i64) srtI) := qph
/- slices.Compact[[]int,int] -/
theorem ok27 : SpcOk prog 55 (qic (.i .i64) compI) := qq3
/- turnout/level.Rounds -/
noncomputable def q1t (l_0 : Sl level_Move) : (Int × Sl Int) → Option ((Int × Sl Int) ⊕ (Sl Int)) := fun (i4, s5) =>
 bif decide (i4 < (l_0.l.length : Int)) then ((ixI i4 l_0.l.length).bind fun n6 =>
 (capI (s5.l ++ [level_Move.Round (gt l_0.l n6)])).bind fun l7 =>
 some (.inl (wr .i64 (i4 + 1), (Sl.mk l7)))) else
 (some (.inr s5))
noncomputable def q2j (l_0 : Sl level_Move) : Option (Sl Int) :=
 (loopO (q1t l_0) (0, Sl.nil)).bind fun s8 =>
 (sortF srtI s8).bind fun s9 =>
 (lenS s9 s8).bind fun _ =>
 (cutF compI s9).bind fun s10 =>
 some s10
noncomputable def sp28 : Spc := ⟨[(false, .x (.sl y3))], [([.x (.sl (.i .i64))], [])], false, [], fun p => match p with | l_0 => q2j l_0⟩
theorem ok28 : SpcOk prog 33 sp28 := q0j mixed glbok (sig := sig) (np := 1) (an := [(7, { j := some { vs := [(3, .so 0), (8, .x (.i .i64))], os := [.ar (.i .i64)] }, e := [(.exit 0, { vs := [(3, .so 0)], os := [.ar (.i .i64)] })] })]) (.cons ok26 (.cons ok27 .nil)) (by kernel_rfl) (by kernel_rfl)
/- turnout/turnoutref13.Same -/
noncomputable def q43 (a_0 : Sl Int) (b_1 : Sl Int) : Int → Option (Int ⊕ (Bool ⊕ Unit)) := fun i2 =>
 bif decide (i2 < (a_0.l.length : Int)) then ((ixI i2 a_0.l.length).bind fun n3 =>
 (ixI i2 b_1.l.length).bind fun n4 =>
 bif ((gt a_0.l n3) != (gt b_1.l n4)) then (some (.inr (.inl false))) else
 (some (.inl (wr .i64 (i2 + 1))))) else
 (some (.inr (.inr ())))
noncomputable def q7k (a_0 : Sl Int) (b_1 : Sl Int) : Option Bool :=
 bif ((a_0.l.length : Int) != (b_1.l.length : Int)) then (some false) else
 ((loopO (q43 a_0 b_1) 0).bind fun
 | .inl b5 => (some b5)
 | .inr _ => (some true))
noncomputable def sp29 : Spc := ⟨[(false, .x (.sl (.i .i64))), (false, .x (.sl (.i .i64)))], [([.x .b], [])], true, [], fun p => match p with | (a_0, b_1) => q7k a_0 b_1⟩
theorem ok29 : SpcOk prog 32 sp29 := q0j mixed glbok (sig := sig) (np := 2) (an := [(10, { j := some { vs := [(5, .x (.i .i64))] }, e := [(.ret, { vs := [(4, .x .b)] }), (.exit 0, {})] })]) .nil (by kernel_rfl) (by kernel_rfl)
/- turnout/turnoutlaw23.awake -/
/- turnout/turnoutref21.Far -/
/- turnout/turnoutlaw23.before -/
/- turnout/turnoutlaw23.LevelFar -/
/- turnout/plan.in -/
noncomputable def q5e (n_0 : Int) (most_1 : Int) : Option Bool :=
 some ((decide (n_0 ≥ 0)) && (decide (n_0 ≤ most_1)))
noncomputable def sp34 : Spc := ⟨[(false, .x (.i .i64)), (false, .x (.i .i64))], [([.x .b], [])], true, [], fun p => match p with | (n_0, most_1) => q5e n_0 most_1⟩
theorem ok34 : SpcOk prog 43 sp34 := q0j mixed glbok (sig := sig) (np := 2) (an := []) .nil (by kernel_rfl) (by kernel_rfl)
/- turnout/topo.Slowest -/
noncomputable def q1c (t_0 : api_Topo) : (Int × Int) → Option ((Int × Int) ⊕ Int) := fun (i3, i4) =>
 bif decide (i4 < (((api_Topo.Links t_0).l).length : Int)) then ((ixI i4 ((api_Topo.Links t_0).l).length).bind fun n5 =>
 some (.inl ((if (api_Link.Most (gt ((api_Topo.Links t_0).l) n5)) > i3 then (api_Link.Most (gt ((api_Topo.Links t_0).l) n5)) else i3), wr .i64 (i4 + 1)))) else
 (some (.inr i3))
noncomputable def q2t (t_0 : api_Topo) : Option Int :=
 (loopO (q1c t_0) (0, 0)).bind fun i6 =>
 some i6
noncomputable def sp35 : Spc := ⟨[(false, .x y0)], [([.x (.i .i64)], [])], true, [], fun p => match p with | t_0 => q2t t_0⟩
theorem ok35 : SpcOk prog 50 sp35 := q0j mixed glbok (sig := sig) (np := 1) (an := [(7, { j := some { vs := [(3, .x (.i .i64)), (9, .x (.i .i64))] }, e := [(.exit 0, { vs := [(3, .x (.i .i64))] })] })]) .nil (by kernel_rfl) (by kernel_rfl)
/- turnout/plan.Life -/
noncomputable def q4c (t_0 : api_Topo) : Option Int :=
 (q2t t_0).bind fun r1 =>
 some (wr .i64 ((api_Topo.Switches t_0) * r1))
noncomputable def sp36 : Spc := ⟨[(false, .x y0)], [([.x (.i .i64)], [])], true, [], fun p => match p with | t_0 => q4c t_0⟩
theorem ok36 : SpcOk prog 25 sp36 := q0j mixed glbok (sig := sig) (np := 1) (an := []) (.cons ok35 .nil) (by kernel_rfl) (by kernel_rfl)
/- turnout/plan.Gap -/
noncomputable def q6m (t_0 : api_Topo) (miss_1 : Int) : Option Int :=
 (q4c t_0).bind fun r1 =>
 some (wr .i64 ((wr .i64 ((wr .i64 (2 * miss_1)) + r1)) + 1))
noncomputable def sp37 : Spc := ⟨[(false, .x y0), (false, .x (.i .i64))], [([.x (.i .i64)], [])], true, [], fun p => match p with | (t_0, miss_1) => q6m t_0 miss_1⟩
theorem ok37 : SpcOk prog 42 sp37 := q0j mixed glbok (sig := sig) (np := 2) (an := []) (.cons ok36 .nil) (by kernel_rfl) (by kernel_rfl)
/- turnout/diff.Right$1 -/
noncomputable def q3s (a_0 : diff_After) (c_1 : Int) : Option Bool :=
 some ((((((decide ((diff_After.I a_0) < 0)) || (decide ((diff_After.I a_0) ≥ c_1))) || (decide ((diff_After.J a_0) < 0))) || (decide ((diff_After.J a_0) ≥ c_1))) || (decide ((diff_After.Gap a_0) < (-1073741824)))) || (decide ((diff_After.Gap a_0) > 1073741824)))
noncomputable def sp38 : Spc := ⟨[(false, .x y4), (false, .pt (.i .i64))], [([.x .b], [])], true, [], fun p => match p with | (a_0, c_1) => q3s a_0 c_1⟩
theorem ok38 : SpcOk prog 112 sp38 := q0j mixed glbok (sig := sig) (np := 2) (an := []) .nil (by kernel_rfl) (by kernel_rfl)
/- slices.IndexFunc[[]turnout/diff.After,turnout/diff.After] -/
noncomputable def q01 (s_0 : Sl diff_After) (f_1_c0 : Int) : Int → Option (Int ⊕ (Int ⊕ Unit)) := fun i2 =>
 bif decide (i2 < (s_0.l.length : Int)) then ((ixI i2 s_0.l.length).bind fun n3 =>
 (q3s (gt s_0.l n3) f_1_c0).bind fun r4 =>
 bif r4 then (some (.inr (.inl i2))) else
 (some (.inl (wr .i64 (i2 + 1))))) else
 (some (.inr (.inr ())))
noncomputable def q03 (s_0 : Sl diff_After) (f_1_c0 : Int) : Option Int :=
 (loopO (q01 s_0 f_1_c0) 0).bind fun
 | .inl i5 => (some i5)
 | .inr _ => (some (-1))
noncomputable def sp39 : Spc := ⟨[(false, .x (.sl y4)), (false, .fn 112 (.pr (.pt (.i .i64)) .ni))], [([.x (.i .i64)], [])], true, [], fun p => match p with | (s_0, f_1_c0) => q03 s_0 f_1_c0⟩
theorem ok39 : SpcOk prog 118 sp39 := q0j mixed glbok (sig := sig) (np := 2) (an := [(5, { j := some { vs := [(8, .x (.i .i64))] }, e := [(.ret, { vs := [(4, .x (.i .i64))] }), (.exit 0, {})] })]) (.cons ok38 .nil) (by kernel_rfl) (by kernel_rfl)
/- slices.ContainsFunc[[]turnout/diff.After,turnout/diff.After] -/
noncomputable def q02 (s_0 : Sl diff_After) (f_1_c0 : Int) : Option Bool :=
 (q03 s_0 f_1_c0).bind fun r1 =>
 some (decide (r1 ≥ 0))
noncomputable def sp40 : Spc := ⟨[(false, .x (.sl y4)), (false, .fn 112 (.pr (.pt (.i .i64)) .ni))], [([.x .b], [])], true, [], fun p => match p with | (s_0, f_1_c0) => q02 s_0 f_1_c0⟩
theorem ok40 : SpcOk prog 111 sp40 := q0j mixed glbok (sig := sig) (np := 2) (an := []) (.cons ok39 .nil) (by kernel_rfl) (by kernel_rfl)
/- turnout/diff.Right -/
noncomputable def q48 (n_0 : Int) (l_1 : Sl diff_After) : Option Bool :=
 bif (((decide (n_0 < 0)) || (decide (n_0 > 64))) || (decide ((l_1.l.length : Int) > 256))) then (some false) else
 ((q02 l_1 n_0).bind fun r1 =>
 some (!r1))
noncomputable def sp41 : Spc := ⟨[(false, .x (.i .i64)), (false, .x (.sl y4))], [([.x .b], [])], true, [], fun p => match p with | (n_0, l_1) => q48 n_0 l_1⟩
theorem ok41 : SpcOk prog 91 sp41 := q0j mixed glbok (sig := sig) (np := 2) (an := []) (.cons ok40 .nil) (by kernel_rfl) (by kernel_rfl)
/- turnout/diff.push -/
noncomputable def q0y (l_1 : Sl diff_After) : (Int × Int × Sl Int × Sl Int) → Option ((Int × Int × Sl Int × Sl Int) ⊕ (Int × Sl Int × Sl Int)) := fun (i19, i20, s21, s22) =>
 bif decide (i20 < (l_1.l.length : Int)) then (((ixI i20 l_1.l.length).bind fun n23 =>
 (ixI (diff_After.I (gt l_1.l n23)) s21.l.length).bind fun n24 =>
 (ixI (diff_After.J (gt l_1.l n23)) s21.l.length).bind fun n25 =>
 bif decide ((wr .i64 ((gt s21.l n24) + (diff_After.Gap (gt l_1.l n23)))) > (gt s21.l n25)) then ((ixI (diff_After.J (gt l_1.l n23)) s21.l.length).bind fun n26 =>
 (ixI (diff_After.J (gt l_1.l n23)) s22.l.length).bind fun n27 =>
 some (diff_After.J (gt l_1.l n23), (Sl.mk (s21.l.set n26 (wr .i64 ((gt s21.l n24) + (diff_After.Gap (gt l_1.l n23)))))), (Sl.mk (s22.l.set n27 i20)))) else
 (some (i19, s21, s22)) : Option (Int × Sl Int × Sl Int)).bind fun (i28, s29, s30) =>
 some (.inl (i28, wr .i64 (i20 + 1), s29, s30))) else
 (some (.inr (i19, s21, s22)))
noncomputable def q2f (n_0 : Int) (l_1 : Sl diff_After) : (Int × Int × Sl Int × Sl Int) → Option ((Int × Int × Sl Int × Sl Int) ⊕ (Int × Sl Int × Sl Int)) := fun (i9, i10, s11, s12) =>
 bif decide (i10 < (wr .i64 (n_0 + 1))) then ((loopO (q0y l_1) ((-1), 0, s11, s12)).bind fun (i31, s32, s33) =>
 bif decide (i31 < 0) then (some (.inr (i31, s32, s33))) else
 (some (.inl (i31, wr .i64 (i10 + 1), s32, s33)))) else
 (some (.inr (i9, s11, s12)))
noncomputable def q5p (n_0 : Int) (l_1 : Sl diff_After) : Option (Sl Int × Sl Int × Int) :=
 (mkI 0 n_0 n_0).bind fun l1 =>
 (mkI 0 n_0 n_0).bind fun l2 =>
 (loopO (q2f n_0 l_1) ((-1), 0, (Sl.mk l1), (Sl.mk l2))).bind fun (i34, s35, s36) =>
 some (s35, s36, i34)
noncomputable def sp42 : Spc := ⟨[(false, .x (.i .i64)), (false, .x (.sl y4))], [([.x (.sl (.i .i64)), .x (.sl (.i .i64)), .x (.i .i64)], [])], false, [], fun p => match p with | (n_0, l_1) => q5p n_0 l_1⟩
theorem ok42 : SpcOk prog 92 sp42 := q0j mixed glbok (sig := sig) (np := 2) (an := [(10, { j := some { vs := [(7, .so 0), (8, .so 1), (9, .x (.i .i64)), (19, .x (.i .i64))], os := [.ar (.i .i64), .ar (.i .i64)], kl := [1000000, 3000000] }, e := [(.exit 0, { vs := [(7, .so 0), (8, .so 1), (9, .x (.i .i64))], os := [.ar (.i .i64), .ar (.i .i64)], kl := [1000000, 3000000] })] }), (20, { j := some { vs := [(7, .so 0), (8, .so 1), (9, .x (.i .i64)), (23, .x (.i .i64))], os := [.ar (.i .i64), .ar (.i .i64)], kl := [6000000, 6000001] }, e := [(.exit 2, { vs := [(7, .so 0), (8, .so 1), (9, .x (.i .i64))], os := [.ar (.i .i64), .ar (.i .i64)], kl := [6000000, 6000001] })] }), (24, { e := [(.normal, { vs := [(7, .so 0), (8, .so 1), (9, .x (.i .i64))], os := [.ar (.i .i64), .ar (.i .i64)], kl := [6000002, 6000003] })] })]) .nil (by kernel_rfl) (by kernel_rfl)
/- turnout/diff.Earliest -/
noncomputable def q32 (n_0 : Int) (l_1 : Sl diff_After) : Option (Sl Int × Bool) :=
 (q48 n_0 l_1).bind fun r1 =>
 bif (!r1) then (some (Sl.nil, false)) else
 ((q5p n_0 l_1).bind fun (r2, r3, r4) =>
 bif decide (r4 ≥ 0) then (some (Sl.nil, false)) else
 (some (r2, true)))
noncomputable def sp43 : Spc := ⟨[(false, .x (.i .i64)), (false, .x (.sl y4))], [([.x (.sl (.i .i64)), .x .b], [])], false, [], fun p => match p with | (n_0, l_1) => q32 n_0 l_1⟩
theorem ok43 : SpcOk prog 67 sp43 := q0j mixed glbok (sig := sig) (np := 2) (an := []) (.cons ok41 (.cons ok42 .nil)) (by kernel_rfl) (by kernel_rfl)
/- turnout/plan.times -/
noncomputable def q1z (n_0 : Int) (gap_1 : Int) : (Int × Sl diff_After) → Option ((Int × Sl diff_After) ⊕ (Sl diff_After)) := fun (i4, s5) =>
 bif decide (i4 < n_0) then ((capI (s5.l ++ [(⟨wr .i64 (i4 - 1), i4, gap_1⟩ : diff_After)])).bind fun l6 =>
 some (.inl (wr .i64 (i4 + 1), (Sl.mk l6)))) else
 (some (.inr s5))
noncomputable def q3a (n_0 : Int) (gap_1 : Int) : Option (Sl Int) :=
 (loopO (q1z n_0 gap_1) (1, Sl.nil)).bind fun s7 =>
 (q32 n_0 s7).bind fun (r8, r9) =>
 some r8
noncomputable def sp44 : Spc := ⟨[(false, .x (.i .i64)), (false, .x (.i .i64))], [([.x (.sl (.i .i64))], [])], false, [], fun p => match p with | (n_0, gap_1) => q3a n_0 gap_1⟩
theorem ok44 : SpcOk prog 44 sp44 := q0j mixed glbok (sig := sig) (np := 2) (an := [(7, { j := some { vs := [(5, .so 0), (6, .x (.i .i64))], os := [.ar y4] }, e := [(.exit 0, { vs := [(5, .so 0)], os := [.ar y4] })] })]) (.cons ok43 .nil) (by kernel_rfl) (by kernel_rfl)
/- turnout/plan.sws -/
noncomputable def q1y (l_0 : Sl level_Move) (round_1 : Int) : (Int × Sl Int) → Option ((Int × Sl Int) ⊕ (Sl Int)) := fun (i4, s5) =>
 bif decide (i4 < (l_0.l.length : Int)) then (((ixI i4 l_0.l.length).bind fun n6 =>
 (bif ((level_Move.Round (gt l_0.l n6)) == round_1) then ((q0e s5 (level_Move.Sw (gt l_0.l n6))).bind fun r7 =>
 some (!r7)) else
 (some false) : Option Bool).bind fun b8 =>
 bif b8 then ((capI (s5.l ++ [level_Move.Sw (gt l_0.l n6)])).bind fun l9 =>
 some (Sl.mk l9)) else
 (some s5) : Option (Sl Int)).bind fun s10 =>
 some (.inl (wr .i64 (i4 + 1), s10))) else
 (some (.inr s5))
noncomputable def q7m (l_0 : Sl level_Move) (round_1 : Int) : Option (Sl Int) :=
 (loopO (q1y l_0 round_1) (0, Sl.nil)).bind fun s11 =>
 some s11
noncomputable def sp45 : Spc := ⟨[(false, .x (.sl y3)), (false, .x (.i .i64))], [([.x (.sl (.i .i64))], [])], false, [], fun p => match p with | (l_0, round_1) => q7m l_0 round_1⟩
theorem ok45 : SpcOk prog 45 sp45 := q0j mixed glbok (sig := sig) (np := 2) (an := [(7, { j := some { vs := [(5, .so 0), (10, .x (.i .i64))], os := [.ar (.i .i64)] }, e := [(.exit 0, { vs := [(5, .so 0)], os := [.ar (.i .i64)] })] }), (11, { e := [(.normal, { vs := [(5, .so 0)], os := [.ar (.i .i64)], kl := [0] })] }), (15, { j := some { vs := [(24, .x .b)] } })]) (.cons ok17 .nil) (by kernel_rfl) (by kernel_rfl)
/- turnout/plan.Make -/
noncomputable def q2i (at_3 : Int) (miss_4 : Int) (lead_5 : Int) (r5 : Sl level_Move) (r7 : Int) (r8 : Sl Int) (r10 : Sl Int) : (Int × Sl level_Move × Int × Int × Int × Int × Sl plan_Round) → Option ((Int × Sl level_Move × Int × Int × Int × Int × Sl plan_Round) ⊕ (Sl level_Move × Int × Int × Int × Int × Sl plan_Round)) := fun (i19, s20, i21, i22, i23, i24, s25) =>
 bif decide (i19 < (r10.l.length : Int)) then ((ixI i19 r10.l.length).bind fun n26 =>
 (ixI i19 r8.l.length).bind fun n27 =>
 (ixI i19 r8.l.length).bind fun n28 =>
 (q7m r5 (gt r8.l n28)).bind fun r29 =>
 (capI (s25.l ++ [(⟨gt r8.l n27, wr .i64 ((wr .i64 ((wr .i64 ((wr .i64 ((wr .i64 (at_3 + lead_5)) + miss_4)) + r7)) + 1)) + (gt r10.l n26)), r29⟩ : plan_Round)])).bind fun l30 =>
 some (.inl (wr .i64 (i19 + 1), s20, i21, i22, i23, i24, (Sl.mk l30)))) else
 (some (.inr (s20, i21, i22, i23, i24, s25)))
noncomputable def q1r (t_0 : api_Topo) (old_1 : Sl (Sl Int)) (now_2 : Sl (Sl Int)) (at_3 : Int) (miss_4 : Int) (lead_5 : Int) : Option (plan_Plan × Int) :=
 ((q5e at_3 1099511627776).bind fun r1 =>
 bif (!r1) then (some true) else
 ((q5e miss_4 1048576).bind fun r2 =>
 bif (!r2) then (some true) else
 ((q5e lead_5 1048576).bind fun r3 =>
 some (!r3))) : Option Bool).bind fun b4 =>
 bif b4 then (some ((⟨Sl.nil, Sl.nil, 0, 0, 0, 0⟩ : plan_Plan), 2)) else
 ((q2g t_0 old_1 now_2).bind fun (r5, r6) =>
 bif (r6 != 0) then (some ((⟨Sl.nil, Sl.nil, 0, 0, 0, 0⟩ : plan_Plan), r6)) else
 (bif ((r5.l.length : Int) == 0) then (some ((⟨Sl.nil, Sl.nil, 0, 0, 0, 0⟩ : plan_Plan), 7)) else
 ((q4c t_0).bind fun r7 =>
 (q2j r5).bind fun r8 =>
 (q6m t_0 miss_4).bind fun r9 =>
 (q3a (r8.l.length : Int) r9).bind fun r10 =>
 (loopO (q2i at_3 miss_4 lead_5 r5 r7 r8 r10) (0, r5, miss_4, r7, 0, 0, Sl.nil)).bind fun (s31, i32, i33, i34, i35, s36) =>
 (ixI (wr .i64 ((s36.l.length : Int) - 1)) s36.l.length).bind fun n37 =>
 bif decide ((wr .i64 ((plan_Round.At (gt s36.l n37)) + miss_4)) > 1099511627776) then (some ((⟨Sl.nil, Sl.nil, 0, 0, 0, 0⟩ : plan_Plan), 11)) else
 (some ((⟨s31, s36, i32, i33, wr .i64 ((wr .i64 ((wr .i64 ((wr .i64 ((wr .i64 ((wr .i64 (at_3 + lead_5)) + miss_4)) + r7)) + 1)) - miss_4)) - i33), wr .i64 ((plan_Round.At (gt s36.l n37)) + miss_4)⟩ : plan_Plan), 0)))))
noncomputable def sp46 : Spc := ⟨[(false, .x y0), (false, .x (.sl (.sl (.i .i64)))), (false, .x (.sl (.sl (.i .i64)))), (false, .x (.i .i64)), (false, .x (.i .i64)), (false, .x (.i .i64))], [([.x y5, .x (.i .i64)], [])], false, [], fun p => match p with | (t_0, old_1, now_2, at_3, miss_4, lead_5) => q1r t_0 old_1 now_2 at_3 miss_4 lead_5⟩
theorem ok46 : SpcOk prog 22 sp46 := q0j mixed glbok (sig := sig) (np := 6) (an := [(4, { j := some { vs := [(33, .x .b)] } }), (27, { j := some { vs := [(16, .op 0 y5 []), (75, .x (.i .i64))], os := [.bx y5 (.rc (.co (.x (.sl y3)) (.co (.so 1) (.co (.x (.i .i64)) (.co (.x (.i .i64)) (.co (.x (.i .i64)) (.co (.x (.i .i64)) .ni))))))), .ar y6], kl := [5] }, e := [(.exit 1, { vs := [(16, .op 0 y5 [])], os := [.bx y5 (.rc (.co (.x (.sl y3)) (.co (.so 1) (.co (.x (.i .i64)) (.co (.x (.i .i64)) (.co (.x (.i .i64)) (.co (.x (.i .i64)) .ni))))))), .ar y6], kl := [5] })] })]) (.cons ok34 (.cons ok25 (.cons ok36 (.cons ok28 (.cons ok37 (.cons ok44 (.cons ok45 .nil))))))) (by kernel_rfl) (by kernel_rfl)
/- turnout/plan.Guarded -/
noncomputable def q59 (p_0 : plan_Plan) (t_1 : Int) : Option Bool :=
 some ((decide (t_1 ≥ (plan_Plan.From p_0))) && (decide (t_1 ≤ (plan_Plan.To p_0))))
noncomputable def sp47 : Spc := ⟨[(false, .x y5), (false, .x (.i .i64))], [([.x .b], [])], true, [], fun p => match p with | (p_0, t_1) => q59 p_0 t_1⟩
theorem ok47 : SpcOk prog 26 sp47 := q0j mixed glbok (sig := sig) (np := 2) (an := []) .nil (by kernel_rfl) (by kernel_rfl)
/- turnout/match.Any -/
noncomputable def q8z : Option api_Match :=
 some (⟨(-1), (zeE (.ar 4 (.i .i64))), (zeE (.ar 4 (.i .i64)))⟩ : api_Match)
noncomputable def sp48 : Spc := ⟨[], [([.x y7], [])], true, [], fun p => match p with | _ => q8z⟩
theorem ok48 : SpcOk prog 109 sp48 := q0j mixed glbok (sig := sig) (np := 0) (an := []) .nil (by kernel_rfl) (by kernel_rfl)
/- turnout/packet.Bits -/
noncomputable def q6e (f_0 : Int) : Option Int :=
 (bif (f_0 == 0) then (some (f_0 == 0)) else
 (bif (f_0 == 1) then (some (f_0 == 1)) else
 (some (f_0 == 3))) : Option Bool).bind fun b1 =>
 bif b1 then (some 8) else
 (bif (f_0 == 2) then (some 4) else
 (some 0))
noncomputable def sp49 : Spc := ⟨[(false, .x (.i .i64))], [([.x (.i .i64)], [])], true, [], fun p => match p with | f_0 => q6e f_0⟩
theorem ok49 : SpcOk prog 117 sp49 := q0j mixed glbok (sig := sig) (np := 1) (an := [(5, { e := [(.normal, { vs := [(4, .x .b)] })] })]) .nil (by kernel_rfl) (by kernel_rfl)
/- turnout/packet.Top -/
noncomputable def q5q (f_0 : Int) : Option Int :=
 (q6e f_0).bind fun r1 =>
 (shlI .i64 1 r1).bind fun i2 =>
 some (wr .i64 (i2 - 1))
noncomputable def sp50 : Spc := ⟨[(false, .x (.i .i64))], [([.x (.i .i64)], [])], true, [], fun p => match p with | f_0 => q5q f_0⟩
theorem ok50 : SpcOk prog 110 sp50 := q0j mixed glbok (sig := sig) (np := 1) (an := []) (.cons ok49 .nil) (by kernel_rfl) (by kernel_rfl)
/- turnout/match.Of -/
noncomputable def qap (f_0 : Int) (v_1 : Int) : Option api_Match :=
 (q8z).bind fun r1 =>
 ((bif (((decide (f_0 ≥ 0)) && (decide (f_0 < 4))) && (decide (v_1 ≥ 0))) then ((q5q f_0).bind fun r2 =>
 some (decide (v_1 ≤ r2))) else
 (some false) : Option Bool).bind fun b3 =>
 bif b3 then ((q5q f_0).bind fun r4 =>
 (ixI f_0 4).bind fun n5 =>
 (ixI f_0 4).bind fun n6 =>
 some (⟨api_Match.Port r1, Arr.set (api_Match.Val r1) n5 v_1, Arr.set (api_Match.Mask r1) n6 r4⟩ : api_Match)) else
 (some r1) : Option api_Match).bind fun x7 =>
 some x7
noncomputable def sp51 : Spc := ⟨[(false, .x (.i .i64)), (false, .x (.i .i64))], [([.x y7], [])], true, [], fun p => match p with | (f_0, v_1) => qap f_0 v_1⟩
theorem ok51 : SpcOk prog 90 sp51 := q0j mixed glbok (sig := sig) (np := 2) (an := [(4, { e := [(.normal, { vs := [(5, .op 0 y7 [])], os := [.bx y7 (.x y7)], kl := [10] })] }), (6, { j := some { vs := [(22, .x .b)] } })]) (.cons ok48 (.cons ok50 .nil)) (by kernel_rfl) (by kernel_rfl)
/- turnout/rule.Drop -/
noncomputable def q8g (f_0 : Int) (v_1 : Int) (prio_2 : Int) : Option api_Rule :=
 (qap f_0 v_1).bind fun r1 =>
 some (⟨prio_2, r1, Sl.nil⟩ : api_Rule)
noncomputable def sp52 : Spc := ⟨[(false, .x (.i .i64)), (false, .x (.i .i64)), (false, .x (.i .i64))], [([.x y8], [])], false, [], fun p => match p with | (f_0, v_1, prio_2) => q8g f_0 v_1 prio_2⟩
theorem ok52 : SpcOk prog 66 sp52 := q0j mixed glbok (sig := sig) (np := 3) (an := []) (.cons ok51 .nil) (by kernel_rfl) (by kernel_rfl)
/- turnout/rule.Plain -/
noncomputable def q7o (f_0 : Int) (v_1 : Int) (prio_2 : Int) (port_3 : Int) : Option api_Rule :=
 (q8g f_0 v_1 prio_2).bind fun r1 =>
 some (⟨api_Rule.Prio r1, api_Rule.M r1, (Sl.mk [(⟨2, 0, port_3⟩ : api_Act)])⟩ : api_Rule)
noncomputable def sp53 : Spc := ⟨[(false, .x (.i .i64)), (false, .x (.i .i64)), (false, .x (.i .i64)), (false, .x (.i .i64))], [([.x y8], [])], false, [], fun p => match p with | (f_0, v_1, prio_2, port_3) => q7o f_0 v_1 prio_2 port_3⟩
theorem ok53 : SpcOk prog 41 sp53 := q0j mixed glbok (sig := sig) (np := 4) (an := []) (.cons ok52 .nil) (by kernel_rfl) (by kernel_rfl)
/- turnout/level.Mods -/
noncomputable def q5z (l_0 : Sl level_Move) (round_1 : Int) (sw_2 : Int) : (Int × Sl api_Mod) → Option ((Int × Sl api_Mod) ⊕ (Sl api_Mod)) := fun (i4, s5) =>
 bif decide (i4 < (l_0.l.length : Int)) then (((ixI i4 l_0.l.length).bind fun n6 =>
 bif (((level_Move.Round (gt l_0.l n6)) == round_1) && ((level_Move.Sw (gt l_0.l n6)) == sw_2)) then ((q7o 1 (level_Move.Host (gt l_0.l n6)) 10 (level_Move.Port (gt l_0.l n6))).bind fun r7 =>
 (capI (s5.l ++ [(⟨3, r7, false⟩ : api_Mod)])).bind fun l8 =>
 some (Sl.mk l8)) else
 (some s5) : Option (Sl api_Mod)).bind fun s9 =>
 some (.inl (wr .i64 (i4 + 1), s9))) else
 (some (.inr s5))
noncomputable def q7i (l_0 : Sl level_Move) (round_1 : Int) (sw_2 : Int) : Option (Sl api_Mod) :=
 (loopO (q5z l_0 round_1 sw_2) (0, Sl.nil)).bind fun s10 =>
 some s10
noncomputable def sp54 : Spc := ⟨[(false, .x (.sl y3)), (false, .x (.i .i64)), (false, .x (.i .i64))], [([.x (.sl y9)], [])], false, [], fun p => match p with | (l_0, round_1, sw_2) => q7i l_0 round_1 sw_2⟩
theorem ok54 : SpcOk prog 20 sp54 := q0j mixed glbok (sig := sig) (np := 3) (an := [(7, { j := some { vs := [(7, .so 0), (12, .x (.i .i64))], os := [.ar y9] }, e := [(.exit 0, { vs := [(7, .so 0)], os := [.ar y9] })] }), (11, { e := [(.normal, { vs := [(7, .so 0)], os := [.ar y9], kl := [0] })] })]) (.cons ok53 .nil) (by kernel_rfl) (by kernel_rfl)
/- turnout/plan.Parts -/
noncomputable def q61 (p_0 : plan_Plan) (k_1 : Int) (n1 : Nat) : (Int × Sl plan_Part) → Option ((Int × Sl plan_Part) ⊕ (Sl plan_Part)) := fun (i5, s6) =>
 bif decide (i5 < (((plan_Round.Sws (gt ((plan_Plan.Rounds p_0).l) n1)).l).length : Int)) then ((ixI i5 ((plan_Round.Sws (gt ((plan_Plan.Rounds p_0).l) n1)).l).length).bind fun n7 =>
 (ixI k_1 ((plan_Plan.Rounds p_0).l).length).bind fun n8 =>
 (q7i (plan_Plan.Moves p_0) (plan_Round.No (gt ((plan_Plan.Rounds p_0).l) n8)) (gt ((plan_Round.Sws (gt ((plan_Plan.Rounds p_0).l) n1)).l) n7)).bind fun r9 =>
 (capI (s6.l ++ [(⟨gt ((plan_Round.Sws (gt ((plan_Plan.Rounds p_0).l) n1)).l) n7, r9⟩ : plan_Part)])).bind fun l10 =>
 some (.inl (wr .i64 (i5 + 1), (Sl.mk l10)))) else
 (some (.inr s6))
noncomputable def q7q (p_0 : plan_Plan) (k_1 : Int) : Option (Sl plan_Part) :=
 bif ((decide (k_1 < 0)) || (decide (k_1 ≥ (((plan_Plan.Rounds p_0).l).length : Int)))) then (some Sl.nil) else
 ((ixI k_1 ((plan_Plan.Rounds p_0).l).length).bind fun n1 =>
 (loopO (q61 p_0 k_1 n1) (0, Sl.nil)).bind fun s11 =>
 some s11)
noncomputable def sp55 : Spc := ⟨[(false, .x y5), (false, .x (.i .i64))], [([.x (.sl y10)], [])], false, [], fun p => match p with | (p_0, k_1) => q7q p_0 k_1⟩
theorem ok55 : SpcOk prog 28 sp55 := q0j mixed glbok (sig := sig) (np := 2) (an := [(12, { j := some { vs := [(5, .so 0), (24, .x (.i .i64))], os := [.ar y10] }, e := [(.exit 0, { vs := [(5, .so 0)], os := [.ar y10] })] })]) (.cons ok54 .nil) (by kernel_rfl) (by kernel_rfl)
/- turnout/turnoutlaw24.awake -/
noncomputable def q2e : Option Bool :=
 (q1r (⟨3, (Sl.mk [(⟨0, 0, 1, 0, 1, 1⟩ : api_Link), (⟨1, 1, 2, 0, 1, 2⟩ : api_Link), (⟨0, 1, 2, 1, 1, 1⟩ : api_Link)]), (Sl.mk [(⟨2, 7⟩ : api_Host)])⟩ : api_Topo) (Sl.mk [(Sl.mk [0]), (Sl.mk [1]), (Sl.mk [7])]) (Sl.mk [(Sl.mk [1]), (Sl.mk [1]), (Sl.mk [7])]) 100 4 10).bind fun (r1, r2) =>
 ((q6m (⟨3, (Sl.mk [(⟨0, 0, 1, 0, 1, 1⟩ : api_Link), (⟨1, 1, 2, 0, 1, 2⟩ : api_Link), (⟨0, 1, 2, 1, 1, 1⟩ : api_Link)]), (Sl.mk [(⟨2, 7⟩ : api_Host)])⟩ : api_Topo) 4).bind fun r3 =>
 bif (((r3 == 15) && (r2 == 0)) && ((((plan_Plan.Rounds r1).l).length : Int) == 1)) then ((ixI 0 ((plan_Plan.Rounds r1).l).length).bind fun n4 =>
 bif ((((plan_Round.At (gt ((plan_Plan.Rounds r1).l) n4)) == 121) && ((plan_Plan.From r1) == 111)) && ((plan_Plan.To r1) == 125)) then ((q59 r1 125).bind fun r5 =>
 bif r5 then ((q7q r1 0).bind fun r6 =>
 some ((r6.l.length : Int) == 1)) else
 (some false)) else
 (some false)) else
 (some false) : Option Bool).bind fun b7 =>
 some b7
noncomputable def sp56 : Spc := ⟨[], [([.x .b], [])], true, [], fun p => match p with | _ => q2e⟩
theorem ok56 : SpcOk prog 21 sp56 := q0j mixed glbok (sig := sig) (np := 0) (an := [(7, { j := some { vs := [(0, .x .b)] } })]) (.cons ok46 (.cons ok37 (.cons ok47 (.cons ok55 .nil)))) (by kernel_rfl) (by kernel_rfl)
/- turnout/turnoutref23.Moves -/
/- turnout/turnoutref17.Slowest -/
/- turnout/turnoutref24.Life -/
/- turnout/turnoutref24.sws -/
/- turnout/turnoutref24.Make -/
/- turnout/turnoutlaw23.Mine -/
/- turnout/turnoutlaw23.Like -/
/- turnout/turnoutlaw24.Like -/
/- turnout/turnoutlaw24.PlanMakes -/
/- turnout/turnoutlaw24.PlanApart -/
/- turnout/turnoutlaw24.later -/
noncomputable def q3l (p_0 : plan_Plan) (q_1 : plan_Plan) : Int → Option (Int ⊕ (Bool ⊕ Unit)) := fun i2 =>
 bif decide (i2 < (((plan_Plan.Moves p_0).l).length : Int)) then ((ixI i2 ((plan_Plan.Moves p_0).l).length).bind fun n3 =>
 (ixI i2 ((plan_Plan.Moves q_1).l).length).bind fun n4 =>
 bif (!(decide ((gt ((plan_Plan.Moves p_0).l) n3) = (gt ((plan_Plan.Moves q_1).l) n4)))) then (some (.inr (.inl false))) else
 (some (.inl (wr .i64 (i2 + 1))))) else
 (some (.inr (.inr ())))
noncomputable def q3m (p_0 : plan_Plan) (q_1 : plan_Plan) (by_2 : Int) : Int → Option (Int ⊕ (Bool ⊕ Unit)) := fun i7 =>
 bif decide (i7 < (((plan_Plan.Rounds p_0).l).length : Int)) then (((ixI i7 ((plan_Plan.Rounds q_1).l).length).bind fun n8 =>
 (ixI i7 ((plan_Plan.Rounds p_0).l).length).bind fun n9 =>
 bif ((plan_Round.At (gt ((plan_Plan.Rounds q_1).l) n8)) != (wr .i64 ((plan_Round.At (gt ((plan_Plan.Rounds p_0).l) n9)) + by_2))) then (some true) else
 ((ixI i7 ((plan_Plan.Rounds q_1).l).length).bind fun n10 =>
 (ixI i7 ((plan_Plan.Rounds p_0).l).length).bind fun n11 =>
 bif ((plan_Round.No (gt ((plan_Plan.Rounds q_1).l) n10)) != (plan_Round.No (gt ((plan_Plan.Rounds p_0).l) n11))) then (some true) else
 ((ixI i7 ((plan_Plan.Rounds p_0).l).length).bind fun n12 =>
 (ixI i7 ((plan_Plan.Rounds q_1).l).length).bind fun n13 =>
 (q7k (plan_Round.Sws (gt ((plan_Plan.Rounds p_0).l) n12)) (plan_Round.Sws (gt ((plan_Plan.Rounds q_1).l) n13))).bind fun r14 =>
 some (!r14))) : Option Bool).bind fun b15 =>
 bif b15 then (some (.inr (.inl false))) else
 (some (.inl (wr .i64 (i7 + 1))))) else
 (some (.inr (.inr ())))
noncomputable def q4o (p_0 : plan_Plan) (q_1 : plan_Plan) (by_2 : Int) : Option Bool :=
 bif ((((((((plan_Plan.Moves p_0).l).length : Int) != (((plan_Plan.Moves q_1).l).length : Int)) || ((((plan_Plan.Rounds p_0).l).length : Int) != (((plan_Plan.Rounds q_1).l).length : Int))) || ((plan_Plan.From q_1) != (wr .i64 ((plan_Plan.From p_0) + by_2)))) || ((plan_Plan.To q_1) != (wr .i64 ((plan_Plan.To p_0) + by_2)))) || ((plan_Plan.Life p_0) != (plan_Plan.Life q_1))) then (some false) else
 ((loopO (q3l p_0 q_1) 0).bind fun
 | .inl b5 => (some b5)
 | .inr _ => ((loopO (q3m p_0 q_1 by_2) 0).bind fun
 | .inl b16 => (some b16)
 | .inr _ => (some true)))
noncomputable def sp67 : Spc := ⟨[(false, .x y5), (false, .x y5), (false, .x (.i .i64))], [([.x .b], [])], true, [], fun p => match p with | (p_0, q_1, by_2) => q4o p_0 q_1 by_2⟩
theorem ok67 : SpcOk prog 27 sp67 := q0j mixed glbok (sig := sig) (np := 3) (an := [(10, { j := some { vs := [(7, .x (.i .i64))] }, e := [(.ret, { vs := [(6, .x .b)] }), (.exit 0, {})] }), (23, { j := some { vs := [(8, .x (.i .i64))] }, e := [(.ret, { vs := [(6, .x .b)] }), (.exit 2, {})] }), (29, { j := some { vs := [(120, .x .b)] } })]) (.cons ok29 .nil) (by kernel_rfl) (by kernel_rfl)
/- turnout/turnoutlaw24.PlanShifts -/
noncomputable def q40 (t_0 : api_Topo) (old_1 : Sl (Sl Int)) (now_2 : Sl (Sl Int)) (at_3 : Int) (miss_4 : Int) (lead_5 : Int) (by_6 : Int) : Option Bool :=
 ((q4q t_0 old_1).bind fun r1 =>
 bif (!r1) then (some true) else
 ((q4q t_0 now_2).bind fun r2 =>
 some (((((((!r2) || (decide (at_3 < 0))) || (decide (at_3 > 549755813888))) || (decide (by_6 < 0))) || (decide (by_6 > 524288))) || (decide (lead_5 < 0))) || (decide (lead_5 > 524288)))) : Option Bool).bind fun b3 =>
 bif b3 then ((q2e).bind fun r4 =>
 some r4) else
 ((q1r t_0 old_1 now_2 at_3 miss_4 lead_5).bind fun (r5, r6) =>
 (q1r t_0 old_1 now_2 (wr .i64 (at_3 + by_6)) miss_4 lead_5).bind fun (r7, r8) =>
 (q1r t_0 old_1 now_2 at_3 miss_4 (wr .i64 (lead_5 + by_6))).bind fun (r9, r10) =>
 bif ((r6 != r8) || (r8 != r10)) then (some false) else
 ((bif (r6 != 0) then ((q2e).bind fun r11 =>
 some r11) else
 ((q4o r5 r7 by_6).bind fun r12 =>
 bif r12 then ((q4o r5 r9 by_6).bind fun r13 =>
 bif r13 then ((q2e).bind fun r14 =>
 some r14) else
 (some false)) else
 (some false)) : Option Bool).bind fun b15 =>
 some b15))
noncomputable def sp68 : Spc := ⟨[(false, .x y0), (false, .x (.sl (.sl (.i .i64)))), (false, .x (.sl (.sl (.i .i64)))), (false, .x (.i .i64)), (false, .x (.i .i64)), (false, .x (.i .i64)), (false, .x (.i .i64))], [([.x .b], [])], true, [], fun p => match p with | (t_0, old_1, now_2, at_3, miss_4, lead_5, by_6) => q40 t_0 old_1 now_2 at_3 miss_4 lead_5 by_6⟩
theorem ok68 : SpcOk prog 8 sp68 := q0j mixed glbok (sig := sig) (np := 7) (an := [(4, { j := some { vs := [(54, .x .b)] } }), (19, { j := some { vs := [(14, .x .b)] } })]) (.cons ok0 (.cons ok56 (.cons ok46 (.cons ok67 .nil)))) (by kernel_rfl) (by kernel_rfl)
end Go.Proofs.Ytjdfgncibpbgdaa.L
