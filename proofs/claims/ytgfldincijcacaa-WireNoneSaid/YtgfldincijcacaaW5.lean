/- What functions of the program compute, and that the model's run computes it. Conditions: as stated. -/
import Derived.Test.YtgfldincijcacaaKm
import Derived.Test.YtgfldincijcacaaChecked
import Derived.KernelRfl
open Go.Ev Go
namespace Go.Proofs.Ytgfldincijcacaa.W

noncomputable abbrev prog : Program := Try.prog
theorem mixed : prog.follows .mixedOrders = true := by kernel_rfl
theorem glbok : GlbOk := glb_ok fun _ => rfl
def sig : Sig := fun f =>
  if f = 2 then (true, []) else if f = 3 then (true, []) else if f = 4 then (true, []) else if f = 5 then (true, []) else if f = 6 then (true, []) else if f = 9 then (true, []) else if f = 10 then (false, [true, true, false]) else if f = 11 then (true, []) else if f = 12 then (true, []) else if f = 13 then (true, []) else if f = 14 then (true, []) else if f = 15 then (false, [true, false]) else if f = 16 then (false, [true, false, false]) else if f = 17 then (true, []) else if f = 18 then (false, [true, false, false, false, false, false]) else if f = 19 then (true, []) else if f = 20 then (true, []) else if f = 21 then (false, [true, false, false, false, false, false]) else if f = 22 then (false, [true, false, false]) else if f = 23 then (true, []) else if f = 24 then (true, []) else if f = 25 then (false, [true, false]) else if f = 26 then (true, []) else if f = 27 then (true, []) else if f = 28 then (true, []) else if f = 29 then (true, []) else if f = 30 then (false, [true, false]) else if f = 31 then (false, [true, false, false]) else if f = 33 then (true, []) else if f = 34 then (true, []) else if f = 36 then (false, [true, false]) else if f = 37 then (true, []) else if f = 38 then (false, [true, false, false]) else if f = 39 then (true, []) else if f = 40 then (false, [true, false, false, false]) else if f = 41 then (false, [true, false, false, false, false]) else if f = 42 then (false, [true, false, false, false, false]) else if f = 43 then (false, [true, false, false, false, false]) else (false, [])

@[reducible] def wire_Way : Type := Int × Int × Int × Arr 4 Int × Int × Int
@[reducible] def wire_Way.Id (x : wire_Way) : Int := x.1
@[reducible] def wire_Way.Sw (x : wire_Way) : Int := x.2.1
@[reducible] def wire_Way.Port (x : wire_Way) : Int := x.2.2.1
@[reducible] def wire_Way.P (x : wire_Way) : Arr 4 Int := x.2.2.2.1
@[reducible] def wire_Way.Early (x : wire_Way) : Int := x.2.2.2.2.1
@[reducible] def wire_Way.Late (x : wire_Way) : Int := x.2.2.2.2.2
@[reducible] def y0 : Ty := .st (.pr (.i .i64) (.pr (.i .i64) (.pr (.i .i64) (.pr (.ar 4 (.i .i64)) (.pr (.i .i64) (.i .i64))))))
@[reducible] def api_Link : Type := Int × Int × Int × Int × Int × Int
@[reducible] def api_Link.A (x : api_Link) : Int := x.1
@[reducible] def api_Link.PortA (x : api_Link) : Int := x.2.1
@[reducible] def api_Link.B (x : api_Link) : Int := x.2.2.1
@[reducible] def api_Link.PortB (x : api_Link) : Int := x.2.2.2.1
@[reducible] def api_Link.Least (x : api_Link) : Int := x.2.2.2.2.1
@[reducible] def api_Link.Most (x : api_Link) : Int := x.2.2.2.2.2
@[reducible] def api_Host : Type := Int × Int
@[reducible] def api_Host.At (x : api_Host) : Int := x.1
@[reducible] def api_Host.Port (x : api_Host) : Int := x.2
@[reducible] def api_Topo : Type := Int × Sl api_Link × Sl api_Host
@[reducible] def api_Topo.Switches (x : api_Topo) : Int := x.1
@[reducible] def api_Topo.Links (x : api_Topo) : Sl api_Link := x.2.1
@[reducible] def api_Topo.Hosts (x : api_Topo) : Sl api_Host := x.2.2
@[reducible] def topo_place : Type := Int × Int
@[reducible] def topo_place.sw (x : topo_place) : Int := x.1
@[reducible] def topo_place.port (x : topo_place) : Int := x.2
@[reducible] def y1 : Ty := .st (.pr (.i .i64) (.i .i64))
@[reducible] def y3 : Ty := .st (.pr (.i .i64) (.pr (.i .i64) (.pr (.i .i64) (.pr (.i .i64) (.pr (.i .i64) (.i .i64))))))
@[reducible] def y2 : Ty := .st (.pr (.i .i64) (.pr (.sl y3) (.sl y1)))
@[reducible] def wire_Wires : Type := api_Topo × Sl wire_Way
@[reducible] def wire_Wires.t (x : wire_Wires) : api_Topo := x.1
@[reducible] def wire_Wires.l (x : wire_Wires) : Sl wire_Way := x.2
@[reducible] def y4 : Ty := .st (.pr y2 (.sl y0))
/- (*turnout/wire.Wires).Look -/
noncomputable def wire_Wires_Look_nil (k_1 : Int) : Option (wire_Way × Int) :=
  some ((⟨0, 0, 0, (zeE (.ar 4 (.i .i64))), 0, 0⟩ : wire_Way), 1)
noncomputable def sp0 : Spc := ⟨[(false, .nl 1), (false, .x (.i .i64))], [([.x y0, .x (.i .i64)], [])], true, [], fun p => match p with | k_1 => wire_Wires_Look_nil k_1⟩
theorem ok0 : SpcOk prog 19 sp0 := spc_ok mixed glbok (sig := sig) (np := 2) (an := []) .nil (by kernel_rfl) (by kernel_rfl)

/- (*turnout/wire.Wires).Take -/
noncomputable def wire_Wires_Take_nil (now_1 : Int) (k_2 : Int) : Option (wire_Way × Int) :=
  (wire_Wires_Look_nil k_2).bind fun (r1, r2) =>
  bif (r2 != 0) then (some (r1, r2)) else
  (bif decide (now_1 < (wire_Way.Early r1)) then (some ((⟨0, 0, 0, (zeE (.ar 4 (.i .i64))), 0, 0⟩ : wire_Way), 15)) else
  (none))
noncomputable def sp1 : Spc := ⟨[(true, .nl 1), (false, .x (.i .i64)), (false, .x (.i .i64))], [([.x y0, .x (.i .i64)], [.nl 1])], false, [true, false, false], fun p => match p with | (now_1, k_2) => wire_Wires_Take_nil now_1 k_2⟩
theorem ok1 : SpcOk prog 16 sp1 := spc_ok mixed glbok (sig := sig) (np := 3) (an := []) (.cons ok0 .nil) (by kernel_rfl) (by kernel_rfl)

/- (*turnout/wire.Wires).Put -/
noncomputable def wire_Wires_Put_nil (now_1 : Int) (sw_2 : Int) (port_3 : Int) (id_4 : Int) (p_5 : Arr 4 Int) : Option Int :=
  some 1
noncomputable def sp2 : Spc := ⟨[(true, .nl 1), (false, .x (.i .i64)), (false, .x (.i .i64)), (false, .x (.i .i64)), (false, .x (.i .i64)), (false, .x (.ar 4 (.i .i64)))], [([.x (.i .i64)], [.nl 1])], false, [true, false, false, false, false, false], fun p => match p with | (now_1, sw_2, port_3, id_4, p_5) => wire_Wires_Put_nil now_1 sw_2 port_3 id_4 p_5⟩
theorem ok2 : SpcOk prog 18 sp2 := spc_ok mixed glbok (sig := sig) (np := 6) (an := []) .nil (by kernel_rfl) (by kernel_rfl)

/- (*turnout/wire.Wires).Len -/
noncomputable def wire_Wires_Len_nil : Option Int :=
  some 0
noncomputable def sp3 : Spc := ⟨[(false, .nl 1)], [([.x (.i .i64)], [])], true, [], fun p => match p with | _ => wire_Wires_Len_nil⟩
theorem ok3 : SpcOk prog 11 sp3 := spc_ok mixed glbok (sig := sig) (np := 1) (an := []) .nil (by kernel_rfl) (by kernel_rfl)

/- (*turnout/wire.Wires).Due -/
noncomputable def wire_Wires_Due_nil (now_1 : Int) : Option (Sl wire_Way) :=
  some Sl.nil
noncomputable def sp4 : Spc := ⟨[(true, .nl 1), (false, .x (.i .i64))], [([.x (.sl y0)], [.nl 1])], false, [true, false], fun p => match p with | now_1 => wire_Wires_Due_nil now_1⟩
theorem ok4 : SpcOk prog 15 sp4 := spc_ok mixed glbok (sig := sig) (np := 2) (an := []) .nil (by kernel_rfl) (by kernel_rfl)

/- (*turnout/wire.Wires).Next -/
noncomputable def wire_Wires_Next_nil : Option Int :=
  (wire_Wires_Len_nil).bind fun r1 =>
  bif (r1 == 0) then (some (-1)) else
  (none)
noncomputable def sp5 : Spc := ⟨[(false, .nl 1)], [([.x (.i .i64)], [])], true, [], fun p => match p with | _ => wire_Wires_Next_nil⟩
theorem ok5 : SpcOk prog 12 sp5 := spc_ok mixed glbok (sig := sig) (np := 1) (an := []) (.cons ok3 .nil) (by kernel_rfl) (by kernel_rfl)

/- turnout/topo.places -/
noncomputable def topo_places_L1 (t_0 : api_Topo) : (Int × Sl topo_place) → Option ((Int × Sl topo_place) ⊕ (Sl topo_place)) := fun (i4, s5) =>
  bif decide (i4 < (((api_Topo.Links t_0).l).length : Int)) then ((ixI i4 ((api_Topo.Links t_0).l).length).bind fun n6 =>
  (capI (s5.l ++ [(⟨api_Link.A (gt ((api_Topo.Links t_0).l) n6), api_Link.PortA (gt ((api_Topo.Links t_0).l) n6)⟩ : topo_place), (⟨api_Link.B (gt ((api_Topo.Links t_0).l) n6), api_Link.PortB (gt ((api_Topo.Links t_0).l) n6)⟩ : topo_place)])).bind fun l7 =>
  some (.inl (wr .i64 (i4 + 1), (Sl.mk l7)))) else
  (some (.inr s5))

noncomputable def topo_places_L2 (t_0 : api_Topo) : (Int × Sl topo_place) → Option ((Int × Sl topo_place) ⊕ (Sl topo_place)) := fun (i11, s12) =>
  bif decide (i11 < (((api_Topo.Hosts t_0).l).length : Int)) then ((ixI i11 ((api_Topo.Hosts t_0).l).length).bind fun n13 =>
  (capI (s12.l ++ [gt ((api_Topo.Hosts t_0).l) n13])).bind fun l14 =>
  some (.inl (wr .i64 (i11 + 1), (Sl.mk l14)))) else
  (some (.inr s12))

noncomputable def topo_places (t_0 : api_Topo) : Option (Sl topo_place) :=
  (loopO (topo_places_L1 t_0) (0, Sl.nil)).bind fun s8 =>
  (loopO (topo_places_L2 t_0) (0, s8)).bind fun s15 =>
  some s15
noncomputable def sp6 : Spc := ⟨[(false, .x y2)], [([.x (.sl y1)], [])], false, [], fun p => match p with | t_0 => topo_places t_0⟩
theorem ok6 : SpcOk prog 35 sp6 := spc_ok mixed glbok (sig := sig) (np := 1) (an := [(7, { j := some { vs := [(3, .so 0), (11, .x (.i .i64))], os := [.ar y1] }, e := [(.exit 0, { vs := [(3, .so 0)], os := [.ar y1] })] }), (19, { j := some { vs := [(3, .so 0), (32, .x (.i .i64))], os := [.ar y1], kl := [1] }, e := [(.exit 2, { vs := [(3, .so 0)], os := [.ar y1], kl := [1] })] })]) .nil (by kernel_rfl) (by kernel_rfl)

/- turnout/topo.Right -/
noncomputable def topo_Right_L1 (t_0 : api_Topo) : Int → Option (Int ⊕ (Bool ⊕ Unit)) := fun i2 =>
  bif decide (i2 < (((api_Topo.Links t_0).l).length : Int)) then ((ixI i2 ((api_Topo.Links t_0).l).length).bind fun n3 =>
  bif (((((api_Link.A (gt ((api_Topo.Links t_0).l) n3)) == (api_Link.B (gt ((api_Topo.Links t_0).l) n3))) || (decide ((api_Link.Least (gt ((api_Topo.Links t_0).l) n3)) < 1))) || (decide ((api_Link.Least (gt ((api_Topo.Links t_0).l) n3)) > (api_Link.Most (gt ((api_Topo.Links t_0).l) n3))))) || (decide ((api_Link.Most (gt ((api_Topo.Links t_0).l) n3)) > 1000))) then (some (.inr (.inl false))) else
  (some (.inl (wr .i64 (i2 + 1))))) else
  (some (.inr (.inr ())))

noncomputable def topo_Right_L2 (t_0 : api_Topo) (r5 : Sl topo_place) : (Int × Mp topo_place Int) → Option ((Int × Mp topo_place Int) ⊕ (Bool ⊕ Unit)) := fun (i9, m10) =>
  bif decide (i9 < (r5.l.length : Int)) then ((ixI i9 r5.l.length).bind fun n11 =>
  (mpSet ((mpEnt m10 0 (gt r5.l n11)).1) ((mpEnt m10 0 (gt r5.l n11)).2.2) (wr .i64 ((mpGet m10 0 (gt r5.l n11)) + 1))).bind fun m12 =>
  bif (((((decide ((topo_place.sw (gt r5.l n11)) < 0)) || (decide ((topo_place.sw (gt r5.l n11)) ≥ (api_Topo.Switches t_0)))) || (decide ((topo_place.port (gt r5.l n11)) < 0))) || (decide ((topo_place.port (gt r5.l n11)) ≥ 8))) || (decide ((mpGet m12 0 (gt r5.l n11)) > 1))) then (some (.inr (.inl false))) else
  (some (.inl (wr .i64 (i9 + 1), m12)))) else
  (some (.inr (.inr ())))

noncomputable def topo_Right (t_0 : api_Topo) : Option Bool :=
  bif ((((decide ((api_Topo.Switches t_0) < 1)) || (decide ((api_Topo.Switches t_0) > 8))) || (decide ((((api_Topo.Links t_0).l).length : Int) > 24))) || (decide ((((api_Topo.Hosts t_0).l).length : Int) > 8))) then (some false) else
  ((loopO (topo_Right_L1 t_0) 0).bind fun
  | .inl b4 => (some b4)
  | .inr _ => ((topo_places t_0).bind fun r5 =>
  (loopO (topo_Right_L2 t_0 r5) (0, (Mp.none : Mp topo_place Int))).bind fun
  | .inl b13 => (some b13)
  | .inr _ => (some true)))
noncomputable def sp7 : Spc := ⟨[(false, .x y2)], [([.x .b], [])], true, [], fun p => match p with | t_0 => topo_Right t_0⟩
theorem ok7 : SpcOk prog 20 sp7 := spc_ok mixed glbok (sig := sig) (np := 1) (an := [(10, { j := some { vs := [(31, .x (.i .i64))] }, e := [(.ret, { vs := [(2, .x .b)] }), (.exit 0, {})] }), (27, { j := some { vs := [(5, .om 0), (62, .x (.i .i64))], os := [.mp y1 (.i .i64)], kl := [1] }, e := [(.ret, { vs := [(2, .x .b)], kl := [1] }), (.exit 2, { kl := [1] })] })]) (.cons ok6 .nil) (by kernel_rfl) (by kernel_rfl)

/- turnout/wire.New -/
noncomputable def wire_New (t_0 : api_Topo) : Option (Int ⊕ (api_Topo × Sl wire_Way × Int)) :=
  (topo_Right t_0).bind fun r1 =>
  bif (!r1) then (some (.inl 2)) else
  (some (.inr (t_0, Sl.nil, 0)))
noncomputable def sp8 : Spc := ⟨[(false, .x y2)], [([.nl 1, .x (.i .i64)], []), ([.pb y4 (.st (.pr (.x y2) (.pr (.os y0) .ni))), .x (.i .i64)], [])], false, [], fun p => match p with | t_0 => wire_New t_0⟩
theorem ok8 : SpcOk prog 7 sp8 := spc_ok mixed glbok (sig := sig) (np := 1) (an := []) (.cons ok7 .nil) (by kernel_rfl) (by kernel_rfl)

/- turnout/topo.Peer -/
noncomputable def topo_Peer_L1 (t_0 : api_Topo) (sw_1 : Int) (port_2 : Int) : Int → Option (Int ⊕ ((Int × Int × Int × Bool) ⊕ Unit)) := fun i2 =>
  bif decide (i2 < (((api_Topo.Links t_0).l).length : Int)) then ((ixI i2 ((api_Topo.Links t_0).l).length).bind fun n3 =>
  bif decide ((⟨sw_1, port_2⟩ : topo_place) = (⟨api_Link.A (gt ((api_Topo.Links t_0).l) n3), api_Link.PortA (gt ((api_Topo.Links t_0).l) n3)⟩ : topo_place)) then (some (.inr (.inl (api_Link.B (gt ((api_Topo.Links t_0).l) n3), api_Link.PortB (gt ((api_Topo.Links t_0).l) n3), i2, true)))) else
  (bif decide ((⟨sw_1, port_2⟩ : topo_place) = (⟨api_Link.B (gt ((api_Topo.Links t_0).l) n3), api_Link.PortB (gt ((api_Topo.Links t_0).l) n3)⟩ : topo_place)) then (some (.inr (.inl (api_Link.A (gt ((api_Topo.Links t_0).l) n3), api_Link.PortA (gt ((api_Topo.Links t_0).l) n3), i2, true)))) else
  (some (.inl (wr .i64 (i2 + 1)))))) else
  (some (.inr (.inr ())))

noncomputable def topo_Peer (t_0 : api_Topo) (sw_1 : Int) (port_2 : Int) : Option (Int × Int × Int × Bool) :=
  (loopO (topo_Peer_L1 t_0 sw_1 port_2) 0).bind fun
  | .inl (i4, i5, i6, b7) => (some (i4, i5, i6, b7))
  | .inr _ => (some (0, 0, 0, false))
noncomputable def sp9 : Spc := ⟨[(false, .x y2), (false, .x (.i .i64)), (false, .x (.i .i64))], [([.x (.i .i64), .x (.i .i64), .x (.i .i64), .x .b], [])], true, [], fun p => match p with | (t_0, sw_1, port_2) => topo_Peer t_0 sw_1 port_2⟩
theorem ok9 : SpcOk prog 34 sp9 := spc_ok mixed glbok (sig := sig) (np := 3) (an := [(7, { j := some { vs := [(21, .x (.i .i64))] }, e := [(.ret, { vs := [(6, .x (.i .i64)), (7, .x (.i .i64)), (8, .x (.i .i64)), (9, .x .b)] }), (.exit 0, {})] })]) .nil (by kernel_rfl) (by kernel_rfl)

/- (*turnout/wire.Wires).Put -/
noncomputable def wire_Wires_Put (w_0_t : api_Topo) (w_0_l : Sl wire_Way) (now_1 : Int) (sw_2 : Int) (port_3 : Int) (id_4 : Int) (p_5 : Arr 4 Int) : Option (Int × api_Topo × Sl wire_Way) :=
  (topo_Peer w_0_t sw_2 port_3).bind fun (r1, r2, r3, r4) =>
  bif (!r4) then (some (7, w_0_t, w_0_l)) else
  (bif decide ((w_0_l.l.length : Int) ≥ 256) then (some (6, w_0_t, w_0_l)) else
  ((ixI r3 ((api_Topo.Links w_0_t).l).length).bind fun n5 =>
  (capI (w_0_l.l ++ [(⟨id_4, r1, r2, p_5, wr .i64 (now_1 + (api_Link.Least (gt ((api_Topo.Links w_0_t).l) n5))), wr .i64 (now_1 + (api_Link.Most (gt ((api_Topo.Links w_0_t).l) n5)))⟩ : wire_Way)])).bind fun l6 =>
  some (0, w_0_t, (Sl.mk l6))))
noncomputable def sp10 : Spc := ⟨[(true, .pb y4 (.st (.pr (.x y2) (.pr (.os y0) .ni)))), (false, .x (.i .i64)), (false, .x (.i .i64)), (false, .x (.i .i64)), (false, .x (.i .i64)), (false, .x (.ar 4 (.i .i64)))], [([.x (.i .i64)], [.pb y4 (.st (.pr (.x y2) (.pr (.os y0) .ni)))])], false, [true, false, false, false, false, false], fun p => match p with | (w_0_t, w_0_l, now_1, sw_2, port_3, id_4, p_5) => wire_Wires_Put w_0_t w_0_l now_1 sw_2 port_3 id_4 p_5⟩
theorem ok10 : SpcOk prog 18 sp10 := spc_ok mixed glbok (sig := sig) (np := 6) (an := []) (.cons ok9 .nil) (by kernel_rfl) (by kernel_rfl)

/- (*turnout/wire.Wires).Look -/
noncomputable def wire_Wires_Look (w_0 : wire_Wires) (k_1 : Int) : Option (wire_Way × Int) :=
  bif ((decide (k_1 < 0)) || (decide (k_1 ≥ (((wire_Wires.l w_0).l).length : Int)))) then (some ((⟨0, 0, 0, (zeE (.ar 4 (.i .i64))), 0, 0⟩ : wire_Way), 7)) else
  ((ixI k_1 ((wire_Wires.l w_0).l).length).bind fun n1 =>
  some (gt ((wire_Wires.l w_0).l) n1, 0))
noncomputable def sp11 : Spc := ⟨[(false, .pt y4), (false, .x (.i .i64))], [([.x y0, .x (.i .i64)], [])], true, [], fun p => match p with | (w_0, k_1) => wire_Wires_Look w_0 k_1⟩
theorem ok11 : SpcOk prog 19 sp11 := spc_ok mixed glbok (sig := sig) (np := 2) (an := []) .nil (by kernel_rfl) (by kernel_rfl)

/- slices.Clone[[]turnout/wire.Way,turnout/wire.Way] -/
noncomputable def slices_Clone_wire_Way_wire_Way (s_0 : Sl wire_Way) : Option (Sl wire_Way) :=
  bif s_0.isNil then (some Sl.nil) else
  ((capI ([] ++ s_0.l)).bind fun l1 =>
  some (appS (Sl.mk []) s_0.l l1))
noncomputable def sp12 : Spc := ⟨[(false, .x (.sl y0))], [([.os y0], [])], false, [], fun p => match p with | s_0 => slices_Clone_wire_Way_wire_Way s_0⟩
theorem ok12 : SpcOk prog 32 sp12 := spc_ok mixed glbok (sig := sig) (np := 1) (an := []) .nil (by kernel_rfl) (by kernel_rfl)

/- slices.Delete[[]turnout/wire.Way,turnout/wire.Way] -/
theorem ok13 : SpcOk prog 31 (delSpc y0) := del_ok mixed (sig := sig) (nt := 33) (z := zeL y0) (by kernel_rfl) (by kernel_rfl)

/- (*turnout/wire.Wires).Take -/
noncomputable def wire_Wires_Take (w_0_t : api_Topo) (w_0_l : Sl wire_Way) (now_1 : Int) (k_2 : Int) : Option (wire_Way × Int × api_Topo × Sl wire_Way) :=
  (wire_Wires_Look (⟨w_0_t, w_0_l⟩ : wire_Wires) k_2).bind fun (r1, r2) =>
  bif (r2 != 0) then (some (r1, r2, w_0_t, w_0_l)) else
  (bif decide (now_1 < (wire_Way.Early r1)) then (some ((⟨0, 0, 0, (zeE (.ar 4 (.i .i64))), 0, 0⟩ : wire_Way), 15, w_0_t, w_0_l)) else
  ((slices_Clone_wire_Way_wire_Way w_0_l).bind fun s3 =>
  (delF s3 k_2 (wr .i64 (k_2 + 1))).bind fun s4 =>
  some (r1, 0, w_0_t, s4)))
noncomputable def sp14 : Spc := ⟨[(true, .pb y4 (.st (.pr (.x y2) (.pr (.os y0) .ni)))), (false, .x (.i .i64)), (false, .x (.i .i64))], [([.x y0, .x (.i .i64)], [.pb y4 (.st (.pr (.x y2) (.pr (.os y0) .ni)))])], false, [true, false, false], fun p => match p with | (w_0_t, w_0_l, now_1, k_2) => wire_Wires_Take w_0_t w_0_l now_1 k_2⟩
theorem ok14 : SpcOk prog 16 sp14 := spc_ok mixed glbok (sig := sig) (np := 3) (an := []) (.cons ok11 (.cons ok12 (.cons ok13 .nil))) (by kernel_rfl) (by kernel_rfl)

/- (*turnout/wire.Wires).Len -/
noncomputable def wire_Wires_Len (w_0 : wire_Wires) : Option Int :=
  some (((wire_Wires.l w_0).l).length : Int)
noncomputable def sp15 : Spc := ⟨[(false, .pt y4)], [([.x (.i .i64)], [])], true, [], fun p => match p with | w_0 => wire_Wires_Len w_0⟩
theorem ok15 : SpcOk prog 11 sp15 := spc_ok mixed glbok (sig := sig) (np := 1) (an := []) .nil (by kernel_rfl) (by kernel_rfl)

/- cmp.isNaN[int] -/
noncomputable def cmp_isNaN_int (x_0 : Int) : Option Bool :=
  some (x_0 != x_0)
noncomputable def sp16 : Spc := ⟨[(false, .x (.i .i64))], [([.x .b], [])], true, [], fun p => match p with | x_0 => cmp_isNaN_int x_0⟩
theorem ok16 : SpcOk prog 39 sp16 := spc_ok mixed glbok (sig := sig) (np := 1) (an := []) .nil (by kernel_rfl) (by kernel_rfl)

/- cmp.Compare[int] -/
noncomputable def cmp_Compare_int (x_0 : Int) (y_1 : Int) : Option Int :=
  (cmp_isNaN_int x_0).bind fun r1 =>
  (cmp_isNaN_int y_1).bind fun r2 =>
  bif r1 then (bif r2 then (some 0) else
  (some (-1))) else
  (bif r2 then (some 1) else
  (bif decide (x_0 < y_1) then (some (-1)) else
  (bif decide (x_0 > y_1) then (some 1) else
  (some 0))))
noncomputable def sp17 : Spc := ⟨[(false, .x (.i .i64)), (false, .x (.i .i64))], [([.x (.i .i64)], [])], true, [], fun p => match p with | (x_0, y_1) => cmp_Compare_int x_0 y_1⟩
theorem ok17 : SpcOk prog 37 sp17 := spc_ok mixed glbok (sig := sig) (np := 2) (an := []) (.cons ok16 .nil) (by kernel_rfl) (by kernel_rfl)

/- turnout/wire.byLate -/
noncomputable def wire_byLate (a_0 : wire_Way) (b_1 : wire_Way) : Option Int :=
  (cmp_Compare_int (wire_Way.Late a_0) (wire_Way.Late b_1)).bind fun r1 =>
  some r1
noncomputable def sp18 : Spc := ⟨[(false, .x y0), (false, .x y0)], [([.x (.i .i64)], [])], true, [], fun p => match p with | (a_0, b_1) => wire_byLate a_0 b_1⟩
theorem ok18 : SpcOk prog 28 sp18 := spc_ok mixed glbok (sig := sig) (np := 2) (an := []) (.cons ok17 .nil) (by kernel_rfl) (by kernel_rfl)

/- slices.MinFunc[[]turnout/wire.Way,turnout/wire.Way] -/
noncomputable def slices_MinFunc_wire_Way_wire_Way_wire_byLate_L1 (x_0 : Sl wire_Way) : (Int × wire_Way) → Option ((Int × wire_Way) ⊕ wire_Way) := fun (i5, x6) =>
  bif decide (i5 < (x_0.l.length : Int)) then (((ixI i5 x_0.l.length).bind fun n7 =>
  (wire_byLate (gt x_0.l n7) x6).bind fun r8 =>
  bif decide (r8 < 0) then ((ixI i5 x_0.l.length).bind fun n9 =>
  some (gt x_0.l n9)) else
  (some x6) : Option wire_Way).bind fun x10 =>
  some (.inl (wr .i64 (i5 + 1), x10))) else
  (some (.inr x6))

noncomputable def slices_MinFunc_wire_Way_wire_Way_wire_byLate (x_0 : Sl wire_Way) : Option wire_Way :=
  bif decide ((x_0.l.length : Int) < 1) then (none) else
  ((ixI 0 x_0.l.length).bind fun n1 =>
  (loopO (slices_MinFunc_wire_Way_wire_Way_wire_byLate_L1 x_0) (1, gt x_0.l n1)).bind fun x11 =>
  some x11)
noncomputable def sp19 : Spc := ⟨[(false, .x (.sl y0)), (false, .fn 28 .ni)], [([.x y0], [])], true, [], fun p => match p with | x_0 => slices_MinFunc_wire_Way_wire_Way_wire_byLate x_0⟩
theorem ok19 : SpcOk prog 27 sp19 := spc_ok mixed glbok (sig := sig) (np := 2) (an := [(11, { j := some { vs := [(5, .op 0 y0 []), (6, .x (.i .i64))], os := [.bx y0 (.x y0)], kl := [1] }, e := [(.exit 0, { vs := [(5, .op 0 y0 [])], os := [.bx y0 (.x y0)], kl := [1] })] }), (15, { e := [(.normal, { vs := [(5, .op 0 y0 [])], os := [.bx y0 (.x y0)], kl := [2] })] })]) (.cons ok18 .nil) (by kernel_rfl) (by kernel_rfl)

/- (*turnout/wire.Wires).Next -/
noncomputable def wire_Wires_Next (w_0 : wire_Wires) : Option Int :=
  (wire_Wires_Len w_0).bind fun r1 =>
  bif (r1 == 0) then (some (-1)) else
  ((slices_MinFunc_wire_Way_wire_Way_wire_byLate (wire_Wires.l w_0)).bind fun r2 =>
  some (wire_Way.Late r2))
noncomputable def sp20 : Spc := ⟨[(false, .pt y4)], [([.x (.i .i64)], [])], true, [], fun p => match p with | w_0 => wire_Wires_Next w_0⟩
theorem ok20 : SpcOk prog 12 sp20 := spc_ok mixed glbok (sig := sig) (np := 1) (an := []) (.cons ok15 (.cons ok19 .nil)) (by kernel_rfl) (by kernel_rfl)

/- turnout/turnoutlaw35.awake -/
noncomputable def law35_awake : Option Bool :=
  (wire_New (⟨2, (Sl.mk [(⟨0, 0, 1, 3, 2, 5⟩ : api_Link)]), Sl.nil⟩ : api_Topo)).bind fun
  | .inl r1 => ((wire_Wires_Put_nil 10 0 0 7 (Arr.set (zeE (.ar 4 (.i .i64))) 0 1)).bind fun r2 =>
  (wire_Wires_Take_nil 11 0).bind fun (r3, r4) =>
  (wire_Wires_Next_nil).bind fun r5 =>
  (wire_Wires_Take_nil 12 0).bind fun (r6, r7) =>
  (bif ((((((((r1 == 0) && (r2 == 0)) && (r4 == 15)) && (r5 == 15)) && (r7 == 0)) && ((wire_Way.Id r6) == 7)) && ((wire_Way.Sw r6) == 1)) && ((wire_Way.Port r6) == 3)) then ((wire_Wires_Len_nil).bind fun r8 =>
  bif (r8 == 0) then ((wire_Wires_Next_nil).bind fun r9 =>
  some (r9 == (-1))) else
  (some false)) else
  (some false) : Option Bool).bind fun b10 =>
  some b10)
  | .inr (r11, s12, r13) => ((wire_Wires_Put r11 s12 10 0 0 7 (Arr.set (zeE (.ar 4 (.i .i64))) 0 1)).bind fun (r14, q15, s16) =>
  (wire_Wires_Take q15 s16 11 0).bind fun (r17, r18, q19, s20) =>
  (wire_Wires_Next (⟨q19, s20⟩ : wire_Wires)).bind fun r21 =>
  (wire_Wires_Take q19 s20 12 0).bind fun (r22, r23, q24, s25) =>
  (bif ((((((((r13 == 0) && (r14 == 0)) && (r18 == 15)) && (r21 == 15)) && (r23 == 0)) && ((wire_Way.Id r22) == 7)) && ((wire_Way.Sw r22) == 1)) && ((wire_Way.Port r22) == 3)) then ((wire_Wires_Len (⟨q24, s25⟩ : wire_Wires)).bind fun r26 =>
  bif (r26 == 0) then ((wire_Wires_Next (⟨q24, s25⟩ : wire_Wires)).bind fun r27 =>
  some (r27 == (-1))) else
  (some false)) else
  (some false) : Option Bool).bind fun b28 =>
  some b28)
noncomputable def sp21 : Spc := ⟨[], [([.x .b], [])], true, [], fun p => match p with | _ => law35_awake⟩
theorem ok21 : SpcOk prog 6 sp21 := spc_ok mixed glbok (sig := sig) (np := 0) (an := [(13, { j := some { vs := [(0, .x .b)] } })]) (.cons ok8 (.cons ok2 (.cons ok1 (.cons ok5 (.cons ok3 (.cons ok10 (.cons ok14 (.cons ok20 (.cons ok15 .nil))))))))) (by kernel_rfl) (by kernel_rfl)

/- turnout/turnoutlaw35.WireNone -/
noncomputable def law35_WireNone (now_0 : Int) (k_1 : Int) (p_2 : Arr 4 Int) : Option Bool :=
  (wire_Wires_Take_nil now_0 k_1).bind fun (r1, r2) =>
  (wire_Wires_Look_nil k_1).bind fun (r3, r4) =>
  (bif ((r2 == 1) && (r4 == 1)) then ((wire_Wires_Put_nil now_0 k_1 k_1 k_1 p_2).bind fun r5 =>
  bif (r5 == 1) then ((wire_Wires_Len_nil).bind fun r6 =>
  (wire_Wires_Due_nil now_0).bind fun r7 =>
  bif ((wr .i64 (r6 + (r7.l.length : Int))) == 0) then ((wire_Wires_Next_nil).bind fun r8 =>
  bif (r8 == (-1)) then ((law35_awake).bind fun r9 =>
  some r9) else
  (some false)) else
  (some false)) else
  (some false)) else
  (some false) : Option Bool).bind fun b10 =>
  some b10
noncomputable def sp22 : Spc := ⟨[(false, .x (.i .i64)), (false, .x (.i .i64)), (false, .x (.ar 4 (.i .i64)))], [([.x .b], [])], true, [], fun p => match p with | (now_0, k_1, p_2) => law35_WireNone now_0 k_1 p_2⟩
theorem ok22 : SpcOk prog 5 sp22 := spc_ok mixed glbok (sig := sig) (np := 3) (an := [(9, { j := some { vs := [(6, .x .b)] } })]) (.cons ok1 (.cons ok0 (.cons ok2 (.cons ok3 (.cons ok4 (.cons ok5 (.cons ok21 .nil))))))) (by kernel_rfl) (by kernel_rfl)

end Go.Proofs.Ytgfldincijcacaa.W
