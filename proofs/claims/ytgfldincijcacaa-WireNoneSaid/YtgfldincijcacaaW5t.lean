/- law35_awake answers true: by running its twin. Conditions: none. -/
import Derived.Test.YtgfldincijcacaaW5
import Derived.Test.YtgfldincijcacaaTwin
open Go.Ev Go
namespace Go.Proofs.Ytgfldincijcacaa.W

def wire_Wires_Look_nil_c (k_1 : Int) : Option (wire_Way × Int) :=
  some ((⟨0, 0, 0, (zeE (.ar 4 (.i .i64))), 0, 0⟩ : wire_Way), 1)
theorem wire_Wires_Look_nil_le (k_1 : Int) : OLe (wire_Wires_Look_nil_c k_1) (wire_Wires_Look_nil k_1) := by
  unfold wire_Wires_Look_nil_c wire_Wires_Look_nil
  repeat' first
    | with_reducible refine OLe.loop (fun _ => ?_) _ _
    | with_reducible refine OLe.lend (fun _ => ?_) ?_
    | with_reducible refine OLe.cond ?_ ?_
    | with_reducible refine OLe.bind ?_ (fun _ => ?_)
    | (split <;> try dsimp only)
    | with_reducible exact OLe.refl _

def wire_Wires_Take_nil_c (now_1 : Int) (k_2 : Int) : Option (wire_Way × Int) :=
  (wire_Wires_Look_nil_c k_2).bind fun (r1, r2) =>
  bif (r2 != 0) then (some (r1, r2)) else
  (bif decide (now_1 < (wire_Way.Early r1)) then (some ((⟨0, 0, 0, (zeE (.ar 4 (.i .i64))), 0, 0⟩ : wire_Way), 15)) else
  (none))
theorem wire_Wires_Take_nil_le (now_1 : Int) (k_2 : Int) : OLe (wire_Wires_Take_nil_c now_1 k_2) (wire_Wires_Take_nil now_1 k_2) := by
  unfold wire_Wires_Take_nil_c wire_Wires_Take_nil
  repeat' first
    | with_reducible apply wire_Wires_Look_nil_le
    | with_reducible refine OLe.loop (fun _ => ?_) _ _
    | with_reducible refine OLe.lend (fun _ => ?_) ?_
    | with_reducible refine OLe.cond ?_ ?_
    | with_reducible refine OLe.bind ?_ (fun _ => ?_)
    | (split <;> try dsimp only)
    | with_reducible exact OLe.refl _

def wire_Wires_Put_nil_c (now_1 : Int) (sw_2 : Int) (port_3 : Int) (id_4 : Int) (p_5 : Arr 4 Int) : Option Int :=
  some 1
theorem wire_Wires_Put_nil_le (now_1 : Int) (sw_2 : Int) (port_3 : Int) (id_4 : Int) (p_5 : Arr 4 Int) : OLe (wire_Wires_Put_nil_c now_1 sw_2 port_3 id_4 p_5) (wire_Wires_Put_nil now_1 sw_2 port_3 id_4 p_5) := by
  unfold wire_Wires_Put_nil_c wire_Wires_Put_nil
  repeat' first
    | with_reducible refine OLe.loop (fun _ => ?_) _ _
    | with_reducible refine OLe.lend (fun _ => ?_) ?_
    | with_reducible refine OLe.cond ?_ ?_
    | with_reducible refine OLe.bind ?_ (fun _ => ?_)
    | (split <;> try dsimp only)
    | with_reducible exact OLe.refl _

def wire_Wires_Len_nil_c : Option Int :=
  some 0
theorem wire_Wires_Len_nil_le : OLe (wire_Wires_Len_nil_c) (wire_Wires_Len_nil) := by
  unfold wire_Wires_Len_nil_c wire_Wires_Len_nil
  repeat' first
    | with_reducible refine OLe.loop (fun _ => ?_) _ _
    | with_reducible refine OLe.lend (fun _ => ?_) ?_
    | with_reducible refine OLe.cond ?_ ?_
    | with_reducible refine OLe.bind ?_ (fun _ => ?_)
    | (split <;> try dsimp only)
    | with_reducible exact OLe.refl _

def wire_Wires_Next_nil_c : Option Int :=
  (wire_Wires_Len_nil_c).bind fun r1 =>
  bif (r1 == 0) then (some (-1)) else
  (none)
theorem wire_Wires_Next_nil_le : OLe (wire_Wires_Next_nil_c) (wire_Wires_Next_nil) := by
  unfold wire_Wires_Next_nil_c wire_Wires_Next_nil
  repeat' first
    | with_reducible apply wire_Wires_Len_nil_le
    | with_reducible refine OLe.loop (fun _ => ?_) _ _
    | with_reducible refine OLe.lend (fun _ => ?_) ?_
    | with_reducible refine OLe.cond ?_ ?_
    | with_reducible refine OLe.bind ?_ (fun _ => ?_)
    | (split <;> try dsimp only)
    | with_reducible exact OLe.refl _

def topo_places_L1_c (t_0 : api_Topo) : (Int × Sl topo_place) → Option ((Int × Sl topo_place) ⊕ (Sl topo_place)) := fun (i4, s5) =>
  bif decide (i4 < (((api_Topo.Links t_0).l).length : Int)) then ((ixI i4 ((api_Topo.Links t_0).l).length).bind fun n6 =>
  (capI (s5.l ++ [(⟨api_Link.A (gt ((api_Topo.Links t_0).l) n6), api_Link.PortA (gt ((api_Topo.Links t_0).l) n6)⟩ : topo_place), (⟨api_Link.B (gt ((api_Topo.Links t_0).l) n6), api_Link.PortB (gt ((api_Topo.Links t_0).l) n6)⟩ : topo_place)])).bind fun l7 =>
  some (.inl (wr .i64 (i4 + 1), (Sl.mk l7)))) else
  (some (.inr s5))
theorem topo_places_L1_le (t_0 : api_Topo) : ∀ s, OLe (topo_places_L1_c t_0 s) (topo_places_L1 t_0 s) := by
  intro s
  unfold topo_places_L1_c topo_places_L1
  repeat' first
    | with_reducible refine OLe.loop (fun _ => ?_) _ _
    | with_reducible refine OLe.lend (fun _ => ?_) ?_
    | with_reducible refine OLe.cond ?_ ?_
    | with_reducible refine OLe.bind ?_ (fun _ => ?_)
    | (split <;> try dsimp only)
    | with_reducible exact OLe.refl _

def topo_places_L2_c (t_0 : api_Topo) : (Int × Sl topo_place) → Option ((Int × Sl topo_place) ⊕ (Sl topo_place)) := fun (i11, s12) =>
  bif decide (i11 < (((api_Topo.Hosts t_0).l).length : Int)) then ((ixI i11 ((api_Topo.Hosts t_0).l).length).bind fun n13 =>
  (capI (s12.l ++ [gt ((api_Topo.Hosts t_0).l) n13])).bind fun l14 =>
  some (.inl (wr .i64 (i11 + 1), (Sl.mk l14)))) else
  (some (.inr s12))
theorem topo_places_L2_le (t_0 : api_Topo) : ∀ s, OLe (topo_places_L2_c t_0 s) (topo_places_L2 t_0 s) := by
  intro s
  unfold topo_places_L2_c topo_places_L2
  repeat' first
    | with_reducible refine OLe.loop (fun _ => ?_) _ _
    | with_reducible refine OLe.lend (fun _ => ?_) ?_
    | with_reducible refine OLe.cond ?_ ?_
    | with_reducible refine OLe.bind ?_ (fun _ => ?_)
    | (split <;> try dsimp only)
    | with_reducible exact OLe.refl _

def topo_places_c (t_0 : api_Topo) : Option (Sl topo_place) :=
  (loopN 100000 (topo_places_L1_c t_0) (0, Sl.nil)).bind fun s8 =>
  (loopN 100000 (topo_places_L2_c t_0) (0, s8)).bind fun s15 =>
  some s15
theorem topo_places_le (t_0 : api_Topo) : OLe (topo_places_c t_0) (topo_places t_0) := by
  unfold topo_places_c topo_places
  repeat' first
    | with_reducible apply topo_places_L1_le
    | with_reducible apply topo_places_L2_le
    | with_reducible refine OLe.loop (fun _ => ?_) _ _
    | with_reducible refine OLe.lend (fun _ => ?_) ?_
    | with_reducible refine OLe.cond ?_ ?_
    | with_reducible refine OLe.bind ?_ (fun _ => ?_)
    | (split <;> try dsimp only)
    | with_reducible exact OLe.refl _

def topo_Right_L1_c (t_0 : api_Topo) : Int → Option (Int ⊕ (Bool ⊕ Unit)) := fun i2 =>
  bif decide (i2 < (((api_Topo.Links t_0).l).length : Int)) then ((ixI i2 ((api_Topo.Links t_0).l).length).bind fun n3 =>
  bif (((((api_Link.A (gt ((api_Topo.Links t_0).l) n3)) == (api_Link.B (gt ((api_Topo.Links t_0).l) n3))) || (decide ((api_Link.Least (gt ((api_Topo.Links t_0).l) n3)) < 1))) || (decide ((api_Link.Least (gt ((api_Topo.Links t_0).l) n3)) > (api_Link.Most (gt ((api_Topo.Links t_0).l) n3))))) || (decide ((api_Link.Most (gt ((api_Topo.Links t_0).l) n3)) > 1000))) then (some (.inr (.inl false))) else
  (some (.inl (wr .i64 (i2 + 1))))) else
  (some (.inr (.inr ())))
theorem topo_Right_L1_le (t_0 : api_Topo) : ∀ s, OLe (topo_Right_L1_c t_0 s) (topo_Right_L1 t_0 s) := by
  intro s
  unfold topo_Right_L1_c topo_Right_L1
  repeat' first
    | with_reducible refine OLe.loop (fun _ => ?_) _ _
    | with_reducible refine OLe.lend (fun _ => ?_) ?_
    | with_reducible refine OLe.cond ?_ ?_
    | with_reducible refine OLe.bind ?_ (fun _ => ?_)
    | (split <;> try dsimp only)
    | with_reducible exact OLe.refl _

def topo_Right_L2_c (t_0 : api_Topo) (r5 : Sl topo_place) : (Int × Mp topo_place Int) → Option ((Int × Mp topo_place Int) ⊕ (Bool ⊕ Unit)) := fun (i9, m10) =>
  bif decide (i9 < (r5.l.length : Int)) then ((ixI i9 r5.l.length).bind fun n11 =>
  (mpSet ((mpEnt m10 0 (gt r5.l n11)).1) ((mpEnt m10 0 (gt r5.l n11)).2.2) (wr .i64 ((mpGet m10 0 (gt r5.l n11)) + 1))).bind fun m12 =>
  bif (((((decide ((topo_place.sw (gt r5.l n11)) < 0)) || (decide ((topo_place.sw (gt r5.l n11)) ≥ (api_Topo.Switches t_0)))) || (decide ((topo_place.port (gt r5.l n11)) < 0))) || (decide ((topo_place.port (gt r5.l n11)) ≥ 8))) || (decide ((mpGet m12 0 (gt r5.l n11)) > 1))) then (some (.inr (.inl false))) else
  (some (.inl (wr .i64 (i9 + 1), m12)))) else
  (some (.inr (.inr ())))
theorem topo_Right_L2_le (t_0 : api_Topo) (r5 : Sl topo_place) : ∀ s, OLe (topo_Right_L2_c t_0 r5 s) (topo_Right_L2 t_0 r5 s) := by
  intro s
  unfold topo_Right_L2_c topo_Right_L2
  repeat' first
    | with_reducible refine OLe.loop (fun _ => ?_) _ _
    | with_reducible refine OLe.lend (fun _ => ?_) ?_
    | with_reducible refine OLe.cond ?_ ?_
    | with_reducible refine OLe.bind ?_ (fun _ => ?_)
    | (split <;> try dsimp only)
    | with_reducible exact OLe.refl _

def topo_Right_c (t_0 : api_Topo) : Option Bool :=
  bif ((((decide ((api_Topo.Switches t_0) < 1)) || (decide ((api_Topo.Switches t_0) > 8))) || (decide ((((api_Topo.Links t_0).l).length : Int) > 24))) || (decide ((((api_Topo.Hosts t_0).l).length : Int) > 8))) then (some false) else
  ((loopN 100000 (topo_Right_L1_c t_0) 0).bind fun
  | .inl b4 => (some b4)
  | .inr _ => ((topo_places_c t_0).bind fun r5 =>
  (loopN 100000 (topo_Right_L2_c t_0 r5) (0, (Mp.none : Mp topo_place Int))).bind fun
  | .inl b13 => (some b13)
  | .inr _ => (some true)))
theorem topo_Right_le (t_0 : api_Topo) : OLe (topo_Right_c t_0) (topo_Right t_0) := by
  unfold topo_Right_c topo_Right
  repeat' first
    | with_reducible apply topo_Right_L1_le
    | with_reducible apply topo_places_le
    | with_reducible apply topo_Right_L2_le
    | with_reducible refine OLe.loop (fun _ => ?_) _ _
    | with_reducible refine OLe.lend (fun _ => ?_) ?_
    | with_reducible refine OLe.cond ?_ ?_
    | with_reducible refine OLe.bind ?_ (fun _ => ?_)
    | (split <;> try dsimp only)
    | with_reducible exact OLe.refl _

def wire_New_c (t_0 : api_Topo) : Option (Int ⊕ (api_Topo × Sl wire_Way × Int)) :=
  (topo_Right_c t_0).bind fun r1 =>
  bif (!r1) then (some (.inl 2)) else
  (some (.inr (t_0, Sl.nil, 0)))
theorem wire_New_le (t_0 : api_Topo) : OLe (wire_New_c t_0) (wire_New t_0) := by
  unfold wire_New_c wire_New
  repeat' first
    | with_reducible apply topo_Right_le
    | with_reducible refine OLe.loop (fun _ => ?_) _ _
    | with_reducible refine OLe.lend (fun _ => ?_) ?_
    | with_reducible refine OLe.cond ?_ ?_
    | with_reducible refine OLe.bind ?_ (fun _ => ?_)
    | (split <;> try dsimp only)
    | with_reducible exact OLe.refl _

def topo_Peer_L1_c (t_0 : api_Topo) (sw_1 : Int) (port_2 : Int) : Int → Option (Int ⊕ ((Int × Int × Int × Bool) ⊕ Unit)) := fun i2 =>
  bif decide (i2 < (((api_Topo.Links t_0).l).length : Int)) then ((ixI i2 ((api_Topo.Links t_0).l).length).bind fun n3 =>
  bif decide ((⟨sw_1, port_2⟩ : topo_place) = (⟨api_Link.A (gt ((api_Topo.Links t_0).l) n3), api_Link.PortA (gt ((api_Topo.Links t_0).l) n3)⟩ : topo_place)) then (some (.inr (.inl (api_Link.B (gt ((api_Topo.Links t_0).l) n3), api_Link.PortB (gt ((api_Topo.Links t_0).l) n3), i2, true)))) else
  (bif decide ((⟨sw_1, port_2⟩ : topo_place) = (⟨api_Link.B (gt ((api_Topo.Links t_0).l) n3), api_Link.PortB (gt ((api_Topo.Links t_0).l) n3)⟩ : topo_place)) then (some (.inr (.inl (api_Link.A (gt ((api_Topo.Links t_0).l) n3), api_Link.PortA (gt ((api_Topo.Links t_0).l) n3), i2, true)))) else
  (some (.inl (wr .i64 (i2 + 1)))))) else
  (some (.inr (.inr ())))
theorem topo_Peer_L1_le (t_0 : api_Topo) (sw_1 : Int) (port_2 : Int) : ∀ s, OLe (topo_Peer_L1_c t_0 sw_1 port_2 s) (topo_Peer_L1 t_0 sw_1 port_2 s) := by
  intro s
  unfold topo_Peer_L1_c topo_Peer_L1
  repeat' first
    | with_reducible refine OLe.loop (fun _ => ?_) _ _
    | with_reducible refine OLe.lend (fun _ => ?_) ?_
    | with_reducible refine OLe.cond ?_ ?_
    | with_reducible refine OLe.bind ?_ (fun _ => ?_)
    | (split <;> try dsimp only)
    | with_reducible exact OLe.refl _

def topo_Peer_c (t_0 : api_Topo) (sw_1 : Int) (port_2 : Int) : Option (Int × Int × Int × Bool) :=
  (loopN 100000 (topo_Peer_L1_c t_0 sw_1 port_2) 0).bind fun
  | .inl (i4, i5, i6, b7) => (some (i4, i5, i6, b7))
  | .inr _ => (some (0, 0, 0, false))
theorem topo_Peer_le (t_0 : api_Topo) (sw_1 : Int) (port_2 : Int) : OLe (topo_Peer_c t_0 sw_1 port_2) (topo_Peer t_0 sw_1 port_2) := by
  unfold topo_Peer_c topo_Peer
  repeat' first
    | with_reducible apply topo_Peer_L1_le
    | with_reducible refine OLe.loop (fun _ => ?_) _ _
    | with_reducible refine OLe.lend (fun _ => ?_) ?_
    | with_reducible refine OLe.cond ?_ ?_
    | with_reducible refine OLe.bind ?_ (fun _ => ?_)
    | (split <;> try dsimp only)
    | with_reducible exact OLe.refl _

def wire_Wires_Put_c (w_0_t : api_Topo) (w_0_l : Sl wire_Way) (now_1 : Int) (sw_2 : Int) (port_3 : Int) (id_4 : Int) (p_5 : Arr 4 Int) : Option (Int × api_Topo × Sl wire_Way) :=
  (topo_Peer_c w_0_t sw_2 port_3).bind fun (r1, r2, r3, r4) =>
  bif (!r4) then (some (7, w_0_t, w_0_l)) else
  (bif decide ((w_0_l.l.length : Int) ≥ 256) then (some (6, w_0_t, w_0_l)) else
  ((ixI r3 ((api_Topo.Links w_0_t).l).length).bind fun n5 =>
  (capI (w_0_l.l ++ [(⟨id_4, r1, r2, p_5, wr .i64 (now_1 + (api_Link.Least (gt ((api_Topo.Links w_0_t).l) n5))), wr .i64 (now_1 + (api_Link.Most (gt ((api_Topo.Links w_0_t).l) n5)))⟩ : wire_Way)])).bind fun l6 =>
  some (0, w_0_t, (Sl.mk l6))))
theorem wire_Wires_Put_le (w_0_t : api_Topo) (w_0_l : Sl wire_Way) (now_1 : Int) (sw_2 : Int) (port_3 : Int) (id_4 : Int) (p_5 : Arr 4 Int) : OLe (wire_Wires_Put_c w_0_t w_0_l now_1 sw_2 port_3 id_4 p_5) (wire_Wires_Put w_0_t w_0_l now_1 sw_2 port_3 id_4 p_5) := by
  unfold wire_Wires_Put_c wire_Wires_Put
  repeat' first
    | with_reducible apply topo_Peer_le
    | with_reducible refine OLe.loop (fun _ => ?_) _ _
    | with_reducible refine OLe.lend (fun _ => ?_) ?_
    | with_reducible refine OLe.cond ?_ ?_
    | with_reducible refine OLe.bind ?_ (fun _ => ?_)
    | (split <;> try dsimp only)
    | with_reducible exact OLe.refl _

def wire_Wires_Look_c (w_0 : wire_Wires) (k_1 : Int) : Option (wire_Way × Int) :=
  bif ((decide (k_1 < 0)) || (decide (k_1 ≥ (((wire_Wires.l w_0).l).length : Int)))) then (some ((⟨0, 0, 0, (zeE (.ar 4 (.i .i64))), 0, 0⟩ : wire_Way), 7)) else
  ((ixI k_1 ((wire_Wires.l w_0).l).length).bind fun n1 =>
  some (gt ((wire_Wires.l w_0).l) n1, 0))
theorem wire_Wires_Look_le (w_0 : wire_Wires) (k_1 : Int) : OLe (wire_Wires_Look_c w_0 k_1) (wire_Wires_Look w_0 k_1) := by
  unfold wire_Wires_Look_c wire_Wires_Look
  repeat' first
    | with_reducible refine OLe.loop (fun _ => ?_) _ _
    | with_reducible refine OLe.lend (fun _ => ?_) ?_
    | with_reducible refine OLe.cond ?_ ?_
    | with_reducible refine OLe.bind ?_ (fun _ => ?_)
    | (split <;> try dsimp only)
    | with_reducible exact OLe.refl _

def slices_Clone_wire_Way_wire_Way_c (s_0 : Sl wire_Way) : Option (Sl wire_Way) :=
  bif s_0.isNil then (some Sl.nil) else
  ((capI ([] ++ s_0.l)).bind fun l1 =>
  some (appS (Sl.mk []) s_0.l l1))
theorem slices_Clone_wire_Way_wire_Way_le (s_0 : Sl wire_Way) : OLe (slices_Clone_wire_Way_wire_Way_c s_0) (slices_Clone_wire_Way_wire_Way s_0) := by
  unfold slices_Clone_wire_Way_wire_Way_c slices_Clone_wire_Way_wire_Way
  repeat' first
    | with_reducible refine OLe.loop (fun _ => ?_) _ _
    | with_reducible refine OLe.lend (fun _ => ?_) ?_
    | with_reducible refine OLe.cond ?_ ?_
    | with_reducible refine OLe.bind ?_ (fun _ => ?_)
    | (split <;> try dsimp only)
    | with_reducible exact OLe.refl _

def wire_Wires_Take_c (w_0_t : api_Topo) (w_0_l : Sl wire_Way) (now_1 : Int) (k_2 : Int) : Option (wire_Way × Int × api_Topo × Sl wire_Way) :=
  (wire_Wires_Look_c (⟨w_0_t, w_0_l⟩ : wire_Wires) k_2).bind fun (r1, r2) =>
  bif (r2 != 0) then (some (r1, r2, w_0_t, w_0_l)) else
  (bif decide (now_1 < (wire_Way.Early r1)) then (some ((⟨0, 0, 0, (zeE (.ar 4 (.i .i64))), 0, 0⟩ : wire_Way), 15, w_0_t, w_0_l)) else
  ((slices_Clone_wire_Way_wire_Way_c w_0_l).bind fun s3 =>
  (delF s3 k_2 (wr .i64 (k_2 + 1))).bind fun s4 =>
  some (r1, 0, w_0_t, s4)))
theorem wire_Wires_Take_le (w_0_t : api_Topo) (w_0_l : Sl wire_Way) (now_1 : Int) (k_2 : Int) : OLe (wire_Wires_Take_c w_0_t w_0_l now_1 k_2) (wire_Wires_Take w_0_t w_0_l now_1 k_2) := by
  unfold wire_Wires_Take_c wire_Wires_Take
  repeat' first
    | with_reducible apply wire_Wires_Look_le
    | with_reducible apply slices_Clone_wire_Way_wire_Way_le
    | with_reducible refine OLe.loop (fun _ => ?_) _ _
    | with_reducible refine OLe.lend (fun _ => ?_) ?_
    | with_reducible refine OLe.cond ?_ ?_
    | with_reducible refine OLe.bind ?_ (fun _ => ?_)
    | (split <;> try dsimp only)
    | with_reducible exact OLe.refl _

def wire_Wires_Len_c (w_0 : wire_Wires) : Option Int :=
  some (((wire_Wires.l w_0).l).length : Int)
theorem wire_Wires_Len_le (w_0 : wire_Wires) : OLe (wire_Wires_Len_c w_0) (wire_Wires_Len w_0) := by
  unfold wire_Wires_Len_c wire_Wires_Len
  repeat' first
    | with_reducible refine OLe.loop (fun _ => ?_) _ _
    | with_reducible refine OLe.lend (fun _ => ?_) ?_
    | with_reducible refine OLe.cond ?_ ?_
    | with_reducible refine OLe.bind ?_ (fun _ => ?_)
    | (split <;> try dsimp only)
    | with_reducible exact OLe.refl _

def cmp_isNaN_int_c (x_0 : Int) : Option Bool :=
  some (x_0 != x_0)
theorem cmp_isNaN_int_le (x_0 : Int) : OLe (cmp_isNaN_int_c x_0) (cmp_isNaN_int x_0) := by
  unfold cmp_isNaN_int_c cmp_isNaN_int
  repeat' first
    | with_reducible refine OLe.loop (fun _ => ?_) _ _
    | with_reducible refine OLe.lend (fun _ => ?_) ?_
    | with_reducible refine OLe.cond ?_ ?_
    | with_reducible refine OLe.bind ?_ (fun _ => ?_)
    | (split <;> try dsimp only)
    | with_reducible exact OLe.refl _

def cmp_Compare_int_c (x_0 : Int) (y_1 : Int) : Option Int :=
  (cmp_isNaN_int_c x_0).bind fun r1 =>
  (cmp_isNaN_int_c y_1).bind fun r2 =>
  bif r1 then (bif r2 then (some 0) else
  (some (-1))) else
  (bif r2 then (some 1) else
  (bif decide (x_0 < y_1) then (some (-1)) else
  (bif decide (x_0 > y_1) then (some 1) else
  (some 0))))
theorem cmp_Compare_int_le (x_0 : Int) (y_1 : Int) : OLe (cmp_Compare_int_c x_0 y_1) (cmp_Compare_int x_0 y_1) := by
  unfold cmp_Compare_int_c cmp_Compare_int
  repeat' first
    | with_reducible apply cmp_isNaN_int_le
    | with_reducible refine OLe.loop (fun _ => ?_) _ _
    | with_reducible refine OLe.lend (fun _ => ?_) ?_
    | with_reducible refine OLe.cond ?_ ?_
    | with_reducible refine OLe.bind ?_ (fun _ => ?_)
    | (split <;> try dsimp only)
    | with_reducible exact OLe.refl _

def wire_byLate_c (a_0 : wire_Way) (b_1 : wire_Way) : Option Int :=
  (cmp_Compare_int_c (wire_Way.Late a_0) (wire_Way.Late b_1)).bind fun r1 =>
  some r1
theorem wire_byLate_le (a_0 : wire_Way) (b_1 : wire_Way) : OLe (wire_byLate_c a_0 b_1) (wire_byLate a_0 b_1) := by
  unfold wire_byLate_c wire_byLate
  repeat' first
    | with_reducible apply cmp_Compare_int_le
    | with_reducible refine OLe.loop (fun _ => ?_) _ _
    | with_reducible refine OLe.lend (fun _ => ?_) ?_
    | with_reducible refine OLe.cond ?_ ?_
    | with_reducible refine OLe.bind ?_ (fun _ => ?_)
    | (split <;> try dsimp only)
    | with_reducible exact OLe.refl _

def slices_MinFunc_wire_Way_wire_Way_wire_byLate_L1_c (x_0 : Sl wire_Way) : (Int × wire_Way) → Option ((Int × wire_Way) ⊕ wire_Way) := fun (i5, x6) =>
  bif decide (i5 < (x_0.l.length : Int)) then (((ixI i5 x_0.l.length).bind fun n7 =>
  (wire_byLate_c (gt x_0.l n7) x6).bind fun r8 =>
  bif decide (r8 < 0) then ((ixI i5 x_0.l.length).bind fun n9 =>
  some (gt x_0.l n9)) else
  (some x6) : Option wire_Way).bind fun x10 =>
  some (.inl (wr .i64 (i5 + 1), x10))) else
  (some (.inr x6))
theorem slices_MinFunc_wire_Way_wire_Way_wire_byLate_L1_le (x_0 : Sl wire_Way) : ∀ s, OLe (slices_MinFunc_wire_Way_wire_Way_wire_byLate_L1_c x_0 s) (slices_MinFunc_wire_Way_wire_Way_wire_byLate_L1 x_0 s) := by
  intro s
  unfold slices_MinFunc_wire_Way_wire_Way_wire_byLate_L1_c slices_MinFunc_wire_Way_wire_Way_wire_byLate_L1
  repeat' first
    | with_reducible apply wire_byLate_le
    | with_reducible refine OLe.loop (fun _ => ?_) _ _
    | with_reducible refine OLe.lend (fun _ => ?_) ?_
    | with_reducible refine OLe.cond ?_ ?_
    | with_reducible refine OLe.bind ?_ (fun _ => ?_)
    | (split <;> try dsimp only)
    | with_reducible exact OLe.refl _

def slices_MinFunc_wire_Way_wire_Way_wire_byLate_c (x_0 : Sl wire_Way) : Option wire_Way :=
  bif decide ((x_0.l.length : Int) < 1) then (none) else
  ((ixI 0 x_0.l.length).bind fun n1 =>
  (loopN 100000 (slices_MinFunc_wire_Way_wire_Way_wire_byLate_L1_c x_0) (1, gt x_0.l n1)).bind fun x11 =>
  some x11)
theorem slices_MinFunc_wire_Way_wire_Way_wire_byLate_le (x_0 : Sl wire_Way) : OLe (slices_MinFunc_wire_Way_wire_Way_wire_byLate_c x_0) (slices_MinFunc_wire_Way_wire_Way_wire_byLate x_0) := by
  unfold slices_MinFunc_wire_Way_wire_Way_wire_byLate_c slices_MinFunc_wire_Way_wire_Way_wire_byLate
  repeat' first
    | with_reducible apply slices_MinFunc_wire_Way_wire_Way_wire_byLate_L1_le
    | with_reducible refine OLe.loop (fun _ => ?_) _ _
    | with_reducible refine OLe.lend (fun _ => ?_) ?_
    | with_reducible refine OLe.cond ?_ ?_
    | with_reducible refine OLe.bind ?_ (fun _ => ?_)
    | (split <;> try dsimp only)
    | with_reducible exact OLe.refl _

def wire_Wires_Next_c (w_0 : wire_Wires) : Option Int :=
  (wire_Wires_Len_c w_0).bind fun r1 =>
  bif (r1 == 0) then (some (-1)) else
  ((slices_MinFunc_wire_Way_wire_Way_wire_byLate_c (wire_Wires.l w_0)).bind fun r2 =>
  some (wire_Way.Late r2))
theorem wire_Wires_Next_le (w_0 : wire_Wires) : OLe (wire_Wires_Next_c w_0) (wire_Wires_Next w_0) := by
  unfold wire_Wires_Next_c wire_Wires_Next
  repeat' first
    | with_reducible apply wire_Wires_Len_le
    | with_reducible apply slices_MinFunc_wire_Way_wire_Way_wire_byLate_le
    | with_reducible refine OLe.loop (fun _ => ?_) _ _
    | with_reducible refine OLe.lend (fun _ => ?_) ?_
    | with_reducible refine OLe.cond ?_ ?_
    | with_reducible refine OLe.bind ?_ (fun _ => ?_)
    | (split <;> try dsimp only)
    | with_reducible exact OLe.refl _

def law35_awake_c : Option Bool :=
  (wire_New_c (⟨2, (Sl.mk [(⟨0, 0, 1, 3, 2, 5⟩ : api_Link)]), Sl.nil⟩ : api_Topo)).bind fun
  | .inl r1 => ((wire_Wires_Put_nil_c 10 0 0 7 (Arr.set (zeE (.ar 4 (.i .i64))) 0 1)).bind fun r2 =>
  (wire_Wires_Take_nil_c 11 0).bind fun (r3, r4) =>
  (wire_Wires_Next_nil_c).bind fun r5 =>
  (wire_Wires_Take_nil_c 12 0).bind fun (r6, r7) =>
  (bif ((((((((r1 == 0) && (r2 == 0)) && (r4 == 15)) && (r5 == 15)) && (r7 == 0)) && ((wire_Way.Id r6) == 7)) && ((wire_Way.Sw r6) == 1)) && ((wire_Way.Port r6) == 3)) then ((wire_Wires_Len_nil_c).bind fun r8 =>
  bif (r8 == 0) then ((wire_Wires_Next_nil_c).bind fun r9 =>
  some (r9 == (-1))) else
  (some false)) else
  (some false) : Option Bool).bind fun b10 =>
  some b10)
  | .inr (r11, s12, r13) => ((wire_Wires_Put_c r11 s12 10 0 0 7 (Arr.set (zeE (.ar 4 (.i .i64))) 0 1)).bind fun (r14, q15, s16) =>
  (wire_Wires_Take_c q15 s16 11 0).bind fun (r17, r18, q19, s20) =>
  (wire_Wires_Next_c (⟨q19, s20⟩ : wire_Wires)).bind fun r21 =>
  (wire_Wires_Take_c q19 s20 12 0).bind fun (r22, r23, q24, s25) =>
  (bif ((((((((r13 == 0) && (r14 == 0)) && (r18 == 15)) && (r21 == 15)) && (r23 == 0)) && ((wire_Way.Id r22) == 7)) && ((wire_Way.Sw r22) == 1)) && ((wire_Way.Port r22) == 3)) then ((wire_Wires_Len_c (⟨q24, s25⟩ : wire_Wires)).bind fun r26 =>
  bif (r26 == 0) then ((wire_Wires_Next_c (⟨q24, s25⟩ : wire_Wires)).bind fun r27 =>
  some (r27 == (-1))) else
  (some false)) else
  (some false) : Option Bool).bind fun b28 =>
  some b28)
theorem law35_awake_le : OLe (law35_awake_c) (law35_awake) := by
  unfold law35_awake_c law35_awake
  repeat' first
    | with_reducible apply wire_New_le
    | with_reducible apply wire_Wires_Put_nil_le
    | with_reducible apply wire_Wires_Take_nil_le
    | with_reducible apply wire_Wires_Next_nil_le
    | with_reducible apply wire_Wires_Len_nil_le
    | with_reducible apply wire_Wires_Put_le
    | with_reducible apply wire_Wires_Take_le
    | with_reducible apply wire_Wires_Next_le
    | with_reducible apply wire_Wires_Len_le
    | with_reducible refine OLe.loop (fun _ => ?_) _ _
    | with_reducible refine OLe.lend (fun _ => ?_) ?_
    | with_reducible refine OLe.cond ?_ ?_
    | with_reducible refine OLe.bind ?_ (fun _ => ?_)
    | (split <;> try dsimp only)
    | with_reducible exact OLe.refl _

theorem law35_awake_runs : law35_awake = some true := law35_awake_le _ (by decide +kernel)
end Go.Proofs.Ytgfldincijcacaa.W
