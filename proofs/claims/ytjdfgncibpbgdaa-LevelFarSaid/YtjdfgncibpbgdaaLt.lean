/- law23_awake answers true: by running its twin. Conditions: none. -/
import Derived.Test.YtjdfgncibpbgdaaL
import Derived.Test.YtjdfgncibpbgdaaTwin
import Derived.Test.YtjdfgncibpbgdaaLP
open Go.Ev Go
namespace Go.Proofs.Ytjdfgncibpbgdaa.L
def topo_places_L1_c (t_0 : api_Topo) : (Int × Sl topo_place) → Option ((Int × Sl topo_place) ⊕ (Sl topo_place)) := fun (i4, s5) =>
 bif decide (i4 < (((api_Topo.Links t_0).l).length : Int)) then ((ixI i4 ((api_Topo.Links t_0).l).length).bind fun n6 =>
 (capI (s5.l ++ [(⟨api_Link.A (gt ((api_Topo.Links t_0).l) n6), api_Link.PortA (gt ((api_Topo.Links t_0).l) n6)⟩ : topo_place), (⟨api_Link.B (gt ((api_Topo.Links t_0).l) n6), api_Link.PortB (gt ((api_Topo.Links t_0).l) n6)⟩ : topo_place)])).bind fun l7 =>
 some (.inl (wr .i64 (i4 + 1), (Sl.mk l7)))) else
 (some (.inr s5))
theorem topo_places_L1_le (t_0 : api_Topo) : ∀ s, OLe (topo_places_L1_c t_0 s) (topo_places_L1 t_0 s) := by
 intro s
 unfold topo_places_L1_c topo_places_L1
 repeat' first
  | with_reducible refine OLe.loop (fun _ => ?_) _ _
  | with_reducible refine OLe.lend (fun _ => ?_) ?_
  | with_reducible refine OLe.cond ?_ ?_
  | with_reducible refine OLe.bind ?_ (fun _ => ?_)
  | (split <;> try dsimp only)
  | with_reducible exact OLe.refl _
def topo_places_L2_c (t_0 : api_Topo) : (Int × Sl topo_place) → Option ((Int × Sl topo_place) ⊕ (Sl topo_place)) := fun (i11, s12) =>
 bif decide (i11 < (((api_Topo.Hosts t_0).l).length : Int)) then ((ixI i11 ((api_Topo.Hosts t_0).l).length).bind fun n13 =>
 (capI (s12.l ++ [gt ((api_Topo.Hosts t_0).l) n13])).bind fun l14 =>
 some (.inl (wr .i64 (i11 + 1), (Sl.mk l14)))) else
 (some (.inr s12))
theorem topo_places_L2_le (t_0 : api_Topo) : ∀ s, OLe (topo_places_L2_c t_0 s) (topo_places_L2 t_0 s) := by
 intro s
 unfold topo_places_L2_c topo_places_L2
 repeat' first
  | with_reducible refine OLe.loop (fun _ => ?_) _ _
  | with_reducible refine OLe.lend (fun _ => ?_) ?_
  | with_reducible refine OLe.cond ?_ ?_
  | with_reducible refine OLe.bind ?_ (fun _ => ?_)
  | (split <;> try dsimp only)
  | with_reducible exact OLe.refl _
def topo_places_c (t_0 : api_Topo) : Option (Sl topo_place) :=
 (loopN 100000 (topo_places_L1_c t_0) (0, Sl.nil)).bind fun s8 =>
 (loopN 100000 (topo_places_L2_c t_0) (0, s8)).bind fun s15 =>
 some s15
theorem topo_places_le (t_0 : api_Topo) : OLe (topo_places_c t_0) (topo_places t_0) := by
 unfold topo_places_c topo_places
 repeat' first
  | with_reducible apply topo_places_L1_le
  | with_reducible apply topo_places_L2_le
  | with_reducible refine OLe.loop (fun _ => ?_) _ _
  | with_reducible refine OLe.lend (fun _ => ?_) ?_
  | with_reducible refine OLe.cond ?_ ?_
  | with_reducible refine OLe.bind ?_ (fun _ => ?_)
  | (split <;> try dsimp only)
  | with_reducible exact OLe.refl _
def topo_Right_L1_c (t_0 : api_Topo) : Int → Option (Int ⊕ (Bool ⊕ Unit)) := fun i2 =>
 bif decide (i2 < (((api_Topo.Links t_0).l).length : Int)) then ((ixI i2 ((api_Topo.Links t_0).l).length).bind fun n3 =>
 bif (((((api_Link.A (gt ((api_Topo.Links t_0).l) n3)) == (api_Link.B (gt ((api_Topo.Links t_0).l) n3))) || (decide ((api_Link.Least (gt ((api_Topo.Links t_0).l) n3)) < 1))) || (decide ((api_Link.Least (gt ((api_Topo.Links t_0).l) n3)) > (api_Link.Most (gt ((api_Topo.Links t_0).l) n3))))) || (decide ((api_Link.Most (gt ((api_Topo.Links t_0).l) n3)) > 1000))) then (some (.inr (.inl false))) else
 (some (.inl (wr .i64 (i2 + 1))))) else
 (some (.inr (.inr ())))
theorem topo_Right_L1_le (t_0 : api_Topo) : ∀ s, OLe (topo_Right_L1_c t_0 s) (topo_Right_L1 t_0 s) := by
 intro s
 unfold topo_Right_L1_c topo_Right_L1
 repeat' first
  | with_reducible refine OLe.loop (fun _ => ?_) _ _
  | with_reducible refine OLe.lend (fun _ => ?_) ?_
  | with_reducible refine OLe.cond ?_ ?_
  | with_reducible refine OLe.bind ?_ (fun _ => ?_)
  | (split <;> try dsimp only)
  | with_reducible exact OLe.refl _
def topo_Right_L2_c (t_0 : api_Topo) (r5 : Sl topo_place) : (Int × Mp topo_place Int) → Option ((Int × Mp topo_place Int) ⊕ (Bool ⊕ Unit)) := fun (i9, m10) =>
 bif decide (i9 < (r5.l.length : Int)) then ((ixI i9 r5.l.length).bind fun n11 =>
 (mpSet ((mpEnt m10 0 (gt r5.l n11)).1) ((mpEnt m10 0 (gt r5.l n11)).2.2) (wr .i64 ((mpGet m10 0 (gt r5.l n11)) + 1))).bind fun m12 =>
 bif (((((decide ((topo_place.sw (gt r5.l n11)) < 0)) || (decide ((topo_place.sw (gt r5.l n11)) ≥ (api_Topo.Switches t_0)))) || (decide ((topo_place.port (gt r5.l n11)) < 0))) || (decide ((topo_place.port (gt r5.l n11)) ≥ 8))) || (decide ((mpGet m12 0 (gt r5.l n11)) > 1))) then (some (.inr (.inl false))) else
 (some (.inl (wr .i64 (i9 + 1), m12)))) else
 (some (.inr (.inr ())))
theorem topo_Right_L2_le (t_0 : api_Topo) (r5 : Sl topo_place) : ∀ s, OLe (topo_Right_L2_c t_0 r5 s) (topo_Right_L2 t_0 r5 s) := by
 intro s
 unfold topo_Right_L2_c topo_Right_L2
 repeat' first
  | with_reducible refine OLe.loop (fun _ => ?_) _ _
  | with_reducible refine OLe.lend (fun _ => ?_) ?_
  | with_reducible refine OLe.cond ?_ ?_
  | with_reducible refine OLe.bind ?_ (fun _ => ?_)
  | (split <;> try dsimp only)
  | with_reducible exact OLe.refl _
def topo_Right_c (t_0 : api_Topo) : Option Bool :=
 bif ((((decide ((api_Topo.Switches t_0) < 1)) || (decide ((api_Topo.Switches t_0) > 8))) || (decide ((((api_Topo.Links t_0).l).length : Int) > 24))) || (decide ((((api_Topo.Hosts t_0).l).length : Int) > 8))) then (some false) else
 ((loopN 100000 (topo_Right_L1_c t_0) 0).bind fun
 | .inl b4 => (some b4)
 | .inr _ => ((topo_places_c t_0).bind fun r5 =>
 (loopN 100000 (topo_Right_L2_c t_0 r5) (0, (Mp.none : Mp topo_place Int))).bind fun
 | .inl b13 => (some b13)
 | .inr _ => (some true)))
theorem topo_Right_le (t_0 : api_Topo) : OLe (topo_Right_c t_0) (topo_Right t_0) := by
 unfold topo_Right_c topo_Right
 repeat' first
  | with_reducible apply topo_Right_L1_le
  | with_reducible apply topo_places_le
  | with_reducible apply topo_Right_L2_le
  | with_reducible refine OLe.loop (fun _ => ?_) _ _
  | with_reducible refine OLe.lend (fun _ => ?_) ?_
  | with_reducible refine OLe.cond ?_ ?_
  | with_reducible refine OLe.bind ?_ (fun _ => ?_)
  | (split <;> try dsimp only)
  | with_reducible exact OLe.refl _
def route_Right_1_c (p_0 : Int) : Option Bool :=
 some ((decide (p_0 < 0)) || (decide (p_0 ≥ 8)))
theorem route_Right_1_le (p_0 : Int) : OLe (route_Right_1_c p_0) (route_Right_1 p_0) := by
 unfold route_Right_1_c route_Right_1
 repeat' first
  | with_reducible refine OLe.loop (fun _ => ?_) _ _
  | with_reducible refine OLe.lend (fun _ => ?_) ?_
  | with_reducible refine OLe.cond ?_ ?_
  | with_reducible refine OLe.bind ?_ (fun _ => ?_)
  | (split <;> try dsimp only)
  | with_reducible exact OLe.refl _
def slices_IndexFunc_int_int_route_Right_1_L1_c (s_0 : Sl Int) : Int → Option (Int ⊕ (Int ⊕ Unit)) := fun i2 =>
 bif decide (i2 < (s_0.l.length : Int)) then ((ixI i2 s_0.l.length).bind fun n3 =>
 (route_Right_1_c (gt s_0.l n3)).bind fun r4 =>
 bif r4 then (some (.inr (.inl i2))) else
 (some (.inl (wr .i64 (i2 + 1))))) else
 (some (.inr (.inr ())))
theorem slices_IndexFunc_int_int_route_Right_1_L1_le (s_0 : Sl Int) : ∀ s, OLe (slices_IndexFunc_int_int_route_Right_1_L1_c s_0 s) (slices_IndexFunc_int_int_route_Right_1_L1 s_0 s) := by
 intro s
 unfold slices_IndexFunc_int_int_route_Right_1_L1_c slices_IndexFunc_int_int_route_Right_1_L1
 repeat' first
  | with_reducible apply route_Right_1_le
  | with_reducible refine OLe.loop (fun _ => ?_) _ _
  | with_reducible refine OLe.lend (fun _ => ?_) ?_
  | with_reducible refine OLe.cond ?_ ?_
  | with_reducible refine OLe.bind ?_ (fun _ => ?_)
  | (split <;> try dsimp only)
  | with_reducible exact OLe.refl _
def slices_IndexFunc_int_int_route_Right_1_c (s_0 : Sl Int) : Option Int :=
 (loopN 100000 (slices_IndexFunc_int_int_route_Right_1_L1_c s_0) 0).bind fun
 | .inl i5 => (some i5)
 | .inr _ => (some (-1))
theorem slices_IndexFunc_int_int_route_Right_1_le (s_0 : Sl Int) : OLe (slices_IndexFunc_int_int_route_Right_1_c s_0) (slices_IndexFunc_int_int_route_Right_1 s_0) := by
 unfold slices_IndexFunc_int_int_route_Right_1_c slices_IndexFunc_int_int_route_Right_1
 repeat' first
  | with_reducible apply slices_IndexFunc_int_int_route_Right_1_L1_le
  | with_reducible refine OLe.loop (fun _ => ?_) _ _
  | with_reducible refine OLe.lend (fun _ => ?_) ?_
  | with_reducible refine OLe.cond ?_ ?_
  | with_reducible refine OLe.bind ?_ (fun _ => ?_)
  | (split <;> try dsimp only)
  | with_reducible exact OLe.refl _
def slices_ContainsFunc_int_int_route_Right_1_c (s_0 : Sl Int) : Option Bool :=
 (slices_IndexFunc_int_int_route_Right_1_c s_0).bind fun r1 =>
 some (decide (r1 ≥ 0))
theorem slices_ContainsFunc_int_int_route_Right_1_le (s_0 : Sl Int) : OLe (slices_ContainsFunc_int_int_route_Right_1_c s_0) (slices_ContainsFunc_int_int_route_Right_1 s_0) := by
 unfold slices_ContainsFunc_int_int_route_Right_1_c slices_ContainsFunc_int_int_route_Right_1
 repeat' first
  | with_reducible apply slices_IndexFunc_int_int_route_Right_1_le
  | with_reducible refine OLe.loop (fun _ => ?_) _ _
  | with_reducible refine OLe.lend (fun _ => ?_) ?_
  | with_reducible refine OLe.cond ?_ ?_
  | with_reducible refine OLe.bind ?_ (fun _ => ?_)
  | (split <;> try dsimp only)
  | with_reducible exact OLe.refl _
def route_Right_L1_c (t_0 : api_Topo) (r_1 : Sl (Sl Int)) : Int → Option (Int ⊕ (Bool ⊕ Unit)) := fun i3 =>
 bif decide (i3 < (r_1.l.length : Int)) then ((ixI i3 r_1.l.length).bind fun n4 =>
 (bif ((((gt r_1.l n4).l).length : Int) != (((api_Topo.Hosts t_0).l).length : Int)) then (some true) else
 ((slices_ContainsFunc_int_int_route_Right_1_c (gt r_1.l n4)).bind fun r5 =>
 some r5) : Option Bool).bind fun b6 =>
 bif b6 then (some (.inr (.inl false))) else
 (some (.inl (wr .i64 (i3 + 1))))) else
 (some (.inr (.inr ())))
theorem route_Right_L1_le (t_0 : api_Topo) (r_1 : Sl (Sl Int)) : ∀ s, OLe (route_Right_L1_c t_0 r_1 s) (route_Right_L1 t_0 r_1 s) := by
 intro s
 unfold route_Right_L1_c route_Right_L1
 repeat' first
  | with_reducible apply slices_ContainsFunc_int_int_route_Right_1_le
  | with_reducible refine OLe.loop (fun _ => ?_) _ _
  | with_reducible refine OLe.lend (fun _ => ?_) ?_
  | with_reducible refine OLe.cond ?_ ?_
  | with_reducible refine OLe.bind ?_ (fun _ => ?_)
  | (split <;> try dsimp only)
  | with_reducible exact OLe.refl _
def route_Right_c (t_0 : api_Topo) (r_1 : Sl (Sl Int)) : Option Bool :=
 (topo_Right_c t_0).bind fun r1 =>
 bif ((!r1) || ((r_1.l.length : Int) != (api_Topo.Switches t_0))) then (some false) else
 ((loopN 100000 (route_Right_L1_c t_0 r_1) 0).bind fun
 | .inl b7 => (some b7)
 | .inr _ => (some true))
theorem route_Right_le (t_0 : api_Topo) (r_1 : Sl (Sl Int)) : OLe (route_Right_c t_0 r_1) (route_Right t_0 r_1) := by
 unfold route_Right_c route_Right
 repeat' first
  | with_reducible apply topo_Right_le
  | with_reducible apply route_Right_L1_le
  | with_reducible refine OLe.loop (fun _ => ?_) _ _
  | with_reducible refine OLe.lend (fun _ => ?_) ?_
  | with_reducible refine OLe.cond ?_ ?_
  | with_reducible refine OLe.bind ?_ (fun _ => ?_)
  | (split <;> try dsimp only)
  | with_reducible exact OLe.refl _
def route_port_c (r_0 : Sl (Sl Int)) (sw_1 : Int) (h_2 : Int) : Option (Int × Bool) :=
 (bif (((decide (sw_1 < 0)) || (decide (sw_1 ≥ (r_0.l.length : Int)))) || (decide (h_2 < 0))) then (some true) else
 ((ixI sw_1 r_0.l.length).bind fun n1 =>
 some (decide (h_2 ≥ (((gt r_0.l n1).l).length : Int)))) : Option Bool).bind fun b2 =>
 bif b2 then (some (0, false)) else
 ((ixI sw_1 r_0.l.length).bind fun n3 =>
 (ixI h_2 ((gt r_0.l n3).l).length).bind fun n4 =>
 some (gt ((gt r_0.l n3).l) n4, true))
theorem route_port_le (r_0 : Sl (Sl Int)) (sw_1 : Int) (h_2 : Int) : OLe (route_port_c r_0 sw_1 h_2) (route_port r_0 sw_1 h_2) := by
 unfold route_port_c route_port
 repeat' first
  | with_reducible refine OLe.loop (fun _ => ?_) _ _
  | with_reducible refine OLe.lend (fun _ => ?_) ?_
  | with_reducible refine OLe.cond ?_ ?_
  | with_reducible refine OLe.bind ?_ (fun _ => ?_)
  | (split <;> try dsimp only)
  | with_reducible exact OLe.refl _
def slices_Index_int_int_L1_c (s_0 : Sl Int) (v_1 : Int) : Int → Option (Int ⊕ (Int ⊕ Unit)) := fun i2 =>
 bif decide (i2 < (s_0.l.length : Int)) then ((ixI i2 s_0.l.length).bind fun n3 =>
 bif (v_1 == (gt s_0.l n3)) then (some (.inr (.inl i2))) else
 (some (.inl (wr .i64 (i2 + 1))))) else
 (some (.inr (.inr ())))
theorem slices_Index_int_int_L1_le (s_0 : Sl Int) (v_1 : Int) : ∀ s, OLe (slices_Index_int_int_L1_c s_0 v_1 s) (slices_Index_int_int_L1 s_0 v_1 s) := by
 intro s
 unfold slices_Index_int_int_L1_c slices_Index_int_int_L1
 repeat' first
  | with_reducible refine OLe.loop (fun _ => ?_) _ _
  | with_reducible refine OLe.lend (fun _ => ?_) ?_
  | with_reducible refine OLe.cond ?_ ?_
  | with_reducible refine OLe.bind ?_ (fun _ => ?_)
  | (split <;> try dsimp only)
  | with_reducible exact OLe.refl _
def slices_Index_int_int_c (s_0 : Sl Int) (v_1 : Int) : Option Int :=
 (loopN 100000 (slices_Index_int_int_L1_c s_0 v_1) 0).bind fun
 | .inl i4 => (some i4)
 | .inr _ => (some (-1))
theorem slices_Index_int_int_le (s_0 : Sl Int) (v_1 : Int) : OLe (slices_Index_int_int_c s_0 v_1) (slices_Index_int_int s_0 v_1) := by
 unfold slices_Index_int_int_c slices_Index_int_int
 repeat' first
  | with_reducible apply slices_Index_int_int_L1_le
  | with_reducible refine OLe.loop (fun _ => ?_) _ _
  | with_reducible refine OLe.lend (fun _ => ?_) ?_
  | with_reducible refine OLe.cond ?_ ?_
  | with_reducible refine OLe.bind ?_ (fun _ => ?_)
  | (split <;> try dsimp only)
  | with_reducible exact OLe.refl _
def slices_Contains_int_int_c (s_0 : Sl Int) (v_1 : Int) : Option Bool :=
 (slices_Index_int_int_c s_0 v_1).bind fun r1 =>
 some (decide (r1 ≥ 0))
theorem slices_Contains_int_int_le (s_0 : Sl Int) (v_1 : Int) : OLe (slices_Contains_int_int_c s_0 v_1) (slices_Contains_int_int s_0 v_1) := by
 unfold slices_Contains_int_int_c slices_Contains_int_int
 repeat' first
  | with_reducible apply slices_Index_int_int_le
  | with_reducible refine OLe.loop (fun _ => ?_) _ _
  | with_reducible refine OLe.lend (fun _ => ?_) ?_
  | with_reducible refine OLe.cond ?_ ?_
  | with_reducible refine OLe.bind ?_ (fun _ => ?_)
  | (split <;> try dsimp only)
  | with_reducible exact OLe.refl _
def route_twice_int_c (l_0 : Sl Int) : Option Bool :=
 (bif decide ((l_0.l.length : Int) > 0) then ((cutI l_0.l 0 (wr .i64 ((l_0.l.length : Int) - 1))).bind fun l1 =>
 (ixI (wr .i64 ((l_0.l.length : Int) - 1)) l_0.l.length).bind fun n2 =>
 (slices_Contains_int_int_c (l_0.to l1) (gt l_0.l n2)).bind fun r3 =>
 some r3) else
 (some false) : Option Bool).bind fun b4 =>
 some b4
theorem route_twice_int_le (l_0 : Sl Int) : OLe (route_twice_int_c l_0) (route_twice_int l_0) := by
 unfold route_twice_int_c route_twice_int
 repeat' first
  | with_reducible apply slices_Contains_int_int_le
  | with_reducible refine OLe.loop (fun _ => ?_) _ _
  | with_reducible refine OLe.lend (fun _ => ?_) ?_
  | with_reducible refine OLe.cond ?_ ?_
  | with_reducible refine OLe.bind ?_ (fun _ => ?_)
  | (split <;> try dsimp only)
  | with_reducible exact OLe.refl _
def topo_Peer_L1_c (t_0 : api_Topo) (sw_1 : Int) (port_2 : Int) : Int → Option (Int ⊕ ((Int × Int × Int × Bool) ⊕ Unit)) := fun i2 =>
 bif decide (i2 < (((api_Topo.Links t_0).l).length : Int)) then ((ixI i2 ((api_Topo.Links t_0).l).length).bind fun n3 =>
 bif decide ((⟨sw_1, port_2⟩ : topo_place) = (⟨api_Link.A (gt ((api_Topo.Links t_0).l) n3), api_Link.PortA (gt ((api_Topo.Links t_0).l) n3)⟩ : topo_place)) then (some (.inr (.inl (api_Link.B (gt ((api_Topo.Links t_0).l) n3), api_Link.PortB (gt ((api_Topo.Links t_0).l) n3), i2, true)))) else
 (bif decide ((⟨sw_1, port_2⟩ : topo_place) = (⟨api_Link.B (gt ((api_Topo.Links t_0).l) n3), api_Link.PortB (gt ((api_Topo.Links t_0).l) n3)⟩ : topo_place)) then (some (.inr (.inl (api_Link.A (gt ((api_Topo.Links t_0).l) n3), api_Link.PortA (gt ((api_Topo.Links t_0).l) n3), i2, true)))) else
 (some (.inl (wr .i64 (i2 + 1)))))) else
 (some (.inr (.inr ())))
theorem topo_Peer_L1_le (t_0 : api_Topo) (sw_1 : Int) (port_2 : Int) : ∀ s, OLe (topo_Peer_L1_c t_0 sw_1 port_2 s) (topo_Peer_L1 t_0 sw_1 port_2 s) := by
 intro s
 unfold topo_Peer_L1_c topo_Peer_L1
 repeat' first
  | with_reducible refine OLe.loop (fun _ => ?_) _ _
  | with_reducible refine OLe.lend (fun _ => ?_) ?_
  | with_reducible refine OLe.cond ?_ ?_
  | with_reducible refine OLe.bind ?_ (fun _ => ?_)
  | (split <;> try dsimp only)
  | with_reducible exact OLe.refl _
def topo_Peer_c (t_0 : api_Topo) (sw_1 : Int) (port_2 : Int) : Option (Int × Int × Int × Bool) :=
 (loopN 100000 (topo_Peer_L1_c t_0 sw_1 port_2) 0).bind fun
 | .inl (i4, i5, i6, b7) => (some (i4, i5, i6, b7))
 | .inr _ => (some (0, 0, 0, false))
theorem topo_Peer_le (t_0 : api_Topo) (sw_1 : Int) (port_2 : Int) : OLe (topo_Peer_c t_0 sw_1 port_2) (topo_Peer t_0 sw_1 port_2) := by
 unfold topo_Peer_c topo_Peer
 repeat' first
  | with_reducible apply topo_Peer_L1_le
  | with_reducible refine OLe.loop (fun _ => ?_) _ _
  | with_reducible refine OLe.lend (fun _ => ?_) ?_
  | with_reducible refine OLe.cond ?_ ?_
  | with_reducible refine OLe.bind ?_ (fun _ => ?_)
  | (split <;> try dsimp only)
  | with_reducible exact OLe.refl _
def route_Next_c (t_0 : api_Topo) (r_1 : Sl (Sl Int)) (sw_2 : Int) (h_3 : Int) : Option (Int × Bool) :=
 (route_port_c r_1 sw_2 h_3).bind fun (r1, r2) =>
 bif (!r2) then (some (0, false)) else
 ((topo_Peer_c t_0 sw_2 r1).bind fun (r3, r4, r5, r6) =>
 some (r3, r6))
theorem route_Next_le (t_0 : api_Topo) (r_1 : Sl (Sl Int)) (sw_2 : Int) (h_3 : Int) : OLe (route_Next_c t_0 r_1 sw_2 h_3) (route_Next t_0 r_1 sw_2 h_3) := by
 unfold route_Next_c route_Next
 repeat' first
  | with_reducible apply route_port_le
  | with_reducible apply topo_Peer_le
  | with_reducible refine OLe.loop (fun _ => ?_) _ _
  | with_reducible refine OLe.lend (fun _ => ?_) ?_
  | with_reducible refine OLe.cond ?_ ?_
  | with_reducible refine OLe.bind ?_ (fun _ => ?_)
  | (split <;> try dsimp only)
  | with_reducible exact OLe.refl _
def route_Walk_L1_c (t_0 : api_Topo) (r_1 : Sl (Sl Int)) (h_3 : Int) : (Sl Int) → Option (Sl Int ⊕ ((Int × Sl Int) ⊕ Unit)) := fun s6 =>
 (route_twice_int_c s6).bind fun r7 =>
 bif (!r7) then ((ixI (wr .i64 ((s6.l.length : Int) - 1)) s6.l.length).bind fun n8 =>
 (ixI h_3 ((api_Topo.Hosts t_0).l).length).bind fun n9 =>
 (ixI (gt s6.l n8) r_1.l.length).bind fun n10 =>
 (ixI h_3 ((gt r_1.l n10).l).length).bind fun n11 =>
 bif decide ((gt ((api_Topo.Hosts t_0).l) n9) = (⟨gt s6.l n8, gt ((gt r_1.l n10).l) n11⟩ : api_Host)) then (some (.inr (.inl (0, s6)))) else
 ((route_Next_c t_0 r_1 (gt s6.l n8) h_3).bind fun (r12, r13) =>
 bif (!r13) then (some (.inr (.inl (13, Sl.nil)))) else
 ((capI (s6.l ++ [r12])).bind fun l14 =>
 some (.inl (Sl.mk l14))))) else
 (some (.inr (.inr ())))
theorem route_Walk_L1_le (t_0 : api_Topo) (r_1 : Sl (Sl Int)) (h_3 : Int) : ∀ s, OLe (route_Walk_L1_c t_0 r_1 h_3 s) (route_Walk_L1 t_0 r_1 h_3 s) := by
 intro s
 unfold route_Walk_L1_c route_Walk_L1
 repeat' first
  | with_reducible apply route_twice_int_le
  | with_reducible apply route_Next_le
  | with_reducible refine OLe.loop (fun _ => ?_) _ _
  | with_reducible refine OLe.lend (fun _ => ?_) ?_
  | with_reducible refine OLe.cond ?_ ?_
  | with_reducible refine OLe.bind ?_ (fun _ => ?_)
  | (split <;> try dsimp only)
  | with_reducible exact OLe.refl _
def route_Walk_c (t_0 : api_Topo) (r_1 : Sl (Sl Int)) (sw_2 : Int) (h_3 : Int) : Option (Sl Int × Int) :=
 (route_port_c r_1 sw_2 h_3).bind fun (r1, r2) =>
 (bif (!r2) then (some true) else
 ((route_Right_c t_0 r_1).bind fun r3 =>
 some (!r3)) : Option Bool).bind fun b4 =>
 bif b4 then (some (Sl.nil, 2)) else
 ((loopN 100000 (route_Walk_L1_c t_0 r_1 h_3) (Sl.mk [sw_2])).bind fun
 | .inl (i15, s16) => (some (s16, i15))
 | .inr _ => (some (Sl.nil, 12)))
theorem route_Walk_le (t_0 : api_Topo) (r_1 : Sl (Sl Int)) (sw_2 : Int) (h_3 : Int) : OLe (route_Walk_c t_0 r_1 sw_2 h_3) (route_Walk t_0 r_1 sw_2 h_3) := by
 unfold route_Walk_c route_Walk
 repeat' first
  | with_reducible apply route_port_le
  | with_reducible apply route_Right_le
  | with_reducible apply route_Walk_L1_le
  | with_reducible refine OLe.loop (fun _ => ?_) _ _
  | with_reducible refine OLe.lend (fun _ => ?_) ?_
  | with_reducible refine OLe.cond ?_ ?_
  | with_reducible refine OLe.bind ?_ (fun _ => ?_)
  | (split <;> try dsimp only)
  | with_reducible exact OLe.refl _
def route_Far_L1_c (t_0 : api_Topo) (r_1 : Sl (Sl Int)) (h_2 : Int) : (Int × Sl Int) → Option ((Int × Sl Int) ⊕ (Sl Int)) := fun (i5, s6) =>
 bif decide (i5 < (r_1.l.length : Int)) then ((route_Walk_c t_0 r_1 i5 h_2).bind fun (r7, r8) =>
 (capI (s6.l ++ [wr .i64 ((r7.l.length : Int) - 1)])).bind fun l9 =>
 some (.inl (wr .i64 (i5 + 1), (Sl.mk l9)))) else
 (some (.inr s6))
theorem route_Far_L1_le (t_0 : api_Topo) (r_1 : Sl (Sl Int)) (h_2 : Int) : ∀ s, OLe (route_Far_L1_c t_0 r_1 h_2 s) (route_Far_L1 t_0 r_1 h_2 s) := by
 intro s
 unfold route_Far_L1_c route_Far_L1
 repeat' first
  | with_reducible apply route_Walk_le
  | with_reducible refine OLe.loop (fun _ => ?_) _ _
  | with_reducible refine OLe.lend (fun _ => ?_) ?_
  | with_reducible refine OLe.cond ?_ ?_
  | with_reducible refine OLe.bind ?_ (fun _ => ?_)
  | (split <;> try dsimp only)
  | with_reducible exact OLe.refl _
def route_Far_c (t_0 : api_Topo) (r_1 : Sl (Sl Int)) (h_2 : Int) : Option (Sl Int) :=
 (route_Right_c t_0 r_1).bind fun r1 =>
 bif (((!r1) || (decide (h_2 < 0))) || (decide (h_2 ≥ (((api_Topo.Hosts t_0).l).length : Int)))) then (some Sl.nil) else
 ((loopN 100000 (route_Far_L1_c t_0 r_1 h_2) (0, Sl.nil)).bind fun s10 =>
 some s10)
theorem route_Far_le (t_0 : api_Topo) (r_1 : Sl (Sl Int)) (h_2 : Int) : OLe (route_Far_c t_0 r_1 h_2) (route_Far t_0 r_1 h_2) := by
 unfold route_Far_c route_Far
 repeat' first
  | with_reducible apply route_Right_le
  | with_reducible apply route_Far_L1_le
  | with_reducible refine OLe.loop (fun _ => ?_) _ _
  | with_reducible refine OLe.lend (fun _ => ?_) ?_
  | with_reducible refine OLe.cond ?_ ?_
  | with_reducible refine OLe.bind ?_ (fun _ => ?_)
  | (split <;> try dsimp only)
  | with_reducible exact OLe.refl _
def route_Good_L1_c (t_0 : api_Topo) (r_1 : Sl (Sl Int)) : Int → Option (Int ⊕ (Bool ⊕ Unit)) := fun i3 =>
 bif decide (i3 < (((api_Topo.Hosts t_0).l).length : Int)) then ((route_Far_c t_0 r_1 i3).bind fun r4 =>
 (slices_Contains_int_int_c r4 (-1)).bind fun r5 =>
 bif r5 then (some (.inr (.inl false))) else
 (some (.inl (wr .i64 (i3 + 1))))) else
 (some (.inr (.inr ())))
theorem route_Good_L1_le (t_0 : api_Topo) (r_1 : Sl (Sl Int)) : ∀ s, OLe (route_Good_L1_c t_0 r_1 s) (route_Good_L1 t_0 r_1 s) := by
 intro s
 unfold route_Good_L1_c route_Good_L1
 repeat' first
  | with_reducible apply route_Far_le
  | with_reducible apply slices_Contains_int_int_le
  | with_reducible refine OLe.loop (fun _ => ?_) _ _
  | with_reducible refine OLe.lend (fun _ => ?_) ?_
  | with_reducible refine OLe.cond ?_ ?_
  | with_reducible refine OLe.bind ?_ (fun _ => ?_)
  | (split <;> try dsimp only)
  | with_reducible exact OLe.refl _
def route_Good_c (t_0 : api_Topo) (r_1 : Sl (Sl Int)) : Option Bool :=
 (route_Right_c t_0 r_1).bind fun r1 =>
 bif (!r1) then (some false) else
 ((loopN 100000 (route_Good_L1_c t_0 r_1) 0).bind fun
 | .inl b6 => (some b6)
 | .inr _ => (some true))
theorem route_Good_le (t_0 : api_Topo) (r_1 : Sl (Sl Int)) : OLe (route_Good_c t_0 r_1) (route_Good t_0 r_1) := by
 unfold route_Good_c route_Good
 repeat' first
  | with_reducible apply route_Right_le
  | with_reducible apply route_Good_L1_le
  | with_reducible refine OLe.loop (fun _ => ?_) _ _
  | with_reducible refine OLe.lend (fun _ => ?_) ?_
  | with_reducible refine OLe.cond ?_ ?_
  | with_reducible refine OLe.bind ?_ (fun _ => ?_)
  | (split <;> try dsimp only)
  | with_reducible exact OLe.refl _
def level_Moves_L1_c (old_1 : Sl (Sl Int)) (now_2 : Sl (Sl Int)) (i7 : Int) (r9 : Sl Int) : (Int × Sl level_Move) → Option ((Int × Sl level_Move) ⊕ (Sl level_Move)) := fun (i12, s13) =>
 bif decide (i12 < (now_2.l.length : Int)) then (((ixI i12 now_2.l.length).bind fun n14 =>
 (ixI i7 ((gt now_2.l n14).l).length).bind fun n15 =>
 (ixI i12 old_1.l.length).bind fun n16 =>
 (ixI i7 ((gt old_1.l n16).l).length).bind fun n17 =>
 bif ((gt ((gt now_2.l n14).l) n15) != (gt ((gt old_1.l n16).l) n17)) then ((ixI i12 now_2.l.length).bind fun n18 =>
 (ixI i7 ((gt now_2.l n18).l).length).bind fun n19 =>
 (ixI i12 r9.l.length).bind fun n20 =>
 (capI (s13.l ++ [(⟨i12, i7, gt ((gt now_2.l n18).l) n19, gt r9.l n20⟩ : level_Move)])).bind fun l21 =>
 some (Sl.mk l21)) else
 (some s13) : Option (Sl level_Move)).bind fun s22 =>
 some (.inl (wr .i64 (i12 + 1), s22))) else
 (some (.inr s13))
theorem level_Moves_L1_le (old_1 : Sl (Sl Int)) (now_2 : Sl (Sl Int)) (i7 : Int) (r9 : Sl Int) : ∀ s, OLe (level_Moves_L1_c old_1 now_2 i7 r9 s) (level_Moves_L1 old_1 now_2 i7 r9 s) := by
 intro s
 unfold level_Moves_L1_c level_Moves_L1
 repeat' first
  | with_reducible refine OLe.loop (fun _ => ?_) _ _
  | with_reducible refine OLe.lend (fun _ => ?_) ?_
  | with_reducible refine OLe.cond ?_ ?_
  | with_reducible refine OLe.bind ?_ (fun _ => ?_)
  | (split <;> try dsimp only)
  | with_reducible exact OLe.refl _
def level_Moves_L2_c (t_0 : api_Topo) (old_1 : Sl (Sl Int)) (now_2 : Sl (Sl Int)) : (Int × Sl level_Move) → Option ((Int × Sl level_Move) ⊕ (Sl level_Move)) := fun (i7, s8) =>
 bif decide (i7 < (((api_Topo.Hosts t_0).l).length : Int)) then ((route_Far_c t_0 now_2 i7).bind fun r9 =>
 (loopN 100000 (level_Moves_L1_c old_1 now_2 i7 r9) (0, s8)).bind fun s23 =>
 some (.inl (wr .i64 (i7 + 1), s23))) else
 (some (.inr s8))
theorem level_Moves_L2_le (t_0 : api_Topo) (old_1 : Sl (Sl Int)) (now_2 : Sl (Sl Int)) : ∀ s, OLe (level_Moves_L2_c t_0 old_1 now_2 s) (level_Moves_L2 t_0 old_1 now_2 s) := by
 intro s
 unfold level_Moves_L2_c level_Moves_L2
 repeat' first
  | with_reducible apply route_Far_le
  | with_reducible apply level_Moves_L1_le
  | with_reducible refine OLe.loop (fun _ => ?_) _ _
  | with_reducible refine OLe.lend (fun _ => ?_) ?_
  | with_reducible refine OLe.cond ?_ ?_
  | with_reducible refine OLe.bind ?_ (fun _ => ?_)
  | (split <;> try dsimp only)
  | with_reducible exact OLe.refl _
def level_Moves_c (t_0 : api_Topo) (old_1 : Sl (Sl Int)) (now_2 : Sl (Sl Int)) : Option (Sl level_Move × Int) :=
 ((route_Good_c t_0 old_1).bind fun r1 =>
 bif (!r1) then (some true) else
 ((route_Good_c t_0 now_2).bind fun r2 =>
 some (!r2)) : Option Bool).bind fun b3 =>
 bif b3 then (some (Sl.nil, 2)) else
 ((loopN 100000 (level_Moves_L2_c t_0 old_1 now_2) (0, Sl.nil)).bind fun s24 =>
 (short1 s24).bind fun s25 =>
 (lenS s25 s24).bind fun _ =>
 some (s25, 0))
theorem level_Moves_le (t_0 : api_Topo) (old_1 : Sl (Sl Int)) (now_2 : Sl (Sl Int)) : OLe (level_Moves_c t_0 old_1 now_2) (level_Moves t_0 old_1 now_2) := by
 unfold level_Moves_c level_Moves
 repeat' first
  | with_reducible apply route_Good_le
  | with_reducible apply level_Moves_L2_le
  | with_reducible apply short_mv
  | with_reducible refine OLe.loop (fun _ => ?_) _ _
  | with_reducible refine OLe.lend (fun _ => ?_) ?_
  | with_reducible refine OLe.cond ?_ ?_
  | with_reducible refine OLe.bind ?_ (fun _ => ?_)
  | (split <;> try dsimp only)
  | with_reducible exact OLe.refl _
def level_Rounds_L1_c (l_0 : Sl level_Move) : (Int × Sl Int) → Option ((Int × Sl Int) ⊕ (Sl Int)) := fun (i4, s5) =>
 bif decide (i4 < (l_0.l.length : Int)) then ((ixI i4 l_0.l.length).bind fun n6 =>
 (capI (s5.l ++ [level_Move.Round (gt l_0.l n6)])).bind fun l7 =>
 some (.inl (wr .i64 (i4 + 1), (Sl.mk l7)))) else
 (some (.inr s5))
theorem level_Rounds_L1_le (l_0 : Sl level_Move) : ∀ s, OLe (level_Rounds_L1_c l_0 s) (level_Rounds_L1 l_0 s) := by
 intro s
 unfold level_Rounds_L1_c level_Rounds_L1
 repeat' first
  | with_reducible refine OLe.loop (fun _ => ?_) _ _
  | with_reducible refine OLe.lend (fun _ => ?_) ?_
  | with_reducible refine OLe.cond ?_ ?_
  | with_reducible refine OLe.bind ?_ (fun _ => ?_)
  | (split <;> try dsimp only)
  | with_reducible exact OLe.refl _
def level_Rounds_c (l_0 : Sl level_Move) : Option (Sl Int) :=
 (loopN 100000 (level_Rounds_L1_c l_0) (0, Sl.nil)).bind fun s8 =>
 (short1 s8).bind fun s9 =>
 (lenS s9 s8).bind fun _ =>
 (short1 s9).bind fun s10 =>
 some s10
theorem level_Rounds_le (l_0 : Sl level_Move) : OLe (level_Rounds_c l_0) (level_Rounds l_0) := by
 unfold level_Rounds_c level_Rounds
 repeat' first
  | with_reducible apply level_Rounds_L1_le
  | with_reducible apply short_i
  | with_reducible apply short_c
  | with_reducible refine OLe.loop (fun _ => ?_) _ _
  | with_reducible refine OLe.lend (fun _ => ?_) ?_
  | with_reducible refine OLe.cond ?_ ?_
  | with_reducible refine OLe.bind ?_ (fun _ => ?_)
  | (split <;> try dsimp only)
  | with_reducible exact OLe.refl _
def ref13_Same_L1_c (a_0 : Sl Int) (b_1 : Sl Int) : Int → Option (Int ⊕ (Bool ⊕ Unit)) := fun i2 =>
 bif decide (i2 < (a_0.l.length : Int)) then ((ixI i2 a_0.l.length).bind fun n3 =>
 (ixI i2 b_1.l.length).bind fun n4 =>
 bif ((gt a_0.l n3) != (gt b_1.l n4)) then (some (.inr (.inl false))) else
 (some (.inl (wr .i64 (i2 + 1))))) else
 (some (.inr (.inr ())))
theorem ref13_Same_L1_le (a_0 : Sl Int) (b_1 : Sl Int) : ∀ s, OLe (ref13_Same_L1_c a_0 b_1 s) (ref13_Same_L1 a_0 b_1 s) := by
 intro s
 unfold ref13_Same_L1_c ref13_Same_L1
 repeat' first
  | with_reducible refine OLe.loop (fun _ => ?_) _ _
  | with_reducible refine OLe.lend (fun _ => ?_) ?_
  | with_reducible refine OLe.cond ?_ ?_
  | with_reducible refine OLe.bind ?_ (fun _ => ?_)
  | (split <;> try dsimp only)
  | with_reducible exact OLe.refl _
def ref13_Same_c (a_0 : Sl Int) (b_1 : Sl Int) : Option Bool :=
 bif ((a_0.l.length : Int) != (b_1.l.length : Int)) then (some false) else
 ((loopN 100000 (ref13_Same_L1_c a_0 b_1) 0).bind fun
 | .inl b5 => (some b5)
 | .inr _ => (some true))
theorem ref13_Same_le (a_0 : Sl Int) (b_1 : Sl Int) : OLe (ref13_Same_c a_0 b_1) (ref13_Same a_0 b_1) := by
 unfold ref13_Same_c ref13_Same
 repeat' first
  | with_reducible apply ref13_Same_L1_le
  | with_reducible refine OLe.loop (fun _ => ?_) _ _
  | with_reducible refine OLe.lend (fun _ => ?_) ?_
  | with_reducible refine OLe.cond ?_ ?_
  | with_reducible refine OLe.bind ?_ (fun _ => ?_)
  | (split <;> try dsimp only)
  | with_reducible exact OLe.refl _
def law23_awake_c : Option Bool :=
 (level_Moves_c (⟨3, (Sl.mk [(⟨0, 0, 1, 0, 1, 1⟩ : api_Link), (⟨1, 1, 2, 0, 1, 1⟩ : api_Link), (⟨0, 1, 2, 1, 1, 1⟩ : api_Link)]), (Sl.mk [(⟨2, 7⟩ : api_Host)])⟩ : api_Topo) (Sl.mk [(Sl.mk [0]), (Sl.mk [1]), (Sl.mk [7])]) (Sl.mk [(Sl.mk [1]), (Sl.mk [1]), (Sl.mk [7])])).bind fun (r1, r2) =>
 (bif ((r2 == 0) && ((r1.l.length : Int) == 1)) then ((ixI 0 r1.l.length).bind fun n3 =>
 bif decide ((gt r1.l n3) = (⟨0, 0, 1, 1⟩ : level_Move)) then ((level_Rounds_c r1).bind fun r4 =>
 (ref13_Same_c r4 (Sl.mk [1])).bind fun r5 =>
 some r5) else
 (some false)) else
 (some false) : Option Bool).bind fun b6 =>
 some b6
theorem law23_awake_le : OLe (law23_awake_c) (law23_awake) := by
 unfold law23_awake_c law23_awake
 repeat' first
  | with_reducible apply level_Moves_le
  | with_reducible apply level_Rounds_le
  | with_reducible apply ref13_Same_le
  | with_reducible refine OLe.loop (fun _ => ?_) _ _
  | with_reducible refine OLe.lend (fun _ => ?_) ?_
  | with_reducible refine OLe.cond ?_ ?_
  | with_reducible refine OLe.bind ?_ (fun _ => ?_)
  | (split <;> try dsimp only)
  | with_reducible exact OLe.refl _
theorem law23_awake_runs : law23_awake = some true := law23_awake_le _ (by decide +kernel)
end Go.Proofs.Ytjdfgncibpbgdaa.L
