/- law21_awake answers true: by running its twin. Conditions: none. -/
import Derived.Test.YtjfhiochcdjkhaaR4
import Derived.Test.YtjfhiochcdjkhaaTwin
open Go.Ev Go
namespace Go.Proofs.Ytjfhiochcdjkhaa.R

def route_port_c (r_0 : Sl (Sl Int)) (sw_1 : Int) (h_2 : Int) : Option ((Int × Bool)) :=
  (bif decide (sw_1 < 0) then (some true) else (bif decide (sw_1 ≥ (r_0.l.length : Int)) then (some true) else (bif decide (h_2 < 0) then (some true) else ((ixI sw_1 r_0.l.length).bind fun n1 =>
  some (decide (h_2 ≥ (((gt r_0.l n1).l).length : Int))))))).bind fun b3 =>
  bif b3 then (some (0, false)) else
  ((ixI sw_1 r_0.l.length).bind fun n10 =>
  (ixI h_2 ((gt r_0.l n10).l).length).bind fun n12 =>
  some (gt ((gt r_0.l n10).l) n12, true))
theorem route_port_le (r_0 : Sl (Sl Int)) (sw_1 : Int) (h_2 : Int) : OLe (route_port_c r_0 sw_1 h_2) (route_port r_0 sw_1 h_2) := by
  unfold route_port_c route_port
  repeat' first
    | with_reducible refine OLe.loop (fun _ => ?_) _ _
    | with_reducible refine OLe.cond ?_ ?_
    | with_reducible refine OLe.bind ?_ (fun _ => ?_)
    | (split <;> try dsimp only)
    | with_reducible exact OLe.refl _

def topo_places_L1_c (t_0 : api_Topo) : (Sl topo_place × Int) → Option (Sum ((Sl topo_place × Int)) (Sl topo_place)) := fun (s1, i2) =>
  bif decide (i2 < (t_0.Links.l.length : Int)) then ((ixI i2 t_0.Links.l.length).bind fun n9 =>
  (capI (s1.l ++ [(⟨(gt t_0.Links.l n9).A, (gt t_0.Links.l n9).PortA⟩ : topo_place), (⟨(gt t_0.Links.l n9).B, (gt t_0.Links.l n9).PortB⟩ : topo_place)])).bind fun l11 =>
  some (.inl ((Sl.mk l11), wr .i64 (i2 + 1)))) else
  (some (.inr s1))
theorem topo_places_L1_le (t_0 : api_Topo) : ∀ s, OLe (topo_places_L1_c t_0 s) (topo_places_L1 t_0 s) := by
  intro s
  unfold topo_places_L1_c topo_places_L1
  repeat' first
    | with_reducible refine OLe.loop (fun _ => ?_) _ _
    | with_reducible refine OLe.cond ?_ ?_
    | with_reducible refine OLe.bind ?_ (fun _ => ?_)
    | (split <;> try dsimp only)
    | with_reducible exact OLe.refl _

def topo_places_L2_c (t_0 : api_Topo) : (Sl topo_place × Int) → Option (Sum ((Sl topo_place × Int)) (Sl topo_place)) := fun (s15, i16) =>
  bif decide (i16 < (t_0.Hosts.l.length : Int)) then ((ixI i16 t_0.Hosts.l.length).bind fun n23 =>
  (capI (s15.l ++ [(⟨(gt t_0.Hosts.l n23).At, (gt t_0.Hosts.l n23).Port⟩ : topo_place)])).bind fun l25 =>
  some (.inl ((Sl.mk l25), wr .i64 (i16 + 1)))) else
  (some (.inr s15))
theorem topo_places_L2_le (t_0 : api_Topo) : ∀ s, OLe (topo_places_L2_c t_0 s) (topo_places_L2 t_0 s) := by
  intro s
  unfold topo_places_L2_c topo_places_L2
  repeat' first
    | with_reducible refine OLe.loop (fun _ => ?_) _ _
    | with_reducible refine OLe.cond ?_ ?_
    | with_reducible refine OLe.bind ?_ (fun _ => ?_)
    | (split <;> try dsimp only)
    | with_reducible exact OLe.refl _

def topo_places_c (t_0 : api_Topo) : Option (Sl topo_place) :=
  (loopN 100000 (topo_places_L1_c t_0) (Sl.nil, 0)).bind fun s5 =>
  (loopN 100000 (topo_places_L2_c t_0) (s5, 0)).bind fun s19 =>
  some s19
theorem topo_places_le (t_0 : api_Topo) : OLe (topo_places_c t_0) (topo_places t_0) := by
  unfold topo_places_c topo_places
  repeat' first
    | with_reducible apply topo_places_L1_le
    | with_reducible apply topo_places_L2_le
    | with_reducible refine OLe.loop (fun _ => ?_) _ _
    | with_reducible refine OLe.cond ?_ ?_
    | with_reducible refine OLe.bind ?_ (fun _ => ?_)
    | (split <;> try dsimp only)
    | with_reducible exact OLe.refl _

def topo_Right_L1_c (t_0 : api_Topo) : Int → Option (Sum (Int) (Sum (Unit) (Unit))) := fun i7 =>
  bif decide (i7 < (t_0.Links.l.length : Int)) then ((ixI i7 t_0.Links.l.length).bind fun n12 =>
  bif ((((gt t_0.Links.l n12).A) == ((gt t_0.Links.l n12).B)) || ((decide (((gt t_0.Links.l n12).Least) < 1)) || ((decide (((gt t_0.Links.l n12).Least) > ((gt t_0.Links.l n12).Most))) || (decide (((gt t_0.Links.l n12).Most) > 1000))))) then (some (.inr (.inl ()))) else
  (some (.inl (wr .i64 (i7 + 1))))) else
  (some (.inr (.inr ())))
theorem topo_Right_L1_le (t_0 : api_Topo) : ∀ s, OLe (topo_Right_L1_c t_0 s) (topo_Right_L1 t_0 s) := by
  intro s
  unfold topo_Right_L1_c topo_Right_L1
  repeat' first
    | with_reducible refine OLe.loop (fun _ => ?_) _ _
    | with_reducible refine OLe.cond ?_ ?_
    | with_reducible refine OLe.bind ?_ (fun _ => ?_)
    | (split <;> try dsimp only)
    | with_reducible exact OLe.refl _

def topo_Right_L2_c (t_0 : api_Topo) (r21 : Sl topo_place) : (Mp topo_place Int × Int) → Option (Sum ((Mp topo_place Int × Int)) (Sum (Unit) (Unit))) := fun (m23, i24) =>
  bif decide (i24 < (r21.l.length : Int)) then ((ixI i24 r21.l.length).bind fun n30 =>
  (mpSet ((mpEnt m23 0 (gt r21.l n30)).1) ((mpEnt m23 0 (gt r21.l n30)).2.2) (wr .i64 ((mpGet m23 0 (gt r21.l n30)) + 1))).bind fun m32 =>
  bif ((decide (((gt r21.l n30).sw) < 0)) || ((decide (((gt r21.l n30).sw) ≥ t_0.Switches)) || ((decide (((gt r21.l n30).port) < 0)) || ((decide (((gt r21.l n30).port) ≥ 8)) || (decide ((mpGet m32 0 (gt r21.l n30)) > 1)))))) then (some (.inr (.inl ()))) else
  (some (.inl (m32, wr .i64 (i24 + 1))))) else
  (some (.inr (.inr ())))
theorem topo_Right_L2_le (t_0 : api_Topo) (r21 : Sl topo_place) : ∀ s, OLe (topo_Right_L2_c t_0 r21 s) (topo_Right_L2 t_0 r21 s) := by
  intro s
  unfold topo_Right_L2_c topo_Right_L2
  repeat' first
    | with_reducible refine OLe.loop (fun _ => ?_) _ _
    | with_reducible refine OLe.cond ?_ ?_
    | with_reducible refine OLe.bind ?_ (fun _ => ?_)
    | (split <;> try dsimp only)
    | with_reducible exact OLe.refl _

def topo_Right_c (t_0 : api_Topo) : Option (Bool) :=
  bif ((decide (t_0.Switches < 1)) || ((decide (t_0.Switches > 8)) || ((decide ((t_0.Links.l.length : Int) > 24)) || (decide ((t_0.Hosts.l.length : Int) > 8))))) then (some false) else
  ((loopN 100000 (topo_Right_L1_c t_0) 0).bind fun
  | .inl _ => (some false)
  | .inr (_) => ((topo_places_c t_0).bind fun r21 =>
  (loopN 100000 (topo_Right_L2_c t_0 r21) ((Mp.none : Mp topo_place Int), 0)).bind fun
  | .inl _ => (some false)
  | .inr (_) => (some true)))
theorem topo_Right_le (t_0 : api_Topo) : OLe (topo_Right_c t_0) (topo_Right t_0) := by
  unfold topo_Right_c topo_Right
  repeat' first
    | with_reducible apply topo_Right_L1_le
    | with_reducible apply topo_places_le
    | with_reducible apply topo_Right_L2_le
    | with_reducible refine OLe.loop (fun _ => ?_) _ _
    | with_reducible refine OLe.cond ?_ ?_
    | with_reducible refine OLe.bind ?_ (fun _ => ?_)
    | (split <;> try dsimp only)
    | with_reducible exact OLe.refl _

def route_Right_1_c (p_0 : Int) : Option (Bool) :=
  some ((decide (p_0 < 0)) || (decide (p_0 ≥ 8)))
theorem route_Right_1_le (p_0 : Int) : OLe (route_Right_1_c p_0) (route_Right_1 p_0) := by
  unfold route_Right_1_c route_Right_1
  repeat' first
    | with_reducible refine OLe.loop (fun _ => ?_) _ _
    | with_reducible refine OLe.cond ?_ ?_
    | with_reducible refine OLe.bind ?_ (fun _ => ?_)
    | (split <;> try dsimp only)
    | with_reducible exact OLe.refl _

def slices_IndexFunc_int_int_route_Right_1_L1_c (s_0 : Sl Int) : Int → Option (Sum (Int) (Sum (Int) (Unit))) := fun i1 =>
  bif decide (i1 < (s_0.l.length : Int)) then ((ixI i1 s_0.l.length).bind fun n7 =>
  (route_Right_1_c (gt s_0.l n7)).bind fun r9 =>
  bif r9 then (some (.inr (.inl i1))) else
  (some (.inl (wr .i64 (i1 + 1))))) else
  (some (.inr (.inr ())))
theorem slices_IndexFunc_int_int_route_Right_1_L1_le (s_0 : Sl Int) : ∀ s, OLe (slices_IndexFunc_int_int_route_Right_1_L1_c s_0 s) (slices_IndexFunc_int_int_route_Right_1_L1 s_0 s) := by
  intro s
  unfold slices_IndexFunc_int_int_route_Right_1_L1_c slices_IndexFunc_int_int_route_Right_1_L1
  repeat' first
    | with_reducible apply route_Right_1_le
    | with_reducible refine OLe.loop (fun _ => ?_) _ _
    | with_reducible refine OLe.cond ?_ ?_
    | with_reducible refine OLe.bind ?_ (fun _ => ?_)
    | (split <;> try dsimp only)
    | with_reducible exact OLe.refl _

def slices_IndexFunc_int_int_route_Right_1_c (s_0 : Sl Int) : Option (Int) :=
  (loopN 100000 (slices_IndexFunc_int_int_route_Right_1_L1_c s_0) 0).bind fun
  | .inl i3 => (some i3)
  | .inr (_) => (some (-1))
theorem slices_IndexFunc_int_int_route_Right_1_le (s_0 : Sl Int) : OLe (slices_IndexFunc_int_int_route_Right_1_c s_0) (slices_IndexFunc_int_int_route_Right_1 s_0) := by
  unfold slices_IndexFunc_int_int_route_Right_1_c slices_IndexFunc_int_int_route_Right_1
  repeat' first
    | with_reducible apply slices_IndexFunc_int_int_route_Right_1_L1_le
    | with_reducible refine OLe.loop (fun _ => ?_) _ _
    | with_reducible refine OLe.cond ?_ ?_
    | with_reducible refine OLe.bind ?_ (fun _ => ?_)
    | (split <;> try dsimp only)
    | with_reducible exact OLe.refl _

def slices_ContainsFunc_int_int_route_Right_1_c (s_0 : Sl Int) : Option (Bool) :=
  (slices_IndexFunc_int_int_route_Right_1_c s_0).bind fun r1 =>
  some (decide (r1 ≥ 0))
theorem slices_ContainsFunc_int_int_route_Right_1_le (s_0 : Sl Int) : OLe (slices_ContainsFunc_int_int_route_Right_1_c s_0) (slices_ContainsFunc_int_int_route_Right_1 s_0) := by
  unfold slices_ContainsFunc_int_int_route_Right_1_c slices_ContainsFunc_int_int_route_Right_1
  repeat' first
    | with_reducible apply slices_IndexFunc_int_int_route_Right_1_le
    | with_reducible refine OLe.loop (fun _ => ?_) _ _
    | with_reducible refine OLe.cond ?_ ?_
    | with_reducible refine OLe.bind ?_ (fun _ => ?_)
    | (split <;> try dsimp only)
    | with_reducible exact OLe.refl _

def route_Right_L1_c (t_0 : api_Topo) (r_1 : Sl (Sl Int)) : Int → Option (Sum (Int) (Sum (Unit) (Unit))) := fun i7 =>
  bif decide (i7 < (r_1.l.length : Int)) then ((ixI i7 r_1.l.length).bind fun n12 =>
  (bif ((((gt r_1.l n12).l).length : Int) != (t_0.Hosts.l.length : Int)) then (some true) else ((slices_ContainsFunc_int_int_route_Right_1_c (gt r_1.l n12)).bind fun r14 =>
  some r14)).bind fun b16 =>
  bif b16 then (some (.inr (.inl ()))) else
  (some (.inl (wr .i64 (i7 + 1))))) else
  (some (.inr (.inr ())))
theorem route_Right_L1_le (t_0 : api_Topo) (r_1 : Sl (Sl Int)) : ∀ s, OLe (route_Right_L1_c t_0 r_1 s) (route_Right_L1 t_0 r_1 s) := by
  intro s
  unfold route_Right_L1_c route_Right_L1
  repeat' first
    | with_reducible apply slices_ContainsFunc_int_int_route_Right_1_le
    | with_reducible refine OLe.loop (fun _ => ?_) _ _
    | with_reducible refine OLe.cond ?_ ?_
    | with_reducible refine OLe.bind ?_ (fun _ => ?_)
    | (split <;> try dsimp only)
    | with_reducible exact OLe.refl _

def route_Right_c (t_0 : api_Topo) (r_1 : Sl (Sl Int)) : Option (Bool) :=
  (topo_Right_c t_0).bind fun r1 =>
  bif ((!r1) || ((r_1.l.length : Int) != t_0.Switches)) then (some false) else
  ((loopN 100000 (route_Right_L1_c t_0 r_1) 0).bind fun
  | .inl _ => (some false)
  | .inr (_) => (some true))
theorem route_Right_le (t_0 : api_Topo) (r_1 : Sl (Sl Int)) : OLe (route_Right_c t_0 r_1) (route_Right t_0 r_1) := by
  unfold route_Right_c route_Right
  repeat' first
    | with_reducible apply topo_Right_le
    | with_reducible apply route_Right_L1_le
    | with_reducible refine OLe.loop (fun _ => ?_) _ _
    | with_reducible refine OLe.cond ?_ ?_
    | with_reducible refine OLe.bind ?_ (fun _ => ?_)
    | (split <;> try dsimp only)
    | with_reducible exact OLe.refl _

def slices_Index_int_int_L1_c (s_0 : Sl Int) (v_1 : Int) : Int → Option (Sum (Int) (Sum (Int) (Unit))) := fun i1 =>
  bif decide (i1 < (s_0.l.length : Int)) then ((ixI i1 s_0.l.length).bind fun n7 =>
  bif (v_1 == (gt s_0.l n7)) then (some (.inr (.inl i1))) else
  (some (.inl (wr .i64 (i1 + 1))))) else
  (some (.inr (.inr ())))
theorem slices_Index_int_int_L1_le (s_0 : Sl Int) (v_1 : Int) : ∀ s, OLe (slices_Index_int_int_L1_c s_0 v_1 s) (slices_Index_int_int_L1 s_0 v_1 s) := by
  intro s
  unfold slices_Index_int_int_L1_c slices_Index_int_int_L1
  repeat' first
    | with_reducible refine OLe.loop (fun _ => ?_) _ _
    | with_reducible refine OLe.cond ?_ ?_
    | with_reducible refine OLe.bind ?_ (fun _ => ?_)
    | (split <;> try dsimp only)
    | with_reducible exact OLe.refl _

def slices_Index_int_int_c (s_0 : Sl Int) (v_1 : Int) : Option (Int) :=
  (loopN 100000 (slices_Index_int_int_L1_c s_0 v_1) 0).bind fun
  | .inl i3 => (some i3)
  | .inr (_) => (some (-1))
theorem slices_Index_int_int_le (s_0 : Sl Int) (v_1 : Int) : OLe (slices_Index_int_int_c s_0 v_1) (slices_Index_int_int s_0 v_1) := by
  unfold slices_Index_int_int_c slices_Index_int_int
  repeat' first
    | with_reducible apply slices_Index_int_int_L1_le
    | with_reducible refine OLe.loop (fun _ => ?_) _ _
    | with_reducible refine OLe.cond ?_ ?_
    | with_reducible refine OLe.bind ?_ (fun _ => ?_)
    | (split <;> try dsimp only)
    | with_reducible exact OLe.refl _

def slices_Contains_int_int_c (s_0 : Sl Int) (v_1 : Int) : Option (Bool) :=
  (slices_Index_int_int_c s_0 v_1).bind fun r1 =>
  some (decide (r1 ≥ 0))
theorem slices_Contains_int_int_le (s_0 : Sl Int) (v_1 : Int) : OLe (slices_Contains_int_int_c s_0 v_1) (slices_Contains_int_int s_0 v_1) := by
  unfold slices_Contains_int_int_c slices_Contains_int_int
  repeat' first
    | with_reducible apply slices_Index_int_int_le
    | with_reducible refine OLe.loop (fun _ => ?_) _ _
    | with_reducible refine OLe.cond ?_ ?_
    | with_reducible refine OLe.bind ?_ (fun _ => ?_)
    | (split <;> try dsimp only)
    | with_reducible exact OLe.refl _

def route_twice_int_c (l_0 : Sl Int) : Option (Bool) :=
  (bif decide ((l_0.l.length : Int) > 0) then ((cutI l_0.l 0 (wr .i64 ((l_0.l.length : Int) - 1))).bind fun l1 =>
  (ixI (wr .i64 ((l_0.l.length : Int) - 1)) l_0.l.length).bind fun n3 =>
  (slices_Contains_int_int_c (l_0.to l1) (gt l_0.l n3)).bind fun r5 =>
  some r5) else (some false)).bind fun b7 =>
  some b7
theorem route_twice_int_le (l_0 : Sl Int) : OLe (route_twice_int_c l_0) (route_twice_int l_0) := by
  unfold route_twice_int_c route_twice_int
  repeat' first
    | with_reducible apply slices_Contains_int_int_le
    | with_reducible refine OLe.loop (fun _ => ?_) _ _
    | with_reducible refine OLe.cond ?_ ?_
    | with_reducible refine OLe.bind ?_ (fun _ => ?_)
    | (split <;> try dsimp only)
    | with_reducible exact OLe.refl _

def topo_Peer_L1_c (t_0 : api_Topo) (sw_1 : Int) (port_2 : Int) : Int → Option (Sum (Int) (Sum ((Int × Int × Int)) (Unit))) := fun i1 =>
  bif decide (i1 < (t_0.Links.l.length : Int)) then ((ixI i1 t_0.Links.l.length).bind fun n9 =>
  bif ((sw_1 == ((gt t_0.Links.l n9).A)) && ((port_2 == ((gt t_0.Links.l n9).PortA)) && true)) then (some (.inr (.inl ((gt t_0.Links.l n9).B, (gt t_0.Links.l n9).PortB, i1)))) else
  (bif ((sw_1 == ((gt t_0.Links.l n9).B)) && ((port_2 == ((gt t_0.Links.l n9).PortB)) && true)) then (some (.inr (.inl ((gt t_0.Links.l n9).A, (gt t_0.Links.l n9).PortA, i1)))) else
  (some (.inl (wr .i64 (i1 + 1)))))) else
  (some (.inr (.inr ())))
theorem topo_Peer_L1_le (t_0 : api_Topo) (sw_1 : Int) (port_2 : Int) : ∀ s, OLe (topo_Peer_L1_c t_0 sw_1 port_2 s) (topo_Peer_L1 t_0 sw_1 port_2 s) := by
  intro s
  unfold topo_Peer_L1_c topo_Peer_L1
  repeat' first
    | with_reducible refine OLe.loop (fun _ => ?_) _ _
    | with_reducible refine OLe.cond ?_ ?_
    | with_reducible refine OLe.bind ?_ (fun _ => ?_)
    | (split <;> try dsimp only)
    | with_reducible exact OLe.refl _

def topo_Peer_c (t_0 : api_Topo) (sw_1 : Int) (port_2 : Int) : Option ((Int × Int × Int × Bool)) :=
  (loopN 100000 (topo_Peer_L1_c t_0 sw_1 port_2) 0).bind fun
  | .inl (i3, i4, i5) => (some (i3, i4, i5, true))
  | .inr (_) => (some (0, 0, 0, false))
theorem topo_Peer_le (t_0 : api_Topo) (sw_1 : Int) (port_2 : Int) : OLe (topo_Peer_c t_0 sw_1 port_2) (topo_Peer t_0 sw_1 port_2) := by
  unfold topo_Peer_c topo_Peer
  repeat' first
    | with_reducible apply topo_Peer_L1_le
    | with_reducible refine OLe.loop (fun _ => ?_) _ _
    | with_reducible refine OLe.cond ?_ ?_
    | with_reducible refine OLe.bind ?_ (fun _ => ?_)
    | (split <;> try dsimp only)
    | with_reducible exact OLe.refl _

def route_Next_c (t_0 : api_Topo) (r_1 : Sl (Sl Int)) (sw_2 : Int) (h_3 : Int) : Option ((Int × Bool)) :=
  (route_port_c r_1 sw_2 h_3).bind fun (r1, r2) =>
  bif (!r2) then (some (0, false)) else
  ((topo_Peer_c t_0 sw_2 r1).bind fun (r5, r6, r7, r8) =>
  some (r5, r8))
theorem route_Next_le (t_0 : api_Topo) (r_1 : Sl (Sl Int)) (sw_2 : Int) (h_3 : Int) : OLe (route_Next_c t_0 r_1 sw_2 h_3) (route_Next t_0 r_1 sw_2 h_3) := by
  unfold route_Next_c route_Next
  repeat' first
    | with_reducible apply route_port_le
    | with_reducible apply topo_Peer_le
    | with_reducible refine OLe.loop (fun _ => ?_) _ _
    | with_reducible refine OLe.cond ?_ ?_
    | with_reducible refine OLe.bind ?_ (fun _ => ?_)
    | (split <;> try dsimp only)
    | with_reducible exact OLe.refl _

def route_Walk_L1_c (t_0 : api_Topo) (r_1 : Sl (Sl Int)) (h_3 : Int) : (List Int) → Option (Sum (List Int) (Sum ((Sl Int × Int)) (Unit))) := fun l11 =>
  (route_twice_int_c (Sl.mk l11)).bind fun r17 =>
  bif (!r17) then ((ixI (wr .i64 ((l11.length : Int) - 1)) l11.length).bind fun n20 =>
  (ixI h_3 t_0.Hosts.l.length).bind fun n22 =>
  (ixI (gt l11 n20) r_1.l.length).bind fun n24 =>
  (ixI h_3 ((gt r_1.l n24).l).length).bind fun n26 =>
  bif ((((gt t_0.Hosts.l n22).At) == (gt l11 n20)) && ((((gt t_0.Hosts.l n22).Port) == (gt ((gt r_1.l n24).l) n26)) && true)) then (some (.inr (.inl ((Sl.mk l11), 0)))) else
  ((route_Next_c t_0 r_1 (gt l11 n20) h_3).bind fun (r29, r30) =>
  bif (!r30) then (some (.inr (.inl (Sl.nil, 13)))) else
  ((capI (l11 ++ [r29])).bind fun l33 =>
  some (.inl l33)))) else
  (some (.inr (.inr ())))
theorem route_Walk_L1_le (t_0 : api_Topo) (r_1 : Sl (Sl Int)) (h_3 : Int) : ∀ s, OLe (route_Walk_L1_c t_0 r_1 h_3 s) (route_Walk_L1 t_0 r_1 h_3 s) := by
  intro s
  unfold route_Walk_L1_c route_Walk_L1
  repeat' first
    | with_reducible apply route_twice_int_le
    | with_reducible apply route_Next_le
    | with_reducible refine OLe.loop (fun _ => ?_) _ _
    | with_reducible refine OLe.cond ?_ ?_
    | with_reducible refine OLe.bind ?_ (fun _ => ?_)
    | (split <;> try dsimp only)
    | with_reducible exact OLe.refl _

def route_Walk_c (t_0 : api_Topo) (r_1 : Sl (Sl Int)) (sw_2 : Int) (h_3 : Int) : Option ((Sl Int × Int)) :=
  (route_port_c r_1 sw_2 h_3).bind fun (r1, r2) =>
  (bif (!r2) then (some true) else ((route_Right_c t_0 r_1).bind fun r4 =>
  some (!r4))).bind fun b6 =>
  bif b6 then (some (Sl.nil, 2)) else
  ((loopN 100000 (route_Walk_L1_c t_0 r_1 h_3) [sw_2]).bind fun
  | .inl (s13, i14) => (some (s13, i14))
  | .inr (_) => (some (Sl.nil, 12)))
theorem route_Walk_le (t_0 : api_Topo) (r_1 : Sl (Sl Int)) (sw_2 : Int) (h_3 : Int) : OLe (route_Walk_c t_0 r_1 sw_2 h_3) (route_Walk t_0 r_1 sw_2 h_3) := by
  unfold route_Walk_c route_Walk
  repeat' first
    | with_reducible apply route_port_le
    | with_reducible apply route_Right_le
    | with_reducible apply route_Walk_L1_le
    | with_reducible refine OLe.loop (fun _ => ?_) _ _
    | with_reducible refine OLe.cond ?_ ?_
    | with_reducible refine OLe.bind ?_ (fun _ => ?_)
    | (split <;> try dsimp only)
    | with_reducible exact OLe.refl _

def ref13_Same_L1_c (a_0 : Sl Int) (b_1 : Sl Int) : Int → Option (Sum (Int) (Sum (Unit) (Unit))) := fun i2 =>
  bif decide (i2 < (a_0.l.length : Int)) then ((ixI i2 a_0.l.length).bind fun n7 =>
  (ixI i2 b_1.l.length).bind fun n9 =>
  bif ((gt a_0.l n7) != (gt b_1.l n9)) then (some (.inr (.inl ()))) else
  (some (.inl (wr .i64 (i2 + 1))))) else
  (some (.inr (.inr ())))
theorem ref13_Same_L1_le (a_0 : Sl Int) (b_1 : Sl Int) : ∀ s, OLe (ref13_Same_L1_c a_0 b_1 s) (ref13_Same_L1 a_0 b_1 s) := by
  intro s
  unfold ref13_Same_L1_c ref13_Same_L1
  repeat' first
    | with_reducible refine OLe.loop (fun _ => ?_) _ _
    | with_reducible refine OLe.cond ?_ ?_
    | with_reducible refine OLe.bind ?_ (fun _ => ?_)
    | (split <;> try dsimp only)
    | with_reducible exact OLe.refl _

def ref13_Same_c (a_0 : Sl Int) (b_1 : Sl Int) : Option (Bool) :=
  bif ((a_0.l.length : Int) != (b_1.l.length : Int)) then (some false) else
  ((loopN 100000 (ref13_Same_L1_c a_0 b_1) 0).bind fun
  | .inl _ => (some false)
  | .inr (_) => (some true))
theorem ref13_Same_le (a_0 : Sl Int) (b_1 : Sl Int) : OLe (ref13_Same_c a_0 b_1) (ref13_Same a_0 b_1) := by
  unfold ref13_Same_c ref13_Same
  repeat' first
    | with_reducible apply ref13_Same_L1_le
    | with_reducible refine OLe.loop (fun _ => ?_) _ _
    | with_reducible refine OLe.cond ?_ ?_
    | with_reducible refine OLe.bind ?_ (fun _ => ?_)
    | (split <;> try dsimp only)
    | with_reducible exact OLe.refl _

def route_Far_L1_c (t_0 : api_Topo) (r_1 : Sl (Sl Int)) (h_2 : Int) : (Sl Int × Int) → Option (Sum ((Sl Int × Int)) (Sl Int)) := fun (s8, i9) =>
  bif decide (i9 < (r_1.l.length : Int)) then ((route_Walk_c t_0 r_1 i9 h_2).bind fun (r16, r17) =>
  (capI (s8.l ++ [wr .i64 ((r16.l.length : Int) - 1)])).bind fun l19 =>
  some (.inl ((Sl.mk l19), wr .i64 (i9 + 1)))) else
  (some (.inr s8))
theorem route_Far_L1_le (t_0 : api_Topo) (r_1 : Sl (Sl Int)) (h_2 : Int) : ∀ s, OLe (route_Far_L1_c t_0 r_1 h_2 s) (route_Far_L1 t_0 r_1 h_2 s) := by
  intro s
  unfold route_Far_L1_c route_Far_L1
  repeat' first
    | with_reducible apply route_Walk_le
    | with_reducible refine OLe.loop (fun _ => ?_) _ _
    | with_reducible refine OLe.cond ?_ ?_
    | with_reducible refine OLe.bind ?_ (fun _ => ?_)
    | (split <;> try dsimp only)
    | with_reducible exact OLe.refl _

def route_Far_c (t_0 : api_Topo) (r_1 : Sl (Sl Int)) (h_2 : Int) : Option (Sl Int) :=
  (route_Right_c t_0 r_1).bind fun r1 =>
  bif ((!r1) || ((decide (h_2 < 0)) || (decide (h_2 ≥ (t_0.Hosts.l.length : Int))))) then (some Sl.nil) else
  ((loopN 100000 (route_Far_L1_c t_0 r_1 h_2) (Sl.nil, 0)).bind fun s12 =>
  some s12)
theorem route_Far_le (t_0 : api_Topo) (r_1 : Sl (Sl Int)) (h_2 : Int) : OLe (route_Far_c t_0 r_1 h_2) (route_Far t_0 r_1 h_2) := by
  unfold route_Far_c route_Far
  repeat' first
    | with_reducible apply route_Right_le
    | with_reducible apply route_Far_L1_le
    | with_reducible refine OLe.loop (fun _ => ?_) _ _
    | with_reducible refine OLe.cond ?_ ?_
    | with_reducible refine OLe.bind ?_ (fun _ => ?_)
    | (split <;> try dsimp only)
    | with_reducible exact OLe.refl _

def route_Good_L1_c (t_0 : api_Topo) (r_1 : Sl (Sl Int)) : Int → Option (Sum (Int) (Sum (Unit) (Unit))) := fun i4 =>
  bif decide (i4 < (t_0.Hosts.l.length : Int)) then ((route_Far_c t_0 r_1 i4).bind fun r9 =>
  (slices_Contains_int_int_c r9 (-1)).bind fun r11 =>
  bif r11 then (some (.inr (.inl ()))) else
  (some (.inl (wr .i64 (i4 + 1))))) else
  (some (.inr (.inr ())))
theorem route_Good_L1_le (t_0 : api_Topo) (r_1 : Sl (Sl Int)) : ∀ s, OLe (route_Good_L1_c t_0 r_1 s) (route_Good_L1 t_0 r_1 s) := by
  intro s
  unfold route_Good_L1_c route_Good_L1
  repeat' first
    | with_reducible apply route_Far_le
    | with_reducible apply slices_Contains_int_int_le
    | with_reducible refine OLe.loop (fun _ => ?_) _ _
    | with_reducible refine OLe.cond ?_ ?_
    | with_reducible refine OLe.bind ?_ (fun _ => ?_)
    | (split <;> try dsimp only)
    | with_reducible exact OLe.refl _

def route_Good_c (t_0 : api_Topo) (r_1 : Sl (Sl Int)) : Option (Bool) :=
  (route_Right_c t_0 r_1).bind fun r1 =>
  bif (!r1) then (some false) else
  ((loopN 100000 (route_Good_L1_c t_0 r_1) 0).bind fun
  | .inl _ => (some false)
  | .inr (_) => (some true))
theorem route_Good_le (t_0 : api_Topo) (r_1 : Sl (Sl Int)) : OLe (route_Good_c t_0 r_1) (route_Good t_0 r_1) := by
  unfold route_Good_c route_Good
  repeat' first
    | with_reducible apply route_Right_le
    | with_reducible apply route_Good_L1_le
    | with_reducible refine OLe.loop (fun _ => ?_) _ _
    | with_reducible refine OLe.cond ?_ ?_
    | with_reducible refine OLe.bind ?_ (fun _ => ?_)
    | (split <;> try dsimp only)
    | with_reducible exact OLe.refl _

def law21_awake_c : Option (Bool) :=
  (route_Walk_c (⟨2, (Sl.mk [(⟨0, 0, 1, 0, 1, 1⟩ : api_Link)]), (Sl.mk [(⟨1, 5⟩ : api_Host)])⟩ : api_Topo) (Sl.mk [(Sl.mk [0]), (Sl.mk [5])]) 0 0).bind fun (r1, r2) =>
  (route_Walk_c (⟨2, (Sl.mk [(⟨0, 0, 1, 0, 1, 1⟩ : api_Link)]), (Sl.mk [(⟨1, 5⟩ : api_Host)])⟩ : api_Topo) (Sl.mk [(Sl.mk [0]), (Sl.mk [0])]) 0 0).bind fun (r4, r5) =>
  (bif (r2 == 0) then ((ref13_Same_c r1 (Sl.mk [0, 1])).bind fun r7 =>
  bif r7 then (bif (r5 == 12) then ((route_Good_c (⟨2, (Sl.mk [(⟨0, 0, 1, 0, 1, 1⟩ : api_Link)]), (Sl.mk [(⟨1, 5⟩ : api_Host)])⟩ : api_Topo) (Sl.mk [(Sl.mk [0]), (Sl.mk [5])])).bind fun r9 =>
  bif r9 then ((route_Good_c (⟨2, (Sl.mk [(⟨0, 0, 1, 0, 1, 1⟩ : api_Link)]), (Sl.mk [(⟨1, 5⟩ : api_Host)])⟩ : api_Topo) (Sl.mk [(Sl.mk [5]), (Sl.mk [5])])).bind fun r11 =>
  some (!r11)) else (some false)) else (some false)) else (some false)) else (some false)).bind fun b13 =>
  some b13
theorem law21_awake_le : OLe (law21_awake_c) (law21_awake) := by
  unfold law21_awake_c law21_awake
  repeat' first
    | with_reducible apply route_Walk_le
    | with_reducible apply ref13_Same_le
    | with_reducible apply route_Good_le
    | with_reducible refine OLe.loop (fun _ => ?_) _ _
    | with_reducible refine OLe.cond ?_ ?_
    | with_reducible refine OLe.bind ?_ (fun _ => ?_)
    | (split <;> try dsimp only)
    | with_reducible exact OLe.refl _

theorem law21_awake_runs : law21_awake = some true := law21_awake_le _ (by decide +kernel)
end Go.Proofs.Ytjfhiochcdjkhaa.R
