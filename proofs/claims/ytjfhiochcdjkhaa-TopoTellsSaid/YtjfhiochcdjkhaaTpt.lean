/- law17_awake answers true: by running its twin. Conditions: none. -/
import Derived.Test.YtjfhiochcdjkhaaTp
import Derived.Test.YtjfhiochcdjkhaaTwin
open Go.Ev Go
namespace Go.Proofs.Ytjfhiochcdjkhaa.T

def topo_Peer_L1_c (t_0 : api_Topo) (sw_1 : Int) (port_2 : Int) : Int → Option (Sum (Int) (Sum ((Int × Int × Int)) (Unit))) := fun i1 =>
  bif decide (i1 < (t_0.Links.l.length : Int)) then ((ixI i1 t_0.Links.l.length).bind fun n9 =>
  bif ((sw_1 == ((gt t_0.Links.l n9).A)) && ((port_2 == ((gt t_0.Links.l n9).PortA)) && true)) then (some (.inr (.inl ((gt t_0.Links.l n9).B, (gt t_0.Links.l n9).PortB, i1)))) else
  (bif ((sw_1 == ((gt t_0.Links.l n9).B)) && ((port_2 == ((gt t_0.Links.l n9).PortB)) && true)) then (some (.inr (.inl ((gt t_0.Links.l n9).A, (gt t_0.Links.l n9).PortA, i1)))) else
  (some (.inl (wr .i64 (i1 + 1)))))) else
  (some (.inr (.inr ())))
theorem topo_Peer_L1_le (t_0 : api_Topo) (sw_1 : Int) (port_2 : Int) : ∀ s, OLe (topo_Peer_L1_c t_0 sw_1 port_2 s) (topo_Peer_L1 t_0 sw_1 port_2 s) := by
  intro s
  unfold topo_Peer_L1_c topo_Peer_L1
  repeat' first
    | with_reducible refine OLe.loop (fun _ => ?_) _ _
    | with_reducible refine OLe.lend (fun _ => ?_) ?_
    | with_reducible refine OLe.cond ?_ ?_
    | with_reducible refine OLe.bind ?_ (fun _ => ?_)
    | (split <;> try dsimp only)
    | with_reducible exact OLe.refl _

def topo_Peer_c (t_0 : api_Topo) (sw_1 : Int) (port_2 : Int) : Option ((Int × Int × Int × Bool)) :=
  (loopN 100000 (topo_Peer_L1_c t_0 sw_1 port_2) 0).bind fun
  | .inl (i3, i4, i5) => (some (i3, i4, i5, true))
  | .inr (_) => (some (0, 0, 0, false))
theorem topo_Peer_le (t_0 : api_Topo) (sw_1 : Int) (port_2 : Int) : OLe (topo_Peer_c t_0 sw_1 port_2) (topo_Peer t_0 sw_1 port_2) := by
  unfold topo_Peer_c topo_Peer
  repeat' first
    | with_reducible apply topo_Peer_L1_le
    | with_reducible refine OLe.loop (fun _ => ?_) _ _
    | with_reducible refine OLe.lend (fun _ => ?_) ?_
    | with_reducible refine OLe.cond ?_ ?_
    | with_reducible refine OLe.bind ?_ (fun _ => ?_)
    | (split <;> try dsimp only)
    | with_reducible exact OLe.refl _

def topo_places_L1_c (t_0 : api_Topo) : (Sl topo_place × Int) → Option (Sum ((Sl topo_place × Int)) (Sl topo_place)) := fun (s1, i2) =>
  bif decide (i2 < (t_0.Links.l.length : Int)) then ((ixI i2 t_0.Links.l.length).bind fun n9 =>
  (capI (s1.l ++ [(⟨(gt t_0.Links.l n9).A, (gt t_0.Links.l n9).PortA⟩ : topo_place), (⟨(gt t_0.Links.l n9).B, (gt t_0.Links.l n9).PortB⟩ : topo_place)])).bind fun l11 =>
  some (.inl ((Sl.mk l11), wr .i64 (i2 + 1)))) else
  (some (.inr s1))
theorem topo_places_L1_le (t_0 : api_Topo) : ∀ s, OLe (topo_places_L1_c t_0 s) (topo_places_L1 t_0 s) := by
  intro s
  unfold topo_places_L1_c topo_places_L1
  repeat' first
    | with_reducible refine OLe.loop (fun _ => ?_) _ _
    | with_reducible refine OLe.lend (fun _ => ?_) ?_
    | with_reducible refine OLe.cond ?_ ?_
    | with_reducible refine OLe.bind ?_ (fun _ => ?_)
    | (split <;> try dsimp only)
    | with_reducible exact OLe.refl _

def topo_places_L2_c (t_0 : api_Topo) : (Sl topo_place × Int) → Option (Sum ((Sl topo_place × Int)) (Sl topo_place)) := fun (s15, i16) =>
  bif decide (i16 < (t_0.Hosts.l.length : Int)) then ((ixI i16 t_0.Hosts.l.length).bind fun n23 =>
  (capI (s15.l ++ [(⟨(gt t_0.Hosts.l n23).At, (gt t_0.Hosts.l n23).Port⟩ : topo_place)])).bind fun l25 =>
  some (.inl ((Sl.mk l25), wr .i64 (i16 + 1)))) else
  (some (.inr s15))
theorem topo_places_L2_le (t_0 : api_Topo) : ∀ s, OLe (topo_places_L2_c t_0 s) (topo_places_L2 t_0 s) := by
  intro s
  unfold topo_places_L2_c topo_places_L2
  repeat' first
    | with_reducible refine OLe.loop (fun _ => ?_) _ _
    | with_reducible refine OLe.lend (fun _ => ?_) ?_
    | with_reducible refine OLe.cond ?_ ?_
    | with_reducible refine OLe.bind ?_ (fun _ => ?_)
    | (split <;> try dsimp only)
    | with_reducible exact OLe.refl _

def topo_places_c (t_0 : api_Topo) : Option (Sl topo_place) :=
  (loopN 100000 (topo_places_L1_c t_0) (Sl.nil, 0)).bind fun s5 =>
  (loopN 100000 (topo_places_L2_c t_0) (s5, 0)).bind fun s19 =>
  some s19
theorem topo_places_le (t_0 : api_Topo) : OLe (topo_places_c t_0) (topo_places t_0) := by
  unfold topo_places_c topo_places
  repeat' first
    | with_reducible apply topo_places_L1_le
    | with_reducible apply topo_places_L2_le
    | with_reducible refine OLe.loop (fun _ => ?_) _ _
    | with_reducible refine OLe.lend (fun _ => ?_) ?_
    | with_reducible refine OLe.cond ?_ ?_
    | with_reducible refine OLe.bind ?_ (fun _ => ?_)
    | (split <;> try dsimp only)
    | with_reducible exact OLe.refl _

def topo_Right_L1_c (t_0 : api_Topo) : Int → Option (Sum (Int) (Sum (Unit) (Unit))) := fun i7 =>
  bif decide (i7 < (t_0.Links.l.length : Int)) then ((ixI i7 t_0.Links.l.length).bind fun n12 =>
  bif ((((gt t_0.Links.l n12).A) == ((gt t_0.Links.l n12).B)) || ((decide (((gt t_0.Links.l n12).Least) < 1)) || ((decide (((gt t_0.Links.l n12).Least) > ((gt t_0.Links.l n12).Most))) || (decide (((gt t_0.Links.l n12).Most) > 1000))))) then (some (.inr (.inl ()))) else
  (some (.inl (wr .i64 (i7 + 1))))) else
  (some (.inr (.inr ())))
theorem topo_Right_L1_le (t_0 : api_Topo) : ∀ s, OLe (topo_Right_L1_c t_0 s) (topo_Right_L1 t_0 s) := by
  intro s
  unfold topo_Right_L1_c topo_Right_L1
  repeat' first
    | with_reducible refine OLe.loop (fun _ => ?_) _ _
    | with_reducible refine OLe.lend (fun _ => ?_) ?_
    | with_reducible refine OLe.cond ?_ ?_
    | with_reducible refine OLe.bind ?_ (fun _ => ?_)
    | (split <;> try dsimp only)
    | with_reducible exact OLe.refl _

def topo_Right_L2_c (t_0 : api_Topo) (r21 : Sl topo_place) : (Mp topo_place Int × Int) → Option (Sum ((Mp topo_place Int × Int)) (Sum (Unit) (Unit))) := fun (m23, i24) =>
  bif decide (i24 < (r21.l.length : Int)) then ((ixI i24 r21.l.length).bind fun n30 =>
  (mpSet ((mpEnt m23 0 (gt r21.l n30)).1) ((mpEnt m23 0 (gt r21.l n30)).2.2) (wr .i64 ((mpGet m23 0 (gt r21.l n30)) + 1))).bind fun m32 =>
  bif ((decide (((gt r21.l n30).sw) < 0)) || ((decide (((gt r21.l n30).sw) ≥ t_0.Switches)) || ((decide (((gt r21.l n30).port) < 0)) || ((decide (((gt r21.l n30).port) ≥ 8)) || (decide ((mpGet m32 0 (gt r21.l n30)) > 1)))))) then (some (.inr (.inl ()))) else
  (some (.inl (m32, wr .i64 (i24 + 1))))) else
  (some (.inr (.inr ())))
theorem topo_Right_L2_le (t_0 : api_Topo) (r21 : Sl topo_place) : ∀ s, OLe (topo_Right_L2_c t_0 r21 s) (topo_Right_L2 t_0 r21 s) := by
  intro s
  unfold topo_Right_L2_c topo_Right_L2
  repeat' first
    | with_reducible refine OLe.loop (fun _ => ?_) _ _
    | with_reducible refine OLe.lend (fun _ => ?_) ?_
    | with_reducible refine OLe.cond ?_ ?_
    | with_reducible refine OLe.bind ?_ (fun _ => ?_)
    | (split <;> try dsimp only)
    | with_reducible exact OLe.refl _

def topo_Right_c (t_0 : api_Topo) : Option (Bool) :=
  bif ((decide (t_0.Switches < 1)) || ((decide (t_0.Switches > 8)) || ((decide ((t_0.Links.l.length : Int) > 24)) || (decide ((t_0.Hosts.l.length : Int) > 8))))) then (some false) else
  ((loopN 100000 (topo_Right_L1_c t_0) 0).bind fun
  | .inl _ => (some false)
  | .inr (_) => ((topo_places_c t_0).bind fun r21 =>
  (loopN 100000 (topo_Right_L2_c t_0 r21) ((Mp.none : Mp topo_place Int), 0)).bind fun
  | .inl _ => (some false)
  | .inr (_) => (some true)))
theorem topo_Right_le (t_0 : api_Topo) : OLe (topo_Right_c t_0) (topo_Right t_0) := by
  unfold topo_Right_c topo_Right
  repeat' first
    | with_reducible apply topo_Right_L1_le
    | with_reducible apply topo_places_le
    | with_reducible apply topo_Right_L2_le
    | with_reducible refine OLe.loop (fun _ => ?_) _ _
    | with_reducible refine OLe.lend (fun _ => ?_) ?_
    | with_reducible refine OLe.cond ?_ ?_
    | with_reducible refine OLe.bind ?_ (fun _ => ?_)
    | (split <;> try dsimp only)
    | with_reducible exact OLe.refl _

def slices_Index_api_Host_api_Host_L1_c (s_0 : Sl api_Host) (v_1 : api_Host) : Int → Option (Sum (Int) (Sum (Int) (Unit))) := fun i1 =>
  bif decide (i1 < (s_0.l.length : Int)) then ((ixI i1 s_0.l.length).bind fun n7 =>
  bif ((v_1.At == ((gt s_0.l n7).At)) && ((v_1.Port == ((gt s_0.l n7).Port)) && true)) then (some (.inr (.inl i1))) else
  (some (.inl (wr .i64 (i1 + 1))))) else
  (some (.inr (.inr ())))
theorem slices_Index_api_Host_api_Host_L1_le (s_0 : Sl api_Host) (v_1 : api_Host) : ∀ s, OLe (slices_Index_api_Host_api_Host_L1_c s_0 v_1 s) (slices_Index_api_Host_api_Host_L1 s_0 v_1 s) := by
  intro s
  unfold slices_Index_api_Host_api_Host_L1_c slices_Index_api_Host_api_Host_L1
  repeat' first
    | with_reducible refine OLe.loop (fun _ => ?_) _ _
    | with_reducible refine OLe.lend (fun _ => ?_) ?_
    | with_reducible refine OLe.cond ?_ ?_
    | with_reducible refine OLe.bind ?_ (fun _ => ?_)
    | (split <;> try dsimp only)
    | with_reducible exact OLe.refl _

def slices_Index_api_Host_api_Host_c (s_0 : Sl api_Host) (v_1 : api_Host) : Option (Int) :=
  (loopN 100000 (slices_Index_api_Host_api_Host_L1_c s_0 v_1) 0).bind fun
  | .inl i3 => (some i3)
  | .inr (_) => (some (-1))
theorem slices_Index_api_Host_api_Host_le (s_0 : Sl api_Host) (v_1 : api_Host) : OLe (slices_Index_api_Host_api_Host_c s_0 v_1) (slices_Index_api_Host_api_Host s_0 v_1) := by
  unfold slices_Index_api_Host_api_Host_c slices_Index_api_Host_api_Host
  repeat' first
    | with_reducible apply slices_Index_api_Host_api_Host_L1_le
    | with_reducible refine OLe.loop (fun _ => ?_) _ _
    | with_reducible refine OLe.lend (fun _ => ?_) ?_
    | with_reducible refine OLe.cond ?_ ?_
    | with_reducible refine OLe.bind ?_ (fun _ => ?_)
    | (split <;> try dsimp only)
    | with_reducible exact OLe.refl _

def topo_HostAt_c (t_0 : api_Topo) (sw_1 : Int) (port_2 : Int) : Option (Int) :=
  (slices_Index_api_Host_api_Host_c t_0.Hosts (⟨sw_1, port_2⟩ : api_Host)).bind fun r1 =>
  some r1
theorem topo_HostAt_le (t_0 : api_Topo) (sw_1 : Int) (port_2 : Int) : OLe (topo_HostAt_c t_0 sw_1 port_2) (topo_HostAt t_0 sw_1 port_2) := by
  unfold topo_HostAt_c topo_HostAt
  repeat' first
    | with_reducible apply slices_Index_api_Host_api_Host_le
    | with_reducible refine OLe.loop (fun _ => ?_) _ _
    | with_reducible refine OLe.lend (fun _ => ?_) ?_
    | with_reducible refine OLe.cond ?_ ?_
    | with_reducible refine OLe.bind ?_ (fun _ => ?_)
    | (split <;> try dsimp only)
    | with_reducible exact OLe.refl _

def math_bits_Mul64_c (x_0 : Int) (y_1 : Int) : Option ((Int × Int)) :=
  some (wr .u64 ((wr .u64 ((wr .u64 ((bShr .u64 x_0 32) * (bShr .u64 y_1 32))) + (bShr .u64 (wr .u64 ((wr .u64 ((bShr .u64 x_0 32) * (bAnd .u64 y_1 4294967295))) + (bShr .u64 (wr .u64 ((bAnd .u64 x_0 4294967295) * (bAnd .u64 y_1 4294967295))) 32))) 32))) + (bShr .u64 (wr .u64 ((bAnd .u64 (wr .u64 ((wr .u64 ((bShr .u64 x_0 32) * (bAnd .u64 y_1 4294967295))) + (bShr .u64 (wr .u64 ((bAnd .u64 x_0 4294967295) * (bAnd .u64 y_1 4294967295))) 32))) 4294967295) + (wr .u64 ((bAnd .u64 x_0 4294967295) * (bShr .u64 y_1 32))))) 32)), wr .u64 (x_0 * y_1))
theorem math_bits_Mul64_le (x_0 : Int) (y_1 : Int) : OLe (math_bits_Mul64_c x_0 y_1) (math_bits_Mul64 x_0 y_1) := by
  unfold math_bits_Mul64_c math_bits_Mul64
  repeat' first
    | with_reducible refine OLe.loop (fun _ => ?_) _ _
    | with_reducible refine OLe.lend (fun _ => ?_) ?_
    | with_reducible refine OLe.cond ?_ ?_
    | with_reducible refine OLe.bind ?_ (fun _ => ?_)
    | (split <;> try dsimp only)
    | with_reducible exact OLe.refl _

def math_bits_Mul_c (x_0 : Int) (y_1 : Int) : Option ((Int × Int)) :=
  (math_bits_Mul64_c x_0 y_1).bind fun (r1, r2) =>
  some (r1, r2)
theorem math_bits_Mul_le (x_0 : Int) (y_1 : Int) : OLe (math_bits_Mul_c x_0 y_1) (math_bits_Mul x_0 y_1) := by
  unfold math_bits_Mul_c math_bits_Mul
  repeat' first
    | with_reducible apply math_bits_Mul64_le
    | with_reducible refine OLe.loop (fun _ => ?_) _ _
    | with_reducible refine OLe.lend (fun _ => ?_) ?_
    | with_reducible refine OLe.cond ?_ ?_
    | with_reducible refine OLe.bind ?_ (fun _ => ?_)
    | (split <;> try dsimp only)
    | with_reducible exact OLe.refl _

def slices_Repeat_int_int_L1_c : (List Int × Int) → Option (Sum ((List Int × Int)) (List Int)) := fun (l15, i16) =>
  bif decide (i16 < (l15.length : Int)) then ((cutI l15 i16 l15.length).bind fun l23 =>
  (cutI l15 0 i16).bind fun l25 =>
  some (.inl ((cpL l15 i16.toNat l23.length l25), wr .i64 (i16 + ((min l25.length l23.length : Nat) : Int))))) else
  (some (.inr l15))
theorem slices_Repeat_int_int_L1_le : ∀ s, OLe (slices_Repeat_int_int_L1_c s) (slices_Repeat_int_int_L1 s) := by
  intro s
  unfold slices_Repeat_int_int_L1_c slices_Repeat_int_int_L1
  repeat' first
    | with_reducible refine OLe.loop (fun _ => ?_) _ _
    | with_reducible refine OLe.lend (fun _ => ?_) ?_
    | with_reducible refine OLe.cond ?_ ?_
    | with_reducible refine OLe.bind ?_ (fun _ => ?_)
    | (split <;> try dsimp only)
    | with_reducible exact OLe.refl _

def slices_Repeat_int_int_c (x_0 : Sl Int) (count_1 : Int) : Option (Sl Int) :=
  bif decide (count_1 < 0) then (((none : Option Unit)).bind fun _ =>
  none) else
  ((math_bits_Mul_c (wr .u64 (x_0.l.length : Int)) (wr .u64 count_1)).bind fun (r4, r5) =>
  bif ((decide (r4 > 0)) || (decide (r5 > 9223372036854775807))) then (((none : Option Unit)).bind fun _ =>
  none) else
  ((mkI 0 (wr .i64 r5) (wr .i64 r5)).bind fun l13 =>
  (loopN 100000 (slices_Repeat_int_int_L1_c) ((cpL l13 0 l13.length x_0.l), ((min x_0.l.length l13.length : Nat) : Int))).bind fun l19 =>
  some (Sl.mk l19)))
theorem slices_Repeat_int_int_le (x_0 : Sl Int) (count_1 : Int) : OLe (slices_Repeat_int_int_c x_0 count_1) (slices_Repeat_int_int x_0 count_1) := by
  unfold slices_Repeat_int_int_c slices_Repeat_int_int
  repeat' first
    | with_reducible apply math_bits_Mul_le
    | with_reducible apply slices_Repeat_int_int_L1_le
    | with_reducible refine OLe.loop (fun _ => ?_) _ _
    | with_reducible refine OLe.lend (fun _ => ?_) ?_
    | with_reducible refine OLe.cond ?_ ?_
    | with_reducible refine OLe.bind ?_ (fun _ => ?_)
    | (split <;> try dsimp only)
    | with_reducible exact OLe.refl _

def math_bits_Len64_c (x_0 : Int) : Option (Int) :=
  (bif decide (x_0 ≥ 4294967296) then (some (bShr .u64 x_0 32, 32)) else
  (some (x_0, 0)) : Option ((Int × Int))).bind fun (i1, i2) =>
  (bif decide (i1 ≥ 65536) then (some (bShr .u64 i1 16, wr .i64 (i2 + 16))) else
  (some (i1, i2)) : Option ((Int × Int))).bind fun (i7, i8) =>
  (bif decide (i7 ≥ 256) then (some (bShr .u64 i7 8, wr .i64 (i8 + 8))) else
  (some (i7, i8)) : Option ((Int × Int))).bind fun (i13, i14) =>
  (atS (⟨#[0,1,2,2,3,3,3,3,4,4,4,4,4,4,4,4,5,5,5,5,5,5,5,5,5,5,5,5,5,5,5,5,6,6,6,6,6,6,6,6,6,6,6,6,6,6,6,6,6,6,6,6,6,6,6,6,6,6,6,6,6,6,6,6,7,7,7,7,7,7,7,7,7,7,7,7,7,7,7,7,7,7,7,7,7,7,7,7,7,7,7,7,7,7,7,7,7,7,7,7,7,7,7,7,7,7,7,7,7,7,7,7,7,7,7,7,7,7,7,7,7,7,7,7,7,7,7,7,8,8,8,8,8,8,8,8,8,8,8,8,8,8,8,8,8,8,8,8,8,8,8,8,8,8,8,8,8,8,8,8,8,8,8,8,8,8,8,8,8,8,8,8,8,8,8,8,8,8,8,8,8,8,8,8,8,8,8,8,8,8,8,8,8,8,8,8,8,8,8,8,8,8,8,8,8,8,8,8,8,8,8,8,8,8,8,8,8,8,8,8,8,8,8,8,8,8,8,8,8,8,8,8,8,8,8,8,8,8,8,8,8,8,8,8,8,8,8,8,8,8,8,8,8,8,8,8]⟩ : ByteArray) (wr .u8 i13)).bind fun b19 =>
  some (wr .i64 (i14 + (wr .i64 b19)))
theorem math_bits_Len64_le (x_0 : Int) : OLe (math_bits_Len64_c x_0) (math_bits_Len64 x_0) := by
  unfold math_bits_Len64_c math_bits_Len64
  repeat' first
    | with_reducible refine OLe.loop (fun _ => ?_) _ _
    | with_reducible refine OLe.lend (fun _ => ?_) ?_
    | with_reducible refine OLe.cond ?_ ?_
    | with_reducible refine OLe.bind ?_ (fun _ => ?_)
    | (split <;> try dsimp only)
    | with_reducible exact OLe.refl _

def math_bits_Len_c (x_0 : Int) : Option (Int) :=
  (math_bits_Len64_c x_0).bind fun r1 =>
  some r1
theorem math_bits_Len_le (x_0 : Int) : OLe (math_bits_Len_c x_0) (math_bits_Len x_0) := by
  unfold math_bits_Len_c math_bits_Len
  repeat' first
    | with_reducible apply math_bits_Len64_le
    | with_reducible refine OLe.loop (fun _ => ?_) _ _
    | with_reducible refine OLe.lend (fun _ => ?_) ?_
    | with_reducible refine OLe.cond ?_ ?_
    | with_reducible refine OLe.bind ?_ (fun _ => ?_)
    | (split <;> try dsimp only)
    | with_reducible exact OLe.refl _

def cmp_isNaN_int_c (x_0 : Int) : Option (Bool) :=
  some (x_0 != x_0)
theorem cmp_isNaN_int_le (x_0 : Int) : OLe (cmp_isNaN_int_c x_0) (cmp_isNaN_int x_0) := by
  unfold cmp_isNaN_int_c cmp_isNaN_int
  repeat' first
    | with_reducible refine OLe.loop (fun _ => ?_) _ _
    | with_reducible refine OLe.lend (fun _ => ?_) ?_
    | with_reducible refine OLe.cond ?_ ?_
    | with_reducible refine OLe.bind ?_ (fun _ => ?_)
    | (split <;> try dsimp only)
    | with_reducible exact OLe.refl _

def cmp_Compare_int_c (x_0 : Int) (y_1 : Int) : Option (Int) :=
  (cmp_isNaN_int_c x_0).bind fun r1 =>
  (cmp_isNaN_int_c y_1).bind fun r3 =>
  bif r1 then (bif r3 then (some 0) else
  (some (-1))) else
  (bif r3 then (some 1) else
  (bif decide (x_0 < y_1) then (some (-1)) else
  (bif decide (x_0 > y_1) then (some 1) else
  (some 0))))
theorem cmp_Compare_int_le (x_0 : Int) (y_1 : Int) : OLe (cmp_Compare_int_c x_0 y_1) (cmp_Compare_int x_0 y_1) := by
  unfold cmp_Compare_int_c cmp_Compare_int
  repeat' first
    | with_reducible apply cmp_isNaN_int_le
    | with_reducible refine OLe.loop (fun _ => ?_) _ _
    | with_reducible refine OLe.lend (fun _ => ?_) ?_
    | with_reducible refine OLe.cond ?_ ?_
    | with_reducible refine OLe.bind ?_ (fun _ => ?_)
    | (split <;> try dsimp only)
    | with_reducible exact OLe.refl _

def topo_Near_1_c (a_0 : topo_Side) (b_1 : topo_Side) : Option (Int) :=
  (cmp_Compare_int_c a_0.Port b_1.Port).bind fun r1 =>
  some r1
theorem topo_Near_1_le (a_0 : topo_Side) (b_1 : topo_Side) : OLe (topo_Near_1_c a_0 b_1) (topo_Near_1 a_0 b_1) := by
  unfold topo_Near_1_c topo_Near_1
  repeat' first
    | with_reducible apply cmp_Compare_int_le
    | with_reducible refine OLe.loop (fun _ => ?_) _ _
    | with_reducible refine OLe.lend (fun _ => ?_) ?_
    | with_reducible refine OLe.cond ?_ ?_
    | with_reducible refine OLe.bind ?_ (fun _ => ?_)
    | (split <;> try dsimp only)
    | with_reducible exact OLe.refl _

def slices_insertionSortCmpFunc_topo_Side_topo_Near_1_L2_c (a_1 : Int) : (List topo_Side × Int) → Option (Sum ((List topo_Side × Int)) (List topo_Side)) := fun (l9, i10) =>
  (bif decide (i10 > a_1) then ((ixI i10 l9.length).bind fun n16 =>
  (ixI (wr .i64 (i10 - 1)) l9.length).bind fun n18 =>
  (topo_Near_1_c (gt l9 n16) (gt l9 n18)).bind fun r20 =>
  some (decide (r20 < 0))) else (some false)).bind fun b22 =>
  bif b22 then ((ixI (wr .i64 (i10 - 1)) l9.length).bind fun n27 =>
  (ixI i10 l9.length).bind fun n29 =>
  (ixI (wr .i64 (i10 - 1)) (l9.set n29 (gt l9 n27)).length).bind fun n31 =>
  some (.inl (((l9.set n29 (gt l9 n27)).set n31 (gt l9 n29)), wr .i64 (i10 - 1)))) else
  (some (.inr l9))
theorem slices_insertionSortCmpFunc_topo_Side_topo_Near_1_L2_le (a_1 : Int) : ∀ s, OLe (slices_insertionSortCmpFunc_topo_Side_topo_Near_1_L2_c a_1 s) (slices_insertionSortCmpFunc_topo_Side_topo_Near_1_L2 a_1 s) := by
  intro s
  unfold slices_insertionSortCmpFunc_topo_Side_topo_Near_1_L2_c slices_insertionSortCmpFunc_topo_Side_topo_Near_1_L2
  repeat' first
    | with_reducible apply topo_Near_1_le
    | with_reducible refine OLe.loop (fun _ => ?_) _ _
    | with_reducible refine OLe.lend (fun _ => ?_) ?_
    | with_reducible refine OLe.cond ?_ ?_
    | with_reducible refine OLe.bind ?_ (fun _ => ?_)
    | (split <;> try dsimp only)
    | with_reducible exact OLe.refl _

def slices_insertionSortCmpFunc_topo_Side_topo_Near_1_L1_c (a_1 : Int) (b_2 : Int) : (List topo_Side × Int) → Option (Sum ((List topo_Side × Int)) (List topo_Side)) := fun (l1, i2) =>
  bif decide (i2 < b_2) then ((loopN 100000 (slices_insertionSortCmpFunc_topo_Side_topo_Near_1_L2_c a_1) (l1, i2)).bind fun l13 =>
  some (.inl (l13, wr .i64 (i2 + 1)))) else
  (some (.inr l1))
theorem slices_insertionSortCmpFunc_topo_Side_topo_Near_1_L1_le (a_1 : Int) (b_2 : Int) : ∀ s, OLe (slices_insertionSortCmpFunc_topo_Side_topo_Near_1_L1_c a_1 b_2 s) (slices_insertionSortCmpFunc_topo_Side_topo_Near_1_L1 a_1 b_2 s) := by
  intro s
  unfold slices_insertionSortCmpFunc_topo_Side_topo_Near_1_L1_c slices_insertionSortCmpFunc_topo_Side_topo_Near_1_L1
  repeat' first
    | with_reducible apply slices_insertionSortCmpFunc_topo_Side_topo_Near_1_L2_le
    | with_reducible refine OLe.loop (fun _ => ?_) _ _
    | with_reducible refine OLe.lend (fun _ => ?_) ?_
    | with_reducible refine OLe.cond ?_ ?_
    | with_reducible refine OLe.bind ?_ (fun _ => ?_)
    | (split <;> try dsimp only)
    | with_reducible exact OLe.refl _

def slices_insertionSortCmpFunc_topo_Side_topo_Near_1_c (data_0 : List topo_Side) (a_1 : Int) (b_2 : Int) : Option (List topo_Side) :=
  (loopN 100000 (slices_insertionSortCmpFunc_topo_Side_topo_Near_1_L1_c a_1 b_2) (data_0, wr .i64 (a_1 + 1))).bind fun l5 =>
  some l5
theorem slices_insertionSortCmpFunc_topo_Side_topo_Near_1_le (data_0 : List topo_Side) (a_1 : Int) (b_2 : Int) : OLe (slices_insertionSortCmpFunc_topo_Side_topo_Near_1_c data_0 a_1 b_2) (slices_insertionSortCmpFunc_topo_Side_topo_Near_1 data_0 a_1 b_2) := by
  unfold slices_insertionSortCmpFunc_topo_Side_topo_Near_1_c slices_insertionSortCmpFunc_topo_Side_topo_Near_1
  repeat' first
    | with_reducible apply slices_insertionSortCmpFunc_topo_Side_topo_Near_1_L1_le
    | with_reducible refine OLe.loop (fun _ => ?_) _ _
    | with_reducible refine OLe.lend (fun _ => ?_) ?_
    | with_reducible refine OLe.cond ?_ ?_
    | with_reducible refine OLe.bind ?_ (fun _ => ?_)
    | (split <;> try dsimp only)
    | with_reducible exact OLe.refl _

def slices_pdqsortCmpFunc_topo_Side_topo_Near_1_L1_c (data_0 : List topo_Side) (a_1 : Int) (b_2 : Int) (limit_3 : Int) : Unit → Option (Sum (Unit) (List topo_Side)) := fun _ =>
  bif decide ((wr .i64 (b_2 - a_1)) ≤ 12) then ((slices_insertionSortCmpFunc_topo_Side_topo_Near_1_c data_0 a_1 b_2).bind fun l5 =>
  (lenI l5 data_0).bind fun _ =>
  some (.inr (l5))) else
  (bif (limit_3 == 0) then (((none : Option Unit)).bind fun _ =>
  none) else
  (bif (!true) then (((none : Option Unit)).bind fun _ =>
  none) else
  (((none : Option Unit)).bind fun _ =>
  none)))
theorem slices_pdqsortCmpFunc_topo_Side_topo_Near_1_L1_le (data_0 : List topo_Side) (a_1 : Int) (b_2 : Int) (limit_3 : Int) : ∀ s, OLe (slices_pdqsortCmpFunc_topo_Side_topo_Near_1_L1_c data_0 a_1 b_2 limit_3 s) (slices_pdqsortCmpFunc_topo_Side_topo_Near_1_L1 data_0 a_1 b_2 limit_3 s) := by
  intro s
  unfold slices_pdqsortCmpFunc_topo_Side_topo_Near_1_L1_c slices_pdqsortCmpFunc_topo_Side_topo_Near_1_L1
  repeat' first
    | with_reducible apply slices_insertionSortCmpFunc_topo_Side_topo_Near_1_le
    | with_reducible refine OLe.loop (fun _ => ?_) _ _
    | with_reducible refine OLe.lend (fun _ => ?_) ?_
    | with_reducible refine OLe.cond ?_ ?_
    | with_reducible refine OLe.bind ?_ (fun _ => ?_)
    | (split <;> try dsimp only)
    | with_reducible exact OLe.refl _

def slices_pdqsortCmpFunc_topo_Side_topo_Near_1_c (data_0 : List topo_Side) (a_1 : Int) (b_2 : Int) (limit_3 : Int) : Option (List topo_Side) :=
  (loopN 100000 (slices_pdqsortCmpFunc_topo_Side_topo_Near_1_L1_c data_0 a_1 b_2 limit_3) ()).bind fun l1 =>
  some l1
theorem slices_pdqsortCmpFunc_topo_Side_topo_Near_1_le (data_0 : List topo_Side) (a_1 : Int) (b_2 : Int) (limit_3 : Int) : OLe (slices_pdqsortCmpFunc_topo_Side_topo_Near_1_c data_0 a_1 b_2 limit_3) (slices_pdqsortCmpFunc_topo_Side_topo_Near_1 data_0 a_1 b_2 limit_3) := by
  unfold slices_pdqsortCmpFunc_topo_Side_topo_Near_1_c slices_pdqsortCmpFunc_topo_Side_topo_Near_1
  repeat' first
    | with_reducible apply slices_pdqsortCmpFunc_topo_Side_topo_Near_1_L1_le
    | with_reducible refine OLe.loop (fun _ => ?_) _ _
    | with_reducible refine OLe.lend (fun _ => ?_) ?_
    | with_reducible refine OLe.cond ?_ ?_
    | with_reducible refine OLe.bind ?_ (fun _ => ?_)
    | (split <;> try dsimp only)
    | with_reducible exact OLe.refl _

def slices_SortFunc_topo_Side_topo_Side_topo_Near_1_c (x_0 : List topo_Side) : Option (List topo_Side) :=
  (math_bits_Len_c (wr .u64 (x_0.length : Int))).bind fun r1 =>
  (slices_pdqsortCmpFunc_topo_Side_topo_Near_1_c x_0 0 (x_0.length : Int) r1).bind fun l3 =>
  (lenI l3 x_0).bind fun _ =>
  some (l3)
theorem slices_SortFunc_topo_Side_topo_Side_topo_Near_1_le (x_0 : List topo_Side) : OLe (slices_SortFunc_topo_Side_topo_Side_topo_Near_1_c x_0) (slices_SortFunc_topo_Side_topo_Side_topo_Near_1 x_0) := by
  unfold slices_SortFunc_topo_Side_topo_Side_topo_Near_1_c slices_SortFunc_topo_Side_topo_Side_topo_Near_1
  repeat' first
    | with_reducible apply math_bits_Len_le
    | with_reducible apply slices_pdqsortCmpFunc_topo_Side_topo_Near_1_le
    | with_reducible refine OLe.loop (fun _ => ?_) _ _
    | with_reducible refine OLe.lend (fun _ => ?_) ?_
    | with_reducible refine OLe.cond ?_ ?_
    | with_reducible refine OLe.bind ?_ (fun _ => ?_)
    | (split <;> try dsimp only)
    | with_reducible exact OLe.refl _

def slices_insertionSortCmpFunc_topo_Side_nil_topo_Near_1_L2_c (a_1 : Int) (i1 : Int) : Unit → Option (Sum (Unit) (Unit)) := fun _ =>
  (bif decide (i1 > a_1) then (((none : Option Nat)).bind fun _ =>
  none) else (some ())).bind fun _ =>
  some (.inr ())
theorem slices_insertionSortCmpFunc_topo_Side_nil_topo_Near_1_L2_le (a_1 : Int) (i1 : Int) : ∀ s, OLe (slices_insertionSortCmpFunc_topo_Side_nil_topo_Near_1_L2_c a_1 i1 s) (slices_insertionSortCmpFunc_topo_Side_nil_topo_Near_1_L2 a_1 i1 s) := by
  intro s
  unfold slices_insertionSortCmpFunc_topo_Side_nil_topo_Near_1_L2_c slices_insertionSortCmpFunc_topo_Side_nil_topo_Near_1_L2
  repeat' first
    | with_reducible refine OLe.loop (fun _ => ?_) _ _
    | with_reducible refine OLe.lend (fun _ => ?_) ?_
    | with_reducible refine OLe.cond ?_ ?_
    | with_reducible refine OLe.bind ?_ (fun _ => ?_)
    | (split <;> try dsimp only)
    | with_reducible exact OLe.refl _

def slices_insertionSortCmpFunc_topo_Side_nil_topo_Near_1_L1_c (a_1 : Int) (b_2 : Int) : Int → Option (Sum (Int) (Unit)) := fun i1 =>
  bif decide (i1 < b_2) then ((loopN 100000 (slices_insertionSortCmpFunc_topo_Side_nil_topo_Near_1_L2_c a_1 i1) ()).bind fun _ =>
  some (.inl (wr .i64 (i1 + 1)))) else
  (some (.inr ()))
theorem slices_insertionSortCmpFunc_topo_Side_nil_topo_Near_1_L1_le (a_1 : Int) (b_2 : Int) : ∀ s, OLe (slices_insertionSortCmpFunc_topo_Side_nil_topo_Near_1_L1_c a_1 b_2 s) (slices_insertionSortCmpFunc_topo_Side_nil_topo_Near_1_L1 a_1 b_2 s) := by
  intro s
  unfold slices_insertionSortCmpFunc_topo_Side_nil_topo_Near_1_L1_c slices_insertionSortCmpFunc_topo_Side_nil_topo_Near_1_L1
  repeat' first
    | with_reducible apply slices_insertionSortCmpFunc_topo_Side_nil_topo_Near_1_L2_le
    | with_reducible refine OLe.loop (fun _ => ?_) _ _
    | with_reducible refine OLe.lend (fun _ => ?_) ?_
    | with_reducible refine OLe.cond ?_ ?_
    | with_reducible refine OLe.bind ?_ (fun _ => ?_)
    | (split <;> try dsimp only)
    | with_reducible exact OLe.refl _

def slices_insertionSortCmpFunc_topo_Side_nil_topo_Near_1_c (a_1 : Int) (b_2 : Int) : Option (Unit) :=
  (loopN 100000 (slices_insertionSortCmpFunc_topo_Side_nil_topo_Near_1_L1_c a_1 b_2) (wr .i64 (a_1 + 1))).bind fun _ =>
  some ()
theorem slices_insertionSortCmpFunc_topo_Side_nil_topo_Near_1_le (a_1 : Int) (b_2 : Int) : OLe (slices_insertionSortCmpFunc_topo_Side_nil_topo_Near_1_c a_1 b_2) (slices_insertionSortCmpFunc_topo_Side_nil_topo_Near_1 a_1 b_2) := by
  unfold slices_insertionSortCmpFunc_topo_Side_nil_topo_Near_1_c slices_insertionSortCmpFunc_topo_Side_nil_topo_Near_1
  repeat' first
    | with_reducible apply slices_insertionSortCmpFunc_topo_Side_nil_topo_Near_1_L1_le
    | with_reducible refine OLe.loop (fun _ => ?_) _ _
    | with_reducible refine OLe.lend (fun _ => ?_) ?_
    | with_reducible refine OLe.cond ?_ ?_
    | with_reducible refine OLe.bind ?_ (fun _ => ?_)
    | (split <;> try dsimp only)
    | with_reducible exact OLe.refl _

def slices_pdqsortCmpFunc_topo_Side_nil_topo_Near_1_L1_c (a_1 : Int) (b_2 : Int) (limit_3 : Int) : Unit → Option (Sum (Unit) (Unit)) := fun _ =>
  bif decide ((wr .i64 (b_2 - a_1)) ≤ 12) then ((slices_insertionSortCmpFunc_topo_Side_nil_topo_Near_1_c a_1 b_2).bind fun _ =>
  some (.inr ())) else
  (bif (limit_3 == 0) then (((none : Option Unit)).bind fun _ =>
  none) else
  (bif (!true) then (((none : Option Unit)).bind fun _ =>
  none) else
  (((none : Option Unit)).bind fun _ =>
  none)))
theorem slices_pdqsortCmpFunc_topo_Side_nil_topo_Near_1_L1_le (a_1 : Int) (b_2 : Int) (limit_3 : Int) : ∀ s, OLe (slices_pdqsortCmpFunc_topo_Side_nil_topo_Near_1_L1_c a_1 b_2 limit_3 s) (slices_pdqsortCmpFunc_topo_Side_nil_topo_Near_1_L1 a_1 b_2 limit_3 s) := by
  intro s
  unfold slices_pdqsortCmpFunc_topo_Side_nil_topo_Near_1_L1_c slices_pdqsortCmpFunc_topo_Side_nil_topo_Near_1_L1
  repeat' first
    | with_reducible apply slices_insertionSortCmpFunc_topo_Side_nil_topo_Near_1_le
    | with_reducible refine OLe.loop (fun _ => ?_) _ _
    | with_reducible refine OLe.lend (fun _ => ?_) ?_
    | with_reducible refine OLe.cond ?_ ?_
    | with_reducible refine OLe.bind ?_ (fun _ => ?_)
    | (split <;> try dsimp only)
    | with_reducible exact OLe.refl _

def slices_pdqsortCmpFunc_topo_Side_nil_topo_Near_1_c (a_1 : Int) (b_2 : Int) (limit_3 : Int) : Option (Unit) :=
  (loopN 100000 (slices_pdqsortCmpFunc_topo_Side_nil_topo_Near_1_L1_c a_1 b_2 limit_3) ()).bind fun _ =>
  some ()
theorem slices_pdqsortCmpFunc_topo_Side_nil_topo_Near_1_le (a_1 : Int) (b_2 : Int) (limit_3 : Int) : OLe (slices_pdqsortCmpFunc_topo_Side_nil_topo_Near_1_c a_1 b_2 limit_3) (slices_pdqsortCmpFunc_topo_Side_nil_topo_Near_1 a_1 b_2 limit_3) := by
  unfold slices_pdqsortCmpFunc_topo_Side_nil_topo_Near_1_c slices_pdqsortCmpFunc_topo_Side_nil_topo_Near_1
  repeat' first
    | with_reducible apply slices_pdqsortCmpFunc_topo_Side_nil_topo_Near_1_L1_le
    | with_reducible refine OLe.loop (fun _ => ?_) _ _
    | with_reducible refine OLe.lend (fun _ => ?_) ?_
    | with_reducible refine OLe.cond ?_ ?_
    | with_reducible refine OLe.bind ?_ (fun _ => ?_)
    | (split <;> try dsimp only)
    | with_reducible exact OLe.refl _

def slices_SortFunc_topo_Side_topo_Side_nil_topo_Near_1_c : Option (Unit) :=
  (math_bits_Len_c (wr .u64 0)).bind fun r1 =>
  (slices_pdqsortCmpFunc_topo_Side_nil_topo_Near_1_c 0 0 r1).bind fun _ =>
  some ()
theorem slices_SortFunc_topo_Side_topo_Side_nil_topo_Near_1_le : OLe (slices_SortFunc_topo_Side_topo_Side_nil_topo_Near_1_c) (slices_SortFunc_topo_Side_topo_Side_nil_topo_Near_1) := by
  unfold slices_SortFunc_topo_Side_topo_Side_nil_topo_Near_1_c slices_SortFunc_topo_Side_topo_Side_nil_topo_Near_1
  repeat' first
    | with_reducible apply math_bits_Len_le
    | with_reducible apply slices_pdqsortCmpFunc_topo_Side_nil_topo_Near_1_le
    | with_reducible refine OLe.loop (fun _ => ?_) _ _
    | with_reducible refine OLe.lend (fun _ => ?_) ?_
    | with_reducible refine OLe.cond ?_ ?_
    | with_reducible refine OLe.bind ?_ (fun _ => ?_)
    | (split <;> try dsimp only)
    | with_reducible exact OLe.refl _

def topo_Near_L1_c (t_0 : api_Topo) (sw_1 : Int) : (Sl topo_Side × Int) → Option (Sum ((Sl topo_Side × Int)) (Sl topo_Side)) := fun (s1, i2) =>
  bif decide (i2 < (t_0.Links.l.length : Int)) then (((ixI i2 t_0.Links.l.length).bind fun n12 =>
  (bif (((gt t_0.Links.l n12).A) == sw_1) then ((capI (s1.l ++ [(⟨(gt t_0.Links.l n12).PortA, (gt t_0.Links.l n12).B, i2⟩ : topo_Side)])).bind fun l18 =>
  some (Sl.mk l18)) else
  (some s1) : Option (Sl topo_Side)).bind fun s14 =>
  bif (((gt t_0.Links.l n12).B) == sw_1) then ((capI (s14.l ++ [(⟨(gt t_0.Links.l n12).PortB, (gt t_0.Links.l n12).A, i2⟩ : topo_Side)])).bind fun l23 =>
  some (Sl.mk l23)) else
  (some s14) : Option (Sl topo_Side)).bind fun s9 =>
  some (.inl (s9, wr .i64 (i2 + 1)))) else
  (some (.inr s1))
theorem topo_Near_L1_le (t_0 : api_Topo) (sw_1 : Int) : ∀ s, OLe (topo_Near_L1_c t_0 sw_1 s) (topo_Near_L1 t_0 sw_1 s) := by
  intro s
  unfold topo_Near_L1_c topo_Near_L1
  repeat' first
    | with_reducible refine OLe.loop (fun _ => ?_) _ _
    | with_reducible refine OLe.lend (fun _ => ?_) ?_
    | with_reducible refine OLe.cond ?_ ?_
    | with_reducible refine OLe.bind ?_ (fun _ => ?_)
    | (split <;> try dsimp only)
    | with_reducible exact OLe.refl _

def topo_Near_c (t_0 : api_Topo) (sw_1 : Int) : Option (Sl topo_Side) :=
  (loopN 100000 (topo_Near_L1_c t_0 sw_1) (Sl.nil, 0)).bind fun s5 =>
  (lendO s5 (fun l => slices_SortFunc_topo_Side_topo_Side_topo_Near_1_c l) (slices_SortFunc_topo_Side_topo_Side_nil_topo_Near_1_c)).bind fun r28 =>
  some r28
theorem topo_Near_le (t_0 : api_Topo) (sw_1 : Int) : OLe (topo_Near_c t_0 sw_1) (topo_Near t_0 sw_1) := by
  unfold topo_Near_c topo_Near
  repeat' first
    | with_reducible apply topo_Near_L1_le
    | with_reducible apply slices_SortFunc_topo_Side_topo_Side_topo_Near_1_le
    | with_reducible apply slices_SortFunc_topo_Side_topo_Side_nil_topo_Near_1_le
    | with_reducible refine OLe.loop (fun _ => ?_) _ _
    | with_reducible refine OLe.lend (fun _ => ?_) ?_
    | with_reducible refine OLe.cond ?_ ?_
    | with_reducible refine OLe.bind ?_ (fun _ => ?_)
    | (split <;> try dsimp only)
    | with_reducible exact OLe.refl _

def topo_Hops_L2_c (r21 : Sl topo_Side) : (List Int × List Int × Int) → Option (Sum ((List Int × List Int × Int)) ((List Int × List Int))) := fun (l23, l24, i25) =>
  bif decide (i25 < (r21.l.length : Int)) then (((ixI i25 r21.l.length).bind fun n38 =>
  (ixI ((gt r21.l n38).To) l23.length).bind fun n40 =>
  bif decide ((gt l23 n40) < 0) then ((ixI 0 l24.length).bind fun n43 =>
  (ixI (gt l24 n43) l23.length).bind fun n45 =>
  (capI (l24 ++ [(gt r21.l n38).To])).bind fun l47 =>
  some ((l23.set n40 (wr .i64 ((gt l23 n45) + 1))), l47)) else
  (some (l23, l24)) : Option ((List Int × List Int))).bind fun (l34, l35) =>
  some (.inl (l34, l35, wr .i64 (i25 + 1)))) else
  (some (.inr (l23, l24)))
theorem topo_Hops_L2_le (r21 : Sl topo_Side) : ∀ s, OLe (topo_Hops_L2_c r21 s) (topo_Hops_L2 r21 s) := by
  intro s
  unfold topo_Hops_L2_c topo_Hops_L2
  repeat' first
    | with_reducible refine OLe.loop (fun _ => ?_) _ _
    | with_reducible refine OLe.lend (fun _ => ?_) ?_
    | with_reducible refine OLe.cond ?_ ?_
    | with_reducible refine OLe.bind ?_ (fun _ => ?_)
    | (split <;> try dsimp only)
    | with_reducible exact OLe.refl _

def topo_Hops_L1_c (t_0 : api_Topo) : (List Int × List Int) → Option (Sum ((List Int × List Int)) (List Int)) := fun (l11, l12) =>
  bif decide ((l12.length : Int) > 0) then ((ixI 0 l12.length).bind fun n19 =>
  (topo_Near_c t_0 (gt l12 n19)).bind fun r21 =>
  (loopN 100000 (topo_Hops_L2_c r21) (l11, l12, 0)).bind fun (l29, l30) =>
  (cutI l30 1 l30.length).bind fun l51 =>
  some (.inl (l29, l51))) else
  (some (.inr l11))
theorem topo_Hops_L1_le (t_0 : api_Topo) : ∀ s, OLe (topo_Hops_L1_c t_0 s) (topo_Hops_L1 t_0 s) := by
  intro s
  unfold topo_Hops_L1_c topo_Hops_L1
  repeat' first
    | with_reducible apply topo_Near_le
    | with_reducible apply topo_Hops_L2_le
    | with_reducible refine OLe.loop (fun _ => ?_) _ _
    | with_reducible refine OLe.lend (fun _ => ?_) ?_
    | with_reducible refine OLe.cond ?_ ?_
    | with_reducible refine OLe.bind ?_ (fun _ => ?_)
    | (split <;> try dsimp only)
    | with_reducible exact OLe.refl _

def topo_Hops_c (t_0 : api_Topo) (sw_1 : Int) : Option (Sl Int) :=
  (slices_Repeat_int_int_c (Sl.mk [(-1)]) (if 0 > t_0.Switches then 0 else t_0.Switches)).bind fun r1 =>
  bif ((decide (sw_1 < 0)) || (decide (sw_1 ≥ t_0.Switches))) then (some r1) else
  ((ixI sw_1 r1.l.length).bind fun n8 =>
  (loopN 100000 (topo_Hops_L1_c t_0) ((r1.l.set n8 0), [sw_1])).bind fun l15 =>
  some (Sl.mk l15))
theorem topo_Hops_le (t_0 : api_Topo) (sw_1 : Int) : OLe (topo_Hops_c t_0 sw_1) (topo_Hops t_0 sw_1) := by
  unfold topo_Hops_c topo_Hops
  repeat' first
    | with_reducible apply slices_Repeat_int_int_le
    | with_reducible apply topo_Hops_L1_le
    | with_reducible refine OLe.loop (fun _ => ?_) _ _
    | with_reducible refine OLe.lend (fun _ => ?_) ?_
    | with_reducible refine OLe.cond ?_ ?_
    | with_reducible refine OLe.bind ?_ (fun _ => ?_)
    | (split <;> try dsimp only)
    | with_reducible exact OLe.refl _

def slices_Index_int_int_L1_c (s_0 : Sl Int) (v_1 : Int) : Int → Option (Sum (Int) (Sum (Int) (Unit))) := fun i1 =>
  bif decide (i1 < (s_0.l.length : Int)) then ((ixI i1 s_0.l.length).bind fun n7 =>
  bif (v_1 == (gt s_0.l n7)) then (some (.inr (.inl i1))) else
  (some (.inl (wr .i64 (i1 + 1))))) else
  (some (.inr (.inr ())))
theorem slices_Index_int_int_L1_le (s_0 : Sl Int) (v_1 : Int) : ∀ s, OLe (slices_Index_int_int_L1_c s_0 v_1 s) (slices_Index_int_int_L1 s_0 v_1 s) := by
  intro s
  unfold slices_Index_int_int_L1_c slices_Index_int_int_L1
  repeat' first
    | with_reducible refine OLe.loop (fun _ => ?_) _ _
    | with_reducible refine OLe.lend (fun _ => ?_) ?_
    | with_reducible refine OLe.cond ?_ ?_
    | with_reducible refine OLe.bind ?_ (fun _ => ?_)
    | (split <;> try dsimp only)
    | with_reducible exact OLe.refl _

def slices_Index_int_int_c (s_0 : Sl Int) (v_1 : Int) : Option (Int) :=
  (loopN 100000 (slices_Index_int_int_L1_c s_0 v_1) 0).bind fun
  | .inl i3 => (some i3)
  | .inr (_) => (some (-1))
theorem slices_Index_int_int_le (s_0 : Sl Int) (v_1 : Int) : OLe (slices_Index_int_int_c s_0 v_1) (slices_Index_int_int s_0 v_1) := by
  unfold slices_Index_int_int_c slices_Index_int_int
  repeat' first
    | with_reducible apply slices_Index_int_int_L1_le
    | with_reducible refine OLe.loop (fun _ => ?_) _ _
    | with_reducible refine OLe.lend (fun _ => ?_) ?_
    | with_reducible refine OLe.cond ?_ ?_
    | with_reducible refine OLe.bind ?_ (fun _ => ?_)
    | (split <;> try dsimp only)
    | with_reducible exact OLe.refl _

def slices_Contains_int_int_c (s_0 : Sl Int) (v_1 : Int) : Option (Bool) :=
  (slices_Index_int_int_c s_0 v_1).bind fun r1 =>
  some (decide (r1 ≥ 0))
theorem slices_Contains_int_int_le (s_0 : Sl Int) (v_1 : Int) : OLe (slices_Contains_int_int_c s_0 v_1) (slices_Contains_int_int s_0 v_1) := by
  unfold slices_Contains_int_int_c slices_Contains_int_int
  repeat' first
    | with_reducible apply slices_Index_int_int_le
    | with_reducible refine OLe.loop (fun _ => ?_) _ _
    | with_reducible refine OLe.lend (fun _ => ?_) ?_
    | with_reducible refine OLe.cond ?_ ?_
    | with_reducible refine OLe.bind ?_ (fun _ => ?_)
    | (split <;> try dsimp only)
    | with_reducible exact OLe.refl _

def topo_Whole_c (t_0 : api_Topo) : Option (Bool) :=
  (topo_Hops_c t_0 0).bind fun r1 =>
  (slices_Contains_int_int_c r1 (-1)).bind fun r3 =>
  some (!r3)
theorem topo_Whole_le (t_0 : api_Topo) : OLe (topo_Whole_c t_0) (topo_Whole t_0) := by
  unfold topo_Whole_c topo_Whole
  repeat' first
    | with_reducible apply topo_Hops_le
    | with_reducible apply slices_Contains_int_int_le
    | with_reducible refine OLe.loop (fun _ => ?_) _ _
    | with_reducible refine OLe.lend (fun _ => ?_) ?_
    | with_reducible refine OLe.cond ?_ ?_
    | with_reducible refine OLe.bind ?_ (fun _ => ?_)
    | (split <;> try dsimp only)
    | with_reducible exact OLe.refl _

def law17_awake_c : Option (Bool) :=
  (topo_Peer_c (⟨2, (Sl.mk [(⟨0, 0, 1, 1, 1, 4⟩ : api_Link)]), (Sl.mk [(⟨0, 2⟩ : api_Host)])⟩ : api_Topo) 0 0).bind fun (r1, r2, r3, r4) =>
  (topo_Right_c (⟨2, (Sl.mk [(⟨0, 0, 1, 1, 1, 4⟩ : api_Link)]), (Sl.mk [(⟨0, 2⟩ : api_Host)])⟩ : api_Topo)).bind fun r6 =>
  (bif r6 then (bif (r1 == 1) then (bif (r2 == 1) then (bif (r3 == 0) then (bif r4 then ((topo_HostAt_c (⟨2, (Sl.mk [(⟨0, 0, 1, 1, 1, 4⟩ : api_Link)]), (Sl.mk [(⟨0, 2⟩ : api_Host)])⟩ : api_Topo) 0 2).bind fun r8 =>
  bif (r8 == 0) then ((topo_HostAt_c (⟨2, (Sl.mk [(⟨0, 0, 1, 1, 1, 4⟩ : api_Link)]), (Sl.mk [(⟨0, 2⟩ : api_Host)])⟩ : api_Topo) 1 1).bind fun r10 =>
  bif (r10 == (-1)) then ((topo_Whole_c (⟨2, (Sl.mk [(⟨0, 0, 1, 1, 1, 4⟩ : api_Link)]), (Sl.mk [(⟨0, 2⟩ : api_Host)])⟩ : api_Topo)).bind fun r12 =>
  some r12) else (some false)) else (some false)) else (some false)) else (some false)) else (some false)) else (some false)) else (some false)).bind fun b14 =>
  some b14
theorem law17_awake_le : OLe (law17_awake_c) (law17_awake) := by
  unfold law17_awake_c law17_awake
  repeat' first
    | with_reducible apply topo_Peer_le
    | with_reducible apply topo_Right_le
    | with_reducible apply topo_HostAt_le
    | with_reducible apply topo_Whole_le
    | with_reducible refine OLe.loop (fun _ => ?_) _ _
    | with_reducible refine OLe.lend (fun _ => ?_) ?_
    | with_reducible refine OLe.cond ?_ ?_
    | with_reducible refine OLe.bind ?_ (fun _ => ?_)
    | (split <;> try dsimp only)
    | with_reducible exact OLe.refl _

theorem law17_awake_runs : law17_awake = some true := law17_awake_le _ (by decide +kernel)
end Go.Proofs.Ytjfhiochcdjkhaa.T
