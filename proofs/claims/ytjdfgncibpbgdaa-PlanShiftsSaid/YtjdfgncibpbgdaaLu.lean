/- q2e answers true: by running its twin. Conditions: none. -/
import Derived.Test.YtjdfgncibpbgdaaL
import Derived.Test.YtjdfgncibpbgdaaTwin
import Derived.Test.YtjdfgncibpbgdaaLP
open Go.Ev Go
namespace Go.Proofs.Ytjdfgncibpbgdaa.L
def q3z (t_0 : api_Topo) : (Int × Sl topo_place) → Option ((Int × Sl topo_place) ⊕ (Sl topo_place)) := fun (i4, s5) =>
 bif decide (i4 < (((api_Topo.Links t_0).l).length : Int)) then ((ixI i4 ((api_Topo.Links t_0).l).length).bind fun n6 =>
 (capI (s5.l ++ [(⟨api_Link.A (gt ((api_Topo.Links t_0).l) n6), api_Link.PortA (gt ((api_Topo.Links t_0).l) n6)⟩ : topo_place), (⟨api_Link.B (gt ((api_Topo.Links t_0).l) n6), api_Link.PortB (gt ((api_Topo.Links t_0).l) n6)⟩ : topo_place)])).bind fun l7 =>
 some (.inl (wr .i64 (i4 + 1), (Sl.mk l7)))) else
 (some (.inr s5))
theorem q9e (t_0 : api_Topo) : ∀ s, OLe (q3z t_0 s) (q21 t_0 s) := by
 intro s
 unfold q3z q21
 repeat' first
  | with_reducible refine OLe.loop (fun _ => ?_) _ _
  | with_reducible refine OLe.lend (fun _ => ?_) ?_
  | with_reducible refine OLe.cond ?_ ?_
  | with_reducible refine OLe.bind ?_ (fun _ => ?_)
  | (split <;> try dsimp only)
  | with_reducible exact OLe.refl _
def q3x (t_0 : api_Topo) : (Int × Sl topo_place) → Option ((Int × Sl topo_place) ⊕ (Sl topo_place)) := fun (i11, s12) =>
 bif decide (i11 < (((api_Topo.Hosts t_0).l).length : Int)) then ((ixI i11 ((api_Topo.Hosts t_0).l).length).bind fun n13 =>
 (capI (s12.l ++ [gt ((api_Topo.Hosts t_0).l) n13])).bind fun l14 =>
 some (.inl (wr .i64 (i11 + 1), (Sl.mk l14)))) else
 (some (.inr s12))
theorem q9a (t_0 : api_Topo) : ∀ s, OLe (q3x t_0 s) (q22 t_0 s) := by
 intro s
 unfold q3x q22
 repeat' first
  | with_reducible refine OLe.loop (fun _ => ?_) _ _
  | with_reducible refine OLe.lend (fun _ => ?_) ?_
  | with_reducible refine OLe.cond ?_ ?_
  | with_reducible refine OLe.bind ?_ (fun _ => ?_)
  | (split <;> try dsimp only)
  | with_reducible exact OLe.refl _
def q65 (t_0 : api_Topo) : Option (Sl topo_place) :=
 (loopN 100000 (q3z t_0) (0, Sl.nil)).bind fun s8 =>
 (loopN 100000 (q3x t_0) (0, s8)).bind fun s15 =>
 some s15
theorem qc5 (t_0 : api_Topo) : OLe (q65 t_0) (q3i t_0) := by
 unfold q65 q3i
 repeat' first
  | with_reducible apply q9e
  | with_reducible apply q9a
  | with_reducible refine OLe.loop (fun _ => ?_) _ _
  | with_reducible refine OLe.lend (fun _ => ?_) ?_
  | with_reducible refine OLe.cond ?_ ?_
  | with_reducible refine OLe.bind ?_ (fun _ => ?_)
  | (split <;> try dsimp only)
  | with_reducible exact OLe.refl _
def q4u (t_0 : api_Topo) : Int → Option (Int ⊕ (Bool ⊕ Unit)) := fun i2 =>
 bif decide (i2 < (((api_Topo.Links t_0).l).length : Int)) then ((ixI i2 ((api_Topo.Links t_0).l).length).bind fun n3 =>
 bif (((((api_Link.A (gt ((api_Topo.Links t_0).l) n3)) == (api_Link.B (gt ((api_Topo.Links t_0).l) n3))) || (decide ((api_Link.Least (gt ((api_Topo.Links t_0).l) n3)) < 1))) || (decide ((api_Link.Least (gt ((api_Topo.Links t_0).l) n3)) > (api_Link.Most (gt ((api_Topo.Links t_0).l) n3))))) || (decide ((api_Link.Most (gt ((api_Topo.Links t_0).l) n3)) > 1000))) then (some (.inr (.inl false))) else
 (some (.inl (wr .i64 (i2 + 1))))) else
 (some (.inr (.inr ())))
theorem qac (t_0 : api_Topo) : ∀ s, OLe (q4u t_0 s) (q2k t_0 s) := by
 intro s
 unfold q4u q2k
 repeat' first
  | with_reducible refine OLe.loop (fun _ => ?_) _ _
  | with_reducible refine OLe.lend (fun _ => ?_) ?_
  | with_reducible refine OLe.cond ?_ ?_
  | with_reducible refine OLe.bind ?_ (fun _ => ?_)
  | (split <;> try dsimp only)
  | with_reducible exact OLe.refl _
def q4m (t_0 : api_Topo) (r5 : Sl topo_place) : (Int × Mp topo_place Int) → Option ((Int × Mp topo_place Int) ⊕ (Bool ⊕ Unit)) := fun (i9, m10) =>
 bif decide (i9 < (r5.l.length : Int)) then ((ixI i9 r5.l.length).bind fun n11 =>
 (mpSet ((mpEnt m10 0 (gt r5.l n11)).1) ((mpEnt m10 0 (gt r5.l n11)).2.2) (wr .i64 ((mpGet m10 0 (gt r5.l n11)) + 1))).bind fun m12 =>
 bif (((((decide ((topo_place.sw (gt r5.l n11)) < 0)) || (decide ((topo_place.sw (gt r5.l n11)) ≥ (api_Topo.Switches t_0)))) || (decide ((topo_place.port (gt r5.l n11)) < 0))) || (decide ((topo_place.port (gt r5.l n11)) ≥ 8))) || (decide ((mpGet m12 0 (gt r5.l n11)) > 1))) then (some (.inr (.inl false))) else
 (some (.inl (wr .i64 (i9 + 1), m12)))) else
 (some (.inr (.inr ())))
theorem qa9 (t_0 : api_Topo) (r5 : Sl topo_place) : ∀ s, OLe (q4m t_0 r5 s) (q16 t_0 r5 s) := by
 intro s
 unfold q4m q16
 repeat' first
  | with_reducible refine OLe.loop (fun _ => ?_) _ _
  | with_reducible refine OLe.lend (fun _ => ?_) ?_
  | with_reducible refine OLe.cond ?_ ?_
  | with_reducible refine OLe.bind ?_ (fun _ => ?_)
  | (split <;> try dsimp only)
  | with_reducible exact OLe.refl _
def q74 (t_0 : api_Topo) : Option Bool :=
 bif ((((decide ((api_Topo.Switches t_0) < 1)) || (decide ((api_Topo.Switches t_0) > 8))) || (decide ((((api_Topo.Links t_0).l).length : Int) > 24))) || (decide ((((api_Topo.Hosts t_0).l).length : Int) > 8))) then (some false) else
 ((loopN 100000 (q4u t_0) 0).bind fun
 | .inl b4 => (some b4)
 | .inr _ => ((q65 t_0).bind fun r5 =>
 (loopN 100000 (q4m t_0 r5) (0, (Mp.none : Mp topo_place Int))).bind fun
 | .inl b13 => (some b13)
 | .inr _ => (some true)))
theorem qe6 (t_0 : api_Topo) : OLe (q74 t_0) (q47 t_0) := by
 unfold q74 q47
 repeat' first
  | with_reducible apply qac
  | with_reducible apply qc5
  | with_reducible apply qa9
  | with_reducible refine OLe.loop (fun _ => ?_) _ _
  | with_reducible refine OLe.lend (fun _ => ?_) ?_
  | with_reducible refine OLe.cond ?_ ?_
  | with_reducible refine OLe.bind ?_ (fun _ => ?_)
  | (split <;> try dsimp only)
  | with_reducible exact OLe.refl _
def q4t (p_0 : Int) : Option Bool :=
 some ((decide (p_0 < 0)) || (decide (p_0 ≥ 8)))
theorem qa5 (p_0 : Int) : OLe (q4t p_0) (q2y p_0) := by
 unfold q4t q2y
 repeat' first
  | with_reducible refine OLe.loop (fun _ => ?_) _ _
  | with_reducible refine OLe.lend (fun _ => ?_) ?_
  | with_reducible refine OLe.cond ?_ ?_
  | with_reducible refine OLe.bind ?_ (fun _ => ?_)
  | (split <;> try dsimp only)
  | with_reducible exact OLe.refl _
def q0g (s_0 : Sl Int) : Int → Option (Int ⊕ (Int ⊕ Unit)) := fun i2 =>
 bif decide (i2 < (s_0.l.length : Int)) then ((ixI i2 s_0.l.length).bind fun n3 =>
 (q4t (gt s_0.l n3)).bind fun r4 =>
 bif r4 then (some (.inr (.inl i2))) else
 (some (.inl (wr .i64 (i2 + 1))))) else
 (some (.inr (.inr ())))
theorem q1v (s_0 : Sl Int) : ∀ s, OLe (q0g s_0 s) (q05 s_0 s) := by
 intro s
 unfold q0g q05
 repeat' first
  | with_reducible apply qa5
  | with_reducible refine OLe.loop (fun _ => ?_) _ _
  | with_reducible refine OLe.lend (fun _ => ?_) ?_
  | with_reducible refine OLe.cond ?_ ?_
  | with_reducible refine OLe.bind ?_ (fun _ => ?_)
  | (split <;> try dsimp only)
  | with_reducible exact OLe.refl _
def q0i (s_0 : Sl Int) : Option Int :=
 (loopN 100000 (q0g s_0) 0).bind fun
 | .inl i5 => (some i5)
 | .inr _ => (some (-1))
theorem q2b (s_0 : Sl Int) : OLe (q0i s_0) (q0a s_0) := by
 unfold q0i q0a
 repeat' first
  | with_reducible apply q1v
  | with_reducible refine OLe.loop (fun _ => ?_) _ _
  | with_reducible refine OLe.lend (fun _ => ?_) ?_
  | with_reducible refine OLe.cond ?_ ?_
  | with_reducible refine OLe.bind ?_ (fun _ => ?_)
  | (split <;> try dsimp only)
  | with_reducible exact OLe.refl _
def q0f (s_0 : Sl Int) : Option Bool :=
 (q0i s_0).bind fun r1 =>
 some (decide (r1 ≥ 0))
theorem q1u (s_0 : Sl Int) : OLe (q0f s_0) (q04 s_0) := by
 unfold q0f q04
 repeat' first
  | with_reducible apply q2b
  | with_reducible refine OLe.loop (fun _ => ?_) _ _
  | with_reducible refine OLe.lend (fun _ => ?_) ?_
  | with_reducible refine OLe.cond ?_ ?_
  | with_reducible refine OLe.bind ?_ (fun _ => ?_)
  | (split <;> try dsimp only)
  | with_reducible exact OLe.refl _
def q3u (t_0 : api_Topo) (r_1 : Sl (Sl Int)) : Int → Option (Int ⊕ (Bool ⊕ Unit)) := fun i3 =>
 bif decide (i3 < (r_1.l.length : Int)) then ((ixI i3 r_1.l.length).bind fun n4 =>
 (bif ((((gt r_1.l n4).l).length : Int) != (((api_Topo.Hosts t_0).l).length : Int)) then (some true) else
 ((q0f (gt r_1.l n4)).bind fun r5 =>
 some r5) : Option Bool).bind fun b6 =>
 bif b6 then (some (.inr (.inl false))) else
 (some (.inl (wr .i64 (i3 + 1))))) else
 (some (.inr (.inr ())))
theorem q92 (t_0 : api_Topo) (r_1 : Sl (Sl Int)) : ∀ s, OLe (q3u t_0 r_1 s) (q23 t_0 r_1 s) := by
 intro s
 unfold q3u q23
 repeat' first
  | with_reducible apply q1u
  | with_reducible refine OLe.loop (fun _ => ?_) _ _
  | with_reducible refine OLe.lend (fun _ => ?_) ?_
  | with_reducible refine OLe.cond ?_ ?_
  | with_reducible refine OLe.bind ?_ (fun _ => ?_)
  | (split <;> try dsimp only)
  | with_reducible exact OLe.refl _
def q31 (t_0 : api_Topo) (r_1 : Sl (Sl Int)) : Option Bool :=
 (q74 t_0).bind fun r1 =>
 bif ((!r1) || ((r_1.l.length : Int) != (api_Topo.Switches t_0))) then (some false) else
 ((loopN 100000 (q3u t_0 r_1) 0).bind fun
 | .inl b7 => (some b7)
 | .inr _ => (some true))
theorem q5i (t_0 : api_Topo) (r_1 : Sl (Sl Int)) : OLe (q31 t_0 r_1) (q1x t_0 r_1) := by
 unfold q31 q1x
 repeat' first
  | with_reducible apply qe6
  | with_reducible apply q92
  | with_reducible refine OLe.loop (fun _ => ?_) _ _
  | with_reducible refine OLe.lend (fun _ => ?_) ?_
  | with_reducible refine OLe.cond ?_ ?_
  | with_reducible refine OLe.bind ?_ (fun _ => ?_)
  | (split <;> try dsimp only)
  | with_reducible exact OLe.refl _
def q50 (r_0 : Sl (Sl Int)) (sw_1 : Int) (h_2 : Int) : Option (Int × Bool) :=
 (bif (((decide (sw_1 < 0)) || (decide (sw_1 ≥ (r_0.l.length : Int)))) || (decide (h_2 < 0))) then (some true) else
 ((ixI sw_1 r_0.l.length).bind fun n1 =>
 some (decide (h_2 ≥ (((gt r_0.l n1).l).length : Int)))) : Option Bool).bind fun b2 =>
 bif b2 then (some (0, false)) else
 ((ixI sw_1 r_0.l.length).bind fun n3 =>
 (ixI h_2 ((gt r_0.l n3).l).length).bind fun n4 =>
 some (gt ((gt r_0.l n3).l) n4, true))
theorem q8r (r_0 : Sl (Sl Int)) (sw_1 : Int) (h_2 : Int) : OLe (q50 r_0 sw_1 h_2) (q3f r_0 sw_1 h_2) := by
 unfold q50 q3f
 repeat' first
  | with_reducible refine OLe.loop (fun _ => ?_) _ _
  | with_reducible refine OLe.lend (fun _ => ?_) ?_
  | with_reducible refine OLe.cond ?_ ?_
  | with_reducible refine OLe.bind ?_ (fun _ => ?_)
  | (split <;> try dsimp only)
  | with_reducible exact OLe.refl _
def q1n (s_0 : Sl Int) (v_1 : Int) : Int → Option (Int ⊕ (Int ⊕ Unit)) := fun i2 =>
 bif decide (i2 < (s_0.l.length : Int)) then ((ixI i2 s_0.l.length).bind fun n3 =>
 bif (v_1 == (gt s_0.l n3)) then (some (.inr (.inl i2))) else
 (some (.inl (wr .i64 (i2 + 1))))) else
 (some (.inr (.inr ())))
theorem q4x (s_0 : Sl Int) (v_1 : Int) : ∀ s, OLe (q1n s_0 v_1 s) (q0m s_0 v_1 s) := by
 intro s
 unfold q1n q0m
 repeat' first
  | with_reducible refine OLe.loop (fun _ => ?_) _ _
  | with_reducible refine OLe.lend (fun _ => ?_) ?_
  | with_reducible refine OLe.cond ?_ ?_
  | with_reducible refine OLe.bind ?_ (fun _ => ?_)
  | (split <;> try dsimp only)
  | with_reducible exact OLe.refl _
def q29 (s_0 : Sl Int) (v_1 : Int) : Option Int :=
 (loopN 100000 (q1n s_0 v_1) 0).bind fun
 | .inl i4 => (some i4)
 | .inr _ => (some (-1))
theorem q60 (s_0 : Sl Int) (v_1 : Int) : OLe (q29 s_0 v_1) (q13 s_0 v_1) := by
 unfold q29 q13
 repeat' first
  | with_reducible apply q4x
  | with_reducible refine OLe.loop (fun _ => ?_) _ _
  | with_reducible refine OLe.lend (fun _ => ?_) ?_
  | with_reducible refine OLe.cond ?_ ?_
  | with_reducible refine OLe.bind ?_ (fun _ => ?_)
  | (split <;> try dsimp only)
  | with_reducible exact OLe.refl _
def q0p (s_0 : Sl Int) (v_1 : Int) : Option Bool :=
 (q29 s_0 v_1).bind fun r1 =>
 some (decide (r1 ≥ 0))
theorem q1h (s_0 : Sl Int) (v_1 : Int) : OLe (q0p s_0 v_1) (q0e s_0 v_1) := by
 unfold q0p q0e
 repeat' first
  | with_reducible apply q60
  | with_reducible refine OLe.loop (fun _ => ?_) _ _
  | with_reducible refine OLe.lend (fun _ => ?_) ?_
  | with_reducible refine OLe.cond ?_ ?_
  | with_reducible refine OLe.bind ?_ (fun _ => ?_)
  | (split <;> try dsimp only)
  | with_reducible exact OLe.refl _
def q3j (l_0 : Sl Int) : Option Bool :=
 (bif decide ((l_0.l.length : Int) > 0) then ((cutI l_0.l 0 (wr .i64 ((l_0.l.length : Int) - 1))).bind fun l1 =>
 (ixI (wr .i64 ((l_0.l.length : Int) - 1)) l_0.l.length).bind fun n2 =>
 (q0p (l_0.to l1) (gt l_0.l n2)).bind fun r3 =>
 some r3) else
 (some false) : Option Bool).bind fun b4 =>
 some b4
theorem q8v (l_0 : Sl Int) : OLe (q3j l_0) (q1b l_0) := by
 unfold q3j q1b
 repeat' first
  | with_reducible apply q1h
  | with_reducible refine OLe.loop (fun _ => ?_) _ _
  | with_reducible refine OLe.lend (fun _ => ?_) ?_
  | with_reducible refine OLe.cond ?_ ?_
  | with_reducible refine OLe.bind ?_ (fun _ => ?_)
  | (split <;> try dsimp only)
  | with_reducible exact OLe.refl _
def q5l (t_0 : api_Topo) (sw_1 : Int) (port_2 : Int) : Int → Option (Int ⊕ ((Int × Int × Int × Bool) ⊕ Unit)) := fun i2 =>
 bif decide (i2 < (((api_Topo.Links t_0).l).length : Int)) then ((ixI i2 ((api_Topo.Links t_0).l).length).bind fun n3 =>
 bif decide ((⟨sw_1, port_2⟩ : topo_place) = (⟨api_Link.A (gt ((api_Topo.Links t_0).l) n3), api_Link.PortA (gt ((api_Topo.Links t_0).l) n3)⟩ : topo_place)) then (some (.inr (.inl (api_Link.B (gt ((api_Topo.Links t_0).l) n3), api_Link.PortB (gt ((api_Topo.Links t_0).l) n3), i2, true)))) else
 (bif decide ((⟨sw_1, port_2⟩ : topo_place) = (⟨api_Link.B (gt ((api_Topo.Links t_0).l) n3), api_Link.PortB (gt ((api_Topo.Links t_0).l) n3)⟩ : topo_place)) then (some (.inr (.inl (api_Link.A (gt ((api_Topo.Links t_0).l) n3), api_Link.PortA (gt ((api_Topo.Links t_0).l) n3), i2, true)))) else
 (some (.inl (wr .i64 (i2 + 1)))))) else
 (some (.inr (.inr ())))
theorem qbo (t_0 : api_Topo) (sw_1 : Int) (port_2 : Int) : ∀ s, OLe (q5l t_0 sw_1 port_2 s) (q2w t_0 sw_1 port_2 s) := by
 intro s
 unfold q5l q2w
 repeat' first
  | with_reducible refine OLe.loop (fun _ => ?_) _ _
  | with_reducible refine OLe.lend (fun _ => ?_) ?_
  | with_reducible refine OLe.cond ?_ ?_
  | with_reducible refine OLe.bind ?_ (fun _ => ?_)
  | (split <;> try dsimp only)
  | with_reducible exact OLe.refl _
def q7x (t_0 : api_Topo) (sw_1 : Int) (port_2 : Int) : Option (Int × Int × Int × Bool) :=
 (loopN 100000 (q5l t_0 sw_1 port_2) 0).bind fun
 | .inl (i4, i5, i6, b7) => (some (i4, i5, i6, b7))
 | .inr _ => (some (0, 0, 0, false))
theorem qg8 (t_0 : api_Topo) (sw_1 : Int) (port_2 : Int) : OLe (q7x t_0 sw_1 port_2) (q5r t_0 sw_1 port_2) := by
 unfold q7x q5r
 repeat' first
  | with_reducible apply qbo
  | with_reducible refine OLe.loop (fun _ => ?_) _ _
  | with_reducible refine OLe.lend (fun _ => ?_) ?_
  | with_reducible refine OLe.cond ?_ ?_
  | with_reducible refine OLe.bind ?_ (fun _ => ?_)
  | (split <;> try dsimp only)
  | with_reducible exact OLe.refl _
def q7d (t_0 : api_Topo) (r_1 : Sl (Sl Int)) (sw_2 : Int) (h_3 : Int) : Option (Int × Bool) :=
 (q50 r_1 sw_2 h_3).bind fun (r1, r2) =>
 bif (!r2) then (some (0, false)) else
 ((q7x t_0 sw_2 r1).bind fun (r3, r4, r5, r6) =>
 some (r3, r6))
theorem qek (t_0 : api_Topo) (r_1 : Sl (Sl Int)) (sw_2 : Int) (h_3 : Int) : OLe (q7d t_0 r_1 sw_2 h_3) (q49 t_0 r_1 sw_2 h_3) := by
 unfold q7d q49
 repeat' first
  | with_reducible apply q8r
  | with_reducible apply qg8
  | with_reducible refine OLe.loop (fun _ => ?_) _ _
  | with_reducible refine OLe.lend (fun _ => ?_) ?_
  | with_reducible refine OLe.cond ?_ ?_
  | with_reducible refine OLe.bind ?_ (fun _ => ?_)
  | (split <;> try dsimp only)
  | with_reducible exact OLe.refl _
def q4d (t_0 : api_Topo) (r_1 : Sl (Sl Int)) (h_3 : Int) : (Sl Int) → Option (Sl Int ⊕ ((Int × Sl Int) ⊕ Unit)) := fun s6 =>
 (q3j s6).bind fun r7 =>
 bif (!r7) then ((ixI (wr .i64 ((s6.l.length : Int) - 1)) s6.l.length).bind fun n8 =>
 (ixI h_3 ((api_Topo.Hosts t_0).l).length).bind fun n9 =>
 (ixI (gt s6.l n8) r_1.l.length).bind fun n10 =>
 (ixI h_3 ((gt r_1.l n10).l).length).bind fun n11 =>
 bif decide ((gt ((api_Topo.Hosts t_0).l) n9) = (⟨gt s6.l n8, gt ((gt r_1.l n10).l) n11⟩ : api_Host)) then (some (.inr (.inl (0, s6)))) else
 ((q7d t_0 r_1 (gt s6.l n8) h_3).bind fun (r12, r13) =>
 bif (!r13) then (some (.inr (.inl (13, Sl.nil)))) else
 ((capI (s6.l ++ [r12])).bind fun l14 =>
 some (.inl (Sl.mk l14))))) else
 (some (.inr (.inr ())))
theorem qa3 (t_0 : api_Topo) (r_1 : Sl (Sl Int)) (h_3 : Int) : ∀ s, OLe (q4d t_0 r_1 h_3 s) (q0h t_0 r_1 h_3 s) := by
 intro s
 unfold q4d q0h
 repeat' first
  | with_reducible apply q8v
  | with_reducible apply qek
  | with_reducible refine OLe.loop (fun _ => ?_) _ _
  | with_reducible refine OLe.lend (fun _ => ?_) ?_
  | with_reducible refine OLe.cond ?_ ?_
  | with_reducible refine OLe.bind ?_ (fun _ => ?_)
  | (split <;> try dsimp only)
  | with_reducible exact OLe.refl _
def q6t (t_0 : api_Topo) (r_1 : Sl (Sl Int)) (sw_2 : Int) (h_3 : Int) : Option (Sl Int × Int) :=
 (q50 r_1 sw_2 h_3).bind fun (r1, r2) =>
 (bif (!r2) then (some true) else
 ((q31 t_0 r_1).bind fun r3 =>
 some (!r3)) : Option Bool).bind fun b4 =>
 bif b4 then (some (Sl.nil, 2)) else
 ((loopN 100000 (q4d t_0 r_1 h_3) (Sl.mk [sw_2])).bind fun
 | .inl (i15, s16) => (some (s16, i15))
 | .inr _ => (some (Sl.nil, 12)))
theorem qe2 (t_0 : api_Topo) (r_1 : Sl (Sl Int)) (sw_2 : Int) (h_3 : Int) : OLe (q6t t_0 r_1 sw_2 h_3) (q28 t_0 r_1 sw_2 h_3) := by
 unfold q6t q28
 repeat' first
  | with_reducible apply q8r
  | with_reducible apply q5i
  | with_reducible apply qa3
  | with_reducible refine OLe.loop (fun _ => ?_) _ _
  | with_reducible refine OLe.lend (fun _ => ?_) ?_
  | with_reducible refine OLe.cond ?_ ?_
  | with_reducible refine OLe.bind ?_ (fun _ => ?_)
  | (split <;> try dsimp only)
  | with_reducible exact OLe.refl _
def q5h (t_0 : api_Topo) (r_1 : Sl (Sl Int)) (h_2 : Int) : (Int × Sl Int) → Option ((Int × Sl Int) ⊕ (Sl Int)) := fun (i5, s6) =>
 bif decide (i5 < (r_1.l.length : Int)) then ((q6t t_0 r_1 i5 h_2).bind fun (r7, r8) =>
 (capI (s6.l ++ [wr .i64 ((r7.l.length : Int) - 1)])).bind fun l9 =>
 some (.inl (wr .i64 (i5 + 1), (Sl.mk l9)))) else
 (some (.inr s6))
theorem qbb (t_0 : api_Topo) (r_1 : Sl (Sl Int)) (h_2 : Int) : ∀ s, OLe (q5h t_0 r_1 h_2 s) (q11 t_0 r_1 h_2 s) := by
 intro s
 unfold q5h q11
 repeat' first
  | with_reducible apply qe2
  | with_reducible refine OLe.loop (fun _ => ?_) _ _
  | with_reducible refine OLe.lend (fun _ => ?_) ?_
  | with_reducible refine OLe.cond ?_ ?_
  | with_reducible refine OLe.bind ?_ (fun _ => ?_)
  | (split <;> try dsimp only)
  | with_reducible exact OLe.refl _
def q6h (t_0 : api_Topo) (r_1 : Sl (Sl Int)) (h_2 : Int) : Option (Sl Int) :=
 (q31 t_0 r_1).bind fun r1 =>
 bif (((!r1) || (decide (h_2 < 0))) || (decide (h_2 ≥ (((api_Topo.Hosts t_0).l).length : Int)))) then (some Sl.nil) else
 ((loopN 100000 (q5h t_0 r_1 h_2) (0, Sl.nil)).bind fun s10 =>
 some s10)
theorem q9x (t_0 : api_Topo) (r_1 : Sl (Sl Int)) (h_2 : Int) : OLe (q6h t_0 r_1 h_2) (q30 t_0 r_1 h_2) := by
 unfold q6h q30
 repeat' first
  | with_reducible apply q5i
  | with_reducible apply qbb
  | with_reducible refine OLe.loop (fun _ => ?_) _ _
  | with_reducible refine OLe.lend (fun _ => ?_) ?_
  | with_reducible refine OLe.cond ?_ ?_
  | with_reducible refine OLe.bind ?_ (fun _ => ?_)
  | (split <;> try dsimp only)
  | with_reducible exact OLe.refl _
def q4g (t_0 : api_Topo) (r_1 : Sl (Sl Int)) : Int → Option (Int ⊕ (Bool ⊕ Unit)) := fun i3 =>
 bif decide (i3 < (((api_Topo.Hosts t_0).l).length : Int)) then ((q6h t_0 r_1 i3).bind fun r4 =>
 (q0p r4 (-1)).bind fun r5 =>
 bif r5 then (some (.inr (.inl false))) else
 (some (.inl (wr .i64 (i3 + 1))))) else
 (some (.inr (.inr ())))
theorem qa2 (t_0 : api_Topo) (r_1 : Sl (Sl Int)) : ∀ s, OLe (q4g t_0 r_1 s) (q15 t_0 r_1 s) := by
 intro s
 unfold q4g q15
 repeat' first
  | with_reducible apply q9x
  | with_reducible apply q1h
  | with_reducible refine OLe.loop (fun _ => ?_) _ _
  | with_reducible refine OLe.lend (fun _ => ?_) ?_
  | with_reducible refine OLe.cond ?_ ?_
  | with_reducible refine OLe.bind ?_ (fun _ => ?_)
  | (split <;> try dsimp only)
  | with_reducible exact OLe.refl _
def q53 (t_0 : api_Topo) (r_1 : Sl (Sl Int)) : Option Bool :=
 (q31 t_0 r_1).bind fun r1 =>
 bif (!r1) then (some false) else
 ((loopN 100000 (q4g t_0 r_1) 0).bind fun
 | .inl b6 => (some b6)
 | .inr _ => (some true))
theorem qed (t_0 : api_Topo) (r_1 : Sl (Sl Int)) : OLe (q53 t_0 r_1) (q25 t_0 r_1) := by
 unfold q53 q25
 repeat' first
  | with_reducible apply q5i
  | with_reducible apply qa2
  | with_reducible refine OLe.loop (fun _ => ?_) _ _
  | with_reducible refine OLe.lend (fun _ => ?_) ?_
  | with_reducible refine OLe.cond ?_ ?_
  | with_reducible refine OLe.bind ?_ (fun _ => ?_)
  | (split <;> try dsimp only)
  | with_reducible exact OLe.refl _
def q3v (old_1 : Sl (Sl Int)) (now_2 : Sl (Sl Int)) (i7 : Int) (r9 : Sl Int) : (Int × Sl level_Move) → Option ((Int × Sl level_Move) ⊕ (Sl level_Move)) := fun (i12, s13) =>
 bif decide (i12 < (now_2.l.length : Int)) then (((ixI i12 now_2.l.length).bind fun n14 =>
 (ixI i7 ((gt now_2.l n14).l).length).bind fun n15 =>
 (ixI i12 old_1.l.length).bind fun n16 =>
 (ixI i7 ((gt old_1.l n16).l).length).bind fun n17 =>
 bif ((gt ((gt now_2.l n14).l) n15) != (gt ((gt old_1.l n16).l) n17)) then ((ixI i12 now_2.l.length).bind fun n18 =>
 (ixI i7 ((gt now_2.l n18).l).length).bind fun n19 =>
 (ixI i12 r9.l.length).bind fun n20 =>
 (capI (s13.l ++ [(⟨i12, i7, gt ((gt now_2.l n18).l) n19, gt r9.l n20⟩ : level_Move)])).bind fun l21 =>
 some (Sl.mk l21)) else
 (some s13) : Option (Sl level_Move)).bind fun s22 =>
 some (.inl (wr .i64 (i12 + 1), s22))) else
 (some (.inr s13))
theorem q96 (old_1 : Sl (Sl Int)) (now_2 : Sl (Sl Int)) (i7 : Int) (r9 : Sl Int) : ∀ s, OLe (q3v old_1 now_2 i7 r9 s) (q18 old_1 now_2 i7 r9 s) := by
 intro s
 unfold q3v q18
 repeat' first
  | with_reducible refine OLe.loop (fun _ => ?_) _ _
  | with_reducible refine OLe.lend (fun _ => ?_) ?_
  | with_reducible refine OLe.cond ?_ ?_
  | with_reducible refine OLe.bind ?_ (fun _ => ?_)
  | (split <;> try dsimp only)
  | with_reducible exact OLe.refl _
def q3w (t_0 : api_Topo) (old_1 : Sl (Sl Int)) (now_2 : Sl (Sl Int)) : (Int × Sl level_Move) → Option ((Int × Sl level_Move) ⊕ (Sl level_Move)) := fun (i7, s8) =>
 bif decide (i7 < (((api_Topo.Hosts t_0).l).length : Int)) then ((q6h t_0 now_2 i7).bind fun r9 =>
 (loopN 100000 (q3v old_1 now_2 i7 r9) (0, s8)).bind fun s23 =>
 some (.inl (wr .i64 (i7 + 1), s23))) else
 (some (.inr s8))
theorem q91 (t_0 : api_Topo) (old_1 : Sl (Sl Int)) (now_2 : Sl (Sl Int)) : ∀ s, OLe (q3w t_0 old_1 now_2 s) (q26 t_0 old_1 now_2 s) := by
 intro s
 unfold q3w q26
 repeat' first
  | with_reducible apply q9x
  | with_reducible apply q96
  | with_reducible refine OLe.loop (fun _ => ?_) _ _
  | with_reducible refine OLe.lend (fun _ => ?_) ?_
  | with_reducible refine OLe.cond ?_ ?_
  | with_reducible refine OLe.bind ?_ (fun _ => ?_)
  | (split <;> try dsimp only)
  | with_reducible exact OLe.refl _
def q6l (t_0 : api_Topo) (old_1 : Sl (Sl Int)) (now_2 : Sl (Sl Int)) : Option (Sl level_Move × Int) :=
 ((q53 t_0 old_1).bind fun r1 =>
 bif (!r1) then (some true) else
 ((q53 t_0 now_2).bind fun r2 =>
 some (!r2)) : Option Bool).bind fun b3 =>
 bif b3 then (some (Sl.nil, 2)) else
 ((loopN 100000 (q3w t_0 old_1 now_2) (0, Sl.nil)).bind fun s24 =>
 (q9v s24).bind fun s25 =>
 (lenS s25 s24).bind fun _ =>
 some (s25, 0))
theorem qc8 (t_0 : api_Topo) (old_1 : Sl (Sl Int)) (now_2 : Sl (Sl Int)) : OLe (q6l t_0 old_1 now_2) (q2g t_0 old_1 now_2) := by
 unfold q6l q2g
 repeat' first
  | with_reducible apply qed
  | with_reducible apply q91
  | with_reducible apply qq0
  | with_reducible refine OLe.loop (fun _ => ?_) _ _
  | with_reducible refine OLe.lend (fun _ => ?_) ?_
  | with_reducible refine OLe.cond ?_ ?_
  | with_reducible refine OLe.bind ?_ (fun _ => ?_)
  | (split <;> try dsimp only)
  | with_reducible exact OLe.refl _
def q3g (l_0 : Sl level_Move) : (Int × Sl Int) → Option ((Int × Sl Int) ⊕ (Sl Int)) := fun (i4, s5) =>
 bif decide (i4 < (l_0.l.length : Int)) then ((ixI i4 l_0.l.length).bind fun n6 =>
 (capI (s5.l ++ [level_Move.Round (gt l_0.l n6)])).bind fun l7 =>
 some (.inl (wr .i64 (i4 + 1), (Sl.mk l7)))) else
 (some (.inr s5))
theorem q8s (l_0 : Sl level_Move) : ∀ s, OLe (q3g l_0 s) (q1t l_0 s) := by
 intro s
 unfold q3g q1t
 repeat' first
  | with_reducible refine OLe.loop (fun _ => ?_) _ _
  | with_reducible refine OLe.lend (fun _ => ?_) ?_
  | with_reducible refine OLe.cond ?_ ?_
  | with_reducible refine OLe.bind ?_ (fun _ => ?_)
  | (split <;> try dsimp only)
  | with_reducible exact OLe.refl _
def q5g (l_0 : Sl level_Move) : Option (Sl Int) :=
 (loopN 100000 (q3g l_0) (0, Sl.nil)).bind fun s8 =>
 (q9v s8).bind fun s9 =>
 (lenS s9 s8).bind fun _ =>
 (q9v s9).bind fun s10 =>
 some s10
theorem qbk (l_0 : Sl level_Move) : OLe (q5g l_0) (q2j l_0) := by
 unfold q5g q2j
 repeat' first
  | with_reducible apply q8s
  | with_reducible apply qs8
  | with_reducible apply qtl
  | with_reducible refine OLe.loop (fun _ => ?_) _ _
  | with_reducible refine OLe.lend (fun _ => ?_) ?_
  | with_reducible refine OLe.cond ?_ ?_
  | with_reducible refine OLe.bind ?_ (fun _ => ?_)
  | (split <;> try dsimp only)
  | with_reducible exact OLe.refl _
def q79 (n_0 : Int) (most_1 : Int) : Option Bool :=
 some ((decide (n_0 ≥ 0)) && (decide (n_0 ≤ most_1)))
theorem qk8 (n_0 : Int) (most_1 : Int) : OLe (q79 n_0 most_1) (q5e n_0 most_1) := by
 unfold q79 q5e
 repeat' first
  | with_reducible refine OLe.loop (fun _ => ?_) _ _
  | with_reducible refine OLe.lend (fun _ => ?_) ?_
  | with_reducible refine OLe.cond ?_ ?_
  | with_reducible refine OLe.bind ?_ (fun _ => ?_)
  | (split <;> try dsimp only)
  | with_reducible exact OLe.refl _
def q3h (t_0 : api_Topo) : (Int × Int) → Option ((Int × Int) ⊕ Int) := fun (i3, i4) =>
 bif decide (i4 < (((api_Topo.Links t_0).l).length : Int)) then ((ixI i4 ((api_Topo.Links t_0).l).length).bind fun n5 =>
 some (.inl ((if (api_Link.Most (gt ((api_Topo.Links t_0).l) n5)) > i3 then (api_Link.Most (gt ((api_Topo.Links t_0).l) n5)) else i3), wr .i64 (i4 + 1)))) else
 (some (.inr i3))
theorem q8n (t_0 : api_Topo) : ∀ s, OLe (q3h t_0 s) (q1c t_0 s) := by
 intro s
 unfold q3h q1c
 repeat' first
  | with_reducible refine OLe.loop (fun _ => ?_) _ _
  | with_reducible refine OLe.lend (fun _ => ?_) ?_
  | with_reducible refine OLe.cond ?_ ?_
  | with_reducible refine OLe.bind ?_ (fun _ => ?_)
  | (split <;> try dsimp only)
  | with_reducible exact OLe.refl _
def q5n (t_0 : api_Topo) : Option Int :=
 (loopN 100000 (q3h t_0) (0, 0)).bind fun i6 =>
 some i6
theorem qas (t_0 : api_Topo) : OLe (q5n t_0) (q2t t_0) := by
 unfold q5n q2t
 repeat' first
  | with_reducible apply q8n
  | with_reducible refine OLe.loop (fun _ => ?_) _ _
  | with_reducible refine OLe.lend (fun _ => ?_) ?_
  | with_reducible refine OLe.cond ?_ ?_
  | with_reducible refine OLe.bind ?_ (fun _ => ?_)
  | (split <;> try dsimp only)
  | with_reducible exact OLe.refl _
def q6i (t_0 : api_Topo) : Option Int :=
 (q5n t_0).bind fun r1 =>
 some (wr .i64 ((api_Topo.Switches t_0) * r1))
theorem q9t (t_0 : api_Topo) : OLe (q6i t_0) (q4c t_0) := by
 unfold q6i q4c
 repeat' first
  | with_reducible apply qas
  | with_reducible refine OLe.loop (fun _ => ?_) _ _
  | with_reducible refine OLe.lend (fun _ => ?_) ?_
  | with_reducible refine OLe.cond ?_ ?_
  | with_reducible refine OLe.bind ?_ (fun _ => ?_)
  | (split <;> try dsimp only)
  | with_reducible exact OLe.refl _
def q7p (t_0 : api_Topo) (miss_1 : Int) : Option Int :=
 (q6i t_0).bind fun r1 =>
 some (wr .i64 ((wr .i64 ((wr .i64 (2 * miss_1)) + r1)) + 1))
theorem qau (t_0 : api_Topo) (miss_1 : Int) : OLe (q7p t_0 miss_1) (q6m t_0 miss_1) := by
 unfold q7p q6m
 repeat' first
  | with_reducible apply q9t
  | with_reducible refine OLe.loop (fun _ => ?_) _ _
  | with_reducible refine OLe.lend (fun _ => ?_) ?_
  | with_reducible refine OLe.cond ?_ ?_
  | with_reducible refine OLe.bind ?_ (fun _ => ?_)
  | (split <;> try dsimp only)
  | with_reducible exact OLe.refl _
def q5m (a_0 : diff_After) (c_1 : Int) : Option Bool :=
 some ((((((decide ((diff_After.I a_0) < 0)) || (decide ((diff_After.I a_0) ≥ c_1))) || (decide ((diff_After.J a_0) < 0))) || (decide ((diff_After.J a_0) ≥ c_1))) || (decide ((diff_After.Gap a_0) < (-1073741824)))) || (decide ((diff_After.Gap a_0) > 1073741824)))
theorem qbi (a_0 : diff_After) (c_1 : Int) : OLe (q5m a_0 c_1) (q3s a_0 c_1) := by
 unfold q5m q3s
 repeat' first
  | with_reducible refine OLe.loop (fun _ => ?_) _ _
  | with_reducible refine OLe.lend (fun _ => ?_) ?_
  | with_reducible refine OLe.cond ?_ ?_
  | with_reducible refine OLe.bind ?_ (fun _ => ?_)
  | (split <;> try dsimp only)
  | with_reducible exact OLe.refl _
def q07 (s_0 : Sl diff_After) (f_1_c0 : Int) : Int → Option (Int ⊕ (Int ⊕ Unit)) := fun i2 =>
 bif decide (i2 < (s_0.l.length : Int)) then ((ixI i2 s_0.l.length).bind fun n3 =>
 (q5m (gt s_0.l n3) f_1_c0).bind fun r4 =>
 bif r4 then (some (.inr (.inl i2))) else
 (some (.inl (wr .i64 (i2 + 1))))) else
 (some (.inr (.inr ())))
theorem q0x (s_0 : Sl diff_After) (f_1_c0 : Int) : ∀ s, OLe (q07 s_0 f_1_c0 s) (q01 s_0 f_1_c0 s) := by
 intro s
 unfold q07 q01
 repeat' first
  | with_reducible apply qbi
  | with_reducible refine OLe.loop (fun _ => ?_) _ _
  | with_reducible refine OLe.lend (fun _ => ?_) ?_
  | with_reducible refine OLe.cond ?_ ?_
  | with_reducible refine OLe.bind ?_ (fun _ => ?_)
  | (split <;> try dsimp only)
  | with_reducible exact OLe.refl _
def q0b (s_0 : Sl diff_After) (f_1_c0 : Int) : Option Int :=
 (loopN 100000 (q07 s_0 f_1_c0) 0).bind fun
 | .inl i5 => (some i5)
 | .inr _ => (some (-1))
theorem q14 (s_0 : Sl diff_After) (f_1_c0 : Int) : OLe (q0b s_0 f_1_c0) (q03 s_0 f_1_c0) := by
 unfold q0b q03
 repeat' first
  | with_reducible apply q0x
  | with_reducible refine OLe.loop (fun _ => ?_) _ _
  | with_reducible refine OLe.lend (fun _ => ?_) ?_
  | with_reducible refine OLe.cond ?_ ?_
  | with_reducible refine OLe.bind ?_ (fun _ => ?_)
  | (split <;> try dsimp only)
  | with_reducible exact OLe.refl _
def q09 (s_0 : Sl diff_After) (f_1_c0 : Int) : Option Bool :=
 (q0b s_0 f_1_c0).bind fun r1 =>
 some (decide (r1 ≥ 0))
theorem q10 (s_0 : Sl diff_After) (f_1_c0 : Int) : OLe (q09 s_0 f_1_c0) (q02 s_0 f_1_c0) := by
 unfold q09 q02
 repeat' first
  | with_reducible apply q14
  | with_reducible refine OLe.loop (fun _ => ?_) _ _
  | with_reducible refine OLe.lend (fun _ => ?_) ?_
  | with_reducible refine OLe.cond ?_ ?_
  | with_reducible refine OLe.bind ?_ (fun _ => ?_)
  | (split <;> try dsimp only)
  | with_reducible exact OLe.refl _
def q6r (n_0 : Int) (l_1 : Sl diff_After) : Option Bool :=
 bif (((decide (n_0 < 0)) || (decide (n_0 > 64))) || (decide ((l_1.l.length : Int) > 256))) then (some false) else
 ((q09 l_1 n_0).bind fun r1 =>
 some (!r1))
theorem qdg (n_0 : Int) (l_1 : Sl diff_After) : OLe (q6r n_0 l_1) (q48 n_0 l_1) := by
 unfold q6r q48
 repeat' first
  | with_reducible apply q10
  | with_reducible refine OLe.loop (fun _ => ?_) _ _
  | with_reducible refine OLe.lend (fun _ => ?_) ?_
  | with_reducible refine OLe.cond ?_ ?_
  | with_reducible refine OLe.bind ?_ (fun _ => ?_)
  | (split <;> try dsimp only)
  | with_reducible exact OLe.refl _
def q5j (l_1 : Sl diff_After) : (Int × Int × Sl Int × Sl Int) → Option ((Int × Int × Sl Int × Sl Int) ⊕ (Int × Sl Int × Sl Int)) := fun (i19, i20, s21, s22) =>
 bif decide (i20 < (l_1.l.length : Int)) then (((ixI i20 l_1.l.length).bind fun n23 =>
 (ixI (diff_After.I (gt l_1.l n23)) s21.l.length).bind fun n24 =>
 (ixI (diff_After.J (gt l_1.l n23)) s21.l.length).bind fun n25 =>
 bif decide ((wr .i64 ((gt s21.l n24) + (diff_After.Gap (gt l_1.l n23)))) > (gt s21.l n25)) then ((ixI (diff_After.J (gt l_1.l n23)) s21.l.length).bind fun n26 =>
 (ixI (diff_After.J (gt l_1.l n23)) s22.l.length).bind fun n27 =>
 some (diff_After.J (gt l_1.l n23), (Sl.mk (s21.l.set n26 (wr .i64 ((gt s21.l n24) + (diff_After.Gap (gt l_1.l n23)))))), (Sl.mk (s22.l.set n27 i20)))) else
 (some (i19, s21, s22)) : Option (Int × Sl Int × Sl Int)).bind fun (i28, s29, s30) =>
 some (.inl (i28, wr .i64 (i20 + 1), s29, s30))) else
 (some (.inr (i19, s21, s22)))
theorem qax (l_1 : Sl diff_After) : ∀ s, OLe (q5j l_1 s) (q0y l_1 s) := by
 intro s
 unfold q5j q0y
 repeat' first
  | with_reducible refine OLe.loop (fun _ => ?_) _ _
  | with_reducible refine OLe.lend (fun _ => ?_) ?_
  | with_reducible refine OLe.cond ?_ ?_
  | with_reducible refine OLe.bind ?_ (fun _ => ?_)
  | (split <;> try dsimp only)
  | with_reducible exact OLe.refl _
def q5d (n_0 : Int) (l_1 : Sl diff_After) : (Int × Int × Sl Int × Sl Int) → Option ((Int × Int × Sl Int × Sl Int) ⊕ (Int × Sl Int × Sl Int)) := fun (i9, i10, s11, s12) =>
 bif decide (i10 < (wr .i64 (n_0 + 1))) then ((loopN 100000 (q5j l_1) ((-1), 0, s11, s12)).bind fun (i31, s32, s33) =>
 bif decide (i31 < 0) then (some (.inr (i31, s32, s33))) else
 (some (.inl (i31, wr .i64 (i10 + 1), s32, s33)))) else
 (some (.inr (i9, s11, s12)))
theorem qbg (n_0 : Int) (l_1 : Sl diff_After) : ∀ s, OLe (q5d n_0 l_1 s) (q2f n_0 l_1 s) := by
 intro s
 unfold q5d q2f
 repeat' first
  | with_reducible apply qax
  | with_reducible refine OLe.loop (fun _ => ?_) _ _
  | with_reducible refine OLe.lend (fun _ => ?_) ?_
  | with_reducible refine OLe.cond ?_ ?_
  | with_reducible refine OLe.bind ?_ (fun _ => ?_)
  | (split <;> try dsimp only)
  | with_reducible exact OLe.refl _
def q89 (n_0 : Int) (l_1 : Sl diff_After) : Option (Sl Int × Sl Int × Int) :=
 (mkI 0 n_0 n_0).bind fun l1 =>
 (mkI 0 n_0 n_0).bind fun l2 =>
 (loopN 100000 (q5d n_0 l_1) ((-1), 0, (Sl.mk l1), (Sl.mk l2))).bind fun (i34, s35, s36) =>
 some (s35, s36, i34)
theorem qgc (n_0 : Int) (l_1 : Sl diff_After) : OLe (q89 n_0 l_1) (q5p n_0 l_1) := by
 unfold q89 q5p
 repeat' first
  | with_reducible apply qbg
  | with_reducible refine OLe.loop (fun _ => ?_) _ _
  | with_reducible refine OLe.lend (fun _ => ?_) ?_
  | with_reducible refine OLe.cond ?_ ?_
  | with_reducible refine OLe.bind ?_ (fun _ => ?_)
  | (split <;> try dsimp only)
  | with_reducible exact OLe.refl _
def q4n (n_0 : Int) (l_1 : Sl diff_After) : Option (Sl Int × Bool) :=
 (q6r n_0 l_1).bind fun r1 =>
 bif (!r1) then (some (Sl.nil, false)) else
 ((q89 n_0 l_1).bind fun (r2, r3, r4) =>
 bif decide (r4 ≥ 0) then (some (Sl.nil, false)) else
 (some (r2, true)))
theorem qa8 (n_0 : Int) (l_1 : Sl diff_After) : OLe (q4n n_0 l_1) (q32 n_0 l_1) := by
 unfold q4n q32
 repeat' first
  | with_reducible apply qdg
  | with_reducible apply qgc
  | with_reducible refine OLe.loop (fun _ => ?_) _ _
  | with_reducible refine OLe.lend (fun _ => ?_) ?_
  | with_reducible refine OLe.cond ?_ ?_
  | with_reducible refine OLe.bind ?_ (fun _ => ?_)
  | (split <;> try dsimp only)
  | with_reducible exact OLe.refl _
def q4j (n_0 : Int) (gap_1 : Int) : (Int × Sl diff_After) → Option ((Int × Sl diff_After) ⊕ (Sl diff_After)) := fun (i4, s5) =>
 bif decide (i4 < n_0) then ((capI (s5.l ++ [(⟨wr .i64 (i4 - 1), i4, gap_1⟩ : diff_After)])).bind fun l6 =>
 some (.inl (wr .i64 (i4 + 1), (Sl.mk l6)))) else
 (some (.inr s5))
theorem qaa (n_0 : Int) (gap_1 : Int) : ∀ s, OLe (q4j n_0 gap_1 s) (q1z n_0 gap_1 s) := by
 intro s
 unfold q4j q1z
 repeat' first
  | with_reducible refine OLe.loop (fun _ => ?_) _ _
  | with_reducible refine OLe.lend (fun _ => ?_) ?_
  | with_reducible refine OLe.cond ?_ ?_
  | with_reducible refine OLe.bind ?_ (fun _ => ?_)
  | (split <;> try dsimp only)
  | with_reducible exact OLe.refl _
def q7f (n_0 : Int) (gap_1 : Int) : Option (Sl Int) :=
 (loopN 100000 (q4j n_0 gap_1) (1, Sl.nil)).bind fun s7 =>
 (q4n n_0 s7).bind fun (r8, r9) =>
 some r8
theorem qel (n_0 : Int) (gap_1 : Int) : OLe (q7f n_0 gap_1) (q3a n_0 gap_1) := by
 unfold q7f q3a
 repeat' first
  | with_reducible apply qaa
  | with_reducible apply qa8
  | with_reducible refine OLe.loop (fun _ => ?_) _ _
  | with_reducible refine OLe.lend (fun _ => ?_) ?_
  | with_reducible refine OLe.cond ?_ ?_
  | with_reducible refine OLe.bind ?_ (fun _ => ?_)
  | (split <;> try dsimp only)
  | with_reducible exact OLe.refl _
def q6p (l_0 : Sl level_Move) (round_1 : Int) : (Int × Sl Int) → Option ((Int × Sl Int) ⊕ (Sl Int)) := fun (i4, s5) =>
 bif decide (i4 < (l_0.l.length : Int)) then (((ixI i4 l_0.l.length).bind fun n6 =>
 (bif ((level_Move.Round (gt l_0.l n6)) == round_1) then ((q0p s5 (level_Move.Sw (gt l_0.l n6))).bind fun r7 =>
 some (!r7)) else
 (some false) : Option Bool).bind fun b8 =>
 bif b8 then ((capI (s5.l ++ [level_Move.Sw (gt l_0.l n6)])).bind fun l9 =>
 some (Sl.mk l9)) else
 (some s5) : Option (Sl Int)).bind fun s10 =>
 some (.inl (wr .i64 (i4 + 1), s10))) else
 (some (.inr s5))
theorem qc6 (l_0 : Sl level_Move) (round_1 : Int) : ∀ s, OLe (q6p l_0 round_1 s) (q1y l_0 round_1 s) := by
 intro s
 unfold q6p q1y
 repeat' first
  | with_reducible apply q1h
  | with_reducible refine OLe.loop (fun _ => ?_) _ _
  | with_reducible refine OLe.lend (fun _ => ?_) ?_
  | with_reducible refine OLe.cond ?_ ?_
  | with_reducible refine OLe.bind ?_ (fun _ => ?_)
  | (split <;> try dsimp only)
  | with_reducible exact OLe.refl _
def q9p (l_0 : Sl level_Move) (round_1 : Int) : Option (Sl Int) :=
 (loopN 100000 (q6p l_0 round_1) (0, Sl.nil)).bind fun s11 =>
 some s11
theorem qhz (l_0 : Sl level_Move) (round_1 : Int) : OLe (q9p l_0 round_1) (q7m l_0 round_1) := by
 unfold q9p q7m
 repeat' first
  | with_reducible apply qc6
  | with_reducible refine OLe.loop (fun _ => ?_) _ _
  | with_reducible refine OLe.lend (fun _ => ?_) ?_
  | with_reducible refine OLe.cond ?_ ?_
  | with_reducible refine OLe.bind ?_ (fun _ => ?_)
  | (split <;> try dsimp only)
  | with_reducible exact OLe.refl _
def q5c (at_3 : Int) (miss_4 : Int) (lead_5 : Int) (r5 : Sl level_Move) (r7 : Int) (r8 : Sl Int) (r10 : Sl Int) : (Int × Sl level_Move × Int × Int × Int × Int × Sl plan_Round) → Option ((Int × Sl level_Move × Int × Int × Int × Int × Sl plan_Round) ⊕ (Sl level_Move × Int × Int × Int × Int × Sl plan_Round)) := fun (i19, s20, i21, i22, i23, i24, s25) =>
 bif decide (i19 < (r10.l.length : Int)) then ((ixI i19 r10.l.length).bind fun n26 =>
 (ixI i19 r8.l.length).bind fun n27 =>
 (ixI i19 r8.l.length).bind fun n28 =>
 (q9p r5 (gt r8.l n28)).bind fun r29 =>
 (capI (s25.l ++ [(⟨gt r8.l n27, wr .i64 ((wr .i64 ((wr .i64 ((wr .i64 ((wr .i64 (at_3 + lead_5)) + miss_4)) + r7)) + 1)) + (gt r10.l n26)), r29⟩ : plan_Round)])).bind fun l30 =>
 some (.inl (wr .i64 (i19 + 1), s20, i21, i22, i23, i24, (Sl.mk l30)))) else
 (some (.inr (s20, i21, i22, i23, i24, s25)))
theorem qbf (at_3 : Int) (miss_4 : Int) (lead_5 : Int) (r5 : Sl level_Move) (r7 : Int) (r8 : Sl Int) (r10 : Sl Int) : ∀ s, OLe (q5c at_3 miss_4 lead_5 r5 r7 r8 r10 s) (q2i at_3 miss_4 lead_5 r5 r7 r8 r10 s) := by
 intro s
 unfold q5c q2i
 repeat' first
  | with_reducible apply qhz
  | with_reducible refine OLe.loop (fun _ => ?_) _ _
  | with_reducible refine OLe.lend (fun _ => ?_) ?_
  | with_reducible refine OLe.cond ?_ ?_
  | with_reducible refine OLe.bind ?_ (fun _ => ?_)
  | (split <;> try dsimp only)
  | with_reducible exact OLe.refl _
def q84 (t_0 : api_Topo) (old_1 : Sl (Sl Int)) (now_2 : Sl (Sl Int)) (at_3 : Int) (miss_4 : Int) (lead_5 : Int) : Option (plan_Plan × Int) :=
 ((q79 at_3 1099511627776).bind fun r1 =>
 bif (!r1) then (some true) else
 ((q79 miss_4 1048576).bind fun r2 =>
 bif (!r2) then (some true) else
 ((q79 lead_5 1048576).bind fun r3 =>
 some (!r3))) : Option Bool).bind fun b4 =>
 bif b4 then (some ((⟨Sl.nil, Sl.nil, 0, 0, 0, 0⟩ : plan_Plan), 2)) else
 ((q6l t_0 old_1 now_2).bind fun (r5, r6) =>
 bif (r6 != 0) then (some ((⟨Sl.nil, Sl.nil, 0, 0, 0, 0⟩ : plan_Plan), r6)) else
 (bif ((r5.l.length : Int) == 0) then (some ((⟨Sl.nil, Sl.nil, 0, 0, 0, 0⟩ : plan_Plan), 7)) else
 ((q6i t_0).bind fun r7 =>
 (q5g r5).bind fun r8 =>
 (q7p t_0 miss_4).bind fun r9 =>
 (q7f (r8.l.length : Int) r9).bind fun r10 =>
 (loopN 100000 (q5c at_3 miss_4 lead_5 r5 r7 r8 r10) (0, r5, miss_4, r7, 0, 0, Sl.nil)).bind fun (s31, i32, i33, i34, i35, s36) =>
 (ixI (wr .i64 ((s36.l.length : Int) - 1)) s36.l.length).bind fun n37 =>
 bif decide ((wr .i64 ((plan_Round.At (gt s36.l n37)) + miss_4)) > 1099511627776) then (some ((⟨Sl.nil, Sl.nil, 0, 0, 0, 0⟩ : plan_Plan), 11)) else
 (some ((⟨s31, s36, i32, i33, wr .i64 ((wr .i64 ((wr .i64 ((wr .i64 ((wr .i64 ((wr .i64 (at_3 + lead_5)) + miss_4)) + r7)) + 1)) - miss_4)) - i33), wr .i64 ((plan_Round.At (gt s36.l n37)) + miss_4)⟩ : plan_Plan), 0)))))
theorem qfs (t_0 : api_Topo) (old_1 : Sl (Sl Int)) (now_2 : Sl (Sl Int)) (at_3 : Int) (miss_4 : Int) (lead_5 : Int) : OLe (q84 t_0 old_1 now_2 at_3 miss_4 lead_5) (q1r t_0 old_1 now_2 at_3 miss_4 lead_5) := by
 unfold q84 q1r
 repeat' first
  | with_reducible apply qk8
  | with_reducible apply qc8
  | with_reducible apply q9t
  | with_reducible apply qbk
  | with_reducible apply qau
  | with_reducible apply qel
  | with_reducible apply qbf
  | with_reducible refine OLe.loop (fun _ => ?_) _ _
  | with_reducible refine OLe.lend (fun _ => ?_) ?_
  | with_reducible refine OLe.cond ?_ ?_
  | with_reducible refine OLe.bind ?_ (fun _ => ?_)
  | (split <;> try dsimp only)
  | with_reducible exact OLe.refl _
def q5k (p_0 : plan_Plan) (t_1 : Int) : Option Bool :=
 some ((decide (t_1 ≥ (plan_Plan.From p_0))) && (decide (t_1 ≤ (plan_Plan.To p_0))))
theorem qb9 (p_0 : plan_Plan) (t_1 : Int) : OLe (q5k p_0 t_1) (q59 p_0 t_1) := by
 unfold q5k q59
 repeat' first
  | with_reducible refine OLe.loop (fun _ => ?_) _ _
  | with_reducible refine OLe.lend (fun _ => ?_) ?_
  | with_reducible refine OLe.cond ?_ ?_
  | with_reducible refine OLe.bind ?_ (fun _ => ?_)
  | (split <;> try dsimp only)
  | with_reducible exact OLe.refl _
def q85 : Option api_Match :=
 some (⟨(-1), (zeE (.ar 4 (.i .i64))), (zeE (.ar 4 (.i .i64)))⟩ : api_Match)
theorem qf0 : OLe (q85) (q8z) := by
 unfold q85 q8z
 repeat' first
  | with_reducible refine OLe.loop (fun _ => ?_) _ _
  | with_reducible refine OLe.lend (fun _ => ?_) ?_
  | with_reducible refine OLe.cond ?_ ?_
  | with_reducible refine OLe.bind ?_ (fun _ => ?_)
  | (split <;> try dsimp only)
  | with_reducible exact OLe.refl _
def q67 (f_0 : Int) : Option Int :=
 (bif (f_0 == 0) then (some (f_0 == 0)) else
 (bif (f_0 == 1) then (some (f_0 == 1)) else
 (some (f_0 == 3))) : Option Bool).bind fun b1 =>
 bif b1 then (some 8) else
 (bif (f_0 == 2) then (some 4) else
 (some 0))
theorem qc9 (f_0 : Int) : OLe (q67 f_0) (q6e f_0) := by
 unfold q67 q6e
 repeat' first
  | with_reducible refine OLe.loop (fun _ => ?_) _ _
  | with_reducible refine OLe.lend (fun _ => ?_) ?_
  | with_reducible refine OLe.cond ?_ ?_
  | with_reducible refine OLe.bind ?_ (fun _ => ?_)
  | (split <;> try dsimp only)
  | with_reducible exact OLe.refl _
def q4z (f_0 : Int) : Option Int :=
 (q67 f_0).bind fun r1 =>
 (shlI .i64 1 r1).bind fun i2 =>
 some (wr .i64 (i2 - 1))
theorem qdy (f_0 : Int) : OLe (q4z f_0) (q5q f_0) := by
 unfold q4z q5q
 repeat' first
  | with_reducible apply qc9
  | with_reducible refine OLe.loop (fun _ => ?_) _ _
  | with_reducible refine OLe.lend (fun _ => ?_) ?_
  | with_reducible refine OLe.cond ?_ ?_
  | with_reducible refine OLe.bind ?_ (fun _ => ?_)
  | (split <;> try dsimp only)
  | with_reducible exact OLe.refl _
def q97 (f_0 : Int) (v_1 : Int) : Option api_Match :=
 (q85).bind fun r1 =>
 ((bif (((decide (f_0 ≥ 0)) && (decide (f_0 < 4))) && (decide (v_1 ≥ 0))) then ((q4z f_0).bind fun r2 =>
 some (decide (v_1 ≤ r2))) else
 (some false) : Option Bool).bind fun b3 =>
 bif b3 then ((q4z f_0).bind fun r4 =>
 (ixI f_0 4).bind fun n5 =>
 (ixI f_0 4).bind fun n6 =>
 some (⟨api_Match.Port r1, Arr.set (api_Match.Val r1) n5 v_1, Arr.set (api_Match.Mask r1) n6 r4⟩ : api_Match)) else
 (some r1) : Option api_Match).bind fun x7 =>
 some x7
theorem qgs (f_0 : Int) (v_1 : Int) : OLe (q97 f_0 v_1) (qap f_0 v_1) := by
 unfold q97 qap
 repeat' first
  | with_reducible apply qf0
  | with_reducible apply qdy
  | with_reducible refine OLe.loop (fun _ => ?_) _ _
  | with_reducible refine OLe.lend (fun _ => ?_) ?_
  | with_reducible refine OLe.cond ?_ ?_
  | with_reducible refine OLe.bind ?_ (fun _ => ?_)
  | (split <;> try dsimp only)
  | with_reducible exact OLe.refl _
def q8d (f_0 : Int) (v_1 : Int) (prio_2 : Int) : Option api_Rule :=
 (q97 f_0 v_1).bind fun r1 =>
 some (⟨prio_2, r1, Sl.nil⟩ : api_Rule)
theorem qf2 (f_0 : Int) (v_1 : Int) (prio_2 : Int) : OLe (q8d f_0 v_1 prio_2) (q8g f_0 v_1 prio_2) := by
 unfold q8d q8g
 repeat' first
  | with_reducible apply qgs
  | with_reducible refine OLe.loop (fun _ => ?_) _ _
  | with_reducible refine OLe.lend (fun _ => ?_) ?_
  | with_reducible refine OLe.cond ?_ ?_
  | with_reducible refine OLe.bind ?_ (fun _ => ?_)
  | (split <;> try dsimp only)
  | with_reducible exact OLe.refl _
def q7h (f_0 : Int) (v_1 : Int) (prio_2 : Int) (port_3 : Int) : Option api_Rule :=
 (q8d f_0 v_1 prio_2).bind fun r1 =>
 some (⟨api_Rule.Prio r1, api_Rule.M r1, (Sl.mk [(⟨2, 0, port_3⟩ : api_Act)])⟩ : api_Rule)
theorem qef (f_0 : Int) (v_1 : Int) (prio_2 : Int) (port_3 : Int) : OLe (q7h f_0 v_1 prio_2 port_3) (q7o f_0 v_1 prio_2 port_3) := by
 unfold q7h q7o
 repeat' first
  | with_reducible apply qf2
  | with_reducible refine OLe.loop (fun _ => ?_) _ _
  | with_reducible refine OLe.lend (fun _ => ?_) ?_
  | with_reducible refine OLe.cond ?_ ?_
  | with_reducible refine OLe.bind ?_ (fun _ => ?_)
  | (split <;> try dsimp only)
  | with_reducible exact OLe.refl _
def q4e (l_0 : Sl level_Move) (round_1 : Int) (sw_2 : Int) : (Int × Sl api_Mod) → Option ((Int × Sl api_Mod) ⊕ (Sl api_Mod)) := fun (i4, s5) =>
 bif decide (i4 < (l_0.l.length : Int)) then (((ixI i4 l_0.l.length).bind fun n6 =>
 bif (((level_Move.Round (gt l_0.l n6)) == round_1) && ((level_Move.Sw (gt l_0.l n6)) == sw_2)) then ((q7h 1 (level_Move.Host (gt l_0.l n6)) 10 (level_Move.Port (gt l_0.l n6))).bind fun r7 =>
 (capI (s5.l ++ [(⟨3, r7, false⟩ : api_Mod)])).bind fun l8 =>
 some (Sl.mk l8)) else
 (some s5) : Option (Sl api_Mod)).bind fun s9 =>
 some (.inl (wr .i64 (i4 + 1), s9))) else
 (some (.inr s5))
theorem qa7 (l_0 : Sl level_Move) (round_1 : Int) (sw_2 : Int) : ∀ s, OLe (q4e l_0 round_1 sw_2 s) (q5z l_0 round_1 sw_2 s) := by
 intro s
 unfold q4e q5z
 repeat' first
  | with_reducible apply qef
  | with_reducible refine OLe.loop (fun _ => ?_) _ _
  | with_reducible refine OLe.lend (fun _ => ?_) ?_
  | with_reducible refine OLe.cond ?_ ?_
  | with_reducible refine OLe.bind ?_ (fun _ => ?_)
  | (split <;> try dsimp only)
  | with_reducible exact OLe.refl _
def q78 (l_0 : Sl level_Move) (round_1 : Int) (sw_2 : Int) : Option (Sl api_Mod) :=
 (loopN 100000 (q4e l_0 round_1 sw_2) (0, Sl.nil)).bind fun s10 =>
 some s10
theorem qdz (l_0 : Sl level_Move) (round_1 : Int) (sw_2 : Int) : OLe (q78 l_0 round_1 sw_2) (q7i l_0 round_1 sw_2) := by
 unfold q78 q7i
 repeat' first
  | with_reducible apply qa7
  | with_reducible refine OLe.loop (fun _ => ?_) _ _
  | with_reducible refine OLe.lend (fun _ => ?_) ?_
  | with_reducible refine OLe.cond ?_ ?_
  | with_reducible refine OLe.bind ?_ (fun _ => ?_)
  | (split <;> try dsimp only)
  | with_reducible exact OLe.refl _
def q4p (p_0 : plan_Plan) (k_1 : Int) (n1 : Nat) : (Int × Sl plan_Part) → Option ((Int × Sl plan_Part) ⊕ (Sl plan_Part)) := fun (i5, s6) =>
 bif decide (i5 < (((plan_Round.Sws (gt ((plan_Plan.Rounds p_0).l) n1)).l).length : Int)) then ((ixI i5 ((plan_Round.Sws (gt ((plan_Plan.Rounds p_0).l) n1)).l).length).bind fun n7 =>
 (ixI k_1 ((plan_Plan.Rounds p_0).l).length).bind fun n8 =>
 (q78 (plan_Plan.Moves p_0) (plan_Round.No (gt ((plan_Plan.Rounds p_0).l) n8)) (gt ((plan_Round.Sws (gt ((plan_Plan.Rounds p_0).l) n1)).l) n7)).bind fun r9 =>
 (capI (s6.l ++ [(⟨gt ((plan_Round.Sws (gt ((plan_Plan.Rounds p_0).l) n1)).l) n7, r9⟩ : plan_Part)])).bind fun l10 =>
 some (.inl (wr .i64 (i5 + 1), (Sl.mk l10)))) else
 (some (.inr s6))
theorem qa6 (p_0 : plan_Plan) (k_1 : Int) (n1 : Nat) : ∀ s, OLe (q4p p_0 k_1 n1 s) (q61 p_0 k_1 n1 s) := by
 intro s
 unfold q4p q61
 repeat' first
  | with_reducible apply qdz
  | with_reducible refine OLe.loop (fun _ => ?_) _ _
  | with_reducible refine OLe.lend (fun _ => ?_) ?_
  | with_reducible refine OLe.cond ?_ ?_
  | with_reducible refine OLe.bind ?_ (fun _ => ?_)
  | (split <;> try dsimp only)
  | with_reducible exact OLe.refl _
def q7c (p_0 : plan_Plan) (k_1 : Int) : Option (Sl plan_Part) :=
 bif ((decide (k_1 < 0)) || (decide (k_1 ≥ (((plan_Plan.Rounds p_0).l).length : Int)))) then (some Sl.nil) else
 ((ixI k_1 ((plan_Plan.Rounds p_0).l).length).bind fun n1 =>
 (loopN 100000 (q4p p_0 k_1 n1) (0, Sl.nil)).bind fun s11 =>
 some s11)
theorem qe7 (p_0 : plan_Plan) (k_1 : Int) : OLe (q7c p_0 k_1) (q7q p_0 k_1) := by
 unfold q7c q7q
 repeat' first
  | with_reducible apply qa6
  | with_reducible refine OLe.loop (fun _ => ?_) _ _
  | with_reducible refine OLe.lend (fun _ => ?_) ?_
  | with_reducible refine OLe.cond ?_ ?_
  | with_reducible refine OLe.bind ?_ (fun _ => ?_)
  | (split <;> try dsimp only)
  | with_reducible exact OLe.refl _
def q8f : Option Bool :=
 (q84 (⟨3, (Sl.mk [(⟨0, 0, 1, 0, 1, 1⟩ : api_Link), (⟨1, 1, 2, 0, 1, 2⟩ : api_Link), (⟨0, 1, 2, 1, 1, 1⟩ : api_Link)]), (Sl.mk [(⟨2, 7⟩ : api_Host)])⟩ : api_Topo) (Sl.mk [(Sl.mk [0]), (Sl.mk [1]), (Sl.mk [7])]) (Sl.mk [(Sl.mk [1]), (Sl.mk [1]), (Sl.mk [7])]) 100 4 10).bind fun (r1, r2) =>
 ((q7p (⟨3, (Sl.mk [(⟨0, 0, 1, 0, 1, 1⟩ : api_Link), (⟨1, 1, 2, 0, 1, 2⟩ : api_Link), (⟨0, 1, 2, 1, 1, 1⟩ : api_Link)]), (Sl.mk [(⟨2, 7⟩ : api_Host)])⟩ : api_Topo) 4).bind fun r3 =>
 bif (((r3 == 15) && (r2 == 0)) && ((((plan_Plan.Rounds r1).l).length : Int) == 1)) then ((ixI 0 ((plan_Plan.Rounds r1).l).length).bind fun n4 =>
 bif ((((plan_Round.At (gt ((plan_Plan.Rounds r1).l) n4)) == 121) && ((plan_Plan.From r1) == 111)) && ((plan_Plan.To r1) == 125)) then ((q5k r1 125).bind fun r5 =>
 bif r5 then ((q7c r1 0).bind fun r6 =>
 some ((r6.l.length : Int) == 1)) else
 (some false)) else
 (some false)) else
 (some false) : Option Bool).bind fun b7 =>
 some b7
theorem qc4 : OLe (q8f) (q2e) := by
 unfold q8f q2e
 repeat' first
  | with_reducible apply qfs
  | with_reducible apply qau
  | with_reducible apply qb9
  | with_reducible apply qe7
  | with_reducible refine OLe.loop (fun _ => ?_) _ _
  | with_reducible refine OLe.lend (fun _ => ?_) ?_
  | with_reducible refine OLe.cond ?_ ?_
  | with_reducible refine OLe.bind ?_ (fun _ => ?_)
  | (split <;> try dsimp only)
  | with_reducible exact OLe.refl _
theorem q1i : q2e = some true := qc4 _ (by decide +kernel)
end Go.Proofs.Ytjdfgncibpbgdaa.L
