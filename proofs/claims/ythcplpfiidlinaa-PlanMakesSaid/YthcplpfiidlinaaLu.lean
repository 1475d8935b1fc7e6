/- q3t answers true: by running its twin. Conditions: none. -/
import Derived.Test.YthcplpfiidlinaaL
import Derived.Test.YthcplpfiidlinaaTwin
import Derived.Test.YthcplpfiidlinaaLP
open Go.Ev Go
namespace Go.Proofs.Ythcplpfiidlinaa.L
noncomputable def q7u (t_0 : api_Topo) : Option (Sl topo_place) :=
 (q4k 100000 (q3n t_0) (0, Sl.nil)).bind fun s8 =>
 (q4k 100000 (q3k t_0) (0, s8)).bind fun s15 =>
 some s15
theorem qez (t_0 : api_Topo) : OLe (q7u t_0) (q4t t_0) := by
 unfold q7u q4t
 repeat' first
  | with_reducible refine OLe.loop (fun _ => ?_) _ _
  | with_reducible refine OLe.bind ?_ (fun _ => ?_)
  | (split <;> try dsimp only)
  | with_reducible exact OLe.refl _
noncomputable def q9a (t_0 : api_Topo) : Option Bool :=
 bif ((((decide ((api_Topo.Switches t_0) < 1)) || (decide ((api_Topo.Switches t_0) > 8))) || (decide ((((api_Topo.Links t_0).l).length : Int) > 24))) || (decide ((((api_Topo.Hosts t_0).l).length : Int) > 8))) then (some false) else
 ((q4k 100000 (q45 t_0) 0).bind fun
 | .inl b4 => (some b4)
 | .inr _ => ((q7u t_0).bind fun r5 =>
 (q4k 100000 (q20 t_0 r5) (0, (Mp.none : Mp topo_place Int))).bind fun
 | .inl b13 => (some b13)
 | .inr _ => (some true)))
theorem qh9 (t_0 : api_Topo) : OLe (q9a t_0) (q5p t_0) := by
 unfold q9a q5p
 repeat' first
  | with_reducible apply qez
  | with_reducible refine OLe.loop (fun _ => ?_) _ _
  | with_reducible refine OLe.cond ?_ ?_
  | with_reducible refine OLe.bind ?_ (fun _ => ?_)
  | (split <;> try dsimp only)
  | with_reducible exact OLe.refl _
noncomputable def q0o (s_0 : Sl Int) : Option Int :=
 (q4k 100000 (q0a s_0) 0).bind fun
 | .inl i5 => (some i5)
 | .inr _ => (some (-1))
theorem q2x (s_0 : Sl Int) : OLe (q0o s_0) (q0d s_0) := by
 unfold q0o q0d
 repeat' first
  | with_reducible refine OLe.loop (fun _ => ?_) _ _
  | with_reducible refine OLe.bind ?_ (fun _ => ?_)
  | (split <;> try dsimp only)
  | with_reducible exact OLe.refl _
noncomputable def q0j (s_0 : Sl Int) : Option Bool :=
 (q0o s_0).bind fun r1 =>
 some (decide (r1 ≥ 0))
theorem q2e (s_0 : Sl Int) : OLe (q0j s_0) (q08 s_0) := by
 unfold q0j q08
 repeat' first
  | with_reducible apply q2x
  | with_reducible refine OLe.bind ?_ (fun _ => ?_)
  | (split <;> try dsimp only)
  | with_reducible exact OLe.refl _
noncomputable def q5b (t_0 : api_Topo) (r_1 : Sl (Sl Int)) : Int → Option (Int ⊕ (Bool ⊕ Unit)) := fun i3 =>
 bif decide (i3 < (r_1.l.length : Int)) then ((ixI i3 r_1.l.length).bind fun n4 =>
 (bif ((((gt r_1.l n4).l).length : Int) != (((api_Topo.Hosts t_0).l).length : Int)) then (some true) else
 ((q0j (gt r_1.l n4)).bind fun r5 =>
 some r5) : Option Bool).bind fun b6 =>
 bif b6 then (some (.inr (.inl false))) else
 (some (.inl (wr .i64 (i3 + 1))))) else
 (some (.inr (.inr ())))
theorem qbv (t_0 : api_Topo) (r_1 : Sl (Sl Int)) : ∀ s, OLe (q5b t_0 r_1 s) (q2u t_0 r_1 s) := by
 intro s
 unfold q5b q2u
 repeat' first
  | with_reducible apply q2e
  | with_reducible refine OLe.cond ?_ ?_
  | with_reducible refine OLe.bind ?_ (fun _ => ?_)
  | (split <;> try dsimp only)
  | with_reducible exact OLe.refl _
noncomputable def q4d (t_0 : api_Topo) (r_1 : Sl (Sl Int)) : Option Bool :=
 (q9a t_0).bind fun r1 =>
 bif ((!r1) || ((r_1.l.length : Int) != (api_Topo.Switches t_0))) then (some false) else
 ((q4k 100000 (q5b t_0 r_1) 0).bind fun
 | .inl b7 => (some b7)
 | .inr _ => (some true))
theorem q6z (t_0 : api_Topo) (r_1 : Sl (Sl Int)) : OLe (q4d t_0 r_1) (q2k t_0 r_1) := by
 unfold q4d q2k
 repeat' first
  | with_reducible apply qh9
  | with_reducible apply qbv
  | with_reducible refine OLe.loop (fun _ => ?_) _ _
  | with_reducible refine OLe.cond ?_ ?_
  | with_reducible refine OLe.bind ?_ (fun _ => ?_)
  | (split <;> try dsimp only)
  | with_reducible exact OLe.refl _
noncomputable def q2y (s_0 : Sl Int) (v_1 : Int) : Option Int :=
 (q4k 100000 (q13 s_0 v_1) 0).bind fun
 | .inl i4 => (some i4)
 | .inr _ => (some (-1))
theorem q8e (s_0 : Sl Int) (v_1 : Int) : OLe (q2y s_0 v_1) (q1g s_0 v_1) := by
 unfold q2y q1g
 repeat' first
  | with_reducible refine OLe.loop (fun _ => ?_) _ _
  | with_reducible refine OLe.bind ?_ (fun _ => ?_)
  | (split <;> try dsimp only)
  | with_reducible exact OLe.refl _
noncomputable def q0x (s_0 : Sl Int) (v_1 : Int) : Option Bool :=
 (q2y s_0 v_1).bind fun r1 =>
 some (decide (r1 ≥ 0))
theorem q1u (s_0 : Sl Int) (v_1 : Int) : OLe (q0x s_0 v_1) (q0i s_0 v_1) := by
 unfold q0x q0i
 repeat' first
  | with_reducible apply q8e
  | with_reducible refine OLe.bind ?_ (fun _ => ?_)
  | (split <;> try dsimp only)
  | with_reducible exact OLe.refl _
noncomputable def q4r (l_0 : Sl Int) : Option Bool :=
 (bif decide ((l_0.l.length : Int) > 0) then ((qk2 l_0.l 0 (wr .i64 ((l_0.l.length : Int) - 1))).bind fun l1 =>
 (ixI (wr .i64 ((l_0.l.length : Int) - 1)) l_0.l.length).bind fun n2 =>
 (q0x (l_0.to l1) (gt l_0.l n2)).bind fun r3 =>
 some r3) else
 (some false) : Option Bool).bind fun b4 =>
 some b4
theorem qbf (l_0 : Sl Int) : OLe (q4r l_0) (q1n l_0) := by
 unfold q4r q1n
 repeat' first
  | with_reducible apply q1u
  | with_reducible refine OLe.cond ?_ ?_
  | with_reducible refine OLe.bind ?_ (fun _ => ?_)
  | (split <;> try dsimp only)
  | with_reducible exact OLe.refl _
noncomputable def qai (t_0 : api_Topo) (sw_1 : Int) (port_2 : Int) : Option (Int × Int × Int × Bool) :=
 (q4k 100000 (q56 t_0 sw_1 port_2) 0).bind fun
 | .inl (i4, i5, i6, b7) => (some (i4, i5, i6, b7))
 | .inr _ => (some (0, 0, 0, false))
theorem qj7 (t_0 : api_Topo) (sw_1 : Int) (port_2 : Int) : OLe (qai t_0 sw_1 port_2) (q7o t_0 sw_1 port_2) := by
 unfold qai q7o
 repeat' first
  | with_reducible refine OLe.loop (fun _ => ?_) _ _
  | with_reducible refine OLe.bind ?_ (fun _ => ?_)
  | (split <;> try dsimp only)
  | with_reducible exact OLe.refl _
noncomputable def q95 (t_0 : api_Topo) (r_1 : Sl (Sl Int)) (sw_2 : Int) (h_3 : Int) : Option (Int × Bool) :=
 (q4s r_1 sw_2 h_3).bind fun (r1, r2) =>
 bif (!r2) then (some (0, false)) else
 ((qai t_0 sw_2 r1).bind fun (r3, r4, r5, r6) =>
 some (r3, r6))
theorem qgv (t_0 : api_Topo) (r_1 : Sl (Sl Int)) (sw_2 : Int) (h_3 : Int) : OLe (q95 t_0 r_1 sw_2 h_3) (q5q t_0 r_1 sw_2 h_3) := by
 unfold q95 q5q
 repeat' first
  | with_reducible apply qj7
  | with_reducible refine OLe.cond ?_ ?_
  | with_reducible refine OLe.bind ?_ (fun _ => ?_)
  | (split <;> try dsimp only)
  | with_reducible exact OLe.refl _
noncomputable def q6i (t_0 : api_Topo) (r_1 : Sl (Sl Int)) (h_3 : Int) : (Sl Int) → Option (Sl Int ⊕ ((Int × Sl Int) ⊕ Unit)) := fun s6 =>
 (q4r s6).bind fun r7 =>
 bif (!r7) then ((ixI (wr .i64 ((s6.l.length : Int) - 1)) s6.l.length).bind fun n8 =>
 (ixI h_3 ((api_Topo.Hosts t_0).l).length).bind fun n9 =>
 (ixI (gt s6.l n8) r_1.l.length).bind fun n10 =>
 (ixI h_3 ((gt r_1.l n10).l).length).bind fun n11 =>
 bif decide ((gt ((api_Topo.Hosts t_0).l) n9) = (⟨gt s6.l n8, gt ((gt r_1.l n10).l) n11⟩ : api_Host)) then (some (.inr (.inl (0, s6)))) else
 ((q95 t_0 r_1 (gt s6.l n8) h_3).bind fun (r12, r13) =>
 bif (!r13) then (some (.inr (.inl (13, Sl.nil)))) else
 ((q8m (s6.l ++ [r12])).bind fun l14 =>
 some (.inl (Sl.mk l14))))) else
 (some (.inr (.inr ())))
theorem qct (t_0 : api_Topo) (r_1 : Sl (Sl Int)) (h_3 : Int) : ∀ s, OLe (q6i t_0 r_1 h_3 s) (q0m t_0 r_1 h_3 s) := by
 intro s
 unfold q6i q0m
 repeat' first
  | with_reducible apply qbf
  | with_reducible apply qgv
  | with_reducible refine OLe.cond ?_ ?_
  | with_reducible refine OLe.bind ?_ (fun _ => ?_)
  | (split <;> try dsimp only)
  | with_reducible exact OLe.refl _
noncomputable def q90 (t_0 : api_Topo) (r_1 : Sl (Sl Int)) (sw_2 : Int) (h_3 : Int) : Option (Sl Int × Int) :=
 (q4s r_1 sw_2 h_3).bind fun (r1, r2) =>
 (bif (!r2) then (some true) else
 ((q4d t_0 r_1).bind fun r3 =>
 some (!r3)) : Option Bool).bind fun b4 =>
 bif b4 then (some (Sl.nil, 2)) else
 ((q4k 100000 (q6i t_0 r_1 h_3) (Sl.mk [sw_2])).bind fun
 | .inl (i15, s16) => (some (s16, i15))
 | .inr _ => (some (Sl.nil, 12)))
theorem qhp (t_0 : api_Topo) (r_1 : Sl (Sl Int)) (sw_2 : Int) (h_3 : Int) : OLe (q90 t_0 r_1 sw_2 h_3) (q2r t_0 r_1 sw_2 h_3) := by
 unfold q90 q2r
 repeat' first
  | with_reducible apply q6z
  | with_reducible apply qct
  | with_reducible refine OLe.loop (fun _ => ?_) _ _
  | with_reducible refine OLe.cond ?_ ?_
  | with_reducible refine OLe.bind ?_ (fun _ => ?_)
  | (split <;> try dsimp only)
  | with_reducible exact OLe.refl _
noncomputable def q70 (t_0 : api_Topo) (r_1 : Sl (Sl Int)) (h_2 : Int) : (Int × Sl Int) → Option ((Int × Sl Int) ⊕ (Sl Int)) := fun (i5, s6) =>
 bif decide (i5 < (r_1.l.length : Int)) then ((q90 t_0 r_1 i5 h_2).bind fun (r7, r8) =>
 (q8m (s6.l ++ [wr .i64 ((r7.l.length : Int) - 1)])).bind fun l9 =>
 some (.inl (wr .i64 (i5 + 1), (Sl.mk l9)))) else
 (some (.inr s6))
theorem qdh (t_0 : api_Topo) (r_1 : Sl (Sl Int)) (h_2 : Int) : ∀ s, OLe (q70 t_0 r_1 h_2 s) (q1c t_0 r_1 h_2 s) := by
 intro s
 unfold q70 q1c
 repeat' first
  | with_reducible apply qhp
  | with_reducible refine OLe.cond ?_ ?_
  | with_reducible refine OLe.bind ?_ (fun _ => ?_)
  | (split <;> try dsimp only)
  | with_reducible exact OLe.refl _
noncomputable def q7s (t_0 : api_Topo) (r_1 : Sl (Sl Int)) (h_2 : Int) : Option (Sl Int) :=
 (q4d t_0 r_1).bind fun r1 =>
 bif (((!r1) || (decide (h_2 < 0))) || (decide (h_2 ≥ (((api_Topo.Hosts t_0).l).length : Int)))) then (some Sl.nil) else
 ((q4k 100000 (q70 t_0 r_1 h_2) (0, Sl.nil)).bind fun s10 =>
 some s10)
theorem qcb (t_0 : api_Topo) (r_1 : Sl (Sl Int)) (h_2 : Int) : OLe (q7s t_0 r_1 h_2) (q49 t_0 r_1 h_2) := by
 unfold q7s q49
 repeat' first
  | with_reducible apply q6z
  | with_reducible apply qdh
  | with_reducible refine OLe.loop (fun _ => ?_) _ _
  | with_reducible refine OLe.cond ?_ ?_
  | with_reducible refine OLe.bind ?_ (fun _ => ?_)
  | (split <;> try dsimp only)
  | with_reducible exact OLe.refl _
noncomputable def q60 (t_0 : api_Topo) (r_1 : Sl (Sl Int)) : Int → Option (Int ⊕ (Bool ⊕ Unit)) := fun i3 =>
 bif decide (i3 < (((api_Topo.Hosts t_0).l).length : Int)) then ((q7s t_0 r_1 i3).bind fun r4 =>
 (q0x r4 (-1)).bind fun r5 =>
 bif r5 then (some (.inr (.inl false))) else
 (some (.inl (wr .i64 (i3 + 1))))) else
 (some (.inr (.inr ())))
theorem qco (t_0 : api_Topo) (r_1 : Sl (Sl Int)) : ∀ s, OLe (q60 t_0 r_1 s) (q1i t_0 r_1 s) := by
 intro s
 unfold q60 q1i
 repeat' first
  | with_reducible apply qcb
  | with_reducible apply q1u
  | with_reducible refine OLe.cond ?_ ?_
  | with_reducible refine OLe.bind ?_ (fun _ => ?_)
  | (split <;> try dsimp only)
  | with_reducible exact OLe.refl _
noncomputable def q6m (t_0 : api_Topo) (r_1 : Sl (Sl Int)) : Option Bool :=
 (q4d t_0 r_1).bind fun r1 =>
 bif (!r1) then (some false) else
 ((q4k 100000 (q60 t_0 r_1) 0).bind fun
 | .inl b6 => (some b6)
 | .inr _ => (some true))
theorem qgl (t_0 : api_Topo) (r_1 : Sl (Sl Int)) : OLe (q6m t_0 r_1) (q2s t_0 r_1) := by
 unfold q6m q2s
 repeat' first
  | with_reducible apply q6z
  | with_reducible apply qco
  | with_reducible refine OLe.loop (fun _ => ?_) _ _
  | with_reducible refine OLe.cond ?_ ?_
  | with_reducible refine OLe.bind ?_ (fun _ => ?_)
  | (split <;> try dsimp only)
  | with_reducible exact OLe.refl _
noncomputable def q5d (t_0 : api_Topo) (old_1 : Sl (Sl Int)) (now_2 : Sl (Sl Int)) : (Int × Sl level_Move) → Option ((Int × Sl level_Move) ⊕ (Sl level_Move)) := fun (i7, s8) =>
 bif decide (i7 < (((api_Topo.Hosts t_0).l).length : Int)) then ((q7s t_0 now_2 i7).bind fun r9 =>
 (q4k 100000 (q25 old_1 now_2 i7 r9) (0, s8)).bind fun s23 =>
 some (.inl (wr .i64 (i7 + 1), s23))) else
 (some (.inr s8))
theorem qbq (t_0 : api_Topo) (old_1 : Sl (Sl Int)) (now_2 : Sl (Sl Int)) : ∀ s, OLe (q5d t_0 old_1 now_2 s) (q2t t_0 old_1 now_2 s) := by
 intro s
 unfold q5d q2t
 repeat' first
  | with_reducible apply qcb
  | with_reducible refine OLe.loop (fun _ => ?_) _ _
  | with_reducible refine OLe.cond ?_ ?_
  | with_reducible refine OLe.bind ?_ (fun _ => ?_)
  | (split <;> try dsimp only)
  | with_reducible exact OLe.refl _
noncomputable def q7v (t_0 : api_Topo) (old_1 : Sl (Sl Int)) (now_2 : Sl (Sl Int)) : Option (Sl level_Move × Int) :=
 ((q6m t_0 old_1).bind fun r1 =>
 bif (!r1) then (some true) else
 ((q6m t_0 now_2).bind fun r2 =>
 some (!r2)) : Option Bool).bind fun b3 =>
 bif b3 then (some (Sl.nil, 2)) else
 ((q4k 100000 (q5d t_0 old_1 now_2) (0, Sl.nil)).bind fun s24 =>
 (qch s24).bind fun s25 =>
 (qty s25 s24).bind fun _ =>
 some (s25, 0))
theorem qf6 (t_0 : api_Topo) (old_1 : Sl (Sl Int)) (now_2 : Sl (Sl Int)) : OLe (q7v t_0 old_1 now_2) (q38 t_0 old_1 now_2) := by
 unfold q7v q38
 repeat' first
  | with_reducible apply qgl
  | with_reducible apply qbq
  | with_reducible apply qwa
  | with_reducible refine OLe.loop (fun _ => ?_) _ _
  | with_reducible refine OLe.cond ?_ ?_
  | with_reducible refine OLe.bind ?_ (fun _ => ?_)
  | (split <;> try dsimp only)
  | with_reducible exact OLe.refl _
noncomputable def q71 (l_0 : Sl level_Move) : Option (Sl Int) :=
 (q4k 100000 (q32 l_0) (0, Sl.nil)).bind fun s8 =>
 (qch s8).bind fun s9 =>
 (qty s9 s8).bind fun _ =>
 (qch s9).bind fun s10 =>
 some s10
theorem qdy (l_0 : Sl level_Move) : OLe (q71 l_0) (q37 l_0) := by
 unfold q71 q37
 repeat' first
  | with_reducible apply qzg
  | with_reducible apply qy1
  | with_reducible refine OLe.loop (fun _ => ?_) _ _
  | with_reducible refine OLe.bind ?_ (fun _ => ?_)
  | (split <;> try dsimp only)
  | with_reducible exact OLe.refl _
noncomputable def q76 (t_0 : api_Topo) : Option Int :=
 (q4k 100000 (q2d t_0) (0, 0)).bind fun i6 =>
 some i6
theorem qdr (t_0 : api_Topo) : OLe (q76 t_0) (q3w t_0) := by
 unfold q76 q3w
 repeat' first
  | with_reducible refine OLe.loop (fun _ => ?_) _ _
  | with_reducible refine OLe.bind ?_ (fun _ => ?_)
  | (split <;> try dsimp only)
  | with_reducible exact OLe.refl _
noncomputable def q7r (t_0 : api_Topo) : Option Int :=
 (q76 t_0).bind fun r1 =>
 some (wr .i64 ((api_Topo.Switches t_0) * r1))
theorem qcd (t_0 : api_Topo) : OLe (q7r t_0) (q5x t_0) := by
 unfold q7r q5x
 repeat' first
  | with_reducible apply qdr
  | with_reducible refine OLe.bind ?_ (fun _ => ?_)
  | (split <;> try dsimp only)
  | with_reducible exact OLe.refl _
noncomputable def q9l (t_0 : api_Topo) (miss_1 : Int) : Option Int :=
 (q7r t_0).bind fun r1 =>
 some (wr .i64 ((wr .i64 ((wr .i64 (2 * miss_1)) + r1)) + 1))
theorem qe5 (t_0 : api_Topo) (miss_1 : Int) : OLe (q9l t_0 miss_1) (q7w t_0 miss_1) := by
 unfold q9l q7w
 repeat' first
  | with_reducible apply qcd
  | with_reducible refine OLe.bind ?_ (fun _ => ?_)
  | (split <;> try dsimp only)
  | with_reducible exact OLe.refl _
noncomputable def q0f (s_0 : Sl diff_After) (f_1_c0 : Int) : Option Int :=
 (q4k 100000 (q04 s_0 f_1_c0) 0).bind fun
 | .inl i5 => (some i5)
 | .inr _ => (some (-1))
theorem q1f (s_0 : Sl diff_After) (f_1_c0 : Int) : OLe (q0f s_0 f_1_c0) (q05 s_0 f_1_c0) := by
 unfold q0f q05
 repeat' first
  | with_reducible refine OLe.loop (fun _ => ?_) _ _
  | with_reducible refine OLe.bind ?_ (fun _ => ?_)
  | (split <;> try dsimp only)
  | with_reducible exact OLe.refl _
noncomputable def q0c (s_0 : Sl diff_After) (f_1_c0 : Int) : Option Bool :=
 (q0f s_0 f_1_c0).bind fun r1 =>
 some (decide (r1 ≥ 0))
theorem q1a (s_0 : Sl diff_After) (f_1_c0 : Int) : OLe (q0c s_0 f_1_c0) (q03 s_0 f_1_c0) := by
 unfold q0c q03
 repeat' first
  | with_reducible apply q1f
  | with_reducible refine OLe.bind ?_ (fun _ => ?_)
  | (split <;> try dsimp only)
  | with_reducible exact OLe.refl _
noncomputable def q9e (n_0 : Int) (l_1 : Sl diff_After) : Option Bool :=
 bif (((decide (n_0 < 0)) || (decide (n_0 > 64))) || (decide ((l_1.l.length : Int) > 256))) then (some false) else
 ((q0c l_1 n_0).bind fun r1 =>
 some (!r1))
theorem qh2 (n_0 : Int) (l_1 : Sl diff_After) : OLe (q9e n_0 l_1) (q5r n_0 l_1) := by
 unfold q9e q5r
 repeat' first
  | with_reducible apply q1a
  | with_reducible refine OLe.cond ?_ ?_
  | with_reducible refine OLe.bind ?_ (fun _ => ?_)
  | (split <;> try dsimp only)
  | with_reducible exact OLe.refl _
noncomputable def q72 (n_0 : Int) (l_1 : Sl diff_After) : (Int × Int × Sl Int × Sl Int) → Option ((Int × Int × Sl Int × Sl Int) ⊕ (Int × Sl Int × Sl Int)) := fun (i9, i10, s11, s12) =>
 bif decide (i10 < (wr .i64 (n_0 + 1))) then ((q4k 100000 (q1k l_1) ((-1), 0, s11, s12)).bind fun (i31, s32, s33) =>
 bif decide (i31 < 0) then (some (.inr (i31, s32, s33))) else
 (some (.inl (i31, wr .i64 (i10 + 1), s32, s33)))) else
 (some (.inr (i9, s11, s12)))
theorem qee (n_0 : Int) (l_1 : Sl diff_After) : ∀ s, OLe (q72 n_0 l_1 s) (q39 n_0 l_1 s) := by
 intro s
 unfold q72 q39
 repeat' first
  | with_reducible refine OLe.loop (fun _ => ?_) _ _
  | with_reducible refine OLe.cond ?_ ?_
  | with_reducible refine OLe.bind ?_ (fun _ => ?_)
  | (split <;> try dsimp only)
  | with_reducible exact OLe.refl _
noncomputable def qao (n_0 : Int) (l_1 : Sl diff_After) : Option (Sl Int × Sl Int × Int) :=
 (mkI 0 n_0 n_0).bind fun l1 =>
 (mkI 0 n_0 n_0).bind fun l2 =>
 (q4k 100000 (q72 n_0 l_1) ((-1), 0, (Sl.mk l1), (Sl.mk l2))).bind fun (i34, s35, s36) =>
 some (s35, s36, i34)
theorem qiz (n_0 : Int) (l_1 : Sl diff_After) : OLe (qao n_0 l_1) (q7f n_0 l_1) := by
 unfold qao q7f
 repeat' first
  | with_reducible apply qee
  | with_reducible refine OLe.loop (fun _ => ?_) _ _
  | with_reducible refine OLe.bind ?_ (fun _ => ?_)
  | (split <;> try dsimp only)
  | with_reducible exact OLe.refl _
noncomputable def q62 (n_0 : Int) (l_1 : Sl diff_After) : Option (Sl Int × Bool) :=
 (q9e n_0 l_1).bind fun r1 =>
 bif (!r1) then (some (Sl.nil, false)) else
 ((qao n_0 l_1).bind fun (r2, r3, r4) =>
 bif decide (r4 ≥ 0) then (some (Sl.nil, false)) else
 (some (r2, true)))
theorem qcu (n_0 : Int) (l_1 : Sl diff_After) : OLe (q62 n_0 l_1) (q43 n_0 l_1) := by
 unfold q62 q43
 repeat' first
  | with_reducible apply qh2
  | with_reducible apply qiz
  | with_reducible refine OLe.cond ?_ ?_
  | with_reducible refine OLe.bind ?_ (fun _ => ?_)
  | (split <;> try dsimp only)
  | with_reducible exact OLe.refl _
noncomputable def q8u (n_0 : Int) (gap_1 : Int) : Option (Sl Int) :=
 (q4k 100000 (q3f n_0 gap_1) (1, Sl.nil)).bind fun s7 =>
 (q62 n_0 s7).bind fun (r8, r9) =>
 some r8
theorem qgp (n_0 : Int) (gap_1 : Int) : OLe (q8u n_0 gap_1) (q4o n_0 gap_1) := by
 unfold q8u q4o
 repeat' first
  | with_reducible apply qcu
  | with_reducible refine OLe.loop (fun _ => ?_) _ _
  | with_reducible refine OLe.bind ?_ (fun _ => ?_)
  | (split <;> try dsimp only)
  | with_reducible exact OLe.refl _
noncomputable def q85 (l_0 : Sl level_Move) (round_1 : Int) : (Int × Sl Int) → Option ((Int × Sl Int) ⊕ (Sl Int)) := fun (i4, s5) =>
 bif decide (i4 < (l_0.l.length : Int)) then (((ixI i4 l_0.l.length).bind fun n6 =>
 (bif ((level_Move.Round (gt l_0.l n6)) == round_1) then ((q0x s5 (level_Move.Sw (gt l_0.l n6))).bind fun r7 =>
 some (!r7)) else
 (some false) : Option Bool).bind fun b8 =>
 bif b8 then ((q8m (s5.l ++ [level_Move.Sw (gt l_0.l n6)])).bind fun l9 =>
 some (Sl.mk l9)) else
 (some s5) : Option (Sl Int)).bind fun s10 =>
 some (.inl (wr .i64 (i4 + 1), s10))) else
 (some (.inr s5))
theorem qf2 (l_0 : Sl level_Move) (round_1 : Int) : ∀ s, OLe (q85 l_0 round_1 s) (q2m l_0 round_1 s) := by
 intro s
 unfold q85 q2m
 repeat' first
  | with_reducible apply q1u
  | with_reducible refine OLe.cond ?_ ?_
  | with_reducible refine OLe.bind ?_ (fun _ => ?_)
  | (split <;> try dsimp only)
  | with_reducible exact OLe.refl _
noncomputable def qc3 (l_0 : Sl level_Move) (round_1 : Int) : Option (Sl Int) :=
 (q4k 100000 (q85 l_0 round_1) (0, Sl.nil)).bind fun s11 =>
 some s11
theorem ql1 (l_0 : Sl level_Move) (round_1 : Int) : OLe (qc3 l_0 round_1) (q9m l_0 round_1) := by
 unfold qc3 q9m
 repeat' first
  | with_reducible apply qf2
  | with_reducible refine OLe.loop (fun _ => ?_) _ _
  | with_reducible refine OLe.bind ?_ (fun _ => ?_)
  | (split <;> try dsimp only)
  | with_reducible exact OLe.refl _
noncomputable def q74 (at_3 : Int) (miss_4 : Int) (lead_5 : Int) (r5 : Sl level_Move) (r7 : Int) (r8 : Sl Int) (r10 : Sl Int) : (Int × Sl level_Move × Int × Int × Int × Int × Sl plan_Round) → Option ((Int × Sl level_Move × Int × Int × Int × Int × Sl plan_Round) ⊕ (Sl level_Move × Int × Int × Int × Int × Sl plan_Round)) := fun (i19, s20, i21, i22, i23, i24, s25) =>
 bif decide (i19 < (r10.l.length : Int)) then ((ixI i19 r10.l.length).bind fun n26 =>
 (ixI i19 r8.l.length).bind fun n27 =>
 (ixI i19 r8.l.length).bind fun n28 =>
 (qc3 r5 (gt r8.l n28)).bind fun r29 =>
 (q8m (s25.l ++ [(⟨gt r8.l n27, wr .i64 ((wr .i64 ((wr .i64 ((wr .i64 ((wr .i64 (at_3 + lead_5)) + miss_4)) + r7)) + 1)) + (gt r10.l n26)), r29⟩ : plan_Round)])).bind fun l30 =>
 some (.inl (wr .i64 (i19 + 1), s20, i21, i22, i23, i24, (Sl.mk l30)))) else
 (some (.inr (s20, i21, i22, i23, i24, s25)))
theorem qef (at_3 : Int) (miss_4 : Int) (lead_5 : Int) (r5 : Sl level_Move) (r7 : Int) (r8 : Sl Int) (r10 : Sl Int) : ∀ s, OLe (q74 at_3 miss_4 lead_5 r5 r7 r8 r10 s) (q36 at_3 miss_4 lead_5 r5 r7 r8 r10 s) := by
 intro s
 unfold q74 q36
 repeat' first
  | with_reducible apply ql1
  | with_reducible refine OLe.cond ?_ ?_
  | with_reducible refine OLe.bind ?_ (fun _ => ?_)
  | (split <;> try dsimp only)
  | with_reducible exact OLe.refl _
noncomputable def qaa (t_0 : api_Topo) (old_1 : Sl (Sl Int)) (now_2 : Sl (Sl Int)) (at_3 : Int) (miss_4 : Int) (lead_5 : Int) : Option (plan_Plan × Int) :=
 ((q5w at_3 1099511627776).bind fun r1 =>
 bif (!r1) then (some true) else
 ((q5w miss_4 1048576).bind fun r2 =>
 bif (!r2) then (some true) else
 ((q5w lead_5 1048576).bind fun r3 =>
 some (!r3))) : Option Bool).bind fun b4 =>
 bif b4 then (some ((⟨Sl.nil, Sl.nil, 0, 0, 0, 0⟩ : plan_Plan), 2)) else
 ((q7v t_0 old_1 now_2).bind fun (r5, r6) =>
 bif (r6 != 0) then (some ((⟨Sl.nil, Sl.nil, 0, 0, 0, 0⟩ : plan_Plan), r6)) else
 (bif ((r5.l.length : Int) == 0) then (some ((⟨Sl.nil, Sl.nil, 0, 0, 0, 0⟩ : plan_Plan), 7)) else
 ((q7r t_0).bind fun r7 =>
 (q71 r5).bind fun r8 =>
 (q9l t_0 miss_4).bind fun r9 =>
 (q8u (r8.l.length : Int) r9).bind fun r10 =>
 (q4k 100000 (q74 at_3 miss_4 lead_5 r5 r7 r8 r10) (0, r5, miss_4, r7, 0, 0, Sl.nil)).bind fun (s31, i32, i33, i34, i35, s36) =>
 (ixI (wr .i64 ((s36.l.length : Int) - 1)) s36.l.length).bind fun n37 =>
 bif decide ((wr .i64 ((plan_Round.At (gt s36.l n37)) + miss_4)) > 1099511627776) then (some ((⟨Sl.nil, Sl.nil, 0, 0, 0, 0⟩ : plan_Plan), 11)) else
 (some ((⟨s31, s36, i32, i33, wr .i64 ((wr .i64 ((wr .i64 ((wr .i64 ((wr .i64 ((wr .i64 (at_3 + lead_5)) + miss_4)) + r7)) + 1)) - miss_4)) - i33), wr .i64 ((plan_Round.At (gt s36.l n37)) + miss_4)⟩ : plan_Plan), 0)))))
theorem qju (t_0 : api_Topo) (old_1 : Sl (Sl Int)) (now_2 : Sl (Sl Int)) (at_3 : Int) (miss_4 : Int) (lead_5 : Int) : OLe (qaa t_0 old_1 now_2 at_3 miss_4 lead_5) (q3b t_0 old_1 now_2 at_3 miss_4 lead_5) := by
 unfold qaa q3b
 repeat' first
  | with_reducible apply qf6
  | with_reducible apply qcd
  | with_reducible apply qdy
  | with_reducible apply qe5
  | with_reducible apply qgp
  | with_reducible apply qef
  | with_reducible refine OLe.loop (fun _ => ?_) _ _
  | with_reducible refine OLe.cond ?_ ?_
  | with_reducible refine OLe.bind ?_ (fun _ => ?_)
  | (split <;> try dsimp only)
  | with_reducible exact OLe.refl _
noncomputable def q9b (l_0 : Sl level_Move) (round_1 : Int) (sw_2 : Int) : Option (Sl api_Mod) :=
 (q4k 100000 (qb6 l_0 round_1 sw_2) (0, Sl.nil)).bind fun s10 =>
 some s10
theorem qgy (l_0 : Sl level_Move) (round_1 : Int) (sw_2 : Int) : OLe (q9b l_0 round_1 sw_2) (q9j l_0 round_1 sw_2) := by
 unfold q9b q9j
 repeat' first
  | with_reducible refine OLe.loop (fun _ => ?_) _ _
  | with_reducible refine OLe.bind ?_ (fun _ => ?_)
  | (split <;> try dsimp only)
  | with_reducible exact OLe.refl _
noncomputable def q64 (p_0 : plan_Plan) (k_1 : Int) (n1 : Nat) : (Int × Sl plan_Part) → Option ((Int × Sl plan_Part) ⊕ (Sl plan_Part)) := fun (i5, s6) =>
 bif decide (i5 < (((plan_Round.Sws (gt ((plan_Plan.Rounds p_0).l) n1)).l).length : Int)) then ((ixI i5 ((plan_Round.Sws (gt ((plan_Plan.Rounds p_0).l) n1)).l).length).bind fun n7 =>
 (ixI k_1 ((plan_Plan.Rounds p_0).l).length).bind fun n8 =>
 (q9b (plan_Plan.Moves p_0) (plan_Round.No (gt ((plan_Plan.Rounds p_0).l) n8)) (gt ((plan_Round.Sws (gt ((plan_Plan.Rounds p_0).l) n1)).l) n7)).bind fun r9 =>
 (q8m (s6.l ++ [(⟨gt ((plan_Round.Sws (gt ((plan_Plan.Rounds p_0).l) n1)).l) n7, r9⟩ : plan_Part)])).bind fun l10 =>
 some (.inl (wr .i64 (i5 + 1), (Sl.mk l10)))) else
 (some (.inr s6))
theorem qcs (p_0 : plan_Plan) (k_1 : Int) (n1 : Nat) : ∀ s, OLe (q64 p_0 k_1 n1 s) (q8c p_0 k_1 n1 s) := by
 intro s
 unfold q64 q8c
 repeat' first
  | with_reducible apply qgy
  | with_reducible refine OLe.cond ?_ ?_
  | with_reducible refine OLe.bind ?_ (fun _ => ?_)
  | (split <;> try dsimp only)
  | with_reducible exact OLe.refl _
noncomputable def q8s (p_0 : plan_Plan) (k_1 : Int) : Option (Sl plan_Part) :=
 bif ((decide (k_1 < 0)) || (decide (k_1 ≥ (((plan_Plan.Rounds p_0).l).length : Int)))) then (some Sl.nil) else
 ((ixI k_1 ((plan_Plan.Rounds p_0).l).length).bind fun n1 =>
 (q4k 100000 (q64 p_0 k_1 n1) (0, Sl.nil)).bind fun s11 =>
 some s11)
theorem qhb (p_0 : plan_Plan) (k_1 : Int) : OLe (q8s p_0 k_1) (q9i p_0 k_1) := by
 unfold q8s q9i
 repeat' first
  | with_reducible apply qcs
  | with_reducible refine OLe.loop (fun _ => ?_) _ _
  | with_reducible refine OLe.cond ?_ ?_
  | with_reducible refine OLe.bind ?_ (fun _ => ?_)
  | (split <;> try dsimp only)
  | with_reducible exact OLe.refl _
noncomputable def qb9 : Option Bool :=
 (qaa (⟨3, (Sl.mk [(⟨0, 0, 1, 0, 1, 1⟩ : api_Link), (⟨1, 1, 2, 0, 1, 2⟩ : api_Link), (⟨0, 1, 2, 1, 1, 1⟩ : api_Link)]), (Sl.mk [(⟨2, 7⟩ : api_Host)])⟩ : api_Topo) (Sl.mk [(Sl.mk [0]), (Sl.mk [1]), (Sl.mk [7])]) (Sl.mk [(Sl.mk [1]), (Sl.mk [1]), (Sl.mk [7])]) 100 4 10).bind fun (r1, r2) =>
 ((q9l (⟨3, (Sl.mk [(⟨0, 0, 1, 0, 1, 1⟩ : api_Link), (⟨1, 1, 2, 0, 1, 2⟩ : api_Link), (⟨0, 1, 2, 1, 1, 1⟩ : api_Link)]), (Sl.mk [(⟨2, 7⟩ : api_Host)])⟩ : api_Topo) 4).bind fun r3 =>
 bif (((r3 == 15) && (r2 == 0)) && ((((plan_Plan.Rounds r1).l).length : Int) == 1)) then ((ixI 0 ((plan_Plan.Rounds r1).l).length).bind fun n4 =>
 bif ((((plan_Round.At (gt ((plan_Plan.Rounds r1).l) n4)) == 121) && ((plan_Plan.From r1) == 111)) && ((plan_Plan.To r1) == 125)) then ((q99 r1 125).bind fun r5 =>
 bif r5 then ((q8s r1 0).bind fun r6 =>
 some ((r6.l.length : Int) == 1)) else
 (some false)) else
 (some false)) else
 (some false) : Option Bool).bind fun b7 =>
 some b7
theorem qeu : OLe (qb9) (q3t) := by
 unfold qb9 q3t
 repeat' first
  | with_reducible apply qju
  | with_reducible apply qe5
  | with_reducible apply qhb
  | with_reducible refine OLe.cond ?_ ?_
  | with_reducible refine OLe.bind ?_ (fun _ => ?_)
  | (split <;> try dsimp only)
  | with_reducible exact OLe.refl _
theorem q1v : q3t = some true := qeu _ (by decide +kernel)
end Go.Proofs.Ythcplpfiidlinaa.L
