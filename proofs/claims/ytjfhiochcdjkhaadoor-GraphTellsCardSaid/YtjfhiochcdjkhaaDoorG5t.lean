/- law20_awake answers true: by running its twin. Conditions: none. -/
import Derived.Test.YtjfhiochcdjkhaaDoorG5
import Derived.Test.YtjfhiochcdjkhaaDoorTwin
open Go.Ev Go
namespace Go.Proofs.YtjfhiochcdjkhaaDoor.G

def graph_Right_L1_c (n_0 : Int) (l_1 : Sl graph_Edge) : Int → Option (Sum (Int) (Sum (Unit) (Unit))) := fun i5 =>
  bif decide (i5 < (l_1.l.length : Int)) then ((ixI i5 l_1.l.length).bind fun n10 =>
  bif ((decide (((gt l_1.l n10).From) < 0)) || ((decide (((gt l_1.l n10).From) ≥ n_0)) || ((decide (((gt l_1.l n10).To) < 0)) || (decide (((gt l_1.l n10).To) ≥ n_0))))) then (some (.inr (.inl ()))) else
  (some (.inl (wr .i64 (i5 + 1))))) else
  (some (.inr (.inr ())))
theorem graph_Right_L1_le (n_0 : Int) (l_1 : Sl graph_Edge) : ∀ s, OLe (graph_Right_L1_c n_0 l_1 s) (graph_Right_L1 n_0 l_1 s) := by
  intro s
  unfold graph_Right_L1_c graph_Right_L1
  repeat' first
    | with_reducible refine OLe.loop (fun _ => ?_) _ _
    | with_reducible refine OLe.cond ?_ ?_
    | with_reducible refine OLe.bind ?_ (fun _ => ?_)
    | (split <;> try dsimp only)
    | with_reducible exact OLe.refl _

def graph_Right_c (n_0 : Int) (l_1 : Sl graph_Edge) : Option (Bool) :=
  bif ((decide (n_0 < 0)) || (decide (n_0 > 16))) then (some false) else
  ((loopN 100000 (graph_Right_L1_c n_0 l_1) 0).bind fun
  | .inl _ => (some false)
  | .inr (_) => (some true))
theorem graph_Right_le (n_0 : Int) (l_1 : Sl graph_Edge) : OLe (graph_Right_c n_0 l_1) (graph_Right n_0 l_1) := by
  unfold graph_Right_c graph_Right
  repeat' first
    | with_reducible apply graph_Right_L1_le
    | with_reducible refine OLe.loop (fun _ => ?_) _ _
    | with_reducible refine OLe.cond ?_ ?_
    | with_reducible refine OLe.bind ?_ (fun _ => ?_)
    | (split <;> try dsimp only)
    | with_reducible exact OLe.refl _

def graph_next_L1_c (l_1 : Sl graph_Edge) : (List Int × Int) → Option (Sum ((List Int × Int)) (List Int)) := fun (l3, i4) =>
  bif decide (i4 < (l_1.l.length : Int)) then ((ixI i4 l_1.l.length).bind fun n11 =>
  (ixI ((gt l_1.l n11).From) l3.length).bind fun n13 =>
  (shlI .u16 1 ((gt l_1.l n11).To)).bind fun x15 =>
  some (.inl ((l3.set n13 (bOr .u16 (gt l3 n13) x15)), wr .i64 (i4 + 1)))) else
  (some (.inr l3))
theorem graph_next_L1_le (l_1 : Sl graph_Edge) : ∀ s, OLe (graph_next_L1_c l_1 s) (graph_next_L1 l_1 s) := by
  intro s
  unfold graph_next_L1_c graph_next_L1
  repeat' first
    | with_reducible refine OLe.loop (fun _ => ?_) _ _
    | with_reducible refine OLe.cond ?_ ?_
    | with_reducible refine OLe.bind ?_ (fun _ => ?_)
    | (split <;> try dsimp only)
    | with_reducible exact OLe.refl _

def graph_next_c (n_0 : Int) (l_1 : Sl graph_Edge) : Option (Sl Int) :=
  (mkI 0 n_0 n_0).bind fun l1 =>
  (loopN 100000 (graph_next_L1_c l_1) (l1, 0)).bind fun l7 =>
  some (Sl.mk l7)
theorem graph_next_le (n_0 : Int) (l_1 : Sl graph_Edge) : OLe (graph_next_c n_0 l_1) (graph_next n_0 l_1) := by
  unfold graph_next_c graph_next
  repeat' first
    | with_reducible apply graph_next_L1_le
    | with_reducible refine OLe.loop (fun _ => ?_) _ _
    | with_reducible refine OLe.cond ?_ ?_
    | with_reducible refine OLe.bind ?_ (fun _ => ?_)
    | (split <;> try dsimp only)
    | with_reducible exact OLe.refl _

def math_bits_TrailingZeros16_c (x_0 : Int) : Option (Int) :=
  bif (x_0 == 0) then (some 16) else
  ((ixI (bShr .u32 (wr .u32 ((wr .u32 (bAnd .u16 x_0 (wr .u16 (0 - x_0)))) * 125613361)) 27) tab0.length).bind fun n2 =>
  some (wr .i64 (gt tab0 n2)))
theorem math_bits_TrailingZeros16_le (x_0 : Int) : OLe (math_bits_TrailingZeros16_c x_0) (math_bits_TrailingZeros16 x_0) := by
  unfold math_bits_TrailingZeros16_c math_bits_TrailingZeros16
  repeat' first
    | with_reducible refine OLe.loop (fun _ => ?_) _ _
    | with_reducible refine OLe.cond ?_ ?_
    | with_reducible refine OLe.bind ?_ (fun _ => ?_)
    | (split <;> try dsimp only)
    | with_reducible exact OLe.refl _

def graph_list_L1_c : (Int × Sl Int) → Option (Sum ((Int × Sl Int)) (Sl Int)) := fun (i1, s2) =>
  bif (i1 != 0) then ((math_bits_TrailingZeros16_c i1).bind fun r9 =>
  (capI (s2.l ++ [r9])).bind fun l11 =>
  some (.inl (bAnd .u16 i1 (wr .u16 (i1 - 1)), (Sl.mk l11)))) else
  (some (.inr s2))
theorem graph_list_L1_le : ∀ s, OLe (graph_list_L1_c s) (graph_list_L1 s) := by
  intro s
  unfold graph_list_L1_c graph_list_L1
  repeat' first
    | with_reducible apply math_bits_TrailingZeros16_le
    | with_reducible refine OLe.loop (fun _ => ?_) _ _
    | with_reducible refine OLe.cond ?_ ?_
    | with_reducible refine OLe.bind ?_ (fun _ => ?_)
    | (split <;> try dsimp only)
    | with_reducible exact OLe.refl _

def graph_list_c (set_0 : Int) : Option (Sl Int) :=
  (loopN 100000 (graph_list_L1_c) (set_0, Sl.nil)).bind fun s5 =>
  some s5
theorem graph_list_le (set_0 : Int) : OLe (graph_list_c set_0) (graph_list set_0) := by
  unfold graph_list_c graph_list
  repeat' first
    | with_reducible apply graph_list_L1_le
    | with_reducible refine OLe.loop (fun _ => ?_) _ _
    | with_reducible refine OLe.cond ?_ ?_
    | with_reducible refine OLe.bind ?_ (fun _ => ?_)
    | (split <;> try dsimp only)
    | with_reducible exact OLe.refl _

def graph_over_L1_c (to_0 : Sl Int) (r1 : Sl Int) : (Int × Int) → Option (Sum ((Int × Int)) (Int)) := fun (i3, i4) =>
  bif decide (i4 < (r1.l.length : Int)) then ((ixI i4 r1.l.length).bind fun n11 =>
  (ixI (gt r1.l n11) to_0.l.length).bind fun n13 =>
  some (.inl (bOr .u16 i3 (gt to_0.l n13), wr .i64 (i4 + 1)))) else
  (some (.inr i3))
theorem graph_over_L1_le (to_0 : Sl Int) (r1 : Sl Int) : ∀ s, OLe (graph_over_L1_c to_0 r1 s) (graph_over_L1 to_0 r1 s) := by
  intro s
  unfold graph_over_L1_c graph_over_L1
  repeat' first
    | with_reducible refine OLe.loop (fun _ => ?_) _ _
    | with_reducible refine OLe.cond ?_ ?_
    | with_reducible refine OLe.bind ?_ (fun _ => ?_)
    | (split <;> try dsimp only)
    | with_reducible exact OLe.refl _

def graph_over_c (to_0 : Sl Int) (set_1 : Int) : Option (Int) :=
  (graph_list_c set_1).bind fun r1 =>
  (loopN 100000 (graph_over_L1_c to_0 r1) (0, 0)).bind fun i7 =>
  some i7
theorem graph_over_le (to_0 : Sl Int) (set_1 : Int) : OLe (graph_over_c to_0 set_1) (graph_over to_0 set_1) := by
  unfold graph_over_c graph_over
  repeat' first
    | with_reducible apply graph_list_le
    | with_reducible apply graph_over_L1_le
    | with_reducible refine OLe.loop (fun _ => ?_) _ _
    | with_reducible refine OLe.cond ?_ ?_
    | with_reducible refine OLe.bind ?_ (fun _ => ?_)
    | (split <;> try dsimp only)
    | with_reducible exact OLe.refl _

def graph_Order_L1_c (r4 : Sl Int) : (Int × Sl Int) → Option (Sum ((Int × Sl Int)) (Sum (Unit) (Sl Int))) := fun (i8, s9) =>
  bif (i8 != 0) then ((graph_over_c r4 i8).bind fun r16 =>
  bif ((bAndNot .u16 i8 r16) == 0) then (some (.inr (.inl ()))) else
  ((math_bits_TrailingZeros16_c (bAndNot .u16 i8 r16)).bind fun r19 =>
  (capI (s9.l ++ [r19])).bind fun l21 =>
  (shlI .u16 1 r19).bind fun x24 =>
  some (.inl (bAndNot .u16 i8 x24, (Sl.mk l21))))) else
  (some (.inr (.inr s9)))
theorem graph_Order_L1_le (r4 : Sl Int) : ∀ s, OLe (graph_Order_L1_c r4 s) (graph_Order_L1 r4 s) := by
  intro s
  unfold graph_Order_L1_c graph_Order_L1
  repeat' first
    | with_reducible apply graph_over_le
    | with_reducible apply math_bits_TrailingZeros16_le
    | with_reducible refine OLe.loop (fun _ => ?_) _ _
    | with_reducible refine OLe.cond ?_ ?_
    | with_reducible refine OLe.bind ?_ (fun _ => ?_)
    | (split <;> try dsimp only)
    | with_reducible exact OLe.refl _

def graph_Order_c (n_0 : Int) (l_1 : Sl graph_Edge) : Option ((Sl Int × Bool)) :=
  (graph_Right_c n_0 l_1).bind fun r1 =>
  bif (!r1) then (some (Sl.nil, false)) else
  ((graph_next_c n_0 l_1).bind fun r4 =>
  (shlI .u16 1 n_0).bind fun x6 =>
  (loopN 100000 (graph_Order_L1_c r4) (wr .u16 (x6 - 1), Sl.nil)).bind fun
  | .inl _ => (some (Sl.nil, false))
  | .inr (s12) => (some (s12, true)))
theorem graph_Order_le (n_0 : Int) (l_1 : Sl graph_Edge) : OLe (graph_Order_c n_0 l_1) (graph_Order n_0 l_1) := by
  unfold graph_Order_c graph_Order
  repeat' first
    | with_reducible apply graph_Right_le
    | with_reducible apply graph_next_le
    | with_reducible apply graph_Order_L1_le
    | with_reducible refine OLe.loop (fun _ => ?_) _ _
    | with_reducible refine OLe.cond ?_ ?_
    | with_reducible refine OLe.bind ?_ (fun _ => ?_)
    | (split <;> try dsimp only)
    | with_reducible exact OLe.refl _

def ref13_Same_L1_c (a_0 : Sl Int) (b_1 : Sl Int) : Int → Option (Sum (Int) (Sum (Unit) (Unit))) := fun i2 =>
  bif decide (i2 < (a_0.l.length : Int)) then ((ixI i2 a_0.l.length).bind fun n7 =>
  (ixI i2 b_1.l.length).bind fun n9 =>
  bif ((gt a_0.l n7) != (gt b_1.l n9)) then (some (.inr (.inl ()))) else
  (some (.inl (wr .i64 (i2 + 1))))) else
  (some (.inr (.inr ())))
theorem ref13_Same_L1_le (a_0 : Sl Int) (b_1 : Sl Int) : ∀ s, OLe (ref13_Same_L1_c a_0 b_1 s) (ref13_Same_L1 a_0 b_1 s) := by
  intro s
  unfold ref13_Same_L1_c ref13_Same_L1
  repeat' first
    | with_reducible refine OLe.loop (fun _ => ?_) _ _
    | with_reducible refine OLe.cond ?_ ?_
    | with_reducible refine OLe.bind ?_ (fun _ => ?_)
    | (split <;> try dsimp only)
    | with_reducible exact OLe.refl _

def ref13_Same_c (a_0 : Sl Int) (b_1 : Sl Int) : Option (Bool) :=
  bif ((a_0.l.length : Int) != (b_1.l.length : Int)) then (some false) else
  ((loopN 100000 (ref13_Same_L1_c a_0 b_1) 0).bind fun
  | .inl _ => (some false)
  | .inr (_) => (some true))
theorem ref13_Same_le (a_0 : Sl Int) (b_1 : Sl Int) : OLe (ref13_Same_c a_0 b_1) (ref13_Same a_0 b_1) := by
  unfold ref13_Same_c ref13_Same
  repeat' first
    | with_reducible apply ref13_Same_L1_le
    | with_reducible refine OLe.loop (fun _ => ?_) _ _
    | with_reducible refine OLe.cond ?_ ?_
    | with_reducible refine OLe.bind ?_ (fun _ => ?_)
    | (split <;> try dsimp only)
    | with_reducible exact OLe.refl _

def graph_edges_L1_c (to_0 : Sl Int) (l1 : List Int) : (List Int × Int) → Option (Sum ((List Int × Int)) (List Int)) := fun (l3, i4) =>
  bif decide (i4 < (l1.length : Int)) then ((ixI i4 l3.length).bind fun n11 =>
  some (.inl ((l3.set n11 (to_0.l.length : Int)), wr .i64 (i4 + 1)))) else
  (some (.inr l3))
theorem graph_edges_L1_le (to_0 : Sl Int) (l1 : List Int) : ∀ s, OLe (graph_edges_L1_c to_0 l1 s) (graph_edges_L1 to_0 l1 s) := by
  intro s
  unfold graph_edges_L1_c graph_edges_L1
  repeat' first
    | with_reducible refine OLe.loop (fun _ => ?_) _ _
    | with_reducible refine OLe.cond ?_ ?_
    | with_reducible refine OLe.bind ?_ (fun _ => ?_)
    | (split <;> try dsimp only)
    | with_reducible exact OLe.refl _

def graph_edges_L4_c (goal_1 : Int) (i25 : Int) (r34 : Sl Int) : (List Int × Int) → Option (Sum ((List Int × Int)) (List Int)) := fun (l36, i37) =>
  bif decide (i37 < (r34.l.length : Int)) then (((ixI i37 r34.l.length).bind fun n47 =>
  bif (i25 != goal_1) then ((ixI i25 l36.length).bind fun n50 =>
  (ixI (gt r34.l n47) l36.length).bind fun n52 =>
  some (l36.set n50 (if (wr .i64 ((gt l36 n52) + 1)) < (gt l36 n50) then (wr .i64 ((gt l36 n52) + 1)) else (gt l36 n50)))) else
  (some l36) : Option (List Int)).bind fun l44 =>
  some (.inl (l44, wr .i64 (i37 + 1)))) else
  (some (.inr l36))
theorem graph_edges_L4_le (goal_1 : Int) (i25 : Int) (r34 : Sl Int) : ∀ s, OLe (graph_edges_L4_c goal_1 i25 r34 s) (graph_edges_L4 goal_1 i25 r34 s) := by
  intro s
  unfold graph_edges_L4_c graph_edges_L4
  repeat' first
    | with_reducible refine OLe.loop (fun _ => ?_) _ _
    | with_reducible refine OLe.cond ?_ ?_
    | with_reducible refine OLe.bind ?_ (fun _ => ?_)
    | (split <;> try dsimp only)
    | with_reducible exact OLe.refl _

def graph_edges_L3_c (to_0 : Sl Int) (goal_1 : Int) : (List Int × Int) → Option (Sum ((List Int × Int)) (List Int)) := fun (l24, i25) =>
  bif decide (i25 < (to_0.l.length : Int)) then ((ixI i25 to_0.l.length).bind fun n32 =>
  (graph_list_c (gt to_0.l n32)).bind fun r34 =>
  (loopN 100000 (graph_edges_L4_c goal_1 i25 r34) (l24, 0)).bind fun l40 =>
  some (.inl (l40, wr .i64 (i25 + 1)))) else
  (some (.inr l24))
theorem graph_edges_L3_le (to_0 : Sl Int) (goal_1 : Int) : ∀ s, OLe (graph_edges_L3_c to_0 goal_1 s) (graph_edges_L3 to_0 goal_1 s) := by
  intro s
  unfold graph_edges_L3_c graph_edges_L3
  repeat' first
    | with_reducible apply graph_list_le
    | with_reducible apply graph_edges_L4_le
    | with_reducible refine OLe.loop (fun _ => ?_) _ _
    | with_reducible refine OLe.cond ?_ ?_
    | with_reducible refine OLe.bind ?_ (fun _ => ?_)
    | (split <;> try dsimp only)
    | with_reducible exact OLe.refl _

def graph_edges_L2_c (to_0 : Sl Int) (goal_1 : Int) : (List Int × Int) → Option (Sum ((List Int × Int)) (List Int)) := fun (l16, i17) =>
  bif decide (i17 < (to_0.l.length : Int)) then ((loopN 100000 (graph_edges_L3_c to_0 goal_1) (l16, 0)).bind fun l28 =>
  some (.inl (l28, wr .i64 (i17 + 1)))) else
  (some (.inr l16))
theorem graph_edges_L2_le (to_0 : Sl Int) (goal_1 : Int) : ∀ s, OLe (graph_edges_L2_c to_0 goal_1 s) (graph_edges_L2 to_0 goal_1 s) := by
  intro s
  unfold graph_edges_L2_c graph_edges_L2
  repeat' first
    | with_reducible apply graph_edges_L3_le
    | with_reducible refine OLe.loop (fun _ => ?_) _ _
    | with_reducible refine OLe.cond ?_ ?_
    | with_reducible refine OLe.bind ?_ (fun _ => ?_)
    | (split <;> try dsimp only)
    | with_reducible exact OLe.refl _

def graph_edges_c (to_0 : Sl Int) (goal_1 : Int) : Option (Sl Int) :=
  (mkI 0 (to_0.l.length : Int) (to_0.l.length : Int)).bind fun l1 =>
  (loopN 100000 (graph_edges_L1_c to_0 l1) (l1, 0)).bind fun l7 =>
  (ixI goal_1 l7.length).bind fun n14 =>
  (loopN 100000 (graph_edges_L2_c to_0 goal_1) ((l7.set n14 0), 0)).bind fun l20 =>
  some (Sl.mk l20)
theorem graph_edges_le (to_0 : Sl Int) (goal_1 : Int) : OLe (graph_edges_c to_0 goal_1) (graph_edges to_0 goal_1) := by
  unfold graph_edges_c graph_edges
  repeat' first
    | with_reducible apply graph_edges_L1_le
    | with_reducible apply graph_edges_L2_le
    | with_reducible refine OLe.loop (fun _ => ?_) _ _
    | with_reducible refine OLe.cond ?_ ?_
    | with_reducible refine OLe.bind ?_ (fun _ => ?_)
    | (split <;> try dsimp only)
    | with_reducible exact OLe.refl _

def graph_Loop_L2_c (r12 : Sl Int) (r16 : Sl Int) : (Int × Int × Int) → Option (Sum ((Int × Int × Int)) (Int)) := fun (i18, i19, i20) =>
  bif decide (i20 < (r16.l.length : Int)) then (((ixI i20 r16.l.length).bind fun n32 =>
  (ixI (gt r16.l n32) r12.l.length).bind fun n34 =>
  bif decide ((gt r12.l n34) < i19) then (some (gt r16.l n32, gt r12.l n34)) else
  (some (i18, i19)) : Option ((Int × Int))).bind fun (i28, i29) =>
  some (.inl (i28, i29, wr .i64 (i20 + 1)))) else
  (some (.inr i18))
theorem graph_Loop_L2_le (r12 : Sl Int) (r16 : Sl Int) : ∀ s, OLe (graph_Loop_L2_c r12 r16 s) (graph_Loop_L2 r12 r16 s) := by
  intro s
  unfold graph_Loop_L2_c graph_Loop_L2
  repeat' first
    | with_reducible refine OLe.loop (fun _ => ?_) _ _
    | with_reducible refine OLe.cond ?_ ?_
    | with_reducible refine OLe.bind ?_ (fun _ => ?_)
    | (split <;> try dsimp only)
    | with_reducible exact OLe.refl _

def graph_Loop_L4_c (r12 : Sl Int) (i40 : Int) (r52 : Sl Int) : Int → Option (Sum (Int) (Int)) := fun i54 =>
  bif decide (i54 < (r52.l.length : Int)) then ((ixI i54 r52.l.length).bind fun n60 =>
  (ixI (gt r52.l n60) r12.l.length).bind fun n62 =>
  (ixI i40 r12.l.length).bind fun n64 =>
  bif ((gt r12.l n62) == (wr .i64 ((gt r12.l n64) - 1))) then (some (.inr (gt r52.l n60))) else
  (some (.inl (wr .i64 (i54 + 1))))) else
  (some (.inr i40))
theorem graph_Loop_L4_le (r12 : Sl Int) (i40 : Int) (r52 : Sl Int) : ∀ s, OLe (graph_Loop_L4_c r12 i40 r52 s) (graph_Loop_L4 r12 i40 r52 s) := by
  intro s
  unfold graph_Loop_L4_c graph_Loop_L4
  repeat' first
    | with_reducible refine OLe.loop (fun _ => ?_) _ _
    | with_reducible refine OLe.cond ?_ ?_
    | with_reducible refine OLe.bind ?_ (fun _ => ?_)
    | (split <;> try dsimp only)
    | with_reducible exact OLe.refl _

def graph_Loop_L3_c (r4 : Sl Int) (i6 : Int) (r12 : Sl Int) : (Int × List Int) → Option (Sum ((Int × List Int)) (List Int)) := fun (i40, l41) =>
  bif (i40 != i6) then ((capI (l41 ++ [i40])).bind fun l48 =>
  (ixI i40 r4.l.length).bind fun n50 =>
  (graph_list_c (gt r4.l n50)).bind fun r52 =>
  (loopN 100000 (graph_Loop_L4_c r12 i40 r52) 0).bind fun i56 =>
  some (.inl (i56, l48))) else
  (some (.inr l41))
theorem graph_Loop_L3_le (r4 : Sl Int) (i6 : Int) (r12 : Sl Int) : ∀ s, OLe (graph_Loop_L3_c r4 i6 r12 s) (graph_Loop_L3 r4 i6 r12 s) := by
  intro s
  unfold graph_Loop_L3_c graph_Loop_L3
  repeat' first
    | with_reducible apply graph_list_le
    | with_reducible apply graph_Loop_L4_le
    | with_reducible refine OLe.loop (fun _ => ?_) _ _
    | with_reducible refine OLe.cond ?_ ?_
    | with_reducible refine OLe.bind ?_ (fun _ => ?_)
    | (split <;> try dsimp only)
    | with_reducible exact OLe.refl _

def graph_Loop_L1_c (n_0 : Int) (r4 : Sl Int) : Int → Option (Sum (Int) (Sum (List Int) (Unit))) := fun i6 =>
  bif decide (i6 < n_0) then ((graph_edges_c r4 i6).bind fun r12 =>
  (ixI i6 r4.l.length).bind fun n14 =>
  (graph_list_c (gt r4.l n14)).bind fun r16 =>
  (loopN 100000 (graph_Loop_L2_c r12 r16) ((-1), n_0, 0)).bind fun i24 =>
  bif decide (i24 < 0) then (some (.inl (wr .i64 (i6 + 1)))) else
  ((loopN 100000 (graph_Loop_L3_c r4 i6 r12) (i24, [i6])).bind fun l44 =>
  some (.inr (.inl l44)))) else
  (some (.inr (.inr ())))
theorem graph_Loop_L1_le (n_0 : Int) (r4 : Sl Int) : ∀ s, OLe (graph_Loop_L1_c n_0 r4 s) (graph_Loop_L1 n_0 r4 s) := by
  intro s
  unfold graph_Loop_L1_c graph_Loop_L1
  repeat' first
    | with_reducible apply graph_edges_le
    | with_reducible apply graph_list_le
    | with_reducible apply graph_Loop_L2_le
    | with_reducible apply graph_Loop_L3_le
    | with_reducible refine OLe.loop (fun _ => ?_) _ _
    | with_reducible refine OLe.cond ?_ ?_
    | with_reducible refine OLe.bind ?_ (fun _ => ?_)
    | (split <;> try dsimp only)
    | with_reducible exact OLe.refl _

def graph_Loop_c (n_0 : Int) (l_1 : Sl graph_Edge) : Option (Sl Int) :=
  (graph_Right_c n_0 l_1).bind fun r1 =>
  bif (!r1) then (some Sl.nil) else
  ((graph_next_c n_0 l_1).bind fun r4 =>
  (loopN 100000 (graph_Loop_L1_c n_0 r4) 0).bind fun
  | .inl l8 => (some (Sl.mk l8))
  | .inr (_) => (some Sl.nil))
theorem graph_Loop_le (n_0 : Int) (l_1 : Sl graph_Edge) : OLe (graph_Loop_c n_0 l_1) (graph_Loop n_0 l_1) := by
  unfold graph_Loop_c graph_Loop
  repeat' first
    | with_reducible apply graph_Right_le
    | with_reducible apply graph_next_le
    | with_reducible apply graph_Loop_L1_le
    | with_reducible refine OLe.loop (fun _ => ?_) _ _
    | with_reducible refine OLe.cond ?_ ?_
    | with_reducible refine OLe.bind ?_ (fun _ => ?_)
    | (split <;> try dsimp only)
    | with_reducible exact OLe.refl _

def law20_awake_c : Option (Bool) :=
  (graph_Order_c 3 (Sl.mk [(⟨2, 0⟩ : graph_Edge), (⟨0, 1⟩ : graph_Edge)])).bind fun (r1, r2) =>
  (bif r2 then ((ref13_Same_c r1 (Sl.mk [2, 0, 1])).bind fun r4 =>
  bif r4 then ((graph_Loop_c 3 (Sl.mk [(⟨2, 0⟩ : graph_Edge), (⟨0, 1⟩ : graph_Edge)])).bind fun r6 =>
  bif ((r6.l.length : Int) == 0) then ((graph_Loop_c 2 (Sl.mk [(⟨0, 1⟩ : graph_Edge), (⟨1, 0⟩ : graph_Edge)])).bind fun r8 =>
  (ref13_Same_c r8 (Sl.mk [0, 1])).bind fun r10 =>
  some r10) else (some false)) else (some false)) else (some false)).bind fun b12 =>
  some b12
theorem law20_awake_le : OLe (law20_awake_c) (law20_awake) := by
  unfold law20_awake_c law20_awake
  repeat' first
    | with_reducible apply graph_Order_le
    | with_reducible apply ref13_Same_le
    | with_reducible apply graph_Loop_le
    | with_reducible refine OLe.loop (fun _ => ?_) _ _
    | with_reducible refine OLe.cond ?_ ?_
    | with_reducible refine OLe.bind ?_ (fun _ => ?_)
    | (split <;> try dsimp only)
    | with_reducible exact OLe.refl _

theorem law20_awake_runs : law20_awake = some true := law20_awake_le _ (by decide +kernel)
end Go.Proofs.YtjfhiochcdjkhaaDoor.G
