/- law11_awake answers true: by running its twin. Conditions: none. -/
import Derived.Test.YtmeemkllagjnmaaB
import Derived.Test.YtmeemkllagjnmaaTwin
open Go.Ev Go
namespace Go.Proofs.Ytmeemkllagjnmaa.B
def match_Any_c : Option api_Match :=
 some (⟨(-1), (zeE (.ar 4 (.i .i64))), (zeE (.ar 4 (.i .i64)))⟩ : api_Match)
theorem match_Any_le : OLe (match_Any_c) (match_Any) := by
 unfold match_Any_c match_Any
 repeat' first
  | with_reducible refine OLe.loop (fun _ => ?_) _ _
  | with_reducible refine OLe.lend (fun _ => ?_) ?_
  | with_reducible refine OLe.cond ?_ ?_
  | with_reducible refine OLe.bind ?_ (fun _ => ?_)
  | (split <;> try dsimp only)
  | with_reducible exact OLe.refl _
def packet_Bits_c (f_0 : Int) : Option Int :=
 (bif (f_0 == 0) then (some (f_0 == 0)) else
 (bif (f_0 == 1) then (some (f_0 == 1)) else
 (some (f_0 == 3))) : Option Bool).bind fun b1 =>
 bif b1 then (some 8) else
 (bif (f_0 == 2) then (some 4) else
 (some 0))
theorem packet_Bits_le (f_0 : Int) : OLe (packet_Bits_c f_0) (packet_Bits f_0) := by
 unfold packet_Bits_c packet_Bits
 repeat' first
  | with_reducible refine OLe.loop (fun _ => ?_) _ _
  | with_reducible refine OLe.lend (fun _ => ?_) ?_
  | with_reducible refine OLe.cond ?_ ?_
  | with_reducible refine OLe.bind ?_ (fun _ => ?_)
  | (split <;> try dsimp only)
  | with_reducible exact OLe.refl _
def packet_Top_c (f_0 : Int) : Option Int :=
 (packet_Bits_c f_0).bind fun r1 =>
 (shlI .i64 1 r1).bind fun i2 =>
 some (wr .i64 (i2 - 1))
theorem packet_Top_le (f_0 : Int) : OLe (packet_Top_c f_0) (packet_Top f_0) := by
 unfold packet_Top_c packet_Top
 repeat' first
  | with_reducible apply packet_Bits_le
  | with_reducible refine OLe.loop (fun _ => ?_) _ _
  | with_reducible refine OLe.lend (fun _ => ?_) ?_
  | with_reducible refine OLe.cond ?_ ?_
  | with_reducible refine OLe.bind ?_ (fun _ => ?_)
  | (split <;> try dsimp only)
  | with_reducible exact OLe.refl _
def match_Of_c (f_0 : Int) (v_1 : Int) : Option api_Match :=
 (match_Any_c).bind fun r1 =>
 ((bif (((decide (f_0 ≥ 0)) && (decide (f_0 < 4))) && (decide (v_1 ≥ 0))) then ((packet_Top_c f_0).bind fun r2 =>
 some (decide (v_1 ≤ r2))) else
 (some false) : Option Bool).bind fun b3 =>
 bif b3 then ((packet_Top_c f_0).bind fun r4 =>
 (ixI f_0 4).bind fun n5 =>
 (ixI f_0 4).bind fun n6 =>
 some (⟨api_Match.Port r1, Arr.set (api_Match.Val r1) n5 v_1, Arr.set (api_Match.Mask r1) n6 r4⟩ : api_Match)) else
 (some r1) : Option api_Match).bind fun x7 =>
 some x7
theorem match_Of_le (f_0 : Int) (v_1 : Int) : OLe (match_Of_c f_0 v_1) (match_Of f_0 v_1) := by
 unfold match_Of_c match_Of
 repeat' first
  | with_reducible apply match_Any_le
  | with_reducible apply packet_Top_le
  | with_reducible refine OLe.loop (fun _ => ?_) _ _
  | with_reducible refine OLe.lend (fun _ => ?_) ?_
  | with_reducible refine OLe.cond ?_ ?_
  | with_reducible refine OLe.bind ?_ (fun _ => ?_)
  | (split <;> try dsimp only)
  | with_reducible exact OLe.refl _
def rule_Drop_c (f_0 : Int) (v_1 : Int) (prio_2 : Int) : Option api_Rule :=
 (match_Of_c f_0 v_1).bind fun r1 =>
 some (⟨prio_2, r1, Sl.nil⟩ : api_Rule)
theorem rule_Drop_le (f_0 : Int) (v_1 : Int) (prio_2 : Int) : OLe (rule_Drop_c f_0 v_1 prio_2) (rule_Drop f_0 v_1 prio_2) := by
 unfold rule_Drop_c rule_Drop
 repeat' first
  | with_reducible apply match_Of_le
  | with_reducible refine OLe.loop (fun _ => ?_) _ _
  | with_reducible refine OLe.lend (fun _ => ?_) ?_
  | with_reducible refine OLe.cond ?_ ?_
  | with_reducible refine OLe.bind ?_ (fun _ => ?_)
  | (split <;> try dsimp only)
  | with_reducible exact OLe.refl _
def rule_Plain_c (f_0 : Int) (v_1 : Int) (prio_2 : Int) (port_3 : Int) : Option api_Rule :=
 (rule_Drop_c f_0 v_1 prio_2).bind fun r1 =>
 some (⟨api_Rule.Prio r1, api_Rule.M r1, (Sl.mk [(⟨2, 0, port_3⟩ : api_Act)])⟩ : api_Rule)
theorem rule_Plain_le (f_0 : Int) (v_1 : Int) (prio_2 : Int) (port_3 : Int) : OLe (rule_Plain_c f_0 v_1 prio_2 port_3) (rule_Plain f_0 v_1 prio_2 port_3) := by
 unfold rule_Plain_c rule_Plain
 repeat' first
  | with_reducible apply rule_Drop_le
  | with_reducible refine OLe.loop (fun _ => ?_) _ _
  | with_reducible refine OLe.lend (fun _ => ?_) ?_
  | with_reducible refine OLe.cond ?_ ?_
  | with_reducible refine OLe.bind ?_ (fun _ => ?_)
  | (split <;> try dsimp only)
  | with_reducible exact OLe.refl _
def match_Right_L1_c (m_0 : api_Match) : Int → Option (Int ⊕ (Bool ⊕ Unit)) := fun i2 =>
 bif decide (i2 < 4) then ((ixI i2 4).bind fun n3 =>
 (bif decide ((gt ((api_Match.Mask m_0).1) n3) < 0) then (some true) else
 ((packet_Top_c i2).bind fun r4 =>
 bif decide ((gt ((api_Match.Mask m_0).1) n3) > r4) then (some true) else
 ((ixI i2 4).bind fun n5 =>
 bif decide ((gt ((api_Match.Val m_0).1) n5) < 0) then (some true) else
 ((ixI i2 4).bind fun n6 =>
 some ((bAndNot .i64 (gt ((api_Match.Val m_0).1) n6) (gt ((api_Match.Mask m_0).1) n3)) != 0)))) : Option Bool).bind fun b7 =>
 bif b7 then (some (.inr (.inl false))) else
 (some (.inl (wr .i64 (i2 + 1))))) else
 (some (.inr (.inr ())))
theorem match_Right_L1_le (m_0 : api_Match) : ∀ s, OLe (match_Right_L1_c m_0 s) (match_Right_L1 m_0 s) := by
 intro s
 unfold match_Right_L1_c match_Right_L1
 repeat' first
  | with_reducible apply packet_Top_le
  | with_reducible refine OLe.loop (fun _ => ?_) _ _
  | with_reducible refine OLe.lend (fun _ => ?_) ?_
  | with_reducible refine OLe.cond ?_ ?_
  | with_reducible refine OLe.bind ?_ (fun _ => ?_)
  | (split <;> try dsimp only)
  | with_reducible exact OLe.refl _
def match_Right_c (m_0 : api_Match) : Option Bool :=
 bif ((decide ((api_Match.Port m_0) < (-1))) || (decide ((api_Match.Port m_0) ≥ 8))) then (some false) else
 ((loopN 100000 (match_Right_L1_c m_0) 0).bind fun
 | .inl b8 => (some b8)
 | .inr _ => (some true))
theorem match_Right_le (m_0 : api_Match) : OLe (match_Right_c m_0) (match_Right m_0) := by
 unfold match_Right_c match_Right
 repeat' first
  | with_reducible apply match_Right_L1_le
  | with_reducible refine OLe.loop (fun _ => ?_) _ _
  | with_reducible refine OLe.lend (fun _ => ?_) ?_
  | with_reducible refine OLe.cond ?_ ?_
  | with_reducible refine OLe.bind ?_ (fun _ => ?_)
  | (split <;> try dsimp only)
  | with_reducible exact OLe.refl _
def act_right_c (a_0 : api_Act) (ports_1 : Int) : Option Bool :=
 bif ((api_Act.Kind a_0) == 1) then ((bif (((decide ((api_Act.F a_0) ≥ 0)) && (decide ((api_Act.F a_0) < 4))) && (decide ((api_Act.V a_0) ≥ 0))) then ((packet_Top_c (api_Act.F a_0)).bind fun r1 =>
 some (decide ((api_Act.V a_0) ≤ r1))) else
 (some false) : Option Bool).bind fun b2 =>
 some b2) else
 (bif ((api_Act.Kind a_0) == 2) then (some ((((api_Act.F a_0) == 0) && (decide ((api_Act.V a_0) ≥ 0))) && (decide ((api_Act.V a_0) < ports_1)))) else
 (some (decide (a_0 = (⟨3, 0, 0⟩ : api_Act)))))
theorem act_right_le (a_0 : api_Act) (ports_1 : Int) : OLe (act_right_c a_0 ports_1) (act_right a_0 ports_1) := by
 unfold act_right_c act_right
 repeat' first
  | with_reducible apply packet_Top_le
  | with_reducible refine OLe.loop (fun _ => ?_) _ _
  | with_reducible refine OLe.lend (fun _ => ?_) ?_
  | with_reducible refine OLe.cond ?_ ?_
  | with_reducible refine OLe.bind ?_ (fun _ => ?_)
  | (split <;> try dsimp only)
  | with_reducible exact OLe.refl _
def act_Right_1_c (a_0 : api_Act) (c_1 : Int) : Option Bool :=
 (act_right_c a_0 c_1).bind fun r1 =>
 some (!r1)
theorem act_Right_1_le (a_0 : api_Act) (c_1 : Int) : OLe (act_Right_1_c a_0 c_1) (act_Right_1 a_0 c_1) := by
 unfold act_Right_1_c act_Right_1
 repeat' first
  | with_reducible apply act_right_le
  | with_reducible refine OLe.loop (fun _ => ?_) _ _
  | with_reducible refine OLe.lend (fun _ => ?_) ?_
  | with_reducible refine OLe.cond ?_ ?_
  | with_reducible refine OLe.bind ?_ (fun _ => ?_)
  | (split <;> try dsimp only)
  | with_reducible exact OLe.refl _
def slices_IndexFunc_api_Act_api_Act_act_Right_1_L1_c (s_0 : Sl api_Act) (f_1_c0 : Int) : Int → Option (Int ⊕ (Int ⊕ Unit)) := fun i2 =>
 bif decide (i2 < (s_0.l.length : Int)) then ((ixI i2 s_0.l.length).bind fun n3 =>
 (act_Right_1_c (gt s_0.l n3) f_1_c0).bind fun r4 =>
 bif r4 then (some (.inr (.inl i2))) else
 (some (.inl (wr .i64 (i2 + 1))))) else
 (some (.inr (.inr ())))
theorem slices_IndexFunc_api_Act_api_Act_act_Right_1_L1_le (s_0 : Sl api_Act) (f_1_c0 : Int) : ∀ s, OLe (slices_IndexFunc_api_Act_api_Act_act_Right_1_L1_c s_0 f_1_c0 s) (slices_IndexFunc_api_Act_api_Act_act_Right_1_L1 s_0 f_1_c0 s) := by
 intro s
 unfold slices_IndexFunc_api_Act_api_Act_act_Right_1_L1_c slices_IndexFunc_api_Act_api_Act_act_Right_1_L1
 repeat' first
  | with_reducible apply act_Right_1_le
  | with_reducible refine OLe.loop (fun _ => ?_) _ _
  | with_reducible refine OLe.lend (fun _ => ?_) ?_
  | with_reducible refine OLe.cond ?_ ?_
  | with_reducible refine OLe.bind ?_ (fun _ => ?_)
  | (split <;> try dsimp only)
  | with_reducible exact OLe.refl _
def slices_IndexFunc_api_Act_api_Act_act_Right_1_c (s_0 : Sl api_Act) (f_1_c0 : Int) : Option Int :=
 (loopN 100000 (slices_IndexFunc_api_Act_api_Act_act_Right_1_L1_c s_0 f_1_c0) 0).bind fun
 | .inl i5 => (some i5)
 | .inr _ => (some (-1))
theorem slices_IndexFunc_api_Act_api_Act_act_Right_1_le (s_0 : Sl api_Act) (f_1_c0 : Int) : OLe (slices_IndexFunc_api_Act_api_Act_act_Right_1_c s_0 f_1_c0) (slices_IndexFunc_api_Act_api_Act_act_Right_1 s_0 f_1_c0) := by
 unfold slices_IndexFunc_api_Act_api_Act_act_Right_1_c slices_IndexFunc_api_Act_api_Act_act_Right_1
 repeat' first
  | with_reducible apply slices_IndexFunc_api_Act_api_Act_act_Right_1_L1_le
  | with_reducible refine OLe.loop (fun _ => ?_) _ _
  | with_reducible refine OLe.lend (fun _ => ?_) ?_
  | with_reducible refine OLe.cond ?_ ?_
  | with_reducible refine OLe.bind ?_ (fun _ => ?_)
  | (split <;> try dsimp only)
  | with_reducible exact OLe.refl _
def slices_ContainsFunc_api_Act_api_Act_act_Right_1_c (s_0 : Sl api_Act) (f_1_c0 : Int) : Option Bool :=
 (slices_IndexFunc_api_Act_api_Act_act_Right_1_c s_0 f_1_c0).bind fun r1 =>
 some (decide (r1 ≥ 0))
theorem slices_ContainsFunc_api_Act_api_Act_act_Right_1_le (s_0 : Sl api_Act) (f_1_c0 : Int) : OLe (slices_ContainsFunc_api_Act_api_Act_act_Right_1_c s_0 f_1_c0) (slices_ContainsFunc_api_Act_api_Act_act_Right_1 s_0 f_1_c0) := by
 unfold slices_ContainsFunc_api_Act_api_Act_act_Right_1_c slices_ContainsFunc_api_Act_api_Act_act_Right_1
 repeat' first
  | with_reducible apply slices_IndexFunc_api_Act_api_Act_act_Right_1_le
  | with_reducible refine OLe.loop (fun _ => ?_) _ _
  | with_reducible refine OLe.lend (fun _ => ?_) ?_
  | with_reducible refine OLe.cond ?_ ?_
  | with_reducible refine OLe.bind ?_ (fun _ => ?_)
  | (split <;> try dsimp only)
  | with_reducible exact OLe.refl _
def act_Right_c (l_0 : Sl api_Act) (ports_1 : Int) : Option Bool :=
 (bif decide ((l_0.l.length : Int) ≤ 16) then ((slices_ContainsFunc_api_Act_api_Act_act_Right_1_c l_0 ports_1).bind fun r1 =>
 some (!r1)) else
 (some false) : Option Bool).bind fun b2 =>
 some b2
theorem act_Right_le (l_0 : Sl api_Act) (ports_1 : Int) : OLe (act_Right_c l_0 ports_1) (act_Right l_0 ports_1) := by
 unfold act_Right_c act_Right
 repeat' first
  | with_reducible apply slices_ContainsFunc_api_Act_api_Act_act_Right_1_le
  | with_reducible refine OLe.loop (fun _ => ?_) _ _
  | with_reducible refine OLe.lend (fun _ => ?_) ?_
  | with_reducible refine OLe.cond ?_ ?_
  | with_reducible refine OLe.bind ?_ (fun _ => ?_)
  | (split <;> try dsimp only)
  | with_reducible exact OLe.refl _
def rule_Right_c (x_0 : api_Rule) (ports_1 : Int) : Option Bool :=
 (bif ((decide ((api_Rule.Prio x_0) ≥ 0)) && (decide ((api_Rule.Prio x_0) < 65536))) then ((match_Right_c (api_Rule.M x_0)).bind fun r1 =>
 bif r1 then ((act_Right_c (api_Rule.Acts x_0) ports_1).bind fun r2 =>
 some r2) else
 (some false)) else
 (some false) : Option Bool).bind fun b3 =>
 some b3
theorem rule_Right_le (x_0 : api_Rule) (ports_1 : Int) : OLe (rule_Right_c x_0 ports_1) (rule_Right x_0 ports_1) := by
 unfold rule_Right_c rule_Right
 repeat' first
  | with_reducible apply match_Right_le
  | with_reducible apply act_Right_le
  | with_reducible refine OLe.loop (fun _ => ?_) _ _
  | with_reducible refine OLe.lend (fun _ => ?_) ?_
  | with_reducible refine OLe.cond ?_ ?_
  | with_reducible refine OLe.bind ?_ (fun _ => ?_)
  | (split <;> try dsimp only)
  | with_reducible exact OLe.refl _
def match_Meet_L1_c (a_0 : api_Match) (b_1 : api_Match) : (Int × api_Match × api_Match) → Option ((Int × api_Match × api_Match) ⊕ ((Bool × api_Match) ⊕ (api_Match × api_Match))) := fun (i5, x6, x7) =>
 bif decide (i5 < 4) then ((ixI i5 4).bind fun n8 =>
 (ixI i5 4).bind fun n9 =>
 (ixI i5 4).bind fun n10 =>
 (ixI i5 4).bind fun n11 =>
 bif ((bAnd .i64 (bAnd .i64 (bXor .i64 (gt ((api_Match.Val a_0).1) n8) (gt ((api_Match.Val b_1).1) n9)) (gt ((api_Match.Mask a_0).1) n10)) (gt ((api_Match.Mask b_1).1) n11)) != 0) then (some (.inr (.inl (false, (⟨0, (zeE (.ar 4 (.i .i64))), (zeE (.ar 4 (.i .i64)))⟩ : api_Match))))) else
 ((ixI i5 4).bind fun n12 =>
 (ixI i5 4).bind fun n13 =>
 (ixI i5 4).bind fun n14 =>
 (ixI i5 4).bind fun n15 =>
 (ixI i5 4).bind fun n16 =>
 (ixI i5 4).bind fun n17 =>
 some (.inl (wr .i64 (i5 + 1), x6, (⟨api_Match.Port x7, Arr.set (api_Match.Val x7) n16 (bOr .i64 (gt ((api_Match.Val a_0).1) n12) (gt ((api_Match.Val b_1).1) n13)), Arr.set (api_Match.Mask x7) n17 (bOr .i64 (gt ((api_Match.Mask a_0).1) n14) (gt ((api_Match.Mask b_1).1) n15))⟩ : api_Match))))) else
 (some (.inr (.inr (x6, x7))))
theorem match_Meet_L1_le (a_0 : api_Match) (b_1 : api_Match) : ∀ s, OLe (match_Meet_L1_c a_0 b_1 s) (match_Meet_L1 a_0 b_1 s) := by
 intro s
 unfold match_Meet_L1_c match_Meet_L1
 repeat' first
  | with_reducible refine OLe.loop (fun _ => ?_) _ _
  | with_reducible refine OLe.lend (fun _ => ?_) ?_
  | with_reducible refine OLe.cond ?_ ?_
  | with_reducible refine OLe.bind ?_ (fun _ => ?_)
  | (split <;> try dsimp only)
  | with_reducible exact OLe.refl _
def match_Meet_c (a_0 : api_Match) (b_1 : api_Match) : Option (api_Match × Bool) :=
 bif ((((api_Match.Port a_0) != (api_Match.Port b_1)) && ((api_Match.Port a_0) != (-1))) && ((api_Match.Port b_1) != (-1))) then (some ((⟨0, (zeE (.ar 4 (.i .i64))), (zeE (.ar 4 (.i .i64)))⟩ : api_Match), false)) else
 ((loopN 100000 (match_Meet_L1_c a_0 b_1) (0, (⟨0, (zeE (.ar 4 (.i .i64))), (zeE (.ar 4 (.i .i64)))⟩ : api_Match), (⟨(if (api_Match.Port b_1) > (api_Match.Port a_0) then (api_Match.Port b_1) else (api_Match.Port a_0)), (zeE (.ar 4 (.i .i64))), (zeE (.ar 4 (.i .i64)))⟩ : api_Match))).bind fun
 | .inl (b18, x19) => (some (x19, b18))
 | .inr (x20, x21) => (some (x21, true)))
theorem match_Meet_le (a_0 : api_Match) (b_1 : api_Match) : OLe (match_Meet_c a_0 b_1) (match_Meet a_0 b_1) := by
 unfold match_Meet_c match_Meet
 repeat' first
  | with_reducible apply match_Meet_L1_le
  | with_reducible refine OLe.loop (fun _ => ?_) _ _
  | with_reducible refine OLe.lend (fun _ => ?_) ?_
  | with_reducible refine OLe.cond ?_ ?_
  | with_reducible refine OLe.bind ?_ (fun _ => ?_)
  | (split <;> try dsimp only)
  | with_reducible exact OLe.refl _
def rule_Overlaps_c (a_0 : api_Rule) (b_1 : api_Rule) : Option Bool :=
 (match_Meet_c (api_Rule.M a_0) (api_Rule.M b_1)).bind fun (r1, r2) =>
 some ((((api_Rule.Prio a_0) == (api_Rule.Prio b_1)) && (!(decide ((api_Rule.M a_0) = (api_Rule.M b_1))))) && r2)
theorem rule_Overlaps_le (a_0 : api_Rule) (b_1 : api_Rule) : OLe (rule_Overlaps_c a_0 b_1) (rule_Overlaps a_0 b_1) := by
 unfold rule_Overlaps_c rule_Overlaps
 repeat' first
  | with_reducible apply match_Meet_le
  | with_reducible refine OLe.loop (fun _ => ?_) _ _
  | with_reducible refine OLe.lend (fun _ => ?_) ?_
  | with_reducible refine OLe.cond ?_ ?_
  | with_reducible refine OLe.bind ?_ (fun _ => ?_)
  | (split <;> try dsimp only)
  | with_reducible exact OLe.refl _
def table_add_1_c (y_0 : api_Rule) (c_1 : api_Rule) : Option Bool :=
 (rule_Overlaps_c c_1 y_0).bind fun r1 =>
 some r1
theorem table_add_1_le (y_0 : api_Rule) (c_1 : api_Rule) : OLe (table_add_1_c y_0 c_1) (table_add_1 y_0 c_1) := by
 unfold table_add_1_c table_add_1
 repeat' first
  | with_reducible apply rule_Overlaps_le
  | with_reducible refine OLe.loop (fun _ => ?_) _ _
  | with_reducible refine OLe.lend (fun _ => ?_) ?_
  | with_reducible refine OLe.cond ?_ ?_
  | with_reducible refine OLe.bind ?_ (fun _ => ?_)
  | (split <;> try dsimp only)
  | with_reducible exact OLe.refl _
def slices_IndexFunc_api_Rule_api_Rule_table_add_1_L1_c (s_0 : Sl api_Rule) (f_1_c0 : api_Rule) : Int → Option (Int ⊕ (Int ⊕ Unit)) := fun i2 =>
 bif decide (i2 < (s_0.l.length : Int)) then ((ixI i2 s_0.l.length).bind fun n3 =>
 (table_add_1_c (gt s_0.l n3) f_1_c0).bind fun r4 =>
 bif r4 then (some (.inr (.inl i2))) else
 (some (.inl (wr .i64 (i2 + 1))))) else
 (some (.inr (.inr ())))
theorem slices_IndexFunc_api_Rule_api_Rule_table_add_1_L1_le (s_0 : Sl api_Rule) (f_1_c0 : api_Rule) : ∀ s, OLe (slices_IndexFunc_api_Rule_api_Rule_table_add_1_L1_c s_0 f_1_c0 s) (slices_IndexFunc_api_Rule_api_Rule_table_add_1_L1 s_0 f_1_c0 s) := by
 intro s
 unfold slices_IndexFunc_api_Rule_api_Rule_table_add_1_L1_c slices_IndexFunc_api_Rule_api_Rule_table_add_1_L1
 repeat' first
  | with_reducible apply table_add_1_le
  | with_reducible refine OLe.loop (fun _ => ?_) _ _
  | with_reducible refine OLe.lend (fun _ => ?_) ?_
  | with_reducible refine OLe.cond ?_ ?_
  | with_reducible refine OLe.bind ?_ (fun _ => ?_)
  | (split <;> try dsimp only)
  | with_reducible exact OLe.refl _
def slices_IndexFunc_api_Rule_api_Rule_table_add_1_c (s_0 : Sl api_Rule) (f_1_c0 : api_Rule) : Option Int :=
 (loopN 100000 (slices_IndexFunc_api_Rule_api_Rule_table_add_1_L1_c s_0 f_1_c0) 0).bind fun
 | .inl i5 => (some i5)
 | .inr _ => (some (-1))
theorem slices_IndexFunc_api_Rule_api_Rule_table_add_1_le (s_0 : Sl api_Rule) (f_1_c0 : api_Rule) : OLe (slices_IndexFunc_api_Rule_api_Rule_table_add_1_c s_0 f_1_c0) (slices_IndexFunc_api_Rule_api_Rule_table_add_1 s_0 f_1_c0) := by
 unfold slices_IndexFunc_api_Rule_api_Rule_table_add_1_c slices_IndexFunc_api_Rule_api_Rule_table_add_1
 repeat' first
  | with_reducible apply slices_IndexFunc_api_Rule_api_Rule_table_add_1_L1_le
  | with_reducible refine OLe.loop (fun _ => ?_) _ _
  | with_reducible refine OLe.lend (fun _ => ?_) ?_
  | with_reducible refine OLe.cond ?_ ?_
  | with_reducible refine OLe.bind ?_ (fun _ => ?_)
  | (split <;> try dsimp only)
  | with_reducible exact OLe.refl _
def slices_ContainsFunc_api_Rule_api_Rule_table_add_1_c (s_0 : Sl api_Rule) (f_1_c0 : api_Rule) : Option Bool :=
 (slices_IndexFunc_api_Rule_api_Rule_table_add_1_c s_0 f_1_c0).bind fun r1 =>
 some (decide (r1 ≥ 0))
theorem slices_ContainsFunc_api_Rule_api_Rule_table_add_1_le (s_0 : Sl api_Rule) (f_1_c0 : api_Rule) : OLe (slices_ContainsFunc_api_Rule_api_Rule_table_add_1_c s_0 f_1_c0) (slices_ContainsFunc_api_Rule_api_Rule_table_add_1 s_0 f_1_c0) := by
 unfold slices_ContainsFunc_api_Rule_api_Rule_table_add_1_c slices_ContainsFunc_api_Rule_api_Rule_table_add_1
 repeat' first
  | with_reducible apply slices_IndexFunc_api_Rule_api_Rule_table_add_1_le
  | with_reducible refine OLe.loop (fun _ => ?_) _ _
  | with_reducible refine OLe.lend (fun _ => ?_) ?_
  | with_reducible refine OLe.cond ?_ ?_
  | with_reducible refine OLe.bind ?_ (fun _ => ?_)
  | (split <;> try dsimp only)
  | with_reducible exact OLe.refl _
def rule_Key_c (a_0 : api_Rule) (b_1 : api_Rule) : Option Bool :=
 some (((api_Rule.Prio a_0) == (api_Rule.Prio b_1)) && (decide ((api_Rule.M a_0) = (api_Rule.M b_1))))
theorem rule_Key_le (a_0 : api_Rule) (b_1 : api_Rule) : OLe (rule_Key_c a_0 b_1) (rule_Key a_0 b_1) := by
 unfold rule_Key_c rule_Key
 repeat' first
  | with_reducible refine OLe.loop (fun _ => ?_) _ _
  | with_reducible refine OLe.lend (fun _ => ?_) ?_
  | with_reducible refine OLe.cond ?_ ?_
  | with_reducible refine OLe.bind ?_ (fun _ => ?_)
  | (split <;> try dsimp only)
  | with_reducible exact OLe.refl _
def table_key_1_c (y_0 : api_Rule) (c_1 : api_Rule) : Option Bool :=
 (rule_Key_c c_1 y_0).bind fun r1 =>
 some r1
theorem table_key_1_le (y_0 : api_Rule) (c_1 : api_Rule) : OLe (table_key_1_c y_0 c_1) (table_key_1 y_0 c_1) := by
 unfold table_key_1_c table_key_1
 repeat' first
  | with_reducible apply rule_Key_le
  | with_reducible refine OLe.loop (fun _ => ?_) _ _
  | with_reducible refine OLe.lend (fun _ => ?_) ?_
  | with_reducible refine OLe.cond ?_ ?_
  | with_reducible refine OLe.bind ?_ (fun _ => ?_)
  | (split <;> try dsimp only)
  | with_reducible exact OLe.refl _
def slices_IndexFunc_api_Rule_api_Rule_table_key_1_L1_c (s_0 : Sl api_Rule) (f_1_c0 : api_Rule) : Int → Option (Int ⊕ (Int ⊕ Unit)) := fun i2 =>
 bif decide (i2 < (s_0.l.length : Int)) then ((ixI i2 s_0.l.length).bind fun n3 =>
 (table_key_1_c (gt s_0.l n3) f_1_c0).bind fun r4 =>
 bif r4 then (some (.inr (.inl i2))) else
 (some (.inl (wr .i64 (i2 + 1))))) else
 (some (.inr (.inr ())))
theorem slices_IndexFunc_api_Rule_api_Rule_table_key_1_L1_le (s_0 : Sl api_Rule) (f_1_c0 : api_Rule) : ∀ s, OLe (slices_IndexFunc_api_Rule_api_Rule_table_key_1_L1_c s_0 f_1_c0 s) (slices_IndexFunc_api_Rule_api_Rule_table_key_1_L1 s_0 f_1_c0 s) := by
 intro s
 unfold slices_IndexFunc_api_Rule_api_Rule_table_key_1_L1_c slices_IndexFunc_api_Rule_api_Rule_table_key_1_L1
 repeat' first
  | with_reducible apply table_key_1_le
  | with_reducible refine OLe.loop (fun _ => ?_) _ _
  | with_reducible refine OLe.lend (fun _ => ?_) ?_
  | with_reducible refine OLe.cond ?_ ?_
  | with_reducible refine OLe.bind ?_ (fun _ => ?_)
  | (split <;> try dsimp only)
  | with_reducible exact OLe.refl _
def slices_IndexFunc_api_Rule_api_Rule_table_key_1_c (s_0 : Sl api_Rule) (f_1_c0 : api_Rule) : Option Int :=
 (loopN 100000 (slices_IndexFunc_api_Rule_api_Rule_table_key_1_L1_c s_0 f_1_c0) 0).bind fun
 | .inl i5 => (some i5)
 | .inr _ => (some (-1))
theorem slices_IndexFunc_api_Rule_api_Rule_table_key_1_le (s_0 : Sl api_Rule) (f_1_c0 : api_Rule) : OLe (slices_IndexFunc_api_Rule_api_Rule_table_key_1_c s_0 f_1_c0) (slices_IndexFunc_api_Rule_api_Rule_table_key_1 s_0 f_1_c0) := by
 unfold slices_IndexFunc_api_Rule_api_Rule_table_key_1_c slices_IndexFunc_api_Rule_api_Rule_table_key_1
 repeat' first
  | with_reducible apply slices_IndexFunc_api_Rule_api_Rule_table_key_1_L1_le
  | with_reducible refine OLe.loop (fun _ => ?_) _ _
  | with_reducible refine OLe.lend (fun _ => ?_) ?_
  | with_reducible refine OLe.cond ?_ ?_
  | with_reducible refine OLe.bind ?_ (fun _ => ?_)
  | (split <;> try dsimp only)
  | with_reducible exact OLe.refl _
def table_key_c (t_0 : Sl api_Rule) (x_1 : api_Rule) : Option Int :=
 (slices_IndexFunc_api_Rule_api_Rule_table_key_1_c t_0 x_1).bind fun r1 =>
 some r1
theorem table_key_le (t_0 : Sl api_Rule) (x_1 : api_Rule) : OLe (table_key_c t_0 x_1) (table_key t_0 x_1) := by
 unfold table_key_c table_key
 repeat' first
  | with_reducible apply slices_IndexFunc_api_Rule_api_Rule_table_key_1_le
  | with_reducible refine OLe.loop (fun _ => ?_) _ _
  | with_reducible refine OLe.lend (fun _ => ?_) ?_
  | with_reducible refine OLe.cond ?_ ?_
  | with_reducible refine OLe.bind ?_ (fun _ => ?_)
  | (split <;> try dsimp only)
  | with_reducible exact OLe.refl _
def slices_Clone_api_Rule_api_Rule_c (s_0 : Sl api_Rule) : Option (Sl api_Rule) :=
 bif s_0.isNil then (some Sl.nil) else
 ((capI ([] ++ s_0.l)).bind fun l1 =>
 some (appS (Sl.mk []) s_0.l l1))
theorem slices_Clone_api_Rule_api_Rule_le (s_0 : Sl api_Rule) : OLe (slices_Clone_api_Rule_api_Rule_c s_0) (slices_Clone_api_Rule_api_Rule s_0) := by
 unfold slices_Clone_api_Rule_api_Rule_c slices_Clone_api_Rule_api_Rule
 repeat' first
  | with_reducible refine OLe.loop (fun _ => ?_) _ _
  | with_reducible refine OLe.lend (fun _ => ?_) ?_
  | with_reducible refine OLe.cond ?_ ?_
  | with_reducible refine OLe.bind ?_ (fun _ => ?_)
  | (split <;> try dsimp only)
  | with_reducible exact OLe.refl _
def table_replaced_c (t_0 : Sl api_Rule) (at_1 : Int) (l_2 : Sl api_Act) : Option (Sl api_Rule) :=
 (slices_Clone_api_Rule_api_Rule_c t_0).bind fun s1 =>
 (ixI at_1 s1.l.length).bind fun n2 =>
 some (Sl.mk (s1.l.set n2 (⟨api_Rule.Prio (gt s1.l n2), api_Rule.M (gt s1.l n2), l_2⟩ : api_Rule)))
theorem table_replaced_le (t_0 : Sl api_Rule) (at_1 : Int) (l_2 : Sl api_Act) : OLe (table_replaced_c t_0 at_1 l_2) (table_replaced t_0 at_1 l_2) := by
 unfold table_replaced_c table_replaced
 repeat' first
  | with_reducible apply slices_Clone_api_Rule_api_Rule_le
  | with_reducible refine OLe.loop (fun _ => ?_) _ _
  | with_reducible refine OLe.lend (fun _ => ?_) ?_
  | with_reducible refine OLe.cond ?_ ?_
  | with_reducible refine OLe.bind ?_ (fun _ => ?_)
  | (split <;> try dsimp only)
  | with_reducible exact OLe.refl _
def rule_Ahead_c (a_0 : api_Rule) (b_1 : api_Rule) : Option Bool :=
 some (decide ((api_Rule.Prio a_0) > (api_Rule.Prio b_1)))
theorem rule_Ahead_le (a_0 : api_Rule) (b_1 : api_Rule) : OLe (rule_Ahead_c a_0 b_1) (rule_Ahead a_0 b_1) := by
 unfold rule_Ahead_c rule_Ahead
 repeat' first
  | with_reducible refine OLe.loop (fun _ => ?_) _ _
  | with_reducible refine OLe.lend (fun _ => ?_) ?_
  | with_reducible refine OLe.cond ?_ ?_
  | with_reducible refine OLe.bind ?_ (fun _ => ?_)
  | (split <;> try dsimp only)
  | with_reducible exact OLe.refl _
def table_add_2_c (y_0 : api_Rule) (c_1 : api_Rule) : Option Bool :=
 (rule_Ahead_c c_1 y_0).bind fun r1 =>
 some r1
theorem table_add_2_le (y_0 : api_Rule) (c_1 : api_Rule) : OLe (table_add_2_c y_0 c_1) (table_add_2 y_0 c_1) := by
 unfold table_add_2_c table_add_2
 repeat' first
  | with_reducible apply rule_Ahead_le
  | with_reducible refine OLe.loop (fun _ => ?_) _ _
  | with_reducible refine OLe.lend (fun _ => ?_) ?_
  | with_reducible refine OLe.cond ?_ ?_
  | with_reducible refine OLe.bind ?_ (fun _ => ?_)
  | (split <;> try dsimp only)
  | with_reducible exact OLe.refl _
def slices_IndexFunc_api_Rule_api_Rule_table_add_2_L1_c (s_0 : Sl api_Rule) (f_1_c0 : api_Rule) : Int → Option (Int ⊕ (Int ⊕ Unit)) := fun i2 =>
 bif decide (i2 < (s_0.l.length : Int)) then ((ixI i2 s_0.l.length).bind fun n3 =>
 (table_add_2_c (gt s_0.l n3) f_1_c0).bind fun r4 =>
 bif r4 then (some (.inr (.inl i2))) else
 (some (.inl (wr .i64 (i2 + 1))))) else
 (some (.inr (.inr ())))
theorem slices_IndexFunc_api_Rule_api_Rule_table_add_2_L1_le (s_0 : Sl api_Rule) (f_1_c0 : api_Rule) : ∀ s, OLe (slices_IndexFunc_api_Rule_api_Rule_table_add_2_L1_c s_0 f_1_c0 s) (slices_IndexFunc_api_Rule_api_Rule_table_add_2_L1 s_0 f_1_c0 s) := by
 intro s
 unfold slices_IndexFunc_api_Rule_api_Rule_table_add_2_L1_c slices_IndexFunc_api_Rule_api_Rule_table_add_2_L1
 repeat' first
  | with_reducible apply table_add_2_le
  | with_reducible refine OLe.loop (fun _ => ?_) _ _
  | with_reducible refine OLe.lend (fun _ => ?_) ?_
  | with_reducible refine OLe.cond ?_ ?_
  | with_reducible refine OLe.bind ?_ (fun _ => ?_)
  | (split <;> try dsimp only)
  | with_reducible exact OLe.refl _
def slices_IndexFunc_api_Rule_api_Rule_table_add_2_c (s_0 : Sl api_Rule) (f_1_c0 : api_Rule) : Option Int :=
 (loopN 100000 (slices_IndexFunc_api_Rule_api_Rule_table_add_2_L1_c s_0 f_1_c0) 0).bind fun
 | .inl i5 => (some i5)
 | .inr _ => (some (-1))
theorem slices_IndexFunc_api_Rule_api_Rule_table_add_2_le (s_0 : Sl api_Rule) (f_1_c0 : api_Rule) : OLe (slices_IndexFunc_api_Rule_api_Rule_table_add_2_c s_0 f_1_c0) (slices_IndexFunc_api_Rule_api_Rule_table_add_2 s_0 f_1_c0) := by
 unfold slices_IndexFunc_api_Rule_api_Rule_table_add_2_c slices_IndexFunc_api_Rule_api_Rule_table_add_2
 repeat' first
  | with_reducible apply slices_IndexFunc_api_Rule_api_Rule_table_add_2_L1_le
  | with_reducible refine OLe.loop (fun _ => ?_) _ _
  | with_reducible refine OLe.lend (fun _ => ?_) ?_
  | with_reducible refine OLe.cond ?_ ?_
  | with_reducible refine OLe.bind ?_ (fun _ => ?_)
  | (split <;> try dsimp only)
  | with_reducible exact OLe.refl _
def table_add_c (t_0 : Sl api_Rule) (m_1 : api_Mod) (room_2 : Int) : Option (Sl api_Rule × Int) :=
 (bif api_Mod.Check m_1 then ((slices_ContainsFunc_api_Rule_api_Rule_table_add_1_c t_0 (api_Mod.R m_1)).bind fun r1 =>
 some r1) else
 (some false) : Option Bool).bind fun b2 =>
 bif b2 then (some (t_0, 14)) else
 ((table_key_c t_0 (api_Mod.R m_1)).bind fun r3 =>
 bif decide (r3 ≥ 0) then ((table_replaced_c t_0 r3 (api_Rule.Acts (api_Mod.R m_1))).bind fun r4 =>
 some (r4, 0)) else
 (bif decide ((t_0.l.length : Int) ≥ room_2) then (some (t_0, 6)) else
 ((slices_IndexFunc_api_Rule_api_Rule_table_add_2_c t_0 (api_Mod.R m_1)).bind fun r5 =>
 (bif decide (r5 < 0) then (some (t_0.l.length : Int)) else
 (some r5) : Option Int).bind fun i6 =>
 (slices_Clone_api_Rule_api_Rule_c t_0).bind fun s7 =>
 (insF s7 i6 (Sl.mk [api_Mod.R m_1])).bind fun s8 =>
 some (s8, 0))))
theorem table_add_le (t_0 : Sl api_Rule) (m_1 : api_Mod) (room_2 : Int) : OLe (table_add_c t_0 m_1 room_2) (table_add t_0 m_1 room_2) := by
 unfold table_add_c table_add
 repeat' first
  | with_reducible apply slices_ContainsFunc_api_Rule_api_Rule_table_add_1_le
  | with_reducible apply table_key_le
  | with_reducible apply table_replaced_le
  | with_reducible apply slices_IndexFunc_api_Rule_api_Rule_table_add_2_le
  | with_reducible apply slices_Clone_api_Rule_api_Rule_le
  | with_reducible refine OLe.loop (fun _ => ?_) _ _
  | with_reducible refine OLe.lend (fun _ => ?_) ?_
  | with_reducible refine OLe.cond ?_ ?_
  | with_reducible refine OLe.bind ?_ (fun _ => ?_)
  | (split <;> try dsimp only)
  | with_reducible exact OLe.refl _
def match_Within_c (a_0 : api_Match) (b_1 : api_Match) : Option Bool :=
 (match_Meet_c a_0 b_1).bind fun (r1, r2) =>
 some (r2 && (decide (r1 = a_0)))
theorem match_Within_le (a_0 : api_Match) (b_1 : api_Match) : OLe (match_Within_c a_0 b_1) (match_Within a_0 b_1) := by
 unfold match_Within_c match_Within
 repeat' first
  | with_reducible apply match_Meet_le
  | with_reducible refine OLe.loop (fun _ => ?_) _ _
  | with_reducible refine OLe.lend (fun _ => ?_) ?_
  | with_reducible refine OLe.cond ?_ ?_
  | with_reducible refine OLe.bind ?_ (fun _ => ?_)
  | (split <;> try dsimp only)
  | with_reducible exact OLe.refl _
def table_modify_L1_c (x_1 : api_Rule) (s1 : Sl api_Rule) : (Int × Sl api_Rule) → Option ((Int × Sl api_Rule) ⊕ (Sl api_Rule)) := fun (i5, s6) =>
 bif decide (i5 < (s1.l.length : Int)) then (((ixI i5 s6.l.length).bind fun n7 =>
 (match_Within_c (api_Rule.M (gt s6.l n7)) (api_Rule.M x_1)).bind fun r8 =>
 bif r8 then ((ixI i5 s6.l.length).bind fun n9 =>
 some (Sl.mk (s6.l.set n9 (⟨api_Rule.Prio (gt s6.l n9), api_Rule.M (gt s6.l n9), api_Rule.Acts x_1⟩ : api_Rule)))) else
 (some s6) : Option (Sl api_Rule)).bind fun s10 =>
 some (.inl (wr .i64 (i5 + 1), s10))) else
 (some (.inr s6))
theorem table_modify_L1_le (x_1 : api_Rule) (s1 : Sl api_Rule) : ∀ s, OLe (table_modify_L1_c x_1 s1 s) (table_modify_L1 x_1 s1 s) := by
 intro s
 unfold table_modify_L1_c table_modify_L1
 repeat' first
  | with_reducible apply match_Within_le
  | with_reducible refine OLe.loop (fun _ => ?_) _ _
  | with_reducible refine OLe.lend (fun _ => ?_) ?_
  | with_reducible refine OLe.cond ?_ ?_
  | with_reducible refine OLe.bind ?_ (fun _ => ?_)
  | (split <;> try dsimp only)
  | with_reducible exact OLe.refl _
def table_modify_c (t_0 : Sl api_Rule) (x_1 : api_Rule) : Option (Sl api_Rule) :=
 (slices_Clone_api_Rule_api_Rule_c t_0).bind fun s1 =>
 (loopN 100000 (table_modify_L1_c x_1 s1) (0, s1)).bind fun s11 =>
 some s11
theorem table_modify_le (t_0 : Sl api_Rule) (x_1 : api_Rule) : OLe (table_modify_c t_0 x_1) (table_modify t_0 x_1) := by
 unfold table_modify_c table_modify
 repeat' first
  | with_reducible apply slices_Clone_api_Rule_api_Rule_le
  | with_reducible apply table_modify_L1_le
  | with_reducible refine OLe.loop (fun _ => ?_) _ _
  | with_reducible refine OLe.lend (fun _ => ?_) ?_
  | with_reducible refine OLe.cond ?_ ?_
  | with_reducible refine OLe.bind ?_ (fun _ => ?_)
  | (split <;> try dsimp only)
  | with_reducible exact OLe.refl _
def table_Apply_1_c (y_0 : api_Rule) (c_1 : api_Mod) : Option Bool :=
 (match_Within_c (api_Rule.M y_0) (api_Rule.M (api_Mod.R c_1))).bind fun r1 =>
 some r1
theorem table_Apply_1_le (y_0 : api_Rule) (c_1 : api_Mod) : OLe (table_Apply_1_c y_0 c_1) (table_Apply_1 y_0 c_1) := by
 unfold table_Apply_1_c table_Apply_1
 repeat' first
  | with_reducible apply match_Within_le
  | with_reducible refine OLe.loop (fun _ => ?_) _ _
  | with_reducible refine OLe.lend (fun _ => ?_) ?_
  | with_reducible refine OLe.cond ?_ ?_
  | with_reducible refine OLe.bind ?_ (fun _ => ?_)
  | (split <;> try dsimp only)
  | with_reducible exact OLe.refl _
def slices_IndexFunc_api_Rule_api_Rule_table_Apply_1_L1_c (s_0 : Sl api_Rule) (f_1_c0 : api_Mod) : Int → Option (Int ⊕ (Int ⊕ Unit)) := fun i2 =>
 bif decide (i2 < (s_0.l.length : Int)) then ((ixI i2 s_0.l.length).bind fun n3 =>
 (table_Apply_1_c (gt s_0.l n3) f_1_c0).bind fun r4 =>
 bif r4 then (some (.inr (.inl i2))) else
 (some (.inl (wr .i64 (i2 + 1))))) else
 (some (.inr (.inr ())))
theorem slices_IndexFunc_api_Rule_api_Rule_table_Apply_1_L1_le (s_0 : Sl api_Rule) (f_1_c0 : api_Mod) : ∀ s, OLe (slices_IndexFunc_api_Rule_api_Rule_table_Apply_1_L1_c s_0 f_1_c0 s) (slices_IndexFunc_api_Rule_api_Rule_table_Apply_1_L1 s_0 f_1_c0 s) := by
 intro s
 unfold slices_IndexFunc_api_Rule_api_Rule_table_Apply_1_L1_c slices_IndexFunc_api_Rule_api_Rule_table_Apply_1_L1
 repeat' first
  | with_reducible apply table_Apply_1_le
  | with_reducible refine OLe.loop (fun _ => ?_) _ _
  | with_reducible refine OLe.lend (fun _ => ?_) ?_
  | with_reducible refine OLe.cond ?_ ?_
  | with_reducible refine OLe.bind ?_ (fun _ => ?_)
  | (split <;> try dsimp only)
  | with_reducible exact OLe.refl _
def slices_IndexFunc_api_Rule_api_Rule_table_Apply_1_c (s_0 : Sl api_Rule) (f_1_c0 : api_Mod) : Option Int :=
 (loopN 100000 (slices_IndexFunc_api_Rule_api_Rule_table_Apply_1_L1_c s_0 f_1_c0) 0).bind fun
 | .inl i5 => (some i5)
 | .inr _ => (some (-1))
theorem slices_IndexFunc_api_Rule_api_Rule_table_Apply_1_le (s_0 : Sl api_Rule) (f_1_c0 : api_Mod) : OLe (slices_IndexFunc_api_Rule_api_Rule_table_Apply_1_c s_0 f_1_c0) (slices_IndexFunc_api_Rule_api_Rule_table_Apply_1 s_0 f_1_c0) := by
 unfold slices_IndexFunc_api_Rule_api_Rule_table_Apply_1_c slices_IndexFunc_api_Rule_api_Rule_table_Apply_1
 repeat' first
  | with_reducible apply slices_IndexFunc_api_Rule_api_Rule_table_Apply_1_L1_le
  | with_reducible refine OLe.loop (fun _ => ?_) _ _
  | with_reducible refine OLe.lend (fun _ => ?_) ?_
  | with_reducible refine OLe.cond ?_ ?_
  | with_reducible refine OLe.bind ?_ (fun _ => ?_)
  | (split <;> try dsimp only)
  | with_reducible exact OLe.refl _
def slices_DeleteFunc_api_Rule_api_Rule_table_Apply_1_L1_c (del_1_c0 : api_Mod) : (Int × Int × Sl api_Rule) → Option ((Int × Int × Sl api_Rule) ⊕ (Int × Sl api_Rule)) := fun (i7, i8, s9) =>
 bif decide (i8 < (s9.l.length : Int)) then (((ixI i8 s9.l.length).bind fun n10 =>
 (table_Apply_1_c (gt s9.l n10) del_1_c0).bind fun r11 =>
 bif (!r11) then ((ixI i7 s9.l.length).bind fun n12 =>
 some (wr .i64 (i7 + 1), (Sl.mk (s9.l.set n12 (gt s9.l n10))))) else
 (some (i7, s9)) : Option (Int × Sl api_Rule)).bind fun (i13, s14) =>
 some (.inl (i13, wr .i64 (i8 + 1), s14))) else
 (some (.inr (i7, s9)))
theorem slices_DeleteFunc_api_Rule_api_Rule_table_Apply_1_L1_le (del_1_c0 : api_Mod) : ∀ s, OLe (slices_DeleteFunc_api_Rule_api_Rule_table_Apply_1_L1_c del_1_c0 s) (slices_DeleteFunc_api_Rule_api_Rule_table_Apply_1_L1 del_1_c0 s) := by
 intro s
 unfold slices_DeleteFunc_api_Rule_api_Rule_table_Apply_1_L1_c slices_DeleteFunc_api_Rule_api_Rule_table_Apply_1_L1
 repeat' first
  | with_reducible apply table_Apply_1_le
  | with_reducible refine OLe.loop (fun _ => ?_) _ _
  | with_reducible refine OLe.lend (fun _ => ?_) ?_
  | with_reducible refine OLe.cond ?_ ?_
  | with_reducible refine OLe.bind ?_ (fun _ => ?_)
  | (split <;> try dsimp only)
  | with_reducible exact OLe.refl _
def slices_DeleteFunc_api_Rule_api_Rule_table_Apply_1_c (s_0 : Sl api_Rule) (del_1_c0 : api_Mod) : Option (Sl api_Rule) :=
 (slices_IndexFunc_api_Rule_api_Rule_table_Apply_1_c s_0 del_1_c0).bind fun r1 =>
 bif (r1 == (-1)) then (some s_0) else
 ((loopN 100000 (slices_DeleteFunc_api_Rule_api_Rule_table_Apply_1_L1_c del_1_c0) (r1, wr .i64 (r1 + 1), s_0)).bind fun (i15, s16) =>
 (cutI s16.l i15 s16.l.length).bind fun l17 =>
 (clrS s16 i15.toNat ((s16.to l17).l).length (⟨0, (⟨0, (zeE (.ar 4 (.i .i64))), (zeE (.ar 4 (.i .i64)))⟩ : api_Match), Sl.nil⟩ : api_Rule)).bind fun s18 =>
 (cutI s18.l 0 i15).bind fun l19 =>
 some (s18.to l19))
theorem slices_DeleteFunc_api_Rule_api_Rule_table_Apply_1_le (s_0 : Sl api_Rule) (del_1_c0 : api_Mod) : OLe (slices_DeleteFunc_api_Rule_api_Rule_table_Apply_1_c s_0 del_1_c0) (slices_DeleteFunc_api_Rule_api_Rule_table_Apply_1 s_0 del_1_c0) := by
 unfold slices_DeleteFunc_api_Rule_api_Rule_table_Apply_1_c slices_DeleteFunc_api_Rule_api_Rule_table_Apply_1
 repeat' first
  | with_reducible apply slices_IndexFunc_api_Rule_api_Rule_table_Apply_1_le
  | with_reducible apply slices_DeleteFunc_api_Rule_api_Rule_table_Apply_1_L1_le
  | with_reducible refine OLe.loop (fun _ => ?_) _ _
  | with_reducible refine OLe.lend (fun _ => ?_) ?_
  | with_reducible refine OLe.cond ?_ ?_
  | with_reducible refine OLe.bind ?_ (fun _ => ?_)
  | (split <;> try dsimp only)
  | with_reducible exact OLe.refl _
def table_strict_c (t_0 : Sl api_Rule) (x_1 : api_Rule) : Option (Int × Int) :=
 (table_key_c t_0 x_1).bind fun r1 =>
 bif decide (r1 < 0) then (some (r1, 7)) else
 (some (r1, 0))
theorem table_strict_le (t_0 : Sl api_Rule) (x_1 : api_Rule) : OLe (table_strict_c t_0 x_1) (table_strict t_0 x_1) := by
 unfold table_strict_c table_strict
 repeat' first
  | with_reducible apply table_key_le
  | with_reducible refine OLe.loop (fun _ => ?_) _ _
  | with_reducible refine OLe.lend (fun _ => ?_) ?_
  | with_reducible refine OLe.cond ?_ ?_
  | with_reducible refine OLe.bind ?_ (fun _ => ?_)
  | (split <;> try dsimp only)
  | with_reducible exact OLe.refl _
def table_Apply_c (t_0 : Sl api_Rule) (m_1 : api_Mod) (ports_2 : Int) (room_3 : Int) : Option (Sl api_Rule × Int) :=
 (rule_Right_c (api_Mod.R m_1) ports_2).bind fun r1 =>
 bif (!r1) then (some (t_0, 2)) else
 (bif ((api_Mod.Kind m_1) == 1) then ((table_add_c t_0 m_1 room_3).bind fun (r2, r3) =>
 some (r2, r3)) else
 (bif ((api_Mod.Kind m_1) == 2) then ((table_modify_c t_0 (api_Mod.R m_1)).bind fun r4 =>
 some (r4, 0)) else
 (bif ((api_Mod.Kind m_1) == 4) then ((slices_Clone_api_Rule_api_Rule_c t_0).bind fun s5 =>
 (slices_DeleteFunc_api_Rule_api_Rule_table_Apply_1_c s5 m_1).bind fun r6 =>
 some (r6, 0)) else
 ((bif ((api_Mod.Kind m_1) == 3) then (some ((api_Mod.Kind m_1) == 3)) else
 (some ((api_Mod.Kind m_1) == 5)) : Option Bool).bind fun b7 =>
 bif b7 then ((table_strict_c t_0 (api_Mod.R m_1)).bind fun (r8, r9) =>
 bif (r9 != 0) then (some (t_0, r9)) else
 (bif ((api_Mod.Kind m_1) == 3) then ((table_replaced_c t_0 r8 (api_Rule.Acts (api_Mod.R m_1))).bind fun r10 =>
 some (r10, 0)) else
 ((slices_Clone_api_Rule_api_Rule_c t_0).bind fun s11 =>
 (delF s11 r8 (wr .i64 (r8 + 1))).bind fun s12 =>
 some (s12, 0)))) else
 (some (t_0, 2))))))
theorem table_Apply_le (t_0 : Sl api_Rule) (m_1 : api_Mod) (ports_2 : Int) (room_3 : Int) : OLe (table_Apply_c t_0 m_1 ports_2 room_3) (table_Apply t_0 m_1 ports_2 room_3) := by
 unfold table_Apply_c table_Apply
 repeat' first
  | with_reducible apply rule_Right_le
  | with_reducible apply table_add_le
  | with_reducible apply table_modify_le
  | with_reducible apply slices_Clone_api_Rule_api_Rule_le
  | with_reducible apply slices_DeleteFunc_api_Rule_api_Rule_table_Apply_1_le
  | with_reducible apply table_strict_le
  | with_reducible apply table_replaced_le
  | with_reducible refine OLe.loop (fun _ => ?_) _ _
  | with_reducible refine OLe.lend (fun _ => ?_) ?_
  | with_reducible refine OLe.cond ?_ ?_
  | with_reducible refine OLe.bind ?_ (fun _ => ?_)
  | (split <;> try dsimp only)
  | with_reducible exact OLe.refl _
def table_Mods_L1_c (t_0 : Sl api_Rule) (l_1 : Sl api_Mod) (ports_2 : Int) (room_3 : Int) : (Sl api_Rule × Int) → Option ((Sl api_Rule × Int) ⊕ ((Sl api_Rule × Int × Int) ⊕ (Sl api_Rule))) := fun (s3, i4) =>
 bif decide (i4 < (l_1.l.length : Int)) then ((ixI i4 l_1.l.length).bind fun n5 =>
 (table_Apply_c s3 (gt l_1.l n5) ports_2 room_3).bind fun (r6, r7) =>
 bif (r7 != 0) then (some (.inr (.inl (t_0, i4, r7)))) else
 (some (.inl (r6, wr .i64 (i4 + 1))))) else
 (some (.inr (.inr s3)))
theorem table_Mods_L1_le (t_0 : Sl api_Rule) (l_1 : Sl api_Mod) (ports_2 : Int) (room_3 : Int) : ∀ s, OLe (table_Mods_L1_c t_0 l_1 ports_2 room_3 s) (table_Mods_L1 t_0 l_1 ports_2 room_3 s) := by
 intro s
 unfold table_Mods_L1_c table_Mods_L1
 repeat' first
  | with_reducible apply table_Apply_le
  | with_reducible refine OLe.loop (fun _ => ?_) _ _
  | with_reducible refine OLe.lend (fun _ => ?_) ?_
  | with_reducible refine OLe.cond ?_ ?_
  | with_reducible refine OLe.bind ?_ (fun _ => ?_)
  | (split <;> try dsimp only)
  | with_reducible exact OLe.refl _
def table_Mods_c (t_0 : Sl api_Rule) (l_1 : Sl api_Mod) (ports_2 : Int) (room_3 : Int) : Option (Sl api_Rule × Int × Int) :=
 (loopN 100000 (table_Mods_L1_c t_0 l_1 ports_2 room_3) (t_0, 0)).bind fun
 | .inl (s8, i9, i10) => (some (s8, i9, i10))
 | .inr s11 => (some (s11, (-1), 0))
theorem table_Mods_le (t_0 : Sl api_Rule) (l_1 : Sl api_Mod) (ports_2 : Int) (room_3 : Int) : OLe (table_Mods_c t_0 l_1 ports_2 room_3) (table_Mods t_0 l_1 ports_2 room_3) := by
 unfold table_Mods_c table_Mods
 repeat' first
  | with_reducible apply table_Mods_L1_le
  | with_reducible refine OLe.loop (fun _ => ?_) _ _
  | with_reducible refine OLe.lend (fun _ => ?_) ?_
  | with_reducible refine OLe.cond ?_ ?_
  | with_reducible refine OLe.bind ?_ (fun _ => ?_)
  | (split <;> try dsimp only)
  | with_reducible exact OLe.refl _
def match_Hits_L1_c (m_0 : api_Match) (p_2 : Arr 4 Int) : Int → Option (Int ⊕ (Bool ⊕ Unit)) := fun i2 =>
 bif decide (i2 < 4) then ((ixI i2 4).bind fun n3 =>
 (ixI i2 4).bind fun n4 =>
 (ixI i2 4).bind fun n5 =>
 bif ((bAnd .i64 (bXor .i64 (gt p_2.1 n4) (gt ((api_Match.Val m_0).1) n5)) (gt ((api_Match.Mask m_0).1) n3)) != 0) then (some (.inr (.inl false))) else
 (some (.inl (wr .i64 (i2 + 1))))) else
 (some (.inr (.inr ())))
theorem match_Hits_L1_le (m_0 : api_Match) (p_2 : Arr 4 Int) : ∀ s, OLe (match_Hits_L1_c m_0 p_2 s) (match_Hits_L1 m_0 p_2 s) := by
 intro s
 unfold match_Hits_L1_c match_Hits_L1
 repeat' first
  | with_reducible refine OLe.loop (fun _ => ?_) _ _
  | with_reducible refine OLe.lend (fun _ => ?_) ?_
  | with_reducible refine OLe.cond ?_ ?_
  | with_reducible refine OLe.bind ?_ (fun _ => ?_)
  | (split <;> try dsimp only)
  | with_reducible exact OLe.refl _
def match_Hits_c (m_0 : api_Match) (port_1 : Int) (p_2 : Arr 4 Int) : Option Bool :=
 bif (((api_Match.Port m_0) != (-1)) && ((api_Match.Port m_0) != port_1)) then (some false) else
 ((loopN 100000 (match_Hits_L1_c m_0 p_2) 0).bind fun
 | .inl b6 => (some b6)
 | .inr _ => (some true))
theorem match_Hits_le (m_0 : api_Match) (port_1 : Int) (p_2 : Arr 4 Int) : OLe (match_Hits_c m_0 port_1 p_2) (match_Hits m_0 port_1 p_2) := by
 unfold match_Hits_c match_Hits
 repeat' first
  | with_reducible apply match_Hits_L1_le
  | with_reducible refine OLe.loop (fun _ => ?_) _ _
  | with_reducible refine OLe.lend (fun _ => ?_) ?_
  | with_reducible refine OLe.cond ?_ ?_
  | with_reducible refine OLe.bind ?_ (fun _ => ?_)
  | (split <;> try dsimp only)
  | with_reducible exact OLe.refl _
def table_Find_1_c (x_0 : api_Rule) (c_1 : Int) (c_2 : Arr 4 Int) : Option Bool :=
 (match_Hits_c (api_Rule.M x_0) c_1 c_2).bind fun r1 =>
 some r1
theorem table_Find_1_le (x_0 : api_Rule) (c_1 : Int) (c_2 : Arr 4 Int) : OLe (table_Find_1_c x_0 c_1 c_2) (table_Find_1 x_0 c_1 c_2) := by
 unfold table_Find_1_c table_Find_1
 repeat' first
  | with_reducible apply match_Hits_le
  | with_reducible refine OLe.loop (fun _ => ?_) _ _
  | with_reducible refine OLe.lend (fun _ => ?_) ?_
  | with_reducible refine OLe.cond ?_ ?_
  | with_reducible refine OLe.bind ?_ (fun _ => ?_)
  | (split <;> try dsimp only)
  | with_reducible exact OLe.refl _
def slices_IndexFunc_api_Rule_api_Rule_table_Find_1_L1_c (s_0 : Sl api_Rule) (f_1_c0 : Int) (f_1_c1 : Arr 4 Int) : Int → Option (Int ⊕ (Int ⊕ Unit)) := fun i2 =>
 bif decide (i2 < (s_0.l.length : Int)) then ((ixI i2 s_0.l.length).bind fun n3 =>
 (table_Find_1_c (gt s_0.l n3) f_1_c0 f_1_c1).bind fun r4 =>
 bif r4 then (some (.inr (.inl i2))) else
 (some (.inl (wr .i64 (i2 + 1))))) else
 (some (.inr (.inr ())))
theorem slices_IndexFunc_api_Rule_api_Rule_table_Find_1_L1_le (s_0 : Sl api_Rule) (f_1_c0 : Int) (f_1_c1 : Arr 4 Int) : ∀ s, OLe (slices_IndexFunc_api_Rule_api_Rule_table_Find_1_L1_c s_0 f_1_c0 f_1_c1 s) (slices_IndexFunc_api_Rule_api_Rule_table_Find_1_L1 s_0 f_1_c0 f_1_c1 s) := by
 intro s
 unfold slices_IndexFunc_api_Rule_api_Rule_table_Find_1_L1_c slices_IndexFunc_api_Rule_api_Rule_table_Find_1_L1
 repeat' first
  | with_reducible apply table_Find_1_le
  | with_reducible refine OLe.loop (fun _ => ?_) _ _
  | with_reducible refine OLe.lend (fun _ => ?_) ?_
  | with_reducible refine OLe.cond ?_ ?_
  | with_reducible refine OLe.bind ?_ (fun _ => ?_)
  | (split <;> try dsimp only)
  | with_reducible exact OLe.refl _
def slices_IndexFunc_api_Rule_api_Rule_table_Find_1_c (s_0 : Sl api_Rule) (f_1_c0 : Int) (f_1_c1 : Arr 4 Int) : Option Int :=
 (loopN 100000 (slices_IndexFunc_api_Rule_api_Rule_table_Find_1_L1_c s_0 f_1_c0 f_1_c1) 0).bind fun
 | .inl i5 => (some i5)
 | .inr _ => (some (-1))
theorem slices_IndexFunc_api_Rule_api_Rule_table_Find_1_le (s_0 : Sl api_Rule) (f_1_c0 : Int) (f_1_c1 : Arr 4 Int) : OLe (slices_IndexFunc_api_Rule_api_Rule_table_Find_1_c s_0 f_1_c0 f_1_c1) (slices_IndexFunc_api_Rule_api_Rule_table_Find_1 s_0 f_1_c0 f_1_c1) := by
 unfold slices_IndexFunc_api_Rule_api_Rule_table_Find_1_c slices_IndexFunc_api_Rule_api_Rule_table_Find_1
 repeat' first
  | with_reducible apply slices_IndexFunc_api_Rule_api_Rule_table_Find_1_L1_le
  | with_reducible refine OLe.loop (fun _ => ?_) _ _
  | with_reducible refine OLe.lend (fun _ => ?_) ?_
  | with_reducible refine OLe.cond ?_ ?_
  | with_reducible refine OLe.bind ?_ (fun _ => ?_)
  | (split <;> try dsimp only)
  | with_reducible exact OLe.refl _
def table_Find_c (t_0 : Sl api_Rule) (port_1 : Int) (p_2 : Arr 4 Int) : Option Int :=
 (slices_IndexFunc_api_Rule_api_Rule_table_Find_1_c t_0 port_1 p_2).bind fun r1 =>
 some r1
theorem table_Find_le (t_0 : Sl api_Rule) (port_1 : Int) (p_2 : Arr 4 Int) : OLe (table_Find_c t_0 port_1 p_2) (table_Find t_0 port_1 p_2) := by
 unfold table_Find_c table_Find
 repeat' first
  | with_reducible apply slices_IndexFunc_api_Rule_api_Rule_table_Find_1_le
  | with_reducible refine OLe.loop (fun _ => ?_) _ _
  | with_reducible refine OLe.lend (fun _ => ?_) ?_
  | with_reducible refine OLe.cond ?_ ?_
  | with_reducible refine OLe.bind ?_ (fun _ => ?_)
  | (split <;> try dsimp only)
  | with_reducible exact OLe.refl _
def packet_is_c (f_0 : Int) : Option Bool :=
 some ((decide (f_0 ≥ 0)) && (decide (f_0 < 4)))
theorem packet_is_le (f_0 : Int) : OLe (packet_is_c f_0) (packet_is f_0) := by
 unfold packet_is_c packet_is
 repeat' first
  | with_reducible refine OLe.loop (fun _ => ?_) _ _
  | with_reducible refine OLe.lend (fun _ => ?_) ?_
  | with_reducible refine OLe.cond ?_ ?_
  | with_reducible refine OLe.bind ?_ (fun _ => ?_)
  | (split <;> try dsimp only)
  | with_reducible exact OLe.refl _
def packet_With_c (p_0 : Arr 4 Int) (f_1 : Int) (v_2 : Int) : Option (Arr 4 Int) :=
 (((packet_is_c f_1).bind fun r1 =>
 bif (r1 && (decide (v_2 ≥ 0))) then ((packet_Top_c f_1).bind fun r2 =>
 some (decide (v_2 ≤ r2))) else
 (some false) : Option Bool).bind fun b3 =>
 bif b3 then ((ixI f_1 4).bind fun n4 =>
 some (Arr.set p_0 n4 v_2)) else
 (some p_0) : Option (Arr 4 Int)).bind fun v5 =>
 some v5
theorem packet_With_le (p_0 : Arr 4 Int) (f_1 : Int) (v_2 : Int) : OLe (packet_With_c p_0 f_1 v_2) (packet_With p_0 f_1 v_2) := by
 unfold packet_With_c packet_With
 repeat' first
  | with_reducible apply packet_is_le
  | with_reducible apply packet_Top_le
  | with_reducible refine OLe.loop (fun _ => ?_) _ _
  | with_reducible refine OLe.lend (fun _ => ?_) ?_
  | with_reducible refine OLe.cond ?_ ?_
  | with_reducible refine OLe.bind ?_ (fun _ => ?_)
  | (split <;> try dsimp only)
  | with_reducible exact OLe.refl _
def act_Run_L1_c (l_0 : Sl api_Act) (p_1 : Arr 4 Int) : (Int × Arr 4 Int × Sl api_Sent) → Option ((Int × Arr 4 Int × Sl api_Sent) ⊕ (Sl api_Sent)) := fun (i5, v6, s7) =>
 bif decide (i5 < (l_0.l.length : Int)) then (((ixI i5 l_0.l.length).bind fun n8 =>
 bif ((api_Act.Kind (gt l_0.l n8)) == 3) then (some (p_1, s7)) else
 (bif ((api_Act.Kind (gt l_0.l n8)) == 1) then ((packet_With_c v6 (api_Act.F (gt l_0.l n8)) (api_Act.V (gt l_0.l n8))).bind fun r9 =>
 some (r9, s7)) else
 (bif ((api_Act.Kind (gt l_0.l n8)) == 2) then ((capI (s7.l ++ [(⟨api_Act.V (gt l_0.l n8), v6⟩ : api_Sent)])).bind fun l10 =>
 some (v6, (Sl.mk l10))) else
 (some (v6, s7)))) : Option (Arr 4 Int × Sl api_Sent)).bind fun (v11, s12) =>
 some (.inl (wr .i64 (i5 + 1), v11, s12))) else
 (some (.inr s7))
theorem act_Run_L1_le (l_0 : Sl api_Act) (p_1 : Arr 4 Int) : ∀ s, OLe (act_Run_L1_c l_0 p_1 s) (act_Run_L1 l_0 p_1 s) := by
 intro s
 unfold act_Run_L1_c act_Run_L1
 repeat' first
  | with_reducible apply packet_With_le
  | with_reducible refine OLe.loop (fun _ => ?_) _ _
  | with_reducible refine OLe.lend (fun _ => ?_) ?_
  | with_reducible refine OLe.cond ?_ ?_
  | with_reducible refine OLe.bind ?_ (fun _ => ?_)
  | (split <;> try dsimp only)
  | with_reducible exact OLe.refl _
def act_Run_c (l_0 : Sl api_Act) (p_1 : Arr 4 Int) : Option (Sl api_Sent) :=
 (loopN 100000 (act_Run_L1_c l_0 p_1) (0, p_1, Sl.nil)).bind fun s13 =>
 some s13
theorem act_Run_le (l_0 : Sl api_Act) (p_1 : Arr 4 Int) : OLe (act_Run_c l_0 p_1) (act_Run l_0 p_1) := by
 unfold act_Run_c act_Run
 repeat' first
  | with_reducible apply act_Run_L1_le
  | with_reducible refine OLe.loop (fun _ => ?_) _ _
  | with_reducible refine OLe.lend (fun _ => ?_) ?_
  | with_reducible refine OLe.cond ?_ ?_
  | with_reducible refine OLe.bind ?_ (fun _ => ?_)
  | (split <;> try dsimp only)
  | with_reducible exact OLe.refl _
def table_Run_c (t_0 : Sl api_Rule) (port_1 : Int) (p_2 : Arr 4 Int) : Option (Sl api_Sent) :=
 (table_Find_c t_0 port_1 p_2).bind fun r1 =>
 bif decide (r1 < 0) then (some Sl.nil) else
 ((ixI r1 t_0.l.length).bind fun n2 =>
 (act_Run_c (api_Rule.Acts (gt t_0.l n2)) p_2).bind fun r3 =>
 some r3)
theorem table_Run_le (t_0 : Sl api_Rule) (port_1 : Int) (p_2 : Arr 4 Int) : OLe (table_Run_c t_0 port_1 p_2) (table_Run t_0 port_1 p_2) := by
 unfold table_Run_c table_Run
 repeat' first
  | with_reducible apply table_Find_le
  | with_reducible apply act_Run_le
  | with_reducible refine OLe.loop (fun _ => ?_) _ _
  | with_reducible refine OLe.lend (fun _ => ?_) ?_
  | with_reducible refine OLe.cond ?_ ?_
  | with_reducible refine OLe.bind ?_ (fun _ => ?_)
  | (split <;> try dsimp only)
  | with_reducible exact OLe.refl _
def law11_awake_c : Option Bool :=
 (match_Any_c).bind fun r1 =>
 (rule_Plain_c 1 3 20 2).bind fun r2 =>
 (table_Mods_c Sl.nil (Sl.mk [(⟨1, (⟨10, r1, (Sl.mk [(⟨2, 0, 1⟩ : api_Act)])⟩ : api_Rule), false⟩ : api_Mod), (⟨1, r2, false⟩ : api_Mod)]) 4 9).bind fun (r3, r4, r5) =>
 (table_Run_c r3 0 (Arr.set (Arr.set (Arr.set (Arr.set (zeE (.ar 4 (.i .i64))) 0 1) 1 3) 2 0) 3 0)).bind fun r6 =>
 (bif ((((r3.l.length : Int) == 2) && (r4 == (-1))) && (r5 == 0)) then ((ixI 0 r3.l.length).bind fun n7 =>
 bif (((api_Rule.Prio (gt r3.l n7)) == 20) && ((r6.l.length : Int) == 1)) then ((ixI 0 r6.l.length).bind fun n8 =>
 bif ((api_Sent.Port (gt r6.l n8)) == 2) then ((table_Find_c r3 0 (zeE (.ar 4 (.i .i64)))).bind fun r9 =>
 some (r9 == 1)) else
 (some false)) else
 (some false)) else
 (some false) : Option Bool).bind fun b10 =>
 some b10
theorem law11_awake_le : OLe (law11_awake_c) (law11_awake) := by
 unfold law11_awake_c law11_awake
 repeat' first
  | with_reducible apply match_Any_le
  | with_reducible apply rule_Plain_le
  | with_reducible apply table_Mods_le
  | with_reducible apply table_Run_le
  | with_reducible apply table_Find_le
  | with_reducible refine OLe.loop (fun _ => ?_) _ _
  | with_reducible refine OLe.lend (fun _ => ?_) ?_
  | with_reducible refine OLe.cond ?_ ?_
  | with_reducible refine OLe.bind ?_ (fun _ => ?_)
  | (split <;> try dsimp only)
  | with_reducible exact OLe.refl _
theorem law11_awake_runs : law11_awake = some true := law11_awake_le _ (by decide +kernel)
end Go.Proofs.Ytmeemkllagjnmaa.B
