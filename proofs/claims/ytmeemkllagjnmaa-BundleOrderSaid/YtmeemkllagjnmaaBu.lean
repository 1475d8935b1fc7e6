/- law12_awake answers true: by running its twin. Conditions: none. -/
import Derived.Test.YtmeemkllagjnmaaB
import Derived.Test.YtmeemkllagjnmaaTwin
open Go.Ev Go
namespace Go.Proofs.Ytmeemkllagjnmaa.B
def match_Any_k : Option api_Match :=
 some (⟨(-1), (zeE (.ar 4 (.i .i64))), (zeE (.ar 4 (.i .i64)))⟩ : api_Match)
theorem match_Any_lk : OLe (match_Any_k) (match_Any) := by
 unfold match_Any_k match_Any
 repeat' first
  | with_reducible refine OLe.loop (fun _ => ?_) _ _
  | with_reducible refine OLe.lend (fun _ => ?_) ?_
  | with_reducible refine OLe.cond ?_ ?_
  | with_reducible refine OLe.bind ?_ (fun _ => ?_)
  | (split <;> try dsimp only)
  | with_reducible exact OLe.refl _
def packet_Bits_k (f_0 : Int) : Option Int :=
 (bif (f_0 == 0) then (some (f_0 == 0)) else
 (bif (f_0 == 1) then (some (f_0 == 1)) else
 (some (f_0 == 3))) : Option Bool).bind fun b1 =>
 bif b1 then (some 8) else
 (bif (f_0 == 2) then (some 4) else
 (some 0))
theorem packet_Bits_lk (f_0 : Int) : OLe (packet_Bits_k f_0) (packet_Bits f_0) := by
 unfold packet_Bits_k packet_Bits
 repeat' first
  | with_reducible refine OLe.loop (fun _ => ?_) _ _
  | with_reducible refine OLe.lend (fun _ => ?_) ?_
  | with_reducible refine OLe.cond ?_ ?_
  | with_reducible refine OLe.bind ?_ (fun _ => ?_)
  | (split <;> try dsimp only)
  | with_reducible exact OLe.refl _
def packet_Top_k (f_0 : Int) : Option Int :=
 (packet_Bits_k f_0).bind fun r1 =>
 (shlI .i64 1 r1).bind fun i2 =>
 some (wr .i64 (i2 - 1))
theorem packet_Top_lk (f_0 : Int) : OLe (packet_Top_k f_0) (packet_Top f_0) := by
 unfold packet_Top_k packet_Top
 repeat' first
  | with_reducible apply packet_Bits_lk
  | with_reducible refine OLe.loop (fun _ => ?_) _ _
  | with_reducible refine OLe.lend (fun _ => ?_) ?_
  | with_reducible refine OLe.cond ?_ ?_
  | with_reducible refine OLe.bind ?_ (fun _ => ?_)
  | (split <;> try dsimp only)
  | with_reducible exact OLe.refl _
def match_Of_k (f_0 : Int) (v_1 : Int) : Option api_Match :=
 (match_Any_k).bind fun r1 =>
 ((bif (((decide (f_0 ≥ 0)) && (decide (f_0 < 4))) && (decide (v_1 ≥ 0))) then ((packet_Top_k f_0).bind fun r2 =>
 some (decide (v_1 ≤ r2))) else
 (some false) : Option Bool).bind fun b3 =>
 bif b3 then ((packet_Top_k f_0).bind fun r4 =>
 (ixI f_0 4).bind fun n5 =>
 (ixI f_0 4).bind fun n6 =>
 some (⟨api_Match.Port r1, Arr.set (api_Match.Val r1) n5 v_1, Arr.set (api_Match.Mask r1) n6 r4⟩ : api_Match)) else
 (some r1) : Option api_Match).bind fun x7 =>
 some x7
theorem match_Of_lk (f_0 : Int) (v_1 : Int) : OLe (match_Of_k f_0 v_1) (match_Of f_0 v_1) := by
 unfold match_Of_k match_Of
 repeat' first
  | with_reducible apply match_Any_lk
  | with_reducible apply packet_Top_lk
  | with_reducible refine OLe.loop (fun _ => ?_) _ _
  | with_reducible refine OLe.lend (fun _ => ?_) ?_
  | with_reducible refine OLe.cond ?_ ?_
  | with_reducible refine OLe.bind ?_ (fun _ => ?_)
  | (split <;> try dsimp only)
  | with_reducible exact OLe.refl _
def rule_Drop_k (f_0 : Int) (v_1 : Int) (prio_2 : Int) : Option api_Rule :=
 (match_Of_k f_0 v_1).bind fun r1 =>
 some (⟨prio_2, r1, Sl.nil⟩ : api_Rule)
theorem rule_Drop_lk (f_0 : Int) (v_1 : Int) (prio_2 : Int) : OLe (rule_Drop_k f_0 v_1 prio_2) (rule_Drop f_0 v_1 prio_2) := by
 unfold rule_Drop_k rule_Drop
 repeat' first
  | with_reducible apply match_Of_lk
  | with_reducible refine OLe.loop (fun _ => ?_) _ _
  | with_reducible refine OLe.lend (fun _ => ?_) ?_
  | with_reducible refine OLe.cond ?_ ?_
  | with_reducible refine OLe.bind ?_ (fun _ => ?_)
  | (split <;> try dsimp only)
  | with_reducible exact OLe.refl _
def rule_Plain_k (f_0 : Int) (v_1 : Int) (prio_2 : Int) (port_3 : Int) : Option api_Rule :=
 (rule_Drop_k f_0 v_1 prio_2).bind fun r1 =>
 some (⟨api_Rule.Prio r1, api_Rule.M r1, (Sl.mk [(⟨2, 0, port_3⟩ : api_Act)])⟩ : api_Rule)
theorem rule_Plain_lk (f_0 : Int) (v_1 : Int) (prio_2 : Int) (port_3 : Int) : OLe (rule_Plain_k f_0 v_1 prio_2 port_3) (rule_Plain f_0 v_1 prio_2 port_3) := by
 unfold rule_Plain_k rule_Plain
 repeat' first
  | with_reducible apply rule_Drop_lk
  | with_reducible refine OLe.loop (fun _ => ?_) _ _
  | with_reducible refine OLe.lend (fun _ => ?_) ?_
  | with_reducible refine OLe.cond ?_ ?_
  | with_reducible refine OLe.bind ?_ (fun _ => ?_)
  | (split <;> try dsimp only)
  | with_reducible exact OLe.refl _
def rule_Key_k (a_0 : api_Rule) (b_1 : api_Rule) : Option Bool :=
 some (((api_Rule.Prio a_0) == (api_Rule.Prio b_1)) && (decide ((api_Rule.M a_0) = (api_Rule.M b_1))))
theorem rule_Key_lk (a_0 : api_Rule) (b_1 : api_Rule) : OLe (rule_Key_k a_0 b_1) (rule_Key a_0 b_1) := by
 unfold rule_Key_k rule_Key
 repeat' first
  | with_reducible refine OLe.loop (fun _ => ?_) _ _
  | with_reducible refine OLe.lend (fun _ => ?_) ?_
  | with_reducible refine OLe.cond ?_ ?_
  | with_reducible refine OLe.bind ?_ (fun _ => ?_)
  | (split <;> try dsimp only)
  | with_reducible exact OLe.refl _
def ref09_Same_L1_k (a_0 : Sl api_Act) (b_1 : Sl api_Act) : Int → Option (Int ⊕ (Bool ⊕ Unit)) := fun i2 =>
 bif decide (i2 < (a_0.l.length : Int)) then ((ixI i2 a_0.l.length).bind fun n3 =>
 (ixI i2 b_1.l.length).bind fun n4 =>
 bif (!(decide ((gt a_0.l n3) = (gt b_1.l n4)))) then (some (.inr (.inl false))) else
 (some (.inl (wr .i64 (i2 + 1))))) else
 (some (.inr (.inr ())))
theorem ref09_Same_L1_lk (a_0 : Sl api_Act) (b_1 : Sl api_Act) : ∀ s, OLe (ref09_Same_L1_k a_0 b_1 s) (ref09_Same_L1 a_0 b_1 s) := by
 intro s
 unfold ref09_Same_L1_k ref09_Same_L1
 repeat' first
  | with_reducible refine OLe.loop (fun _ => ?_) _ _
  | with_reducible refine OLe.lend (fun _ => ?_) ?_
  | with_reducible refine OLe.cond ?_ ?_
  | with_reducible refine OLe.bind ?_ (fun _ => ?_)
  | (split <;> try dsimp only)
  | with_reducible exact OLe.refl _
def ref09_Same_k (a_0 : Sl api_Act) (b_1 : Sl api_Act) : Option Bool :=
 bif ((a_0.l.length : Int) != (b_1.l.length : Int)) then (some false) else
 ((loopN 100000 (ref09_Same_L1_k a_0 b_1) 0).bind fun
 | .inl b5 => (some b5)
 | .inr _ => (some true))
theorem ref09_Same_lk (a_0 : Sl api_Act) (b_1 : Sl api_Act) : OLe (ref09_Same_k a_0 b_1) (ref09_Same a_0 b_1) := by
 unfold ref09_Same_k ref09_Same
 repeat' first
  | with_reducible apply ref09_Same_L1_lk
  | with_reducible refine OLe.loop (fun _ => ?_) _ _
  | with_reducible refine OLe.lend (fun _ => ?_) ?_
  | with_reducible refine OLe.cond ?_ ?_
  | with_reducible refine OLe.bind ?_ (fun _ => ?_)
  | (split <;> try dsimp only)
  | with_reducible exact OLe.refl _
def ref10_Same_k (a_0 : api_Rule) (b_1 : api_Rule) : Option Bool :=
 (bif (((api_Rule.Prio a_0) == (api_Rule.Prio b_1)) && (decide ((api_Rule.M a_0) = (api_Rule.M b_1)))) then ((ref09_Same_k (api_Rule.Acts a_0) (api_Rule.Acts b_1)).bind fun r1 =>
 some r1) else
 (some false) : Option Bool).bind fun b2 =>
 some b2
theorem ref10_Same_lk (a_0 : api_Rule) (b_1 : api_Rule) : OLe (ref10_Same_k a_0 b_1) (ref10_Same a_0 b_1) := by
 unfold ref10_Same_k ref10_Same
 repeat' first
  | with_reducible apply ref09_Same_lk
  | with_reducible refine OLe.loop (fun _ => ?_) _ _
  | with_reducible refine OLe.lend (fun _ => ?_) ?_
  | with_reducible refine OLe.cond ?_ ?_
  | with_reducible refine OLe.bind ?_ (fun _ => ?_)
  | (split <;> try dsimp only)
  | with_reducible exact OLe.refl _
def slices_Equal_api_Act_api_Act_L1_k (s1_0 : Sl api_Act) (s2_1 : Sl api_Act) : Int → Option (Int ⊕ (Bool ⊕ Unit)) := fun i2 =>
 bif decide (i2 < (s1_0.l.length : Int)) then ((ixI i2 s1_0.l.length).bind fun n3 =>
 (ixI i2 s2_1.l.length).bind fun n4 =>
 bif (!(decide ((gt s1_0.l n3) = (gt s2_1.l n4)))) then (some (.inr (.inl false))) else
 (some (.inl (wr .i64 (i2 + 1))))) else
 (some (.inr (.inr ())))
theorem slices_Equal_api_Act_api_Act_L1_lk (s1_0 : Sl api_Act) (s2_1 : Sl api_Act) : ∀ s, OLe (slices_Equal_api_Act_api_Act_L1_k s1_0 s2_1 s) (slices_Equal_api_Act_api_Act_L1 s1_0 s2_1 s) := by
 intro s
 unfold slices_Equal_api_Act_api_Act_L1_k slices_Equal_api_Act_api_Act_L1
 repeat' first
  | with_reducible refine OLe.loop (fun _ => ?_) _ _
  | with_reducible refine OLe.lend (fun _ => ?_) ?_
  | with_reducible refine OLe.cond ?_ ?_
  | with_reducible refine OLe.bind ?_ (fun _ => ?_)
  | (split <;> try dsimp only)
  | with_reducible exact OLe.refl _
def slices_Equal_api_Act_api_Act_k (s1_0 : Sl api_Act) (s2_1 : Sl api_Act) : Option Bool :=
 bif ((s1_0.l.length : Int) != (s2_1.l.length : Int)) then (some false) else
 ((loopN 100000 (slices_Equal_api_Act_api_Act_L1_k s1_0 s2_1) 0).bind fun
 | .inl b5 => (some b5)
 | .inr _ => (some true))
theorem slices_Equal_api_Act_api_Act_lk (s1_0 : Sl api_Act) (s2_1 : Sl api_Act) : OLe (slices_Equal_api_Act_api_Act_k s1_0 s2_1) (slices_Equal_api_Act_api_Act s1_0 s2_1) := by
 unfold slices_Equal_api_Act_api_Act_k slices_Equal_api_Act_api_Act
 repeat' first
  | with_reducible apply slices_Equal_api_Act_api_Act_L1_lk
  | with_reducible refine OLe.loop (fun _ => ?_) _ _
  | with_reducible refine OLe.lend (fun _ => ?_) ?_
  | with_reducible refine OLe.cond ?_ ?_
  | with_reducible refine OLe.bind ?_ (fun _ => ?_)
  | (split <;> try dsimp only)
  | with_reducible exact OLe.refl _
def act_Same_k (a_0 : Sl api_Act) (b_1 : Sl api_Act) : Option Bool :=
 (slices_Equal_api_Act_api_Act_k a_0 b_1).bind fun r1 =>
 some r1
theorem act_Same_lk (a_0 : Sl api_Act) (b_1 : Sl api_Act) : OLe (act_Same_k a_0 b_1) (act_Same a_0 b_1) := by
 unfold act_Same_k act_Same
 repeat' first
  | with_reducible apply slices_Equal_api_Act_api_Act_lk
  | with_reducible refine OLe.loop (fun _ => ?_) _ _
  | with_reducible refine OLe.lend (fun _ => ?_) ?_
  | with_reducible refine OLe.cond ?_ ?_
  | with_reducible refine OLe.bind ?_ (fun _ => ?_)
  | (split <;> try dsimp only)
  | with_reducible exact OLe.refl _
def rule_Same_k (a_0 : api_Rule) (b_1 : api_Rule) : Option Bool :=
 ((rule_Key_k a_0 b_1).bind fun r1 =>
 bif r1 then ((act_Same_k (api_Rule.Acts a_0) (api_Rule.Acts b_1)).bind fun r2 =>
 some r2) else
 (some false) : Option Bool).bind fun b3 =>
 some b3
theorem rule_Same_lk (a_0 : api_Rule) (b_1 : api_Rule) : OLe (rule_Same_k a_0 b_1) (rule_Same a_0 b_1) := by
 unfold rule_Same_k rule_Same
 repeat' first
  | with_reducible apply rule_Key_lk
  | with_reducible apply act_Same_lk
  | with_reducible refine OLe.loop (fun _ => ?_) _ _
  | with_reducible refine OLe.lend (fun _ => ?_) ?_
  | with_reducible refine OLe.cond ?_ ?_
  | with_reducible refine OLe.bind ?_ (fun _ => ?_)
  | (split <;> try dsimp only)
  | with_reducible exact OLe.refl _
def bundle_New_k : Option bundle_Bundle :=
 some (⟨0, (zeE (.ar 16 .b)), (zeE (.ar 16 y3)), 0⟩ : bundle_Bundle)
theorem bundle_New_lk : OLe (bundle_New_k) (bundle_New) := by
 unfold bundle_New_k bundle_New
 repeat' first
  | with_reducible refine OLe.loop (fun _ => ?_) _ _
  | with_reducible refine OLe.lend (fun _ => ?_) ?_
  | with_reducible refine OLe.cond ?_ ?_
  | with_reducible refine OLe.bind ?_ (fun _ => ?_)
  | (split <;> try dsimp only)
  | with_reducible exact OLe.refl _
def bundle_Bundle_State_k (b_0 : bundle_Bundle) : Option Int :=
 some (bundle_Bundle.state b_0)
theorem bundle_Bundle_State_lk (b_0 : bundle_Bundle) : OLe (bundle_Bundle_State_k b_0) (bundle_Bundle_State b_0) := by
 unfold bundle_Bundle_State_k bundle_Bundle_State
 repeat' first
  | with_reducible refine OLe.loop (fun _ => ?_) _ _
  | with_reducible refine OLe.lend (fun _ => ?_) ?_
  | with_reducible refine OLe.cond ?_ ?_
  | with_reducible refine OLe.bind ?_ (fun _ => ?_)
  | (split <;> try dsimp only)
  | with_reducible exact OLe.refl _
def bundle_same_k (a_0 : api_Mod) (b_1 : api_Mod) : Option Bool :=
 (bif (((api_Mod.Kind a_0) == (api_Mod.Kind b_1)) && ((api_Mod.Check a_0) == (api_Mod.Check b_1))) then ((rule_Same_k (api_Mod.R a_0) (api_Mod.R b_1)).bind fun r1 =>
 some r1) else
 (some false) : Option Bool).bind fun b2 =>
 some b2
theorem bundle_same_lk (a_0 : api_Mod) (b_1 : api_Mod) : OLe (bundle_same_k a_0 b_1) (bundle_same a_0 b_1) := by
 unfold bundle_same_k bundle_same
 repeat' first
  | with_reducible apply rule_Same_lk
  | with_reducible refine OLe.loop (fun _ => ?_) _ _
  | with_reducible refine OLe.lend (fun _ => ?_) ?_
  | with_reducible refine OLe.cond ?_ ?_
  | with_reducible refine OLe.bind ?_ (fun _ => ?_)
  | (split <;> try dsimp only)
  | with_reducible exact OLe.refl _
def bundle_Bundle_Add_k (b_0 : bundle_Bundle) (i_1 : Int) (m_2 : api_Mod) : Option (Int × bundle_Bundle) :=
 (bundle_Bundle_State_k b_0).bind fun r1 =>
 bif (r1 != 0) then (some (16, b_0)) else
 (bif ((decide (i_1 < 0)) || (decide (i_1 ≥ 16))) then (some (2, b_0)) else
 (((ixI i_1 16).bind fun n2 =>
 bif gt ((bundle_Bundle.has b_0).1) n2 then ((ixI i_1 16).bind fun n3 =>
 (bundle_same_k (gt ((bundle_Bundle.l b_0).1) n3) m_2).bind fun r4 =>
 some (!r4)) else
 (some false) : Option Bool).bind fun b5 =>
 bif b5 then (some (8, b_0)) else
 ((ixI i_1 16).bind fun n6 =>
 (ixI i_1 16).bind fun n7 =>
 some (0, (⟨bundle_Bundle.state b_0, Arr.set (bundle_Bundle.has b_0) n6 true, Arr.set (bundle_Bundle.l b_0) n7 m_2, bundle_Bundle.n b_0⟩ : bundle_Bundle)))))
theorem bundle_Bundle_Add_lk (b_0 : bundle_Bundle) (i_1 : Int) (m_2 : api_Mod) : OLe (bundle_Bundle_Add_k b_0 i_1 m_2) (bundle_Bundle_Add b_0 i_1 m_2) := by
 unfold bundle_Bundle_Add_k bundle_Bundle_Add
 repeat' first
  | with_reducible apply bundle_Bundle_State_lk
  | with_reducible apply bundle_same_lk
  | with_reducible refine OLe.loop (fun _ => ?_) _ _
  | with_reducible refine OLe.lend (fun _ => ?_) ?_
  | with_reducible refine OLe.cond ?_ ?_
  | with_reducible refine OLe.bind ?_ (fun _ => ?_)
  | (split <;> try dsimp only)
  | with_reducible exact OLe.refl _
def bundle_Bundle_Close_L1_k (b_0 : bundle_Bundle) : Int → Option (Int ⊕ (Int ⊕ Unit)) := fun i3 =>
 bif decide (i3 < 16) then ((ixI i3 16).bind fun n4 =>
 bif gt ((bundle_Bundle.has b_0).1) n4 then (some (.inr (.inl 8))) else
 (some (.inl (wr .i64 (i3 + 1))))) else
 (some (.inr (.inr ())))
theorem bundle_Bundle_Close_L1_lk (b_0 : bundle_Bundle) : ∀ s, OLe (bundle_Bundle_Close_L1_k b_0 s) (bundle_Bundle_Close_L1 b_0 s) := by
 intro s
 unfold bundle_Bundle_Close_L1_k bundle_Bundle_Close_L1
 repeat' first
  | with_reducible refine OLe.loop (fun _ => ?_) _ _
  | with_reducible refine OLe.lend (fun _ => ?_) ?_
  | with_reducible refine OLe.cond ?_ ?_
  | with_reducible refine OLe.bind ?_ (fun _ => ?_)
  | (split <;> try dsimp only)
  | with_reducible exact OLe.refl _
def bundle_Bundle_Close_L2_k (b_0 : bundle_Bundle) (n_1 : Int) : Int → Option (Int ⊕ (Int ⊕ Unit)) := fun i7 =>
 bif decide (i7 < n_1) then ((ixI i7 16).bind fun n8 =>
 bif (!(gt ((bundle_Bundle.has b_0).1) n8)) then (some (.inr (.inl 7))) else
 (some (.inl (wr .i64 (i7 + 1))))) else
 (some (.inr (.inr ())))
theorem bundle_Bundle_Close_L2_lk (b_0 : bundle_Bundle) (n_1 : Int) : ∀ s, OLe (bundle_Bundle_Close_L2_k b_0 n_1 s) (bundle_Bundle_Close_L2 b_0 n_1 s) := by
 intro s
 unfold bundle_Bundle_Close_L2_k bundle_Bundle_Close_L2
 repeat' first
  | with_reducible refine OLe.loop (fun _ => ?_) _ _
  | with_reducible refine OLe.lend (fun _ => ?_) ?_
  | with_reducible refine OLe.cond ?_ ?_
  | with_reducible refine OLe.bind ?_ (fun _ => ?_)
  | (split <;> try dsimp only)
  | with_reducible exact OLe.refl _
def bundle_Bundle_Close_k (b_0 : bundle_Bundle) (n_1 : Int) : Option (Int × bundle_Bundle) :=
 (bundle_Bundle_State_k b_0).bind fun r1 =>
 bif (r1 == 2) then (some (16, b_0)) else
 (bif (((bundle_Bundle.state b_0) == 1) && (n_1 == (bundle_Bundle.n b_0))) then (some (0, b_0)) else
 (bif ((((bundle_Bundle.state b_0) == 1) || (decide (n_1 < 0))) || (decide (n_1 > 16))) then (some (2, b_0)) else
 ((loopN 100000 (bundle_Bundle_Close_L1_k b_0) n_1).bind fun
 | .inl i5 => (some (i5, b_0))
 | .inr _ => ((loopN 100000 (bundle_Bundle_Close_L2_k b_0 n_1) 0).bind fun
 | .inl i9 => (some (i9, b_0))
 | .inr _ => (some (0, (⟨1, bundle_Bundle.has b_0, bundle_Bundle.l b_0, n_1⟩ : bundle_Bundle)))))))
theorem bundle_Bundle_Close_lk (b_0 : bundle_Bundle) (n_1 : Int) : OLe (bundle_Bundle_Close_k b_0 n_1) (bundle_Bundle_Close b_0 n_1) := by
 unfold bundle_Bundle_Close_k bundle_Bundle_Close
 repeat' first
  | with_reducible apply bundle_Bundle_State_lk
  | with_reducible apply bundle_Bundle_Close_L1_lk
  | with_reducible apply bundle_Bundle_Close_L2_lk
  | with_reducible refine OLe.loop (fun _ => ?_) _ _
  | with_reducible refine OLe.lend (fun _ => ?_) ?_
  | with_reducible refine OLe.cond ?_ ?_
  | with_reducible refine OLe.bind ?_ (fun _ => ?_)
  | (split <;> try dsimp only)
  | with_reducible exact OLe.refl _
def bundle_Bundle_Mods_L1_k (b_0 : bundle_Bundle) : (Int × Sl api_Mod) → Option ((Int × Sl api_Mod) ⊕ (Sl api_Mod)) := fun (i5, s6) =>
 bif decide (i5 < (bundle_Bundle.n b_0)) then ((ixI i5 16).bind fun n7 =>
 (capI (s6.l ++ [gt ((bundle_Bundle.l b_0).1) n7])).bind fun l8 =>
 some (.inl (wr .i64 (i5 + 1), (Sl.mk l8)))) else
 (some (.inr s6))
theorem bundle_Bundle_Mods_L1_lk (b_0 : bundle_Bundle) : ∀ s, OLe (bundle_Bundle_Mods_L1_k b_0 s) (bundle_Bundle_Mods_L1 b_0 s) := by
 intro s
 unfold bundle_Bundle_Mods_L1_k bundle_Bundle_Mods_L1
 repeat' first
  | with_reducible refine OLe.loop (fun _ => ?_) _ _
  | with_reducible refine OLe.lend (fun _ => ?_) ?_
  | with_reducible refine OLe.cond ?_ ?_
  | with_reducible refine OLe.bind ?_ (fun _ => ?_)
  | (split <;> try dsimp only)
  | with_reducible exact OLe.refl _
def bundle_Bundle_Mods_k (b_0 : bundle_Bundle) : Option (Sl api_Mod × bundle_Bundle) :=
 (bundle_Bundle_State_k b_0).bind fun r1 =>
 bif (r1 != 1) then (some (Sl.nil, b_0)) else
 ((loopN 100000 (bundle_Bundle_Mods_L1_k b_0) (0, Sl.nil)).bind fun s9 =>
 some (s9, b_0))
theorem bundle_Bundle_Mods_lk (b_0 : bundle_Bundle) : OLe (bundle_Bundle_Mods_k b_0) (bundle_Bundle_Mods b_0) := by
 unfold bundle_Bundle_Mods_k bundle_Bundle_Mods
 repeat' first
  | with_reducible apply bundle_Bundle_State_lk
  | with_reducible apply bundle_Bundle_Mods_L1_lk
  | with_reducible refine OLe.loop (fun _ => ?_) _ _
  | with_reducible refine OLe.lend (fun _ => ?_) ?_
  | with_reducible refine OLe.cond ?_ ?_
  | with_reducible refine OLe.bind ?_ (fun _ => ?_)
  | (split <;> try dsimp only)
  | with_reducible exact OLe.refl _
def ref12_Same_k (a_0 : api_Mod) (b_1 : api_Mod) : Option Bool :=
 (bif (((api_Mod.Kind a_0) == (api_Mod.Kind b_1)) && ((api_Mod.Check a_0) == (api_Mod.Check b_1))) then ((ref10_Same_k (api_Mod.R a_0) (api_Mod.R b_1)).bind fun r1 =>
 some r1) else
 (some false) : Option Bool).bind fun b2 =>
 some b2
theorem ref12_Same_lk (a_0 : api_Mod) (b_1 : api_Mod) : OLe (ref12_Same_k a_0 b_1) (ref12_Same a_0 b_1) := by
 unfold ref12_Same_k ref12_Same
 repeat' first
  | with_reducible apply ref10_Same_lk
  | with_reducible refine OLe.loop (fun _ => ?_) _ _
  | with_reducible refine OLe.lend (fun _ => ?_) ?_
  | with_reducible refine OLe.cond ?_ ?_
  | with_reducible refine OLe.bind ?_ (fun _ => ?_)
  | (split <;> try dsimp only)
  | with_reducible exact OLe.refl _
def law12_awake_k : Option Bool :=
 (bundle_New_k).bind fun r1 =>
 (rule_Plain_k 1 1 5 0).bind fun r2 =>
 (rule_Plain_k 1 2 5 1).bind fun r3 =>
 (bundle_Bundle_Add_k r1 1 (⟨1, r3, false⟩ : api_Mod)).bind fun (r4, q5) =>
 (bundle_Bundle_Add_k q5 0 (⟨1, r2, false⟩ : api_Mod)).bind fun (r6, q7) =>
 (bundle_Bundle_Add_k q7 1 (⟨1, r3, false⟩ : api_Mod)).bind fun (r8, q9) =>
 (bundle_Bundle_Close_k q9 2).bind fun (r10, q11) =>
 (bundle_Bundle_Mods_k q11).bind fun (r12, q13) =>
 (bif (((((r4 == 0) && (r6 == r4)) && (r8 == r4)) && (r10 == r4)) && ((r12.l.length : Int) == 2)) then ((ixI 0 r12.l.length).bind fun n14 =>
 (ref12_Same_k (gt r12.l n14) (⟨1, r2, false⟩ : api_Mod)).bind fun r15 =>
 bif r15 then ((ixI 1 r12.l.length).bind fun n16 =>
 (ref12_Same_k (gt r12.l n16) (⟨1, r3, false⟩ : api_Mod)).bind fun r17 =>
 bif r17 then ((bundle_Bundle_State_k q13).bind fun r18 =>
 some (r18 == 1)) else
 (some false)) else
 (some false)) else
 (some false) : Option Bool).bind fun b19 =>
 some b19
theorem law12_awake_lk : OLe (law12_awake_k) (law12_awake) := by
 unfold law12_awake_k law12_awake
 repeat' first
  | with_reducible apply bundle_New_lk
  | with_reducible apply rule_Plain_lk
  | with_reducible apply bundle_Bundle_Add_lk
  | with_reducible apply bundle_Bundle_Close_lk
  | with_reducible apply bundle_Bundle_Mods_lk
  | with_reducible apply ref12_Same_lk
  | with_reducible apply bundle_Bundle_State_lk
  | with_reducible refine OLe.loop (fun _ => ?_) _ _
  | with_reducible refine OLe.lend (fun _ => ?_) ?_
  | with_reducible refine OLe.cond ?_ ?_
  | with_reducible refine OLe.bind ?_ (fun _ => ?_)
  | (split <;> try dsimp only)
  | with_reducible exact OLe.refl _
theorem law12_awake_runs : law12_awake = some true := law12_awake_lk _ (by decide +kernel)
end Go.Proofs.Ytmeemkllagjnmaa.B
