/- q2s answers true: by running its twin. Conditions: none. -/
import Derived.Test.YtmeemkllagjnmaaB
import Derived.Test.YtmeemkllagjnmaaTwin
open Go.Ev Go
namespace Go.Proofs.Ytmeemkllagjnmaa.B
def q8q : Option api_Match :=
 some (⟨(-1), (zeE (.ar 4 (.i .i64))), (zeE (.ar 4 (.i .i64)))⟩ : api_Match)
theorem qfb : OLe (q8q) (q9h) := by
 unfold q8q q9h
 repeat' first
  | with_reducible refine OLe.loop (fun _ => ?_) _ _
  | with_reducible refine OLe.lend (fun _ => ?_) ?_
  | with_reducible refine OLe.cond ?_ ?_
  | with_reducible refine OLe.bind ?_ (fun _ => ?_)
  | (split <;> try dsimp only)
  | with_reducible exact OLe.refl _
def q6x (f_0 : Int) : Option Int :=
 (bif (f_0 == 0) then (some (f_0 == 0)) else
 (bif (f_0 == 1) then (some (f_0 == 1)) else
 (some (f_0 == 3))) : Option Bool).bind fun b1 =>
 bif b1 then (some 8) else
 (bif (f_0 == 2) then (some 4) else
 (some 0))
theorem qc1 (f_0 : Int) : OLe (q6x f_0) (q6k f_0) := by
 unfold q6x q6k
 repeat' first
  | with_reducible refine OLe.loop (fun _ => ?_) _ _
  | with_reducible refine OLe.lend (fun _ => ?_) ?_
  | with_reducible refine OLe.cond ?_ ?_
  | with_reducible refine OLe.bind ?_ (fun _ => ?_)
  | (split <;> try dsimp only)
  | with_reducible exact OLe.refl _
def q5g (f_0 : Int) : Option Int :=
 (q6x f_0).bind fun r1 =>
 (shlI .i64 1 r1).bind fun i2 =>
 some (wr .i64 (i2 - 1))
theorem qd8 (f_0 : Int) : OLe (q5g f_0) (q3h f_0) := by
 unfold q5g q3h
 repeat' first
  | with_reducible apply qc1
  | with_reducible refine OLe.loop (fun _ => ?_) _ _
  | with_reducible refine OLe.lend (fun _ => ?_) ?_
  | with_reducible refine OLe.cond ?_ ?_
  | with_reducible refine OLe.bind ?_ (fun _ => ?_)
  | (split <;> try dsimp only)
  | with_reducible exact OLe.refl _
def qa1 (f_0 : Int) (v_1 : Int) : Option api_Match :=
 (q8q).bind fun r1 =>
 ((bif (((decide (f_0 ≥ 0)) && (decide (f_0 < 4))) && (decide (v_1 ≥ 0))) then ((q5g f_0).bind fun r2 =>
 some (decide (v_1 ≤ r2))) else
 (some false) : Option Bool).bind fun b3 =>
 bif b3 then ((q5g f_0).bind fun r4 =>
 (ixI f_0 4).bind fun n5 =>
 (ixI f_0 4).bind fun n6 =>
 some (⟨api_Match.Port r1, Arr.set (api_Match.Val r1) n5 v_1, Arr.set (api_Match.Mask r1) n6 r4⟩ : api_Match)) else
 (some r1) : Option api_Match).bind fun x7 =>
 some x7
theorem qgw (f_0 : Int) (v_1 : Int) : OLe (qa1 f_0 v_1) (qas f_0 v_1) := by
 unfold qa1 qas
 repeat' first
  | with_reducible apply qfb
  | with_reducible apply qd8
  | with_reducible refine OLe.loop (fun _ => ?_) _ _
  | with_reducible refine OLe.lend (fun _ => ?_) ?_
  | with_reducible refine OLe.cond ?_ ?_
  | with_reducible refine OLe.bind ?_ (fun _ => ?_)
  | (split <;> try dsimp only)
  | with_reducible exact OLe.refl _
def q8i (f_0 : Int) (v_1 : Int) (prio_2 : Int) : Option api_Rule :=
 (qa1 f_0 v_1).bind fun r1 =>
 some (⟨prio_2, r1, Sl.nil⟩ : api_Rule)
theorem qfw (f_0 : Int) (v_1 : Int) (prio_2 : Int) : OLe (q8i f_0 v_1 prio_2) (q98 f_0 v_1 prio_2) := by
 unfold q8i q98
 repeat' first
  | with_reducible apply qgw
  | with_reducible refine OLe.loop (fun _ => ?_) _ _
  | with_reducible refine OLe.lend (fun _ => ?_) ?_
  | with_reducible refine OLe.cond ?_ ?_
  | with_reducible refine OLe.bind ?_ (fun _ => ?_)
  | (split <;> try dsimp only)
  | with_reducible exact OLe.refl _
def q5b (f_0 : Int) (v_1 : Int) (prio_2 : Int) (port_3 : Int) : Option api_Rule :=
 (q8i f_0 v_1 prio_2).bind fun r1 =>
 some (⟨api_Rule.Prio r1, api_Rule.M r1, (Sl.mk [(⟨2, 0, port_3⟩ : api_Act)])⟩ : api_Rule)
theorem qe6 (f_0 : Int) (v_1 : Int) (prio_2 : Int) (port_3 : Int) : OLe (q5b f_0 v_1 prio_2 port_3) (q5s f_0 v_1 prio_2 port_3) := by
 unfold q5b q5s
 repeat' first
  | with_reducible apply qfw
  | with_reducible refine OLe.loop (fun _ => ?_) _ _
  | with_reducible refine OLe.lend (fun _ => ?_) ?_
  | with_reducible refine OLe.cond ?_ ?_
  | with_reducible refine OLe.bind ?_ (fun _ => ?_)
  | (split <;> try dsimp only)
  | with_reducible exact OLe.refl _
def qa7 (a_0 : api_Rule) (b_1 : api_Rule) : Option Bool :=
 some (((api_Rule.Prio a_0) == (api_Rule.Prio b_1)) && (decide ((api_Rule.M a_0) = (api_Rule.M b_1))))
theorem qhe (a_0 : api_Rule) (b_1 : api_Rule) : OLe (qa7 a_0 b_1) (q6v a_0 b_1) := by
 unfold qa7 q6v
 repeat' first
  | with_reducible refine OLe.loop (fun _ => ?_) _ _
  | with_reducible refine OLe.lend (fun _ => ?_) ?_
  | with_reducible refine OLe.cond ?_ ?_
  | with_reducible refine OLe.bind ?_ (fun _ => ?_)
  | (split <;> try dsimp only)
  | with_reducible exact OLe.refl _
def q4v (a_0 : Sl api_Act) (b_1 : Sl api_Act) : Int → Option (Int ⊕ (Bool ⊕ Unit)) := fun i2 =>
 bif decide (i2 < (a_0.l.length : Int)) then ((ixI i2 a_0.l.length).bind fun n3 =>
 (ixI i2 b_1.l.length).bind fun n4 =>
 bif (!(decide ((gt a_0.l n3) = (gt b_1.l n4)))) then (some (.inr (.inl false))) else
 (some (.inl (wr .i64 (i2 + 1))))) else
 (some (.inr (.inr ())))
theorem qaq (a_0 : Sl api_Act) (b_1 : Sl api_Act) : ∀ s, OLe (q4v a_0 b_1 s) (q2w a_0 b_1 s) := by
 intro s
 unfold q4v q2w
 repeat' first
  | with_reducible refine OLe.loop (fun _ => ?_) _ _
  | with_reducible refine OLe.lend (fun _ => ?_) ?_
  | with_reducible refine OLe.cond ?_ ?_
  | with_reducible refine OLe.bind ?_ (fun _ => ?_)
  | (split <;> try dsimp only)
  | with_reducible exact OLe.refl _
def q7d (a_0 : Sl api_Act) (b_1 : Sl api_Act) : Option Bool :=
 bif ((a_0.l.length : Int) != (b_1.l.length : Int)) then (some false) else
 ((loopN 100000 (q4v a_0 b_1) 0).bind fun
 | .inl b5 => (some b5)
 | .inr _ => (some true))
theorem qec (a_0 : Sl api_Act) (b_1 : Sl api_Act) : OLe (q7d a_0 b_1) (q4p a_0 b_1) := by
 unfold q7d q4p
 repeat' first
  | with_reducible apply qaq
  | with_reducible refine OLe.loop (fun _ => ?_) _ _
  | with_reducible refine OLe.lend (fun _ => ?_) ?_
  | with_reducible refine OLe.cond ?_ ?_
  | with_reducible refine OLe.bind ?_ (fun _ => ?_)
  | (split <;> try dsimp only)
  | with_reducible exact OLe.refl _
def q7p (a_0 : api_Rule) (b_1 : api_Rule) : Option Bool :=
 (bif (((api_Rule.Prio a_0) == (api_Rule.Prio b_1)) && (decide ((api_Rule.M a_0) = (api_Rule.M b_1)))) then ((q7d (api_Rule.Acts a_0) (api_Rule.Acts b_1)).bind fun r1 =>
 some r1) else
 (some false) : Option Bool).bind fun b2 =>
 some b2
theorem qdc (a_0 : api_Rule) (b_1 : api_Rule) : OLe (q7p a_0 b_1) (q40 a_0 b_1) := by
 unfold q7p q40
 repeat' first
  | with_reducible apply qec
  | with_reducible refine OLe.loop (fun _ => ?_) _ _
  | with_reducible refine OLe.lend (fun _ => ?_) ?_
  | with_reducible refine OLe.cond ?_ ?_
  | with_reducible refine OLe.bind ?_ (fun _ => ?_)
  | (split <;> try dsimp only)
  | with_reducible exact OLe.refl _
def q1a (s1_0 : Sl api_Act) (s2_1 : Sl api_Act) : Int → Option (Int ⊕ (Bool ⊕ Unit)) := fun i2 =>
 bif decide (i2 < (s1_0.l.length : Int)) then ((ixI i2 s1_0.l.length).bind fun n3 =>
 (ixI i2 s2_1.l.length).bind fun n4 =>
 bif (!(decide ((gt s1_0.l n3) = (gt s2_1.l n4)))) then (some (.inr (.inl false))) else
 (some (.inl (wr .i64 (i2 + 1))))) else
 (some (.inr (.inr ())))
theorem q3j (s1_0 : Sl api_Act) (s2_1 : Sl api_Act) : ∀ s, OLe (q1a s1_0 s2_1 s) (q0m s1_0 s2_1 s) := by
 intro s
 unfold q1a q0m
 repeat' first
  | with_reducible refine OLe.loop (fun _ => ?_) _ _
  | with_reducible refine OLe.lend (fun _ => ?_) ?_
  | with_reducible refine OLe.cond ?_ ?_
  | with_reducible refine OLe.bind ?_ (fun _ => ?_)
  | (split <;> try dsimp only)
  | with_reducible exact OLe.refl _
def q1j (s1_0 : Sl api_Act) (s2_1 : Sl api_Act) : Option Bool :=
 bif ((s1_0.l.length : Int) != (s2_1.l.length : Int)) then (some false) else
 ((loopN 100000 (q1a s1_0 s2_1) 0).bind fun
 | .inl b5 => (some b5)
 | .inr _ => (some true))
theorem q3v (s1_0 : Sl api_Act) (s2_1 : Sl api_Act) : OLe (q1j s1_0 s2_1) (q0s s1_0 s2_1) := by
 unfold q1j q0s
 repeat' first
  | with_reducible apply q3j
  | with_reducible refine OLe.loop (fun _ => ?_) _ _
  | with_reducible refine OLe.lend (fun _ => ?_) ?_
  | with_reducible refine OLe.cond ?_ ?_
  | with_reducible refine OLe.bind ?_ (fun _ => ?_)
  | (split <;> try dsimp only)
  | with_reducible exact OLe.refl _
def q9z (a_0 : Sl api_Act) (b_1 : Sl api_Act) : Option Bool :=
 (q1j a_0 b_1).bind fun r1 =>
 some r1
theorem qhd (a_0 : Sl api_Act) (b_1 : Sl api_Act) : OLe (q9z a_0 b_1) (q9b a_0 b_1) := by
 unfold q9z q9b
 repeat' first
  | with_reducible apply q3v
  | with_reducible refine OLe.loop (fun _ => ?_) _ _
  | with_reducible refine OLe.lend (fun _ => ?_) ?_
  | with_reducible refine OLe.cond ?_ ?_
  | with_reducible refine OLe.bind ?_ (fun _ => ?_)
  | (split <;> try dsimp only)
  | with_reducible exact OLe.refl _
def q8e (a_0 : api_Rule) (b_1 : api_Rule) : Option Bool :=
 ((qa7 a_0 b_1).bind fun r1 =>
 bif r1 then ((q9z (api_Rule.Acts a_0) (api_Rule.Acts b_1)).bind fun r2 =>
 some r2) else
 (some false) : Option Bool).bind fun b3 =>
 some b3
theorem qeu (a_0 : api_Rule) (b_1 : api_Rule) : OLe (q8e a_0 b_1) (q5u a_0 b_1) := by
 unfold q8e q5u
 repeat' first
  | with_reducible apply qhe
  | with_reducible apply qhd
  | with_reducible refine OLe.loop (fun _ => ?_) _ _
  | with_reducible refine OLe.lend (fun _ => ?_) ?_
  | with_reducible refine OLe.cond ?_ ?_
  | with_reducible refine OLe.bind ?_ (fun _ => ?_)
  | (split <;> try dsimp only)
  | with_reducible exact OLe.refl _
def q7o : Option bundle_Bundle :=
 some (⟨0, (zeE (.ar 16 .b)), (zeE (.ar 16 y3)), 0⟩ : bundle_Bundle)
theorem qd4 : OLe (q7o) (q4o) := by
 unfold q7o q4o
 repeat' first
  | with_reducible refine OLe.loop (fun _ => ?_) _ _
  | with_reducible refine OLe.lend (fun _ => ?_) ?_
  | with_reducible refine OLe.cond ?_ ?_
  | with_reducible refine OLe.bind ?_ (fun _ => ?_)
  | (split <;> try dsimp only)
  | with_reducible exact OLe.refl _
def q18 (b_0 : bundle_Bundle) : Option Int :=
 some (bundle_Bundle.state b_0)
theorem q1y (b_0 : bundle_Bundle) : OLe (q18 b_0) (q01 b_0) := by
 unfold q18 q01
 repeat' first
  | with_reducible refine OLe.loop (fun _ => ?_) _ _
  | with_reducible refine OLe.lend (fun _ => ?_) ?_
  | with_reducible refine OLe.cond ?_ ?_
  | with_reducible refine OLe.bind ?_ (fun _ => ?_)
  | (split <;> try dsimp only)
  | with_reducible exact OLe.refl _
def q70 (a_0 : api_Mod) (b_1 : api_Mod) : Option Bool :=
 (bif (((api_Mod.Kind a_0) == (api_Mod.Kind b_1)) && ((api_Mod.Check a_0) == (api_Mod.Check b_1))) then ((q8e (api_Mod.R a_0) (api_Mod.R b_1)).bind fun r1 =>
 some r1) else
 (some false) : Option Bool).bind fun b2 =>
 some b2
theorem qby (a_0 : api_Mod) (b_1 : api_Mod) : OLe (q70 a_0 b_1) (q3w a_0 b_1) := by
 unfold q70 q3w
 repeat' first
  | with_reducible apply qeu
  | with_reducible refine OLe.loop (fun _ => ?_) _ _
  | with_reducible refine OLe.lend (fun _ => ?_) ?_
  | with_reducible refine OLe.cond ?_ ?_
  | with_reducible refine OLe.bind ?_ (fun _ => ?_)
  | (split <;> try dsimp only)
  | with_reducible exact OLe.refl _
def q1s (b_0 : bundle_Bundle) (i_1 : Int) (m_2 : api_Mod) : Option (Int × bundle_Bundle) :=
 (q18 b_0).bind fun r1 =>
 bif (r1 != 0) then (some (16, b_0)) else
 (bif ((decide (i_1 < 0)) || (decide (i_1 ≥ 16))) then (some (2, b_0)) else
 (((ixI i_1 16).bind fun n2 =>
 bif gt ((bundle_Bundle.has b_0).1) n2 then ((ixI i_1 16).bind fun n3 =>
 (q70 (gt ((bundle_Bundle.l b_0).1) n3) m_2).bind fun r4 =>
 some (!r4)) else
 (some false) : Option Bool).bind fun b5 =>
 bif b5 then (some (8, b_0)) else
 ((ixI i_1 16).bind fun n6 =>
 (ixI i_1 16).bind fun n7 =>
 some (0, (⟨bundle_Bundle.state b_0, Arr.set (bundle_Bundle.has b_0) n6 true, Arr.set (bundle_Bundle.l b_0) n7 m_2, bundle_Bundle.n b_0⟩ : bundle_Bundle)))))
theorem q88 (b_0 : bundle_Bundle) (i_1 : Int) (m_2 : api_Mod) : OLe (q1s b_0 i_1 m_2) (q0w b_0 i_1 m_2) := by
 unfold q1s q0w
 repeat' first
  | with_reducible apply q1y
  | with_reducible apply qby
  | with_reducible refine OLe.loop (fun _ => ?_) _ _
  | with_reducible refine OLe.lend (fun _ => ?_) ?_
  | with_reducible refine OLe.cond ?_ ?_
  | with_reducible refine OLe.bind ?_ (fun _ => ?_)
  | (split <;> try dsimp only)
  | with_reducible exact OLe.refl _
def q2d (b_0 : bundle_Bundle) : Int → Option (Int ⊕ (Int ⊕ Unit)) := fun i3 =>
 bif decide (i3 < 16) then ((ixI i3 16).bind fun n4 =>
 bif gt ((bundle_Bundle.has b_0).1) n4 then (some (.inr (.inl 8))) else
 (some (.inl (wr .i64 (i3 + 1))))) else
 (some (.inr (.inr ())))
theorem q5o (b_0 : bundle_Bundle) : ∀ s, OLe (q2d b_0 s) (q0d b_0 s) := by
 intro s
 unfold q2d q0d
 repeat' first
  | with_reducible refine OLe.loop (fun _ => ?_) _ _
  | with_reducible refine OLe.lend (fun _ => ?_) ?_
  | with_reducible refine OLe.cond ?_ ?_
  | with_reducible refine OLe.bind ?_ (fun _ => ?_)
  | (split <;> try dsimp only)
  | with_reducible exact OLe.refl _
def q2b (b_0 : bundle_Bundle) (n_1 : Int) : Int → Option (Int ⊕ (Int ⊕ Unit)) := fun i7 =>
 bif decide (i7 < n_1) then ((ixI i7 16).bind fun n8 =>
 bif (!(gt ((bundle_Bundle.has b_0).1) n8)) then (some (.inr (.inl 7))) else
 (some (.inl (wr .i64 (i7 + 1))))) else
 (some (.inr (.inr ())))
theorem q5n (b_0 : bundle_Bundle) (n_1 : Int) : ∀ s, OLe (q2b b_0 n_1 s) (q02 b_0 n_1 s) := by
 intro s
 unfold q2b q02
 repeat' first
  | with_reducible refine OLe.loop (fun _ => ?_) _ _
  | with_reducible refine OLe.lend (fun _ => ?_) ?_
  | with_reducible refine OLe.cond ?_ ?_
  | with_reducible refine OLe.bind ?_ (fun _ => ?_)
  | (split <;> try dsimp only)
  | with_reducible exact OLe.refl _
def q2q (b_0 : bundle_Bundle) (n_1 : Int) : Option (Int × bundle_Bundle) :=
 (q18 b_0).bind fun r1 =>
 bif (r1 == 2) then (some (16, b_0)) else
 (bif (((bundle_Bundle.state b_0) == 1) && (n_1 == (bundle_Bundle.n b_0))) then (some (0, b_0)) else
 (bif ((((bundle_Bundle.state b_0) == 1) || (decide (n_1 < 0))) || (decide (n_1 > 16))) then (some (2, b_0)) else
 ((loopN 100000 (q2d b_0) n_1).bind fun
 | .inl i5 => (some (i5, b_0))
 | .inr _ => ((loopN 100000 (q2b b_0 n_1) 0).bind fun
 | .inl i9 => (some (i9, b_0))
 | .inr _ => (some (0, (⟨1, bundle_Bundle.has b_0, bundle_Bundle.l b_0, n_1⟩ : bundle_Bundle)))))))
theorem q74 (b_0 : bundle_Bundle) (n_1 : Int) : OLe (q2q b_0 n_1) (q17 b_0 n_1) := by
 unfold q2q q17
 repeat' first
  | with_reducible apply q1y
  | with_reducible apply q5o
  | with_reducible apply q5n
  | with_reducible refine OLe.loop (fun _ => ?_) _ _
  | with_reducible refine OLe.lend (fun _ => ?_) ?_
  | with_reducible refine OLe.cond ?_ ?_
  | with_reducible refine OLe.bind ?_ (fun _ => ?_)
  | (split <;> try dsimp only)
  | with_reducible exact OLe.refl _
def q2g (b_0 : bundle_Bundle) : (Int × Sl api_Mod) → Option ((Int × Sl api_Mod) ⊕ (Sl api_Mod)) := fun (i5, s6) =>
 bif decide (i5 < (bundle_Bundle.n b_0)) then ((ixI i5 16).bind fun n7 =>
 (capI (s6.l ++ [gt ((bundle_Bundle.l b_0).1) n7])).bind fun l8 =>
 some (.inl (wr .i64 (i5 + 1), (Sl.mk l8)))) else
 (some (.inr s6))
theorem q5v (b_0 : bundle_Bundle) : ∀ s, OLe (q2g b_0 s) (q0v b_0 s) := by
 intro s
 unfold q2g q0v
 repeat' first
  | with_reducible refine OLe.loop (fun _ => ?_) _ _
  | with_reducible refine OLe.lend (fun _ => ?_) ?_
  | with_reducible refine OLe.cond ?_ ?_
  | with_reducible refine OLe.bind ?_ (fun _ => ?_)
  | (split <;> try dsimp only)
  | with_reducible exact OLe.refl _
def q2x (b_0 : bundle_Bundle) : Option (Sl api_Mod × bundle_Bundle) :=
 (q18 b_0).bind fun r1 =>
 bif (r1 != 1) then (some (Sl.nil, b_0)) else
 ((loopN 100000 (q2g b_0) (0, Sl.nil)).bind fun s9 =>
 some (s9, b_0))
theorem q75 (b_0 : bundle_Bundle) : OLe (q2x b_0) (q0q b_0) := by
 unfold q2x q0q
 repeat' first
  | with_reducible apply q1y
  | with_reducible apply q5v
  | with_reducible refine OLe.loop (fun _ => ?_) _ _
  | with_reducible refine OLe.lend (fun _ => ?_) ?_
  | with_reducible refine OLe.cond ?_ ?_
  | with_reducible refine OLe.bind ?_ (fun _ => ?_)
  | (split <;> try dsimp only)
  | with_reducible exact OLe.refl _
def q57 (a_0 : api_Mod) (b_1 : api_Mod) : Option Bool :=
 (bif (((api_Mod.Kind a_0) == (api_Mod.Kind b_1)) && ((api_Mod.Check a_0) == (api_Mod.Check b_1))) then ((q7p (api_Mod.R a_0) (api_Mod.R b_1)).bind fun r1 =>
 some r1) else
 (some false) : Option Bool).bind fun b2 =>
 some b2
theorem qee (a_0 : api_Mod) (b_1 : api_Mod) : OLe (q57 a_0 b_1) (q2u a_0 b_1) := by
 unfold q57 q2u
 repeat' first
  | with_reducible apply qdc
  | with_reducible refine OLe.loop (fun _ => ?_) _ _
  | with_reducible refine OLe.lend (fun _ => ?_) ?_
  | with_reducible refine OLe.cond ?_ ?_
  | with_reducible refine OLe.bind ?_ (fun _ => ?_)
  | (split <;> try dsimp only)
  | with_reducible exact OLe.refl _
def q97 : Option Bool :=
 (q7o).bind fun r1 =>
 (q5b 1 1 5 0).bind fun r2 =>
 (q5b 1 2 5 1).bind fun r3 =>
 (q1s r1 1 (⟨1, r3, false⟩ : api_Mod)).bind fun (r4, q5) =>
 (q1s q5 0 (⟨1, r2, false⟩ : api_Mod)).bind fun (r6, q7) =>
 (q1s q7 1 (⟨1, r3, false⟩ : api_Mod)).bind fun (r8, q9) =>
 (q2q q9 2).bind fun (r10, q11) =>
 (q2x q11).bind fun (r12, q13) =>
 (bif (((((r4 == 0) && (r6 == r4)) && (r8 == r4)) && (r10 == r4)) && ((r12.l.length : Int) == 2)) then ((ixI 0 r12.l.length).bind fun n14 =>
 (q57 (gt r12.l n14) (⟨1, r2, false⟩ : api_Mod)).bind fun r15 =>
 bif r15 then ((ixI 1 r12.l.length).bind fun n16 =>
 (q57 (gt r12.l n16) (⟨1, r3, false⟩ : api_Mod)).bind fun r17 =>
 bif r17 then ((q18 q13).bind fun r18 =>
 some (r18 == 1)) else
 (some false)) else
 (some false)) else
 (some false) : Option Bool).bind fun b19 =>
 some b19
theorem qbx : OLe (q97) (q2s) := by
 unfold q97 q2s
 repeat' first
  | with_reducible apply qd4
  | with_reducible apply qe6
  | with_reducible apply q88
  | with_reducible apply q74
  | with_reducible apply q75
  | with_reducible apply qee
  | with_reducible apply q1y
  | with_reducible refine OLe.loop (fun _ => ?_) _ _
  | with_reducible refine OLe.lend (fun _ => ?_) ?_
  | with_reducible refine OLe.cond ?_ ?_
  | with_reducible refine OLe.bind ?_ (fun _ => ?_)
  | (split <;> try dsimp only)
  | with_reducible exact OLe.refl _
theorem q3b : q2s = some true := qbx _ (by decide +kernel)
end Go.Proofs.Ytmeemkllagjnmaa.B
