/- The law RouteTables: the table of a switch sends a packet to the port that the routes tell. Conditions: the routes are no longer than a machine holds. -/
import Derived.Test.YtjfhiochcdjkhaaR4W
import Derived.Test.YtjfhiochcdjkhaaR4t
open Go.Ev Go
namespace Go.Proofs.Ytjfhiochcdjkhaa.R

/-! ### the reference's Right: what it says -/

theorem totE {β : Type} {f : Int → Option (Sum Int β)} (n : Nat) (hb : n < 9223372036854775808) (hstep : ∀ i : Nat, i < n → ∃ r, f (i : Int) = some r ∧ (r = .inl (wr .i64 ((i : Int) + 1)) ∨ ∃ b, r = .inr b))
    (hend : ∃ b, f (n : Int) = some (.inr b)) : ∃ b, loopO f 0 = some b := by
  have e0 : ((0 : Nat) : Int) = 0 := rfl
  refine forE (f := f) (fun i (_ : Unit) => (i : Int)) n (fun _ _ => True) (fun _ => True) ?_ ?_ 0 () (Nat.zero_le _) trivial (fun b q1 _ => ?_)
  · intro i _ hi _
    obtain ⟨r, h1, rfl | ⟨b, rfl⟩⟩ := hstep i hi
    · exact .inl ⟨(), by rw [h1, wr_s (by omega)], trivial⟩
    · exact .inr ⟨b, h1, trivial⟩
  · intro _ _
    obtain ⟨b, h⟩ := hend
    exact ⟨b, h, trivial⟩
  · rw [e0] at q1; exact ⟨b, q1⟩

theorem rport_total (t : api_Topo) (sw p : Int) (h1 : t.Links.l.length ≤ 24) (h2 : t.Hosts.l.length ≤ 8) : ∃ b, ref17_port t sw p = some b := by
  have e0 : ((0 : Nat) : Int) = 0 := rfl
  obtain ⟨a, ha⟩ : ∃ a, loopO (ref17_port_L1 t sw p) (0, 0) = some a := by
    refine forE (f := ref17_port_L1 t sw p) (fun i (x : Int) => (x, (i : Int))) t.Links.l.length (fun _ _ => True) (fun _ => True) ?_ ?_ 0 0 (Nat.zero_le _) trivial (fun b q1 _ => ?_)
    · intro i x hi _
      left
      simp only [ref17_port_L1, lt_t hi, cond_true, ixI_of hi, Option.bind_some, wr_s (show i < 9223372036854775807 by omega)]
      generalize ((((gt t.Links.l i).A) == sw) && (((gt t.Links.l i).PortA) == p)) = c1
      generalize ((((gt t.Links.l i).B) == sw) && (((gt t.Links.l i).PortB) == p)) = c2
      cases c1 <;> cases c2 <;> exact ⟨_, rfl, trivial⟩
    · intro x _
      exact ⟨x, by simp only [ref17_port_L1, lt_f, cond_false], trivial⟩
    · rw [e0] at q1; exact ⟨b, q1⟩
  obtain ⟨b, hb⟩ : ∃ b, loopO (ref17_port_L2 t sw p) (a, 0) = some b := by
    refine forE (f := ref17_port_L2 t sw p) (fun i (x : Int) => (x, (i : Int))) t.Hosts.l.length (fun _ _ => True) (fun _ => True) ?_ ?_ 0 a (Nat.zero_le _) trivial (fun b q1 _ => ?_)
    · intro i x hi _
      left
      simp only [ref17_port_L2, lt_t hi, cond_true, ixI_of hi, Option.bind_some, wr_s (show i < 9223372036854775807 by omega)]
      generalize ((((gt t.Hosts.l i).At) == sw) && (((gt t.Hosts.l i).Port) == p)) = c1
      cases c1 <;> exact ⟨_, rfl, trivial⟩
    · intro x _
      exact ⟨x, by simp only [ref17_port_L2, lt_f, cond_false], trivial⟩
    · rw [e0] at q1; exact ⟨b, q1⟩
  exact ⟨((decide (sw ≥ 0)) && ((decide (sw < t.Switches)) && ((decide (p ≥ 0)) && ((decide (p ≤ 7)) && (b == 1))))), by simp only [ref17_port, ha, Option.bind_some, hb]⟩

theorem rtopo_total (t : api_Topo) : ∃ b, ref17_Right t = some b ∧ (b = true → t.Links.l.length ≤ 24 ∧ t.Hosts.l.length ≤ 8) := by
  unfold ref17_Right
  by_cases hs : (1 ≤ t.Switches ∧ t.Switches ≤ 8) ∧ t.Links.l.length ≤ 24 ∧ t.Hosts.l.length ≤ 8
  · have hc : ((decide (t.Switches < 1)) || ((decide (t.Switches > 8)) || ((decide ((t.Links.l.length : Int) > 24)) || (decide ((t.Hosts.l.length : Int) > 8))))) = false := by
      simp only [Bool.or_eq_false_iff, decide_eq_false_iff_not]; omega
    obtain ⟨a, ha⟩ := totE (f := ref17_Right_L1 t) t.Links.l.length (by omega) (fun i hi => by
      obtain ⟨b1, h1⟩ := rport_total t (gt t.Links.l i).A (gt t.Links.l i).PortA hs.2.1 hs.2.2
      obtain ⟨b2, h2⟩ := rport_total t (gt t.Links.l i).B (gt t.Links.l i).PortB hs.2.1 hs.2.2
      simp only [ref17_Right_L1, lt_t hi, cond_true, ixI_of hi, Option.bind_some, h1, h2]
      generalize (((gt t.Links.l i).A) == ((gt t.Links.l i).B)) = c1
      generalize decide (((gt t.Links.l i).Least) < 1) = c2
      generalize decide (((gt t.Links.l i).Least) > ((gt t.Links.l i).Most)) = c3
      generalize decide (((gt t.Links.l i).Most) > 1000) = c4
      cases c1 <;> cases c2 <;> cases c3 <;> cases c4 <;> cases b1 <;> cases b2 <;> first | exact ⟨_, rfl, .inl rfl⟩ | exact ⟨_, rfl, .inr ⟨_, rfl⟩⟩) ⟨_, by simp only [ref17_Right_L1, lt_f, cond_false]; rfl⟩
    obtain ⟨b, hb⟩ := totE (f := ref17_Right_L2 t) t.Hosts.l.length (by omega) (fun i hi => by
      obtain ⟨b1, h1⟩ := rport_total t (gt t.Hosts.l i).At (gt t.Hosts.l i).Port hs.2.1 hs.2.2
      simp only [ref17_Right_L2, lt_t hi, cond_true, ixI_of hi, Option.bind_some, h1]
      cases b1
      · exact ⟨_, rfl, .inr ⟨_, rfl⟩⟩
      · exact ⟨_, rfl, .inl rfl⟩) ⟨_, by simp only [ref17_Right_L2, lt_f, cond_false]; rfl⟩
    rw [hc, cond_false, ha]
    cases a with
    | inl _ => exact ⟨false, rfl, fun h => by simp at h⟩
    | inr _ =>
      simp only [Option.bind_some, hb]
      cases b with
      | inl _ => exact ⟨false, rfl, fun h => by simp at h⟩
      | inr _ => exact ⟨true, rfl, fun _ => hs.2⟩
  · have hc : ((decide (t.Switches < 1)) || ((decide (t.Switches > 8)) || ((decide ((t.Links.l.length : Int) > 24)) || (decide ((t.Hosts.l.length : Int) > 8))))) = true := by
      simp only [Bool.or_eq_true, decide_eq_true_eq]; omega
    rw [hc, cond_true]
    exact ⟨false, rfl, fun h => by simp at h⟩

def RowOk (t : api_Topo) (row : Sl Int) : Prop := row.l.length = t.Hosts.l.length ∧ ∀ p ∈ row.l, 0 ≤ p ∧ p ≤ 7
instance (t : api_Topo) (row : Sl Int) : Decidable (RowOk t row) := by unfold RowOk; infer_instance

theorem rroute_total (t : api_Topo) (r : Sl (Sl Int)) (hb : r.l.length < 9223372036854775808) (hrow : ∀ row ∈ r.l, row.l.length < 9223372036854775808) :
    ∃ b, ref21_Right t r = some b ∧ (b = true → t.Hosts.l.length ≤ 8 ∧ ∀ row ∈ r.l, RowOk t row) := by
  obtain ⟨b, h1, h2⟩ := rtopo_total t
  unfold ref21_Right
  rw [h1]
  cases b with
  | false => exact ⟨false, rfl, fun h => by simp at h⟩
  | true =>
    by_cases hl : (r.l.length : Int) = t.Switches
    rotate_left
    · have e : ((r.l.length : Int) != t.Switches) = true := by simpa using hl
      simp only [Option.bind_some, Bool.not_true, Bool.false_or, e, cond_true]
      exact ⟨false, rfl, fun h => by simp at h⟩
    have e : ((r.l.length : Int) != t.Switches) = false := by simpa using hl
    simp only [Option.bind_some, Bool.not_true, Bool.false_or, e, cond_false]
    have inner : ∀ i (hi : i < r.l.length), loopO (ref21_Right_L2 r (i : Int)) 0 = some (if ∀ x ∈ (gt r.l i).l, ((decide (x < 0)) || (decide (x > 7))) = false then .inr () else .inl ()) := fun i hi => by
      have hm : gt r.l i ∈ r.l := by rw [gt_eq hi]; exact List.getElem_mem _
      refine allE (f := ref21_Right_L2 r (i : Int)) (gt r.l i).l (fun x => (decide (x < 0)) || (decide (x > 7))) (hrow _ hm) (fun j hj => ?_) ?_
      · simp only [ref21_Right_L2, ixI_of hi, Option.bind_some, lt_t hj, cond_true, ixI_of hj]
        generalize ((decide (gt ((gt r.l i).l) j < 0)) || (decide (gt ((gt r.l i).l) j > 7))) = c
        cases c <;> rfl
      · simp only [ref21_Right_L2, ixI_of hi, Option.bind_some, lt_f, cond_false]
    have h := allE (f := ref21_Right_L1 t r) r.l (fun row => decide (¬ RowOk t row)) hb (fun i hi => by
      simp only [ref21_Right_L1, lt_t hi, cond_true, ixI_of hi, Option.bind_some, inner i hi]
      by_cases q1 : (gt r.l i).l.length = t.Hosts.l.length
      · have e1 : (((gt r.l i).l.length : Int) != (t.Hosts.l.length : Int)) = false := by rw [q1]; simp
        by_cases q2 : ∀ p ∈ (gt r.l i).l, 0 ≤ p ∧ p ≤ 7
        · have q3 : ∀ x ∈ (gt r.l i).l, ((decide (x < 0)) || (decide (x > 7))) = false := fun x hx => by
            have := q2 x hx
            simp only [Bool.or_eq_false_iff, decide_eq_false_iff_not]; omega
          rw [e1, if_pos q3, decide_eq_false (fun hn => hn ⟨q1, q2⟩)]; rfl
        · have q3 : ¬ ∀ x ∈ (gt r.l i).l, ((decide (x < 0)) || (decide (x > 7))) = false := fun hh => q2 fun x hx => by
            have := hh x hx
            simp only [Bool.or_eq_false_iff, decide_eq_false_iff_not] at this; omega
          rw [e1, if_neg q3, decide_eq_true (show ¬ RowOk t (gt r.l i) from fun hn => q2 hn.2)]; rfl
      · have e1 : (((gt r.l i).l.length : Int) != (t.Hosts.l.length : Int)) = true := by rw [bne_iff_ne]; omega
        rw [e1, decide_eq_true (show ¬ RowOk t (gt r.l i) from fun hn => q1 hn.1)]; rfl) (by simp only [ref21_Right_L1, lt_f, cond_false])
    rw [h]
    by_cases ha : ∀ row ∈ r.l, RowOk t row
    · rw [if_pos (fun row hm => decide_eq_false fun hn => hn (ha row hm))]
      exact ⟨true, rfl, fun _ => ⟨(h2 rfl).2, ha⟩⟩
    · rw [if_neg (fun hh => ha fun row hm => by
        have := hh row hm
        rw [decide_eq_false_iff_not] at this
        exact Classical.not_not.1 this)]
      exact ⟨false, rfl, fun h => by simp at h⟩

/-! ### a packet -/

def cellsP (p : A4_Int) : List Int := [p.e0, p.e1, p.e2, p.e3]

theorem rpacket_total (p : A4_Int) : ∃ b, ref07_Right p = some b ∧ (b = true → (0 ≤ p.e1 ∧ p.e1 ≤ 255)) := by
  have top : ∀ i : Nat, i < 4 → ref07_Top (i : Int) = some (if i = 2 then 15 else 255) := by
    intro i hi
    have : i = 0 ∨ i = 1 ∨ i = 2 ∨ i = 3 := by omega
    rcases this with rfl | rfl | rfl | rfl <;> rfl
  have e0 : ((0 : Nat) : Int) = 0 := rfl
  refine forE (f := ref07_Right_L1 p) (fun i (_ : Unit) => (i : Int)) 4 (fun i _ => 1 < i → 0 ≤ p.e1 ∧ p.e1 ≤ 255) (fun b => match b with | .inl _ => True | .inr _ => 0 ≤ p.e1 ∧ p.e1 ≤ 255) ?_ ?_ 0 () (Nat.zero_le _) (fun h => by omega) (fun b q1 q2 => ?_)
  · intro i _ hi hI
    have hd : decide ((i : Int) < 4) = true := by rw [decide_eq_true_eq]; omega
    by_cases hbad : gt [p.e0, p.e1, p.e2, p.e3] i < 0 ∨ gt [p.e0, p.e1, p.e2, p.e3] i > (if i = 2 then 15 else 255)
    · right
      refine ⟨.inl (), ?_, trivial⟩
      simp only [ref07_Right_L1, hd, cond_true, ixI_of hi, Option.bind_some, top i hi]
      rcases hbad with h | h
      · rw [decide_eq_true h]; rfl
      · cases decide (gt [p.e0, p.e1, p.e2, p.e3] i < 0)
        · rw [decide_eq_true h]; rfl
        · rfl
    · left
      refine ⟨(), ?_, fun h1 => ?_⟩
      · simp only [ref07_Right_L1, hd, cond_true, ixI_of hi, Option.bind_some, top i hi, wr_s (show i < 9223372036854775807 by omega)]
        rw [decide_eq_false (fun h => hbad (.inl h)), decide_eq_false (fun h => hbad (.inr h))]; rfl
      · by_cases h2 : i = 1
        · subst h2
          have h3 : gt [p.e0, p.e1, p.e2, p.e3] 1 = p.e1 := rfl
          rw [h3] at hbad
          simp only [Nat.reduceEqDiff, if_false] at hbad
          omega
        · exact hI (by omega)
  · intro _ hI
    exact ⟨.inr (), by simp only [ref07_Right_L1]; rfl, hI (by decide)⟩
  · rw [e0] at q1
    simp only [ref07_Right, q1, Option.bind_some]
    cases b with
    | inl _ => exact ⟨false, rfl, fun h => by simp at h⟩
    | inr _ => exact ⟨true, rfl, fun _ => q2⟩

/-! ### the table of a switch -/

def plainR (i : Nat) (p : Int) : api_Rule := ⟨10, ⟨-1, ⟨0, (i : Int), 0, 0⟩, ⟨0, 255, 0, 0⟩⟩, .mk [⟨2, 0, p⟩]⟩

theorem plain_spec {i : Nat} (hi : i < 256) (p : Int) : rule_Plain 1 (i : Int) 10 p = some (plainR i p) := by
  have h1 : decide ((i : Int) ≥ 0) = true := by rw [decide_eq_true_eq]; omega
  have h2 : decide ((i : Int) ≤ 255) = true := by rw [decide_eq_true_eq]; omega
  have t1 : packet_Top 1 = some 255 := rfl
  have c1 : decide ((1 : Int) ≥ 0) = true := rfl
  have c2 : decide ((1 : Int) < 4) = true := rfl
  have i1 : ixI 1 4 = some 1 := rfl
  simp only [rule_Plain, rule_Drop, match_Of, match_Any, Option.bind_some, c1, c2, cond_true, h1, t1, h2, i1]
  rfl

def rulesOf (row : List Int) : List api_Rule := row.zipIdx.flatMap fun q => [plainR q.2 q.1]

theorem rulesOf_eq (row : List Int) : rulesOf row = row.zipIdx.map fun q => plainR q.2 q.1 := by
  have : ∀ L : List (Int × Nat), (L.flatMap fun q => [plainR q.2 q.1]) = L.map fun q => plainR q.2 q.1 := fun L => by
    induction L with
    | nil => rfl
    | cons x L ih => simp [ih]
  exact this _
theorem rulesOf_len (row : List Int) : (rulesOf row).length = row.length := by rw [rulesOf_eq]; simp
theorem rulesOf_gt {row : List Int} {i : Nat} (hi : i < row.length) : gt (rulesOf row) i = plainR i (gt row i) := by
  rw [gt_eq (by rw [rulesOf_len]; exact hi), gt_eq hi]
  simp [rulesOf_eq]

theorem table_spec {r : Sl (Sl Int)} {s : Nat} (hs : s < r.l.length) (hl : (gt r.l s).l.length ≤ 12) : ∃ R, route_Table r (s : Int) = some R ∧ R.l = rulesOf (gt r.l s).l := by
  have hc : ((decide ((s : Int) < 0)) || (decide ((s : Int) ≥ (r.l.length : Int)))) = false := by simp only [Bool.or_eq_false_iff, decide_eq_false_iff_not]; omega
  have hlen : ∀ i, ((List.take i (gt r.l s).l).zipIdx.flatMap fun p => [plainR p.2 p.1]).length ≤ 12 := fun i => by
    have : ((List.take i (gt r.l s).l).zipIdx.flatMap fun p => [plainR p.2 p.1]) = rulesOf (List.take i (gt r.l s).l) := rfl
    rw [this, rulesOf_len, List.length_take]; omega
  obtain ⟨R, h1, h2⟩ := layE (f := route_Table_L1 r s) (gt r.l s).l (fun i p => [plainR i p]) .nil (by omega) (fun i st hi hst => by
    have hcap : capI (st.l ++ [plainR i (gt (gt r.l s).l i)]) = some (st.l ++ [plainR i (gt (gt r.l s).l i)]) := capI_of (by
      have := hlen i
      rw [hst, Sl.l_nil, List.nil_append, List.length_append, List.length_singleton]; omega)
    exact ⟨.mk (st.l ++ [plainR i (gt (gt r.l s).l i)]), by simp only [route_Table_L1, lt_t hi, cond_true, ixI_of hi, Option.bind_some, plain_spec (show i < 256 by omega), hcap], rfl⟩) (fun st => by simp only [route_Table_L1, lt_f, cond_false])
  exact ⟨R, by simp only [route_Table, hc, cond_false, ixI_of hs, Option.bind_some, h1], by rw [h2]; rfl⟩

/-! ### who hits -/

theorem and_zero (x : Int) : bAnd .i64 x 0 = 0 := by
  have h : (BitVec.ofInt 64 x &&& BitVec.ofInt 64 0) = 0#64 := by
    rw [show BitVec.ofInt 64 (0 : Int) = 0#64 from rfl]; exact BitVec.and_zero
  show IntKind.i64.wrap (((BitVec.ofInt 64 x &&& BitVec.ofInt 64 0).toNat : Nat) : Int) = 0
  rw [h]; rfl

theorem hit_tab : ∀ a : Fin 256, ∀ i : Fin 12, (bAnd .i64 (bXor .i64 (a.val : Int) (i.val : Int)) 255 != 0) = decide (a.val ≠ i.val) := by decide +kernel

theorem hits_spec {i : Nat} (hi : i < 12) (q port : Int) {p : A4_Int} (hp : 0 ≤ p.e1 ∧ p.e1 ≤ 255) : match_Hits (plainR i q).M port p = some (decide (p.e1 = (i : Int))) := by
  have hc : (((plainR i q).M.Port != (-1)) && ((plainR i q).M.Port != port)) = false := rfl
  have step : ∀ j : Nat, j < 4 → j ≠ 1 → match_Hits_L1 (plainR i q).M p (j : Int) = some (.inl ((j + 1 : Nat) : Int)) := by
    intro j hj h1
    have hz : gt [(plainR i q).M.Mask.e0, (plainR i q).M.Mask.e1, (plainR i q).M.Mask.e2, (plainR i q).M.Mask.e3] j = 0 := by
      have : j = 0 ∨ j = 2 ∨ j = 3 := by omega
      rcases this with rfl | rfl | rfl <;> rfl
    have hd : decide ((j : Int) < 4) = true := by rw [decide_eq_true_eq]; omega
    have hn : ((0 : Int) != 0) = false := rfl
    simp only [match_Hits_L1, hd, cond_true, ixI_of hj, Option.bind_some, hz, and_zero, hn, cond_false, wr_s (show j < 9223372036854775807 by omega)]
  have step1 : match_Hits_L1 (plainR i q).M p 1 = some (bif decide (p.e1 = (i : Int)) then .inl 2 else .inr (.inl ())) := by
    obtain ⟨a, ha⟩ : ∃ a : Nat, p.e1 = (a : Int) := ⟨p.e1.toNat, by omega⟩
    have ht := hit_tab ⟨a, by omega⟩ ⟨i, hi⟩
    simp only at ht
    have hd : decide ((1 : Int) < 4) = true := rfl
    have i1 : ixI 1 4 = some 1 := rfl
    have g1 : gt [p.e0, p.e1, p.e2, p.e3] 1 = p.e1 := rfl
    have g2 : gt [(plainR i q).M.Val.e0, (plainR i q).M.Val.e1, (plainR i q).M.Val.e2, (plainR i q).M.Val.e3] 1 = (i : Int) := rfl
    have g3 : gt [(plainR i q).M.Mask.e0, (plainR i q).M.Mask.e1, (plainR i q).M.Mask.e2, (plainR i q).M.Mask.e3] 1 = 255 := rfl
    have w : wr .i64 ((1 : Int) + 1) = 2 := rfl
    simp only [match_Hits_L1, hd, cond_true, i1, Option.bind_some, g1, g2, g3, w]
    rw [ha, ht]
    by_cases h : a = i
    · have e1 : decide (a ≠ i) = false := decide_eq_false fun hn => hn h
      have e2 : decide ((a : Int) = (i : Int)) = true := decide_eq_true (by omega)
      rw [e1, e2]; rfl
    · have e1 : decide (a ≠ i) = true := decide_eq_true h
      have e2 : decide ((a : Int) = (i : Int)) = false := decide_eq_false (by omega)
      rw [e1, e2]; rfl
  have stepE : match_Hits_L1 (plainR i q).M p 4 = some (.inr (.inr ())) := rfl
  have s0 : match_Hits_L1 (plainR i q).M p 0 = some (.inl 1) := step 0 (by decide) (by decide)
  have s2 : match_Hits_L1 (plainR i q).M p 2 = some (.inl 3) := step 2 (by decide) (by decide)
  have s3 : match_Hits_L1 (plainR i q).M p 3 = some (.inl 4) := step 3 (by decide) (by decide)
  simp only [match_Hits, hc, cond_false]
  rw [loopO_inl s0]
  by_cases h : p.e1 = (i : Int)
  · rw [decide_eq_true h] at step1 ⊢
    rw [loopO_inl step1, loopO_inl s2, loopO_inl s3, loopO_inr stepE]; rfl
  · rw [decide_eq_false h] at step1 ⊢
    rw [loopO_inr step1]; rfl

theorem run_one (q : Int) (p : A4_Int) : ∃ S, act_Run (.mk [⟨2, 0, q⟩]) p = some S ∧ S.l = [⟨q, p⟩] := by
  refine ⟨.mk [⟨q, p⟩], ?_, rfl⟩
  have h1 : act_Run_L1 (.mk [⟨2, 0, q⟩]) p (p.e0, p.e1, p.e2, p.e3, Sl.nil, 0) = some (.inl (p.e0, p.e1, p.e2, p.e3, .mk [⟨q, p⟩], 1)) := rfl
  have h2 : act_Run_L1 (.mk [⟨2, 0, q⟩]) p (p.e0, p.e1, p.e2, p.e3, .mk [⟨q, p⟩], 1) = some (.inr (.mk [⟨q, p⟩])) := rfl
  simp only [act_Run]
  rw [loopO_inl h1, loopO_inr h2]; rfl

theorem find_spec {R : Sl api_Rule} {row : List Int} (hR : R.l = rulesOf row) (hl : row.length ≤ 12) (port : Int) {p : A4_Int} (hp : 0 ≤ p.e1 ∧ p.e1 ≤ 255) :
    table_Find R port p = some (if p.e1 < (row.length : Int) then p.e1 else -1) := by
  have hlen : R.l.length = row.length := by rw [hR, rulesOf_len]
  have h := scanE (f := slices_IndexFunc_api_Rule_api_Rule_table_Find_1_L1 R port p) R.l (fun i _ => if p.e1 = (i : Int) then some (i : Int) else none) () (by omega) (fun i hi => by
    have hg : gt R.l i = plainR i (gt row i) := by rw [hR, rulesOf_gt (by omega)]
    simp only [slices_IndexFunc_api_Rule_api_Rule_table_Find_1_L1, lt_t hi, cond_true, ixI_of hi, Option.bind_some, table_Find_1, hg, hits_spec (show i < 12 by omega) _ port hp]
    by_cases h1 : p.e1 = (i : Int)
    · rw [if_pos h1, decide_eq_true h1]; rfl
    · rw [if_neg h1, decide_eq_false h1]; rfl) (by simp only [slices_IndexFunc_api_Rule_api_Rule_table_Find_1_L1, lt_f, cond_false])
  simp only [table_Find, slices_IndexFunc_api_Rule_api_Rule_table_Find_1, h, Option.bind_some]
  cases hs : scan (fun (i : Nat) (_ : api_Rule) => if p.e1 = (i : Int) then some (i : Int) else none) R.l 0 with
  | none =>
    rw [if_neg]
    · rfl
    · intro hlt
      obtain ⟨a, ha⟩ : ∃ a : Nat, p.e1 = (a : Int) := ⟨p.e1.toNat, by omega⟩
      have hal : a < R.l.length := by omega
      have := scan_none.1 hs a R.l[a] (by simp [hal])
      rw [Nat.zero_add, if_pos ha] at this; simp at this
  | some b =>
    obtain ⟨j, x, h1, h2, _⟩ := scan_some hs
    have hj : j < R.l.length := (List.getElem?_eq_some_iff.1 h1).1
    rw [Nat.zero_add] at h2
    split at h2
    · rename_i he
      obtain rfl := Option.some.inj h2
      rw [if_pos (by omega), he]; rfl
    · simp at h2

/-! ### the table is one that may be -/

theorem andn_tab : ∀ i : Fin 12, (bAndNot .i64 (i.val : Int) 255 != 0) = false := by decide +kernel
theorem andn_zero : (bAndNot .i64 0 0 != 0) = false := by decide +kernel

theorem mright_spec {i : Nat} (hi : i < 12) (q : Int) : match_Right (plainR i q).M = some true := by
  have hc : ((decide ((plainR i q).M.Port < (-1))) || (decide ((plainR i q).M.Port ≥ 8))) = false := rfl
  have s0 : match_Right_L1 (plainR i q).M 0 = some (.inl 1) := by
    have hd : decide ((0 : Int) < 4) = true := rfl
    have ij : ixI 0 4 = some 0 := rfl
    have g2 : gt [(plainR i q).M.Val.e0, (plainR i q).M.Val.e1, (plainR i q).M.Val.e2, (plainR i q).M.Val.e3] 0 = 0 := rfl
    have g3 : gt [(plainR i q).M.Mask.e0, (plainR i q).M.Mask.e1, (plainR i q).M.Mask.e2, (plainR i q).M.Mask.e3] 0 = 0 := rfl
    have tj : packet_Top 0 = some 255 := rfl
    have c1 : decide ((0 : Int) < 0) = false := rfl
    have c2 : decide ((0 : Int) > 255) = false := rfl
    have w : wr .i64 ((0 : Int) + 1) = 1 := rfl
    simp only [match_Right_L1, hd, cond_true, ij, Option.bind_some, g2, g3, c1, cond_false, tj, c2, andn_zero, w]
  have s2 : match_Right_L1 (plainR i q).M 2 = some (.inl 3) := by
    have hd : decide ((2 : Int) < 4) = true := rfl
    have ij : ixI 2 4 = some 2 := rfl
    have g2 : gt [(plainR i q).M.Val.e0, (plainR i q).M.Val.e1, (plainR i q).M.Val.e2, (plainR i q).M.Val.e3] 2 = 0 := rfl
    have g3 : gt [(plainR i q).M.Mask.e0, (plainR i q).M.Mask.e1, (plainR i q).M.Mask.e2, (plainR i q).M.Mask.e3] 2 = 0 := rfl
    have tj : packet_Top 2 = some 15 := rfl
    have c1 : decide ((0 : Int) < 0) = false := rfl
    have c2 : decide ((0 : Int) > 15) = false := rfl
    have w : wr .i64 ((2 : Int) + 1) = 3 := rfl
    simp only [match_Right_L1, hd, cond_true, ij, Option.bind_some, g2, g3, c1, cond_false, tj, c2, andn_zero, w]
  have s3 : match_Right_L1 (plainR i q).M 3 = some (.inl 4) := by
    have hd : decide ((3 : Int) < 4) = true := rfl
    have ij : ixI 3 4 = some 3 := rfl
    have g2 : gt [(plainR i q).M.Val.e0, (plainR i q).M.Val.e1, (plainR i q).M.Val.e2, (plainR i q).M.Val.e3] 3 = 0 := rfl
    have g3 : gt [(plainR i q).M.Mask.e0, (plainR i q).M.Mask.e1, (plainR i q).M.Mask.e2, (plainR i q).M.Mask.e3] 3 = 0 := rfl
    have tj : packet_Top 3 = some 255 := rfl
    have c1 : decide ((0 : Int) < 0) = false := rfl
    have c2 : decide ((0 : Int) > 255) = false := rfl
    have w : wr .i64 ((3 : Int) + 1) = 4 := rfl
    simp only [match_Right_L1, hd, cond_true, ij, Option.bind_some, g2, g3, c1, cond_false, tj, c2, andn_zero, w]
  have s1 : match_Right_L1 (plainR i q).M 1 = some (.inl 2) := by
    have ht := andn_tab ⟨i, hi⟩
    simp only at ht
    have hd : decide ((1 : Int) < 4) = true := rfl
    have i1 : ixI 1 4 = some 1 := rfl
    have g2 : gt [(plainR i q).M.Val.e0, (plainR i q).M.Val.e1, (plainR i q).M.Val.e2, (plainR i q).M.Val.e3] 1 = (i : Int) := rfl
    have g3 : gt [(plainR i q).M.Mask.e0, (plainR i q).M.Mask.e1, (plainR i q).M.Mask.e2, (plainR i q).M.Mask.e3] 1 = 255 := rfl
    have t1 : packet_Top 1 = some 255 := rfl
    have c1 : decide ((255 : Int) < 0) = false := rfl
    have c2 : decide ((255 : Int) > 255) = false := rfl
    have c3 : decide ((i : Int) < 0) = false := by rw [decide_eq_false_iff_not]; omega
    have w : wr .i64 ((1 : Int) + 1) = 2 := rfl
    simp only [match_Right_L1, hd, cond_true, i1, Option.bind_some, g2, g3, c1, cond_false, t1, c2, c3, ht, w]
  have s4 : match_Right_L1 (plainR i q).M 4 = some (.inr (.inr ())) := rfl
  simp only [match_Right, hc, cond_false]
  rw [loopO_inl s0, loopO_inl s1, loopO_inl s2, loopO_inl s3, loopO_inr s4]; rfl

theorem aright_spec {q : Int} (hq : 0 ≤ q ∧ q ≤ 7) : act_Right (.mk [⟨2, 0, q⟩]) 8 = some true := by
  have hr : act_Right_1 ⟨2, 0, q⟩ 8 = some false := by
    have h1 : decide (q ≥ 0) = true := by rw [decide_eq_true_eq]; omega
    have h2 : decide (q < 8) = true := by rw [decide_eq_true_eq]; omega
    have : act_Right_1 ⟨2, 0, q⟩ 8 = some (!((true) && (decide (q ≥ 0) && decide (q < 8)))) := rfl
    rw [this, h1, h2]; rfl
  have h0 : slices_IndexFunc_api_Act_api_Act_act_Right_1_L1 (.mk [⟨2, 0, q⟩]) 8 0 = some (.inl 1) := by
    have hd : decide ((0 : Int) < ((Sl.mk [(⟨2, 0, q⟩ : api_Act)]).l.length : Int)) = true := rfl
    have i0 : ixI 0 (Sl.mk [(⟨2, 0, q⟩ : api_Act)]).l.length = some 0 := rfl
    have g0 : gt (Sl.mk [(⟨2, 0, q⟩ : api_Act)]).l 0 = ⟨2, 0, q⟩ := rfl
    simp only [slices_IndexFunc_api_Act_api_Act_act_Right_1_L1, hd, cond_true, i0, Option.bind_some, g0, hr, cond_false]; rfl
  have h1 : slices_IndexFunc_api_Act_api_Act_act_Right_1_L1 (.mk [⟨2, 0, q⟩]) 8 1 = some (.inr (.inr ())) := rfl
  have h2 : slices_ContainsFunc_api_Act_api_Act_act_Right_1 (.mk [⟨2, 0, q⟩]) 8 = some false := by
    simp only [slices_ContainsFunc_api_Act_api_Act_act_Right_1, slices_IndexFunc_api_Act_api_Act_act_Right_1]
    rw [loopO_inl h0, loopO_inr h1]; rfl
  have hd : decide (((Sl.mk [(⟨2, 0, q⟩ : api_Act)]).l.length : Int) ≤ 16) = true := rfl
  simp only [act_Right, hd, cond_true, h2, Option.bind_some, Bool.not_false]

theorem rright_one {i : Nat} (hi : i < 12) {q : Int} (hq : 0 ≤ q ∧ q ≤ 7) : rule_Right (plainR i q) 8 = some true := by
  have c1 : decide ((plainR i q).Prio ≥ 0) = true := rfl
  have c2 : decide ((plainR i q).Prio < 65536) = true := rfl
  have ha : act_Right (plainR i q).Acts 8 = some true := aright_spec hq
  simp only [rule_Right, c1, c2, cond_true, mright_spec hi q, Option.bind_some, ha]

theorem tright_spec {R : Sl api_Rule} {row : List Int} (hR : R.l = rulesOf row) (hl : row.length ≤ 8) (hp : ∀ p ∈ row, 0 ≤ p ∧ p ≤ 7) : table_Right R 8 8 = some true := by
  have hlen : R.l.length = row.length := by rw [hR, rulesOf_len]
  have hc : decide ((R.l.length : Int) > 8) = false := by rw [decide_eq_false_iff_not]; omega
  have hg : ∀ i, i < row.length → gt R.l i = plainR i (gt row i) := fun i hi => by rw [hR, rulesOf_gt hi]
  have hloop : loopO (table_Right_L1 R 8) 0 = some (.inr ()) := by
    have e0 : ((0 : Nat) : Int) = 0 := rfl
    refine forE (f := table_Right_L1 R 8) (fun i (_ : Unit) => (i : Int)) R.l.length (fun _ _ => True) (fun b => b = .inr ()) ?_ ?_ 0 () (Nat.zero_le _) trivial (fun b q1 q2 => ?_)
    · intro i _ hi _
      left
      have hir : i < row.length := by omega
      have hq := hp (gt row i) (by rw [gt_eq hir]; exact List.getElem_mem _)
      have hah : (bif decide ((i : Int) > 0) then ((ixI (wr .i64 ((i : Int) - 1)) R.l.length).bind fun n11 => (rule_Ahead (plainR i (gt row i)) (gt R.l n11)).bind fun r13 => some r13) else (some false)) = some false := by
        by_cases h0 : i = 0
        · subst h0; rfl
        · have hd : decide ((i : Int) > 0) = true := by rw [decide_eq_true_eq]; omega
          have hw : wr .i64 ((i : Int) - 1) = ((i - 1 : Nat) : Int) := by rw [wr_id (by omega) (by omega)]; omega
          rw [hd, hw, ixI_of (show i - 1 < R.l.length by omega)]
          simp only [cond_true, Option.bind_some, hg (i - 1) (by omega)]; rfl
      have hcut : cutI R.l 0 (i : Int) = some (R.l.take i) := by
        rw [cutI_some]
        refine ⟨⟨Int.le_refl _, by omega, by omega⟩, ?_⟩
        simp
      have hto : (R.to (R.l.take i)).l = R.l.take i := by
        cases R with
        | nil => simp [Sl.to]
        | mk l => rfl
      have hkey : table_key (R.to (R.l.take i)) (plainR i (gt row i)) = some (-1) := by
        have h := scanE (f := slices_IndexFunc_api_Rule_api_Rule_table_key_1_L1 (R.to (R.l.take i)) (plainR i (gt row i))) (R.to (R.l.take i)).l (fun _ _ => (none : Option Int)) () (by rw [hto, List.length_take]; omega) (fun j hj => by
          have hj2 : j < i := by rw [hto, List.length_take] at hj; omega
          have hgj : gt (R.to (R.l.take i)).l j = plainR j (gt row j) := by
            rw [← hg j (by omega), hto, gt_eq (by rw [List.length_take]; omega), List.getElem_take, gt_eq]
          have hk : table_key_1 (plainR j (gt row j)) (plainR i (gt row i)) = some false := by
            have hne : ((i : Int) == (j : Int)) = false := by rw [beq_eq_false_iff_ne]; omega
            have : table_key_1 (plainR j (gt row j)) (plainR i (gt row i)) = some (true && (true && (true && (((i : Int) == (j : Int)) && (true && (true && (true && (true && (true && (true && true)))))))))) := rfl
            rw [this, hne]; rfl
          simp only [slices_IndexFunc_api_Rule_api_Rule_table_key_1_L1, lt_t hj, cond_true, ixI_of hj, Option.bind_some, hgj, hk, cond_false]) (by simp only [slices_IndexFunc_api_Rule_api_Rule_table_key_1_L1, lt_f, cond_false])
        have hn : scan (fun _ _ => (none : Option Int)) (R.to (R.l.take i)).l 0 = none := scan_none.2 fun _ _ _ => rfl
        rw [hn] at h
        simp only [table_key, slices_IndexFunc_api_Rule_api_Rule_table_key_1, h, Option.bind_some]
      have hk2 : decide ((-1 : Int) ≥ 0) = false := rfl
      refine ⟨(), ?_, trivial⟩
      simp only [table_Right_L1, lt_t hi, cond_true, ixI_of hi, Option.bind_some, hg i hir, rright_one (show i < 12 by omega) hq, Bool.not_true, cond_false, hah, hcut, hkey, hk2, wr_s (show i < 9223372036854775807 by omega)]
    · intro _ _
      exact ⟨.inr (), by simp only [table_Right_L1, lt_f, cond_false], rfl⟩
    · subst q2
      rw [e0] at q1; exact q1
  simp only [table_Right, hc, cond_false, hloop, Option.bind_some]

theorem tables (t : api_Topo) (r : Sl (Sl Int)) (sw port : Int) (p : A4_Int) (hb : r.l.length ≤ maxLen) : law21_RouteTables t r sw port p = some true := by
  have aw := law21_awake_runs
  have hb2 : r.l.length < 9223372036854775808 := Nat.lt_of_le_of_lt hb (by decide)
  unfold law21_RouteTables
  simp only [small_spec hb2, Option.bind_some]
  by_cases hS : Small t r
  rotate_left
  · simp only [decide_eq_false hS, Bool.not_false, cond_true, aw, Option.bind_some]
  obtain ⟨s1, s2, s3, s4⟩ := hS
  simp only [decide_eq_true (show Small t r from ⟨s1, s2, s3, s4⟩), Bool.not_true, cond_false]
  obtain ⟨b, h1, h2⟩ := rroute_total t r hb2 (fun row hm => by have := s1 row hm; omega)
  obtain ⟨c, h3, h4⟩ := rpacket_total p
  simp only [h1, h3, Option.bind_some]
  cases b with
  | false => simp only [Bool.not_false, cond_true, aw, Option.bind_some]
  | true =>
    obtain ⟨hh, hrows⟩ := h2 rfl
    by_cases hsw : sw < 0
    · simp only [Bool.not_true, cond_false, decide_eq_true hsw, cond_true, aw, Option.bind_some]
    by_cases hsw2 : sw ≥ (r.l.length : Int)
    · simp only [Bool.not_true, cond_false, decide_eq_false hsw, decide_eq_true hsw2, cond_true, aw, Option.bind_some]
    cases c with
    | false => simp only [Bool.not_true, cond_false, decide_eq_false hsw, decide_eq_false hsw2, Bool.not_false, cond_true, aw, Option.bind_some]
    | true =>
      have hp := h4 rfl
      obtain ⟨s, rfl⟩ : ∃ s : Nat, sw = (s : Int) := ⟨sw.toNat, by omega⟩
      have hs : s < r.l.length := by omega
      obtain ⟨hrl, hrp⟩ := hrows (gt r.l s) (by rw [gt_eq hs]; exact List.getElem_mem _)
      obtain ⟨R, k1, k2⟩ := table_spec hs (by omega)
      have hfind := find_spec k2 (by omega) port hp
      have hRl : R.l.length = (gt r.l s).l.length := by rw [k2, rulesOf_len]
      have i1 : ixI 1 4 = some 1 := rfl
      have g1 : gt [p.e0, p.e1, p.e2, p.e3] 1 = p.e1 := rfl
      simp only [Bool.not_true, cond_false, decide_eq_false hsw, decide_eq_false hsw2, k1, Option.bind_some, i1, g1]
      by_cases hlt : p.e1 < (t.Hosts.l.length : Int)
      · obtain ⟨a, ha⟩ : ∃ a : Nat, p.e1 = (a : Int) := ⟨p.e1.toNat, by omega⟩
        have hal : a < R.l.length := by omega
        have har : a < (gt r.l s).l.length := by omega
        have hg : gt R.l a = plainR a (gt (gt r.l s).l a) := by rw [k2, rulesOf_gt har]
        obtain ⟨S, r1, r2⟩ := run_one (gt (gt r.l s).l a) p
        have hacts : (gt R.l a).Acts = .mk [⟨2, 0, gt (gt r.l s).l a⟩] := by rw [hg]; rfl
        have hrun : table_Run R port p = some S := by
          have hd : decide ((a : Int) < 0) = false := by rw [decide_eq_false_iff_not]; omega
          rw [if_pos (by omega), ha] at hfind
          simp only [table_Run, hfind, Option.bind_some, hd, cond_false, ixI_of hal, hacts, r1]
        have hge : decide (p.e1 ≥ (t.Hosts.l.length : Int)) = false := by rw [decide_eq_false_iff_not]; omega
        have htr := tright_spec k2 (by omega) hrp
        have hSl : ((S.l.length : Int) == 1) = true := by rw [r2]; rfl
        have hS0 : ixI 0 S.l.length = some 0 := by rw [r2]; rfl
        have hSg : gt S.l 0 = ⟨gt (gt r.l s).l a, p⟩ := by rw [r2]; rfl
        have hix : ixI p.e1 (gt r.l s).l.length = some a := by rw [ha]; exact ixI_of har
        have hall : ((gt (gt r.l s).l a == gt (gt r.l s).l a) && ((p.e0 == p.e0) && ((p.e1 == p.e1) && ((p.e2 == p.e2) && ((p.e3 == p.e3) && true))))) = true := by simp
        simp only [hrun, Option.bind_some, hge, cond_false, htr, cond_true, hSl, hS0, ixI_of hs, hix, hSg, hall, aw]
      · have hrun : table_Run R port p = some .nil := by
          have hd : decide ((-1 : Int) < 0) = true := rfl
          rw [if_neg (by omega)] at hfind
          simp only [table_Run, hfind, Option.bind_some, hd, cond_true]
        have hge : decide (p.e1 ≥ (t.Hosts.l.length : Int)) = true := by rw [decide_eq_true_eq]; omega
        have e2 : (((Sl.nil : Sl api_Sent).l.length : Int) == 0) = true := rfl
        simp only [hrun, Option.bind_some, hge, cond_true, e2, aw]
end Go.Proofs.Ytjfhiochcdjkhaa.R
