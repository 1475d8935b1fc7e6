/- Routes: what the program's functions answer. Conditions: as stated. -/
import Derived.Test.YtjfhiochcdjkhaaR4T
open Go.Ev Go
namespace Go.Proofs.Ytjfhiochcdjkhaa.R

def Small (t : api_Topo) (r : Sl (Sl Int)) : Prop := (∀ row ∈ r.l, row.l.length ≤ 12) ∧ t.Links.l.length ≤ 30 ∧ t.Hosts.l.length ≤ 12 ∧ r.l.length ≤ 12
instance (t : api_Topo) (r : Sl (Sl Int)) : Decidable (Small t r) := by unfold Small; infer_instance

theorem small_spec {t : api_Topo} {r : Sl (Sl Int)} (hb : r.l.length < 9223372036854775808) : law21_small t r = some (decide (Small t r)) := by
  have h := allE (f := law21_small_L1 r) r.l (fun row => decide ((row.l.length : Int) > 12)) hb (fun i hi => by
    simp only [law21_small_L1, lt_t hi, cond_true, ixI_of hi, Option.bind_some]
    generalize decide (((gt r.l i).l.length : Int) > 12) = c
    cases c <;> rfl) (by simp only [law21_small_L1, lt_f, cond_false])
  unfold law21_small
  rw [h]
  have hr : (∀ row ∈ r.l, decide ((row.l.length : Int) > 12) = false) ↔ ∀ row ∈ r.l, row.l.length ≤ 12 := by
    constructor
    · intro h row hm; have := h row hm; rw [decide_eq_false_iff_not] at this; omega
    · intro h row hm; have := h row hm; rw [decide_eq_false_iff_not]; omega
  by_cases hs : ∀ row ∈ r.l, row.l.length ≤ 12
  · rw [if_pos (hr.2 hs)]
    simp only [Option.bind_some, Option.some.injEq]
    rw [Bool.eq_iff_iff, decide_eq_true_eq (p := Small t r)]
    simp only [Bool.and_eq_true, decide_eq_true_eq]
    constructor
    · intro h; exact ⟨hs, by omega, by omega, by omega⟩
    · intro h; obtain ⟨_, h1, h2, h3⟩ := h; omega
  · rw [if_neg (fun h => hs (hr.1 h))]
    exact congrArg some (decide_eq_false fun h => hs h.1).symm

/-- may routes be? -/
structure RValid (t : api_Topo) (r : Sl (Sl Int)) : Prop where
  topo : Valid t
  len : (r.l.length : Int) = t.Switches
  rows : ∀ row ∈ r.l, row.l.length = t.Hosts.l.length ∧ ∀ p ∈ row.l, 0 ≤ p ∧ p < 8

noncomputable instance (t : api_Topo) (r : Sl (Sl Int)) : Decidable (RValid t r) := Classical.propDecidable _

theorem contains_bad {s : Sl Int} (hb : s.l.length < 9223372036854775808) : slices_ContainsFunc_int_int_route_Right_1 s = some (decide (¬ ∀ p ∈ s.l, 0 ≤ p ∧ p < 8)) := by
  have h := scanE (f := slices_IndexFunc_int_int_route_Right_1_L1 s) s.l (fun i p => if ¬ (0 ≤ p ∧ p < 8) then some (i : Int) else none) () hb (fun i hi => by
    have e : ((decide ((gt s.l i) < 0)) || (decide ((gt s.l i) ≥ 8))) = decide (¬ (0 ≤ gt s.l i ∧ gt s.l i < 8)) := by
      rw [Bool.eq_iff_iff]; simp only [Bool.or_eq_true, decide_eq_true_eq]; omega
    simp only [slices_IndexFunc_int_int_route_Right_1_L1, lt_t hi, cond_true, ixI_of hi, Option.bind_some, route_Right_1, e]
    by_cases hc : ¬ (0 ≤ gt s.l i ∧ gt s.l i < 8)
    · rw [if_pos hc, decide_eq_true hc]; rfl
    · rw [if_neg hc, decide_eq_false hc]; rfl) (by simp only [slices_IndexFunc_int_int_route_Right_1_L1, lt_f, cond_false])
  simp only [slices_ContainsFunc_int_int_route_Right_1, slices_IndexFunc_int_int_route_Right_1, h, Option.bind_some]
  cases hs : scan (fun i p => if ¬ (0 ≤ p ∧ p < 8) then some (i : Int) else none) s.l 0 with
  | none =>
    have hall : ∀ p ∈ s.l, 0 ≤ p ∧ p < 8 := by
      intro p hp
      obtain ⟨j, hj, rfl⟩ := List.getElem_of_mem hp
      have := scan_none.1 hs j s.l[j] (by simp [hj])
      apply Classical.byContradiction
      intro hn
      rw [if_pos hn] at this; simp at this
    have e : decide (¬ ∀ p ∈ s.l, 0 ≤ p ∧ p < 8) = false := decide_eq_false fun h => h hall
    rw [e]; rfl
  | some b =>
    obtain ⟨j, x, h1, h2, _⟩ := scan_some hs
    split at h2
    · rename_i hx
      obtain rfl := Option.some.inj h2
      have e : decide (¬ ∀ p ∈ s.l, 0 ≤ p ∧ p < 8) = true := decide_eq_true fun h => hx (h x (List.mem_of_getElem? h1))
      rw [e]
      simp only [Option.bind_some, Option.some.injEq, decide_eq_true_eq]; omega
    · simp at h2

theorem route_right {t : api_Topo} {r : Sl (Sl Int)} (hb : r.l.length < 9223372036854775808) (hrow : ∀ row ∈ r.l, row.l.length < 9223372036854775808) : route_Right t r = some (decide (RValid t r)) := by
  unfold route_Right
  simp only [topo_right, Option.bind_some]
  by_cases hV : Valid t
  rotate_left
  · rw [decide_eq_false hV]
    exact congrArg some (decide_eq_false fun h => hV h.topo).symm
  by_cases hl : (r.l.length : Int) = t.Switches
  rotate_left
  · have e : ((r.l.length : Int) != t.Switches) = true := by simpa using hl
    rw [decide_eq_true hV, e]
    exact congrArg some (decide_eq_false fun h => hl h.len).symm
  have e : ((r.l.length : Int) != t.Switches) = false := by simpa using hl
  rw [decide_eq_true hV, e]
  simp only [Bool.not_true, Bool.or_self, cond_false]
  have h := allE (f := route_Right_L1 t r) r.l (fun row => decide (¬ (row.l.length = t.Hosts.l.length ∧ ∀ p ∈ row.l, 0 ≤ p ∧ p < 8))) hb (fun i hi => by
    have hm : gt r.l i ∈ r.l := by rw [gt_eq hi]; exact List.getElem_mem _
    simp only [route_Right_L1, lt_t hi, cond_true, ixI_of hi, Option.bind_some, contains_bad (hrow _ hm)]
    by_cases h1 : (gt r.l i).l.length = t.Hosts.l.length
    · have e1 : (((gt r.l i).l.length : Int) != (t.Hosts.l.length : Int)) = false := by rw [h1]; simp
      by_cases h2 : ∀ p ∈ (gt r.l i).l, 0 ≤ p ∧ p < 8
      · have e2 : decide (¬ ∀ p ∈ (gt r.l i).l, 0 ≤ p ∧ p < 8) = false := decide_eq_false fun h => h h2
        have e3 : decide (¬ ((gt r.l i).l.length = t.Hosts.l.length ∧ ∀ p ∈ (gt r.l i).l, 0 ≤ p ∧ p < 8)) = false := decide_eq_false fun h => h ⟨h1, h2⟩
        rw [e1, e2, e3]; rfl
      · have e2 : decide (¬ ∀ p ∈ (gt r.l i).l, 0 ≤ p ∧ p < 8) = true := decide_eq_true h2
        have e3 : decide (¬ ((gt r.l i).l.length = t.Hosts.l.length ∧ ∀ p ∈ (gt r.l i).l, 0 ≤ p ∧ p < 8)) = true := decide_eq_true fun h => h2 h.2
        rw [e1, e2, e3]; rfl
    · have e1 : (((gt r.l i).l.length : Int) != (t.Hosts.l.length : Int)) = true := by rw [bne_iff_ne]; omega
      have e3 : decide (¬ ((gt r.l i).l.length = t.Hosts.l.length ∧ ∀ p ∈ (gt r.l i).l, 0 ≤ p ∧ p < 8)) = true := decide_eq_true fun h => h1 h.1
      rw [e1, e3]; rfl) (by simp only [route_Right_L1, lt_f, cond_false])
  rw [h]
  have hr : (∀ row ∈ r.l, decide (¬ (row.l.length = t.Hosts.l.length ∧ ∀ p ∈ row.l, 0 ≤ p ∧ p < 8)) = false) ↔ ∀ row ∈ r.l, row.l.length = t.Hosts.l.length ∧ ∀ p ∈ row.l, 0 ≤ p ∧ p < 8 := by
    constructor
    · intro h row hm
      have := h row hm
      rw [decide_eq_false_iff_not] at this
      exact Classical.not_not.1 this
    · intro h row hm
      exact decide_eq_false fun hn => hn (h row hm)
  by_cases hs : ∀ row ∈ r.l, row.l.length = t.Hosts.l.length ∧ ∀ p ∈ row.l, 0 ≤ p ∧ p < 8
  · rw [if_pos (hr.2 hs)]
    exact congrArg some (decide_eq_true ⟨hV, hl, hs⟩).symm
  · rw [if_neg (fun h => hs (hr.1 h))]
    exact congrArg some (decide_eq_false fun h => hs h.rows).symm

/-! ### the way of a packet, of routes that may be -/

section
variable {t : api_Topo} {r : Sl (Sl Int)} {h : Nat}

/-- the port of a switch -/
def portAt (r : Sl (Sl Int)) (h : Nat) (s : Nat) : Int := gt (gt r.l s).l h
/-- the host is there -/
def Here (t : api_Topo) (r : Sl (Sl Int)) (h : Nat) (s : Nat) : Prop := (gt t.Hosts.l h).At = (s : Int) ∧ (gt t.Hosts.l h).Port = portAt r h s
/-- the next switch -/
def nextAt (t : api_Topo) (r : Sl (Sl Int)) (h : Nat) (s : Nat) : Option Int := (scan (peerP (s : Int) (portAt r h s)) t.Links.l 0).map (·.1)

theorem RValid.row (hV : RValid t r) {s : Nat} (hs : s < r.l.length) : (gt r.l s).l.length = t.Hosts.l.length := by
  have : gt r.l s ∈ r.l := by rw [gt_eq hs]; exact List.getElem_mem _
  exact (hV.rows _ this).1

theorem RValid.small (hV : RValid t r) : r.l.length ≤ 8 := by have := hV.len; have := hV.topo.sw; omega

theorem port_spec (hV : RValid t r) {s : Nat} (hs : s < r.l.length) (hh : h < t.Hosts.l.length) : route_port r (s : Int) (h : Int) = some (portAt r h s, true) := by
  have h1 : decide ((s : Int) < 0) = false := by rw [decide_eq_false_iff_not]; omega
  have h2 : decide ((s : Int) ≥ (r.l.length : Int)) = false := by rw [decide_eq_false_iff_not]; omega
  have h3 : decide ((h : Int) < 0) = false := by rw [decide_eq_false_iff_not]; omega
  have hrl := hV.row hs
  have h4 : decide ((h : Int) ≥ ((gt r.l s).l.length : Int)) = false := by rw [decide_eq_false_iff_not]; omega
  have hhl : h < (gt r.l s).l.length := by omega
  simp only [route_port, h1, h2, h3, cond_false, ixI_of hs, Option.bind_some, h4, ixI_of hhl, portAt]

theorem next_spec (hV : RValid t r) {s : Nat} (hs : s < r.l.length) (hh : h < t.Hosts.l.length) :
    (nextAt t r h s = none ∧ route_Next t r (s : Int) (h : Int) = some (0, false)) ∨ ∃ s' : Nat, nextAt t r h s = some (s' : Int) ∧ s' < r.l.length ∧ route_Next t r (s : Int) (h : Int) = some ((s' : Int), true) := by
  have hlk := hV.topo.links
  have hp := peer_spec (t := t) (s : Int) (portAt r h s) (by omega)
  simp only [route_Next, port_spec hV hs hh, Option.bind_some, Bool.not_true, cond_false, hp, nextAt]
  cases hc : scan (peerP (s : Int) (portAt r h s)) t.Links.l 0 with
  | none => exact .inl ⟨rfl, rfl⟩
  | some q =>
    obtain ⟨a, b, c⟩ := q
    obtain ⟨h1, h2⟩ := peer_in hV.topo hc
    have := hV.len
    refine .inr ⟨a.toNat, ?_, by omega, ?_⟩
    · simp only [Option.map_some, Option.some.injEq]; omega
    · simp only [Option.some.injEq, Prod.mk.injEq, and_true]; omega

/-- a list of switches, as the program has them -/
def intsR (l : List Nat) : List Int := l.map fun (x : Nat) => (x : Int)
theorem intsR_len (l : List Nat) : (intsR l).length = l.length := by simp [intsR]
theorem intsR_gt (l : List Nat) (i : Nat) : gt (intsR l) i = ((gt l i : Nat) : Int) := by
  simp only [gt, intsR, List.getD_eq_getElem?_getD, List.getElem?_map]
  cases l[i]? <;> rfl
theorem intsR_mem {l : List Nat} {k : Nat} : (k : Int) ∈ intsR l ↔ k ∈ l := by
  simp only [intsR, List.mem_map]
  exact ⟨fun ⟨y, hy, e⟩ => by rw [show k = y by omega]; exact hy, fun h => ⟨k, h, rfl⟩⟩
theorem intsR_app (l : List Nat) (k : Nat) : intsR l ++ [(k : Int)] = intsR (l ++ [k]) := by simp [intsR]
theorem intsR_drop (l : List Nat) (k : Nat) : (intsR l).drop k = intsR (l.drop k) := by simp [intsR, List.map_drop]

theorem contains_spec {s : Sl Int} (x : Int) (hb : s.l.length < 9223372036854775808) : slices_Contains_int_int s x = some (decide (x ∈ s.l)) := by
  have h := scanE (f := slices_Index_int_int_L1 s x) s.l (fun i y => if x = y then some (i : Int) else none) () hb (fun i hi => by
    have e : (x == gt s.l i) = decide (x = gt s.l i) := by rw [Bool.eq_iff_iff]; simp
    simp only [slices_Index_int_int_L1, lt_t hi, cond_true, ixI_of hi, Option.bind_some, e]
    by_cases hc : x = gt s.l i
    · rw [if_pos hc, decide_eq_true hc]; rfl
    · rw [if_neg hc, decide_eq_false hc]; rfl) (by simp only [slices_Index_int_int_L1, lt_f, cond_false])
  simp only [slices_Contains_int_int, slices_Index_int_int, h, Option.bind_some]
  cases hs : scan (fun i y => if x = y then some (i : Int) else none) s.l 0 with
  | none =>
    have hn : x ∉ s.l := by
      intro hx
      obtain ⟨j, hj, e⟩ := List.getElem_of_mem hx
      have := scan_none.1 hs j s.l[j] (by simp [hj])
      rw [if_pos e.symm] at this; simp at this
    rw [decide_eq_false hn]; rfl
  | some b =>
    obtain ⟨j, y, h1, h2, _⟩ := scan_some hs
    split at h2
    · rename_i hx
      obtain rfl := Option.some.inj h2
      rw [decide_eq_true (by rw [hx]; exact List.mem_of_getElem? h1)]
      simp only [Option.bind_some, Option.some.injEq, decide_eq_true_eq]; omega
    · simp at h2

theorem twice_spec {l : List Nat} {x : Nat} (hb : l.length < 1000000) : route_twice_int (.mk (intsR (l ++ [x]))) = some (decide (x ∈ l)) := by
  have main : ∀ s : Sl Int, s = .mk (intsR (l ++ [x])) → route_twice_int s = some (decide (x ∈ l)) := by
    intro s hs
    have hsl : s.l = intsR (l ++ [x]) := by rw [hs]; rfl
    have hlen : s.l.length = l.length + 1 := by rw [hsl, intsR_len]; simp
    have h0 : decide ((s.l.length : Int) > 0) = true := by rw [decide_eq_true_eq]; omega
    have hw : wr .i64 ((s.l.length : Int) - 1) = (l.length : Int) := by rw [hlen, wr_id (by omega) (by omega)]; omega
    have hcut : cutI s.l 0 (l.length : Int) = some (intsR l) := by
      rw [cutI_some]
      refine ⟨⟨Int.le_refl _, by omega, by omega⟩, ?_⟩
      rw [hsl]; simp [intsR]
    have hi : l.length < s.l.length := by omega
    have hg : gt s.l l.length = (x : Int) := by
      rw [hsl, intsR_gt, gt_eq (by simp)]; simp
    have hto : s.to (intsR l) = .mk (intsR l) := by rw [hs]; rfl
    have hc := contains_spec (s := .mk (intsR l)) (x : Int) (by rw [Sl.l_mk, intsR_len]; omega)
    have hm : decide ((x : Int) ∈ (Sl.mk (intsR l)).l) = decide (x ∈ l) := by rw [Bool.eq_iff_iff, decide_eq_true_eq, decide_eq_true_eq]; exact intsR_mem
    rw [hm] at hc
    simp only [route_twice_int, h0, cond_true, hw, hcut, Option.bind_some, ixI_of hi, hto, hg, hc]
  exact main _ rfl

/-- a way: each switch leads to the next one -/
def Chain (t : api_Topo) (r : Sl (Sl Int)) (h : Nat) (l : List Nat) : Prop := ∀ p, p + 1 < l.length → ¬ Here t r h (gt l p) ∧ nextAt t r h (gt l p) = some ((gt l (p + 1) : Nat) : Int)

structure Way (t : api_Topo) (r : Sl (Sl Int)) (h : Nat) (l : List Nat) : Prop where
  pos : 0 < l.length
  lt : ∀ x ∈ l, x < r.l.length
  nd : l.Nodup
  chain : Chain t r h l
  last : Here t r h (gt l (l.length - 1))

theorem here_bool (t : api_Topo) (r : Sl (Sl Int)) (h s : Nat) : ((((gt t.Hosts.l h).At) == (s : Int)) && ((((gt t.Hosts.l h).Port) == portAt r h s) && true)) = true ↔ Here t r h s := by
  simp [Here]

/-- one step of the walk -/
theorem walk_step (hV : RValid t r) (hh : h < t.Hosts.l.length) {l : List Nat} {x : Nat} (hlt : ∀ y ∈ l ++ [x], y < r.l.length) (hnd : l.Nodup) :
    (x ∈ l ∧ route_Walk_L1 t r (h : Int) (intsR (l ++ [x])) = some (.inr (.inr ()))) ∨
    (x ∉ l ∧ Here t r h x ∧ route_Walk_L1 t r (h : Int) (intsR (l ++ [x])) = some (.inr (.inl (.mk (intsR (l ++ [x])), 0)))) ∨
    (x ∉ l ∧ ¬ Here t r h x ∧ nextAt t r h x = none ∧ route_Walk_L1 t r (h : Int) (intsR (l ++ [x])) = some (.inr (.inl (.nil, 13)))) ∨
    ∃ y : Nat, x ∉ l ∧ ¬ Here t r h x ∧ nextAt t r h x = some (y : Int) ∧ y < r.l.length ∧ route_Walk_L1 t r (h : Int) (intsR (l ++ [x])) = some (.inl (intsR (l ++ [x] ++ [y]))) := by
  have hsm := hV.small
  have hll : l.length ≤ r.l.length := by
    have hs : l ⊆ List.range r.l.length := fun y hy => List.mem_range.2 (hlt y (List.mem_append_left _ hy))
    simpa using hnd.length_le_of_subset hs
  have hx : x < r.l.length := hlt x (by simp)
  have htw := twice_spec (l := l) (x := x) (by omega)
  by_cases hxl : x ∈ l
  · left
    refine ⟨hxl, ?_⟩
    simp only [route_Walk_L1, htw, decide_eq_true hxl, Option.bind_some, Bool.not_true, cond_false]
  · right
    have hlen : (intsR (l ++ [x])).length = l.length + 1 := by rw [intsR_len]; simp
    have hw : wr .i64 (((intsR (l ++ [x])).length : Int) - 1) = (l.length : Int) := by rw [hlen, wr_id (by omega) (by omega)]; omega
    have hi : l.length < (intsR (l ++ [x])).length := by omega
    have hg : gt (intsR (l ++ [x])) l.length = (x : Int) := by
      rw [intsR_gt, gt_eq (by simp)]; simp
    have hrow := hV.row hx
    have hhr : h < (gt r.l x).l.length := by omega
    have hport : gt (gt r.l x).l h = portAt r h x := rfl
    by_cases hH : Here t r h x
    · left
      refine ⟨hxl, hH, ?_⟩
      simp only [route_Walk_L1, htw, decide_eq_false hxl, Option.bind_some, Bool.not_false, cond_true, hw, ixI_of hi, ixI_of hh, hg, ixI_of hx, ixI_of hhr, hport, (here_bool t r h x).2 hH]
    · right
      have hb : ((((gt t.Hosts.l h).At) == (x : Int)) && ((((gt t.Hosts.l h).Port) == portAt r h x) && true)) = false := by rw [← Bool.not_eq_true]; exact fun e => hH ((here_bool t r h x).1 e)
      rcases next_spec hV hx hh with ⟨h1, h2⟩ | ⟨y, h1, h2, h3⟩
      · left
        refine ⟨hxl, hH, h1, ?_⟩
        simp only [route_Walk_L1, htw, decide_eq_false hxl, Option.bind_some, Bool.not_false, cond_true, hw, ixI_of hi, ixI_of hh, hg, ixI_of hx, ixI_of hhr, hport, hb, cond_false, h2]
      · right
        have hcap : capI (intsR (l ++ [x]) ++ [(y : Int)]) = some (intsR (l ++ [x] ++ [y])) := by
          rw [capI_of (by rw [List.length_append, hlen, List.length_singleton]; omega), intsR_app]
        refine ⟨y, hxl, hH, h1, h2, ?_⟩
        simp only [route_Walk_L1, htw, decide_eq_false hxl, Option.bind_some, Bool.not_false, cond_true, hw, ixI_of hi, ixI_of hh, hg, ixI_of hx, ixI_of hhr, hport, hb, cond_false, h3, Bool.not_true, hcap]

theorem gtA_lt {o : List Nat} {k p : Nat} (hp : p < o.length) : gt (o ++ [k]) p = gt o p := by
  rw [gt_eq hp, gt_eq (by simp; omega), List.getElem_append_left hp]
theorem gtA_eq {o : List Nat} {k : Nat} : gt (o ++ [k]) o.length = k := by
  rw [gt_eq (by simp)]; simp

theorem walk_ok (hV : RValid t r) (hh : h < t.Hosts.l.length) {s : Nat} (hs : s < r.l.length) :
    ∃ l e, route_Walk t r (s : Int) (h : Int) = some (l, e) ∧ ((e ≠ 0 ∧ l = .nil) ∨ (e = 0 ∧ ∃ w, l = .mk (intsR w) ∧ Way t r h w ∧ gt w 0 = s)) := by
  have hsm := hV.small
  have hr : route_Right t r = some true := by
    rw [route_right (by omega) (fun row hm => by have := (hV.rows row hm).1; have := hV.topo.hosts; omega), decide_eq_true hV]
  refine whileE (f := route_Walk_L1 t r (h : Int)) (fun s => 20 - s.length) (fun l11 => ∃ l x, l11 = intsR (l ++ [x]) ∧ (∀ y ∈ l ++ [x], y < r.l.length) ∧ l.Nodup ∧ Chain t r h (l ++ [x]) ∧ gt (l ++ [x]) 0 = s)
    (fun b => match b with | .inl (l, e) => (e ≠ 0 ∧ l = .nil) ∨ (e = 0 ∧ ∃ w, l = .mk (intsR w) ∧ Way t r h w ∧ gt w 0 = s) | .inr _ => True) ?_ [(s : Int)] ⟨[], s, rfl, by simpa using hs, by simp, fun p hp => by simp at hp, rfl⟩ (fun b q1 q2 => ?_)
  · rintro _ ⟨l, x, rfl, hlt, hnd, hch, h0⟩
    have hll : l.length ≤ r.l.length := by
      have hs : l ⊆ List.range r.l.length := fun y hy => List.mem_range.2 (hlt y (List.mem_append_left _ hy))
      simpa using hnd.length_le_of_subset hs
    rcases walk_step hV hh hlt hnd with ⟨_, h1⟩ | ⟨h2, h3, h1⟩ | ⟨_, _, _, h1⟩ | ⟨y, h2, h3, h4, h5, h1⟩
    · exact .inr ⟨_, h1, trivial⟩
    · right
      refine ⟨_, h1, .inr ⟨rfl, l ++ [x], rfl, ⟨by simp, hlt, ?_, hch, ?_⟩, h0⟩⟩
      · exact List.nodup_append.2 ⟨hnd, by simp, fun a ha b hb => by rw [List.mem_singleton] at hb; subst hb; exact fun e => h2 (e ▸ ha)⟩
      · rw [List.length_append, List.length_singleton, Nat.add_sub_cancel, gtA_eq]; exact h3
    · exact .inr ⟨_, h1, .inl ⟨by decide, rfl⟩⟩
    · left
      refine ⟨_, h1, ⟨l ++ [x], y, rfl, fun z hz => ?_, ?_, fun p hp => ?_, ?_⟩, ?_⟩
      · rcases List.mem_append.1 hz with hz | hz
        · exact hlt z hz
        · rw [List.mem_singleton] at hz; subst hz; exact h5
      · exact List.nodup_append.2 ⟨hnd, by simp, fun a ha b hb => by rw [List.mem_singleton] at hb; subst hb; exact fun e => h2 (e ▸ ha)⟩
      · rw [List.length_append, List.length_singleton] at hp
        have hpl : p < (l ++ [x]).length := by omega
        rw [gtA_lt hpl]
        by_cases hp2 : p + 1 < (l ++ [x]).length
        · rw [gtA_lt hp2]; exact hch p hp2
        · have e1 : p + 1 = (l ++ [x]).length := by omega
          have e2 : p = l.length := by rw [List.length_append, List.length_singleton] at e1; omega
          rw [e1, gtA_eq, e2, gtA_eq]; exact ⟨h3, h4⟩
      · rw [gtA_lt (by simp)]; exact h0
      · rw [intsR_len, intsR_len]; simp; omega
  · simp only [route_Walk, port_spec hV hs hh, Option.bind_some, Bool.not_true, cond_false, hr, q1]
    cases b with
    | inl q => obtain ⟨l, e⟩ := q; exact ⟨l, e, rfl, q2⟩
    | inr _ => exact ⟨.nil, 12, rfl, .inl ⟨by decide, rfl⟩⟩

/-- a way is what the walk tells -/
theorem walk_way (hV : RValid t r) (hh : h < t.Hosts.l.length) {w : List Nat} (hW : Way t r h w) : route_Walk t r ((gt w 0 : Nat) : Int) (h : Int) = some (.mk (intsR w), 0) := by
  have hsm := hV.small
  have hpos := hW.pos
  have hr : route_Right t r = some true := by
    rw [route_right (by omega) (fun row hm => by have := (hV.rows row hm).1; have := hV.topo.hosts; omega), decide_eq_true hV]
  have hlt : gt w 0 < r.l.length := hW.lt _ (by rw [gt_eq hpos]; exact List.getElem_mem _)
  refine forE (f := route_Walk_L1 t r (h : Int)) (fun k (_ : Unit) => intsR (w.take (k + 1))) (w.length - 1) (fun _ _ => True) (fun b => b = .inl (.mk (intsR w), 0)) ?_ ?_ 0 () (Nat.zero_le _) trivial (fun b q1 q2 => ?_)
  · intro k _ hk _
    left
    have hkl : k < w.length := by omega
    have et : w.take (k + 1) = w.take k ++ [gt w k] := by rw [gt_eq hkl, List.take_append_getElem hkl]
    have et2 : w.take (k + 1 + 1) = w.take k ++ [gt w k] ++ [gt w (k + 1)] := by rw [gt_eq (show k + 1 < w.length by omega), ← et, List.take_append_getElem]
    obtain ⟨c1, c2⟩ := hW.chain k (by omega)
    have hno : gt w k ∉ w.take k := by
      intro hm
      obtain ⟨q, hq, e⟩ := List.mem_take_iff_getElem.1 hm
      have := (List.getElem_inj (i := q) (j := k) (h₀ := by omega) (h₁ := hkl) hW.nd).1 (by rw [e, gt_eq hkl])
      omega
    refine ⟨(), ?_, trivial⟩
    rcases walk_step hV hh (l := w.take k) (x := gt w k) (fun y hy => by rw [← et] at hy; exact hW.lt y (List.mem_of_mem_take hy)) (hW.nd.sublist (List.take_sublist _ _)) with ⟨h2, _⟩ | ⟨_, h3, _⟩ | ⟨_, _, h4, _⟩ | ⟨y, _, _, h4, _, h1⟩
    · exact absurd h2 hno
    · exact absurd h3 c1
    · rw [h4] at c2; simp at c2
    · rw [h4] at c2
      obtain rfl : y = gt w (k + 1) := by have := Option.some.inj c2; omega
      rw [et, h1, et2]
  · intro _ _
    have hkl : w.length - 1 < w.length := by omega
    have et : w.take (w.length - 1 + 1) = w.take (w.length - 1) ++ [gt w (w.length - 1)] := by rw [gt_eq hkl, List.take_append_getElem hkl]
    have ef : w.take (w.length - 1 + 1) = w := List.take_of_length_le (by omega)
    have hno : gt w (w.length - 1) ∉ w.take (w.length - 1) := by
      intro hm
      obtain ⟨q, hq, e⟩ := List.mem_take_iff_getElem.1 hm
      have := (List.getElem_inj (i := q) (j := w.length - 1) (h₀ := by omega) (h₁ := hkl) hW.nd).1 (by rw [e, gt_eq hkl])
      omega
    rcases walk_step hV hh (l := w.take (w.length - 1)) (x := gt w (w.length - 1)) (fun y hy => by rw [← et] at hy; exact hW.lt y (List.mem_of_mem_take hy)) (hW.nd.sublist (List.take_sublist _ _)) with ⟨h2, _⟩ | ⟨_, _, h1⟩ | ⟨_, h3, _⟩ | ⟨y, _, h3, _⟩
    · exact absurd h2 hno
    · rw [← et, ef] at h1
      exact ⟨_, by rw [ef]; exact h1, rfl⟩
    · exact absurd hW.last h3
    · exact absurd hW.last h3
  · subst q2
    have e1 : intsR (w.take (0 + 1)) = [((gt w 0 : Nat) : Int)] := by
      cases w with
      | nil => simp at hpos
      | cons x w => rfl
    rw [e1] at q1
    simp only [route_Walk, port_spec hV hlt hh, Option.bind_some, Bool.not_true, cond_false, hr, q1]

theorem way_drop {w : List Nat} (hW : Way t r h w) {i : Nat} (hi : i < w.length) : Way t r h (w.drop i) ∧ gt (w.drop i) 0 = gt w i := by
  have hg : ∀ p, gt (w.drop i) p = gt w (i + p) := fun p => by simp [gt, List.getD_eq_getElem?_getD]
  refine ⟨⟨by simp; omega, fun x hx => hW.lt x (List.mem_of_mem_drop hx), hW.nd.sublist (List.drop_sublist _ _), fun p hp => ?_, ?_⟩, by rw [hg, Nat.add_zero]⟩
  · rw [List.length_drop] at hp
    rw [hg, hg, show i + (p + 1) = i + p + 1 by omega]
    exact hW.chain (i + p) (by omega)
  · rw [hg, List.length_drop, show i + (w.length - i - 1) = w.length - 1 by omega]; exact hW.last

theorem far_spec (hV : RValid t r) (hh : h < t.Hosts.l.length) : ∃ s, route_Far t r (h : Int) = some s ∧ s.l.length = r.l.length ∧
    ∀ i, i < r.l.length → ∃ l e, route_Walk t r (i : Int) (h : Int) = some (l, e) ∧ l.l.length ≤ 8 ∧ gt s.l i = (l.l.length : Int) - 1 := by
  have hsm := hV.small
  have hr : route_Right t r = some true := by
    rw [route_right (by omega) (fun row hm => by have := (hV.rows row hm).1; have := hV.topo.hosts; omega), decide_eq_true hV]
  have hc : ((!true) || ((decide ((h : Int) < 0)) || (decide ((h : Int) ≥ (t.Hosts.l.length : Int))))) = false := by
    simp only [Bool.not_true, Bool.false_or, Bool.or_eq_false_iff, decide_eq_false_iff_not]; omega
  have hwl : ∀ i : Nat, i < r.l.length → ∃ l e, route_Walk t r (i : Int) (h : Int) = some (l, e) ∧ l.l.length ≤ 8 := by
    intro i hi
    obtain ⟨l, e, h1, ⟨_, rfl⟩ | ⟨_, w, rfl, hW, _⟩⟩ := walk_ok hV hh hi
    · exact ⟨_, e, h1, by simp⟩
    · refine ⟨_, e, h1, ?_⟩
      have hs : w ⊆ List.range r.l.length := fun y hy => List.mem_range.2 (hW.lt y hy)
      have := hW.nd.length_le_of_subset hs
      rw [Sl.l_mk, intsR_len]; simp at this; omega
  have e0 : ((0 : Nat) : Int) = 0 := rfl
  refine forE (f := route_Far_L1 t r (h : Int)) (fun i (s : Sl Int) => (s, (i : Int))) r.l.length
    (fun k s => s.l.length = k ∧ ∀ i, i < k → ∃ l e, route_Walk t r (i : Int) (h : Int) = some (l, e) ∧ l.l.length ≤ 8 ∧ gt s.l i = (l.l.length : Int) - 1)
    (fun s => s.l.length = r.l.length ∧ ∀ i, i < r.l.length → ∃ l e, route_Walk t r (i : Int) (h : Int) = some (l, e) ∧ l.l.length ≤ 8 ∧ gt s.l i = (l.l.length : Int) - 1)
    ?_ ?_ 0 .nil (Nat.zero_le _) ⟨rfl, fun i hi => by omega⟩ (fun b q1 q2 => ?_)
  · rintro k s hk ⟨h1, h2⟩
    obtain ⟨l, e, h3, h4⟩ := hwl k hk
    have hw : wr .i64 ((l.l.length : Int) - 1) = (l.l.length : Int) - 1 := wr_id (by omega) (by omega)
    have hcap : capI (s.l ++ [(l.l.length : Int) - 1]) = some (s.l ++ [(l.l.length : Int) - 1]) := capI_of (by rw [List.length_append, List.length_singleton]; omega)
    refine .inl ⟨.mk (s.l ++ [(l.l.length : Int) - 1]), by simp only [route_Far_L1, lt_t hk, cond_true, h3, Option.bind_some, hw, hcap, wr_s (show k < 9223372036854775807 by omega)], by simp [h1], fun i hi => ?_⟩
    rcases Nat.lt_succ_iff_lt_or_eq.1 hi with h5 | rfl
    · obtain ⟨l', e', h6, h7, h8⟩ := h2 i h5
      refine ⟨l', e', h6, h7, ?_⟩
      rw [Sl.l_mk, gt_eq (by simp; omega), List.getElem_append_left (by omega), ← gt_eq (by omega)]; exact h8
    · refine ⟨l, e, h3, h4, ?_⟩
      rw [Sl.l_mk, gt_eq (by simp [h1]), List.getElem_append_right (by omega)]; simp [h1]
  · intro s hs
    exact ⟨s, by simp only [route_Far_L1, lt_f, cond_false], hs⟩
  · rw [e0] at q1
    exact ⟨b, by simp only [route_Far, hr, Option.bind_some, hc, cond_false, q1], q2⟩
end
end Go.Proofs.Ytjfhiochcdjkhaa.R
