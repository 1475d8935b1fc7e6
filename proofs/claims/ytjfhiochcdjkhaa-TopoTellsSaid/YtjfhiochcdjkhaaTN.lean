/- Topologies: what Near answers. Conditions: a topology that may be. -/
import Derived.Test.YtjfhiochcdjkhaaTF
import Derived.Test.YtjfhiochcdjkhaaSort
open Go.Ev Go
namespace Go.Proofs.Ytjfhiochcdjkhaa.T

def ltP (a b : topo_Side) : Bool := decide (a.Port < b.Port)

theorem cmp_spec (a b : Int) : cmp_Compare_int a b = some (if a < b then -1 else if a > b then 1 else 0) := by
  simp only [cmp_Compare_int, cmp_isNaN_int, Option.bind_some, bne_self_eq_false, cond_false]
  by_cases h1 : a < b
  · rw [decide_eq_true h1, if_pos h1]; rfl
  · rw [decide_eq_false h1, if_neg h1, cond_false]
    by_cases h2 : a > b
    · rw [decide_eq_true h2, if_pos h2]; rfl
    · rw [decide_eq_false h2, if_neg h2]; rfl

theorem cmp_lt (a b : Int) : decide ((if a < b then (-1 : Int) else if a > b then 1 else 0) < 0) = decide (a < b) := by
  by_cases h1 : a < b
  · rw [if_pos h1, decide_eq_true h1]; rfl
  · rw [if_neg h1, decide_eq_false h1]
    by_cases h2 : a > b
    · rw [if_pos h2]; rfl
    · rw [if_neg h2]; rfl

theorem ins2_eq : slices_insertionSortCmpFunc_topo_Side_topo_Near_1_L2 0 = insL2 ltP := by
  funext ⟨l, i⟩
  simp only [slices_insertionSortCmpFunc_topo_Side_topo_Near_1_L2, insL2, topo_Near_1, cmp_spec, Option.bind_some, cmp_lt, ltP]

theorem ins1_eq (b : Int) : slices_insertionSortCmpFunc_topo_Side_topo_Near_1_L1 0 b = insL1 (fun s => loopO (insL2 ltP) s) b := by
  funext ⟨l, i⟩
  simp only [slices_insertionSortCmpFunc_topo_Side_topo_Near_1_L1, insL1, ins2_eq]

theorem len_spec {n : Nat} (h : n ≤ 12) : ∃ r, math_bits_Len (wr .u64 (n : Int)) = some r := by
  have : ∀ k : Fin 13, (math_bits_Len (wr .u64 (k.val : Int))).isSome = true := by decide +kernel
  exact Option.isSome_iff_exists.1 (this ⟨n, by omega⟩)

theorem sort_spec {l : List topo_Side} (h : l.length ≤ 12) : slices_SortFunc_topo_Side_topo_Side_topo_Near_1 l = some (insAll ltP l) := by
  obtain ⟨r, hr⟩ := len_spec h
  have h1 : slices_insertionSortCmpFunc_topo_Side_topo_Near_1 l 0 (l.length : Int) = some (insAll ltP l) := by
    simp only [slices_insertionSortCmpFunc_topo_Side_topo_Near_1, ins1_eq, ins_spec (lt := ltP) (g := fun s => loopO (insL2 ltP) s) (fun _ _ => rfl) l (by omega), Option.bind_some]
  have hlen : lenI (insAll ltP l) l = some () := lenI_some.2 (insAll_length _ _)
  have hw : decide ((wr .i64 ((l.length : Int) - 0)) ≤ 12) = true := by
    rw [decide_eq_true_eq, wr_id (by omega) (by omega)]; omega
  have h2 : slices_pdqsortCmpFunc_topo_Side_topo_Near_1 l 0 (l.length : Int) r = some (insAll ltP l) := by
    simp only [slices_pdqsortCmpFunc_topo_Side_topo_Near_1]
    rw [loopO_inr (b := insAll ltP l) (by simp only [slices_pdqsortCmpFunc_topo_Side_topo_Near_1_L1, hw, cond_true, h1, Option.bind_some, hlen])]
    rfl
  simp only [slices_SortFunc_topo_Side_topo_Side_topo_Near_1, hr, Option.bind_some, h2, hlen]

theorem sort_nil : slices_SortFunc_topo_Side_topo_Side_nil_topo_Near_1 = some () := by
  obtain ⟨r, hr⟩ := len_spec (n := 0) (by omega)
  have hr : math_bits_Len (wr .u64 0) = some r := hr
  have h1 : slices_insertionSortCmpFunc_topo_Side_nil_topo_Near_1 0 0 = some () := by
    simp only [slices_insertionSortCmpFunc_topo_Side_nil_topo_Near_1]
    rw [loopO_inr (b := ()) (by rfl)]
    rfl
  have hw : decide ((wr .i64 ((0 : Int) - 0)) ≤ 12) = true := by decide
  have h2 : slices_pdqsortCmpFunc_topo_Side_nil_topo_Near_1 0 0 r = some () := by
    simp only [slices_pdqsortCmpFunc_topo_Side_nil_topo_Near_1]
    rw [loopO_inr (b := ()) (by simp only [slices_pdqsortCmpFunc_topo_Side_nil_topo_Near_1_L1, hw, cond_true, h1, Option.bind_some])]
    rfl
  simp only [slices_SortFunc_topo_Side_topo_Side_nil_topo_Near_1, hr, Option.bind_some, h2]

/-- what one link adds -/
def sides (sw : Int) (i : Nat) (x : api_Link) : List topo_Side :=
  (if x.A = sw then [⟨x.PortA, x.B, (i : Int)⟩] else []) ++ (if x.B = sw then [⟨x.PortB, x.A, (i : Int)⟩] else [])

def rawNear (t : api_Topo) (sw : Int) : List topo_Side := t.Links.l.zipIdx.flatMap fun p => sides sw p.2 p.1

theorem sides_len (sw : Int) (i : Nat) (x : api_Link) : (sides sw i x).length ≤ 2 := by
  unfold sides; split <;> split <;> simp

theorem flat_len (sw : Int) : ∀ (l : List (api_Link × Nat)), (l.flatMap fun p => sides sw p.2 p.1).length ≤ 2 * l.length
  | [] => by simp
  | x :: l => by
    have := flat_len sw l
    have := sides_len sw x.2 x.1
    simp only [List.flatMap_cons, List.length_append, List.length_cons]; omega

theorem sl_mk {α : Type} {l : List α} : (Sl.mk l).l = l := rfl

theorem raw_spec {t : api_Topo} (sw : Int) (hl : t.Links.l.length ≤ 100) : ∃ s, loopO (topo_Near_L1 t sw) (Sl.nil, 0) = some s ∧ s.l = rawNear t sw := by
  obtain ⟨s, h1, h2⟩ := layE (f := topo_Near_L1 t sw) t.Links.l (fun i x => sides sw i x) .nil (by omega) (fun i s hi hs => by
    have hcap : ∀ (l : List topo_Side), l.length ≤ 4 → capI (s.l ++ l) = some (s.l ++ l) := fun l h => capI_of (by
      have := flat_len sw ((t.Links.l.take i).zipIdx)
      simp only [List.length_zipIdx, List.length_take] at this
      rw [hs, List.length_append, List.length_append]
      have e : (Sl.nil : Sl topo_Side).l.length = 0 := rfl
      omega)
    have hcap2 : ∀ (l m : List topo_Side), l.length ≤ 2 → m.length ≤ 2 → capI ((s.l ++ l) ++ m) = some ((s.l ++ l) ++ m) := fun l m h1 h2 => by
      rw [List.append_assoc]; exact hcap _ (by rw [List.length_append]; omega)
    by_cases ca : (gt t.Links.l i).A = sw
    · have b1 : ((gt t.Links.l i).A == sw) = true := by simpa using ca
      by_cases cb : (gt t.Links.l i).B = sw
      · have b2 : ((gt t.Links.l i).B == sw) = true := by simpa using cb
        exact ⟨.mk ((s.l ++ [⟨(gt t.Links.l i).PortA, (gt t.Links.l i).B, (i : Int)⟩]) ++ [⟨(gt t.Links.l i).PortB, (gt t.Links.l i).A, (i : Int)⟩]), by
          simp only [topo_Near_L1, lt_t hi, cond_true, ixI_of hi, Option.bind_some, b1, b2, hcap _ (show ([_] : List topo_Side).length ≤ 4 by simp), sl_mk, hcap2 _ _ (show ([_] : List topo_Side).length ≤ 2 by simp) (show ([_] : List topo_Side).length ≤ 2 by simp)], by
          simp only [sides, if_pos ca, if_pos cb, sl_mk, List.append_assoc]⟩
      · have b2 : ((gt t.Links.l i).B == sw) = false := by simpa using cb
        exact ⟨.mk (s.l ++ [⟨(gt t.Links.l i).PortA, (gt t.Links.l i).B, (i : Int)⟩]), by
          simp only [topo_Near_L1, lt_t hi, cond_true, ixI_of hi, Option.bind_some, b1, b2, cond_false, hcap _ (show ([_] : List topo_Side).length ≤ 4 by simp)], by
          simp only [sides, if_pos ca, if_neg cb, sl_mk, List.append_nil]⟩
    · have b1 : ((gt t.Links.l i).A == sw) = false := by simpa using ca
      by_cases cb : (gt t.Links.l i).B = sw
      · have b2 : ((gt t.Links.l i).B == sw) = true := by simpa using cb
        exact ⟨.mk (s.l ++ [⟨(gt t.Links.l i).PortB, (gt t.Links.l i).A, (i : Int)⟩]), by
          simp only [topo_Near_L1, lt_t hi, cond_true, ixI_of hi, Option.bind_some, b1, b2, cond_false, hcap _ (show ([_] : List topo_Side).length ≤ 4 by simp)], by
          simp only [sides, if_neg ca, if_pos cb, sl_mk, List.nil_append]⟩
      · have b2 : ((gt t.Links.l i).B == sw) = false := by simpa using cb
        exact ⟨s, by simp only [topo_Near_L1, lt_t hi, cond_true, ixI_of hi, Option.bind_some, b1, b2, cond_false], by
          simp only [sides, if_neg ca, if_neg cb, List.append_nil]⟩) (fun s => by simp only [topo_Near_L1, lt_f, cond_false])
  exact ⟨s, h1, by rw [h2]; rfl⟩

theorem mem_raw {t : api_Topo} {sw : Int} {x : topo_Side} : x ∈ rawNear t sw ↔ ∃ (i : Nat) (l : api_Link), t.Links.l[i]? = some l ∧ x ∈ sides sw i l := by
  unfold rawNear
  rw [List.mem_flatMap]
  constructor
  · rintro ⟨⟨l, i⟩, h1, h2⟩
    exact ⟨i, l, by rw [List.mem_zipIdx_iff_getElem?] at h1; exact h1, h2⟩
  · rintro ⟨i, l, h1, h2⟩
    exact ⟨(l, i), by rw [List.mem_zipIdx_iff_getElem?]; exact h1, h2⟩

theorem mem_sides {sw : Int} {i : Nat} {l : api_Link} {x : topo_Side} : x ∈ sides sw i l ↔ (∃ b, Join l sw x.Port x.To b) ∧ x.Link = i := by
  obtain ⟨p, to, k⟩ := x
  unfold sides Join
  rw [List.mem_append]
  constructor
  · rintro (h | h)
    · split at h
      · rename_i hc
        obtain ⟨rfl, rfl, rfl⟩ : p = l.PortA ∧ to = l.B ∧ k = (i : Int) := by simpa using h
        exact ⟨⟨_, .inl ⟨hc.symm, rfl, rfl, rfl⟩⟩, rfl⟩
      · simp at h
    · split at h
      · rename_i hc
        obtain ⟨rfl, rfl, rfl⟩ : p = l.PortB ∧ to = l.A ∧ k = (i : Int) := by simpa using h
        exact ⟨⟨_, .inr ⟨hc.symm, rfl, rfl, rfl⟩⟩, rfl⟩
      · simp at h
  · rintro ⟨⟨b, h⟩, hk⟩
    simp only at h hk
    subst hk
    rcases h with ⟨rfl, rfl, rfl, rfl⟩ | ⟨rfl, rfl, rfl, rfl⟩
    · left; rw [if_pos rfl]; simp
    · right; rw [if_pos rfl]; simp

/-- the ports of what is near are apart -/
theorem raw_nodup {t : api_Topo} (hV : Valid t) (sw : Int) : (rawNear t sw).Pairwise (fun a b => a.Port ≠ b.Port) := by
  unfold rawNear
  rw [List.pairwise_flatMap]
  constructor
  · rintro ⟨l, i⟩ hm
    rw [List.mem_zipIdx_iff_getElem?] at hm
    have hl := hV.link l (List.mem_of_getElem? hm)
    simp only [sides]
    split <;> split
    · rename_i h1 h2; exact absurd (h1.trans h2.symm) hl.1
    · simp
    · simp
    · simp
  · rw [List.pairwise_iff_getElem]
    intro i j hi hj hij x hx y hy hp
    simp only [List.getElem_zipIdx, Nat.zero_add] at hx hy
    have hi' : i < t.Links.l.length := by simpa using hi
    have hj' : j < t.Links.l.length := by simpa using hj
    obtain ⟨⟨b1, h1⟩, _⟩ := mem_sides.1 hx
    obtain ⟨⟨b2, h2⟩, _⟩ := mem_sides.1 hy
    rw [← hp] at h2
    have := links_apart hV (List.getElem?_eq_getElem hi') (List.getElem?_eq_getElem hj') h1.mem h2.mem
    omega

theorem raw_len {t : api_Topo} (hV : Valid t) (sw : Int) : (rawNear t sw).length ≤ 8 := by
  have h1 : ((rawNear t sw).map (·.Port)).Nodup := by
    rw [List.Nodup, List.pairwise_map]; exact raw_nodup hV sw
  have h2 : ((rawNear t sw).map (·.Port)) ⊆ (List.range 8).map (fun n => ((n : Nat) : Int)) := by
    intro p hp
    obtain ⟨x, hx, rfl⟩ := List.mem_map.1 hp
    obtain ⟨i, l, h3, h4⟩ := mem_raw.1 hx
    obtain ⟨⟨b, h5⟩, _⟩ := mem_sides.1 h4
    have hpl := hV.place ⟨sw, x.Port⟩ (by rw [places_eq]; exact List.mem_append_left _ (List.mem_flatMap.2 ⟨l, List.mem_of_getElem? h3, h5.mem⟩))
    have h6 := hpl.2
    simp only at h6
    exact List.mem_map.2 ⟨x.Port.toNat, List.mem_range.2 (by omega), by omega⟩
  have := h1.length_le_of_subset h2
  simpa using this

/-- what is near, by ports -/
noncomputable def nearOf (t : api_Topo) (sw : Int) : List topo_Side := insAll ltP (rawNear t sw)

theorem ltP_weak : Weak ltP := ⟨fun a b h => by simp only [ltP, decide_eq_true_eq, decide_eq_false_iff_not] at *; omega, fun a b c h1 h2 => by simp only [ltP, decide_eq_false_iff_not] at *; omega⟩

theorem mem_near {t : api_Topo} {sw : Int} {x : topo_Side} : x ∈ nearOf t sw ↔ ∃ (i : Nat) (l : api_Link) (b : Int), t.Links.l[i]? = some l ∧ Join l sw x.Port x.To b ∧ x.Link = i := by
  rw [nearOf, (insAll_perm _ _).mem_iff, mem_raw]
  constructor
  · rintro ⟨i, l, h1, h2⟩
    obtain ⟨⟨b, h3⟩, h4⟩ := mem_sides.1 h2
    exact ⟨i, l, b, h1, h3, h4⟩
  · rintro ⟨i, l, b, h1, h3, h4⟩
    exact ⟨i, l, h1, mem_sides.2 ⟨⟨b, h3⟩, h4⟩⟩

theorem near_spec {t : api_Topo} (hV : Valid t) (sw : Int) : ∃ s, topo_Near t sw = some s ∧ s.l = nearOf t sw := by
  obtain ⟨s, h1, h2⟩ := raw_spec (t := t) sw (by have := hV.links; omega)
  have hlen := raw_len hV sw
  have : ∃ s2, lendO s (fun l => slices_SortFunc_topo_Side_topo_Side_topo_Near_1 l) slices_SortFunc_topo_Side_topo_Side_nil_topo_Near_1 = some s2 ∧ s2.l = nearOf t sw := by
    cases s with
    | nil =>
      refine ⟨.nil, by simp only [lendO, sort_nil, Option.bind_some], ?_⟩
      rw [nearOf, ← h2]; rfl
    | mk l =>
      have h3 : l = rawNear t sw := h2
      refine ⟨.mk (insAll ltP l), ?_, by rw [nearOf, ← h3]; rfl⟩
      simp only [lendO, sort_spec (l := l) (by rw [h3]; omega), Option.bind_some, (lenI_some.2 (insAll_length ltP l) : lenI (insAll ltP l) l = some ())]
  obtain ⟨s2, h4, h5⟩ := this
  exact ⟨s2, by simp only [topo_Near, h1, Option.bind_some, h4], h5⟩
end Go.Proofs.Ytjfhiochcdjkhaa.T
