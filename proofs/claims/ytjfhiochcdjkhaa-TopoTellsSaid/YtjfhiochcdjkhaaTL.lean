/- The law TopoHops. Conditions: none. -/
import Derived.Test.YtjfhiochcdjkhaaTH
open Go.Ev Go
namespace Go.Proofs.Ytjfhiochcdjkhaa.T

/-- a loop that goes on to the end -/
theorem passE {γ : Type} {f : Int → Option (Sum Int γ)} {c : γ} (n : Nat) (hb : n < 9223372036854775808) (hstep : ∀ i : Nat, i < n → f (i : Int) = some (.inl (wr .i64 ((i : Int) + 1)))) (hend : f (n : Int) = some (.inr c)) : loopO f 0 = some c := by
  have main : ∀ (k i : Nat), i + k = n → loopO f (i : Int) = some c := by
    intro k
    induction k with
    | zero =>
      intro i hi
      obtain rfl : i = n := by omega
      exact loopO_inr hend
    | succ k ih =>
      intro i hi
      have h := hstep i (by omega)
      rw [wr_s (by omega)] at h
      rw [loopO_inl h, ih (i + 1) (by omega)]
  exact main n 0 (by omega)

section
variable {t : api_Topo} {u : Int} {d : List Int}

theorem IsDist.start (h : IsDist t u d) {s : Nat} (hs : u = s) (hl : s < d.length) : gt d s = 0 := by
  have := h.least 0 s hl (hs ▸ .zero _); omega
theorem IsDist.zero (h : IsDist t u d) {v : Nat} (hl : v < d.length) (h0 : gt d v = 0) : u = v := by
  have := h.walk v hl (by omega)
  rw [h0] at this
  cases this; rfl
theorem IsDist.next (h : IsDist t u d) {v w : Nat} (hv : v < d.length) (hw : w < d.length) (h0 : 0 ≤ gt d v) (ha : Adj t v w) : 0 ≤ gt d w ∧ gt d w ≤ gt d v + 1 := by
  have := h.least ((gt d v).toNat + 1) w hw (.step (h.walk v hv h0) ha); omega
end

theorem dist_symm {t : api_Topo} {u v : Nat} {a b : List Int} (ha : IsDist t u a) (hb : IsDist t v b) (hv : v < a.length) (hu : u < b.length) : gt a v = gt b u := by
  have h1 : 0 ≤ gt a v → 0 ≤ gt b u ∧ gt b u ≤ gt a v := fun h => by
    have := hb.least _ u hu (ha.walk v hv h).symm; omega
  have h2 : 0 ≤ gt b u → 0 ≤ gt a v ∧ gt a v ≤ gt b u := fun h => by
    have := ha.least _ v hv (hb.walk u hu h).symm; omega
  have h3 := ha.lo v hv
  have h4 := hb.lo u hu
  omega

theorem hops_spec2 {t : api_Topo} (hV : Valid t) {sw : Int} (h : 0 ≤ sw ∧ sw < t.Switches) : ∃ s : Sl Int, topo_Hops t sw = some s ∧ IsDist t sw s.l :=
  let ⟨d, h1, h2⟩ := hops_spec hV h
  ⟨.mk d, h1, h2⟩

theorem topoHops_law (t : api_Topo) (sw other link : Int) : law17_TopoHops t sw other link = some true := by
  unfold law17_TopoHops
  simp only [small_spec, Option.bind_some, law17_awake_runs]
  by_cases hs : t.Links.l.length ≤ 30 ∧ t.Hosts.l.length ≤ 12
  · rw [decide_eq_true hs]
    simp only [Bool.not_true, cond_false, ref_right hs.1 hs.2, Option.bind_some]
    by_cases hV : Valid t
    · rw [decide_eq_true hV]
      by_cases hr : (0 ≤ sw ∧ sw < t.Switches) ∧ 0 ≤ other ∧ other < t.Switches
      · have c1 : decide (sw < 0) = false := decide_eq_false (by omega)
        have c2 : decide (sw ≥ t.Switches) = false := decide_eq_false (by omega)
        have c3 : decide (other < 0) = false := decide_eq_false (by omega)
        have c4 : decide (other ≥ t.Switches) = false := decide_eq_false (by omega)
        obtain ⟨sa, ha1, ha⟩ := hops_spec2 hV hr.1
        obtain ⟨sb, hb1, hb⟩ := hops_spec2 hV hr.2
        obtain ⟨u, rfl⟩ : ∃ u : Nat, sw = (u : Int) := ⟨sw.toNat, by omega⟩
        obtain ⟨v, rfl⟩ : ∃ v : Nat, other = (v : Int) := ⟨other.toNat, by omega⟩
        have hal := ha.len
        have hbl := hb.len
        have hua : u < sa.l.length := by omega
        have hva : v < sa.l.length := by omega
        have hub : u < sb.l.length := by omega
        have i1 : ixI (v : Int) sa.l.length = some v := ixI_of hva
        have i2 : ixI (u : Int) sb.l.length = some u := ixI_of hub
        have i3 : ixI (u : Int) sa.l.length = some u := ixI_of hua
        have e1 : ((sa.l.length : Int) != t.Switches) = false := by rw [hal]; simp
        have e2 : ((sb.l.length : Int) != t.Switches) = false := by rw [hbl]; simp
        have e3 : (gt sa.l v != gt sb.l u) = false := by rw [dist_symm ha hb hva hub]; simp
        have e4 : (gt sa.l u != 0) = false := by rw [ha.start rfl hua]; rfl
        have hsw8 := hV.sw.2
        have hloop := passE (f := law17_TopoHops_L1 (u : Int) (v : Int) sa sb) (c := .inr ()) sa.l.length (by omega) (fun i hi => by
          have hib : i < sb.l.length := by omega
          have d1 : ((gt sa.l i == 0) == ((i : Int) == (u : Int))) = true := by
            rw [beq_iff_eq, Bool.eq_iff_iff, beq_iff_eq, beq_iff_eq]
            constructor
            · intro h; exact (ha.zero hi h).symm
            · intro h; exact ha.start h.symm hi
          have d2 : decide (gt sa.l i < -1) = false := decide_eq_false (by have := (ha.lo i hi).1; omega)
          have i4 : ixI (i : Int) sb.l.length = some i := ixI_of hib
          simp only [law17_TopoHops_L1, lt_t hi, cond_true, ixI_of hi, Option.bind_some, d1, Bool.not_true, cond_false, d2, i1, i4]
          by_cases hc : gt sa.l v ≥ 0
          · have hwv := ha.walk v hva hc
            have hA := ha.lo i hi
            have hB := hb.lo i hib
            have hA2 := ha.lo v hva
            have k1 : 0 ≤ gt sb.l i → 0 ≤ gt sa.l i ∧ gt sa.l i ≤ gt sa.l v + gt sb.l i := fun h => by
              have := ha.least _ i hi (hwv.trans (hb.walk i hib h)); omega
            have k2 : 0 ≤ gt sa.l i → 0 ≤ gt sb.l i := fun h => (hb.least _ i hib (hwv.symm.trans (ha.walk i hi h))).1
            have d3 : (decide (gt sa.l i < 0) == decide (gt sb.l i < 0)) = true := by
              rw [beq_iff_eq, Bool.eq_iff_iff, decide_eq_true_eq, decide_eq_true_eq]; omega
            have d4 : wr .i64 (gt sa.l v + gt sb.l i) = gt sa.l v + gt sb.l i := wr_id (by omega) (by omega)
            have d5 : decide (gt sa.l i > gt sa.l v + gt sb.l i) = false := decide_eq_false (by omega)
            simp only [decide_eq_true hc, cond_true, d3, Bool.not_true, cond_false, d4, d5, Option.bind_some]
          · simp only [decide_eq_false hc, cond_false, Option.bind_some]) (by simp only [law17_TopoHops_L1, lt_f, cond_false])
        simp only [Bool.not_true, cond_false, c1, c2, c3, c4, Option.bind_some, ha1, hb1, e1, e2, i1, i2, i3, e3, e4, hloop]
        by_cases hk : 0 ≤ link ∧ link < (t.Links.l.length : Int)
        · have d1 : ((decide (link < 0)) || (decide (link ≥ (t.Links.l.length : Int)))) = false := by simp only [Bool.or_eq_false_iff, decide_eq_false_iff_not]; omega
          obtain ⟨k, rfl⟩ : ∃ k : Nat, link = (k : Int) := ⟨link.toNat, by omega⟩
          have hkl : k < t.Links.l.length := by omega
          have hm : gt t.Links.l k ∈ t.Links.l := by rw [gt_eq hkl]; exact List.getElem_mem _
          obtain ⟨hA, hB⟩ := link_in hV hm
          have hadj : Adj t (gt t.Links.l k).A (gt t.Links.l k).B := ⟨_, hm, .inl ⟨rfl, rfl⟩⟩
          simp only [d1, cond_false, ixI_of hkl, Option.bind_some]
          generalize (gt t.Links.l k).A = A at hA hadj ⊢
          generalize (gt t.Links.l k).B = B at hB hadj ⊢
          obtain ⟨x, rfl⟩ : ∃ x : Nat, A = (x : Int) := ⟨A.toNat, by omega⟩
          obtain ⟨y, rfl⟩ : ∃ y : Nat, B = (y : Int) := ⟨B.toNat, by omega⟩
          have hx : x < sa.l.length := by omega
          have hy : y < sa.l.length := by omega
          have i5 : ixI (x : Int) sa.l.length = some x := ixI_of hx
          have i6 : ixI (y : Int) sa.l.length = some y := ixI_of hy
          have k1 : 0 ≤ gt sa.l x → 0 ≤ gt sa.l y ∧ gt sa.l y ≤ gt sa.l x + 1 := fun h => ha.next hx hy h hadj
          have k2 : 0 ≤ gt sa.l y → 0 ≤ gt sa.l x ∧ gt sa.l x ≤ gt sa.l y + 1 := fun h => ha.next hy hx h hadj.symm
          have l1 := ha.lo x hx
          have l2 := ha.lo y hy
          have d2 : wr .i64 (gt sa.l x - gt sa.l y) = gt sa.l x - gt sa.l y := wr_id (by omega) (by omega)
          have d3 : wr .i64 (gt sa.l y - gt sa.l x) = gt sa.l y - gt sa.l x := wr_id (by omega) (by omega)
          have d4 : decide (gt sa.l x - gt sa.l y ≤ 1) = true := decide_eq_true (by omega)
          have d5 : decide (gt sa.l y - gt sa.l x ≤ 1) = true := decide_eq_true (by omega)
          have d6 : (decide (gt sa.l x < 0) == decide (gt sa.l y < 0)) = true := by
            rw [beq_iff_eq, Bool.eq_iff_iff, decide_eq_true_eq, decide_eq_true_eq]; omega
          simp only [Option.bind_some, i5, i6, d2, d3, d4, d5, d6, cond_true]
        · have d1 : ((decide (link < 0)) || (decide (link ≥ (t.Links.l.length : Int)))) = true := by simp only [Bool.or_eq_true, decide_eq_true_eq]; omega
          simp only [d1, cond_true]
      · have : (bif !true then some true else bif decide (sw < 0) then some true else bif decide (sw ≥ t.Switches) then some true else bif decide (other < 0) then some true else some (decide (other ≥ t.Switches)) : Option Bool) = some true := by
          by_cases c1 : sw < 0
          · rw [decide_eq_true c1]; rfl
          · rw [decide_eq_false c1]
            by_cases c2 : sw ≥ t.Switches
            · rw [decide_eq_true c2]; rfl
            · rw [decide_eq_false c2]
              by_cases c3 : other < 0
              · rw [decide_eq_true c3]; rfl
              · rw [decide_eq_false c3, decide_eq_true (show other ≥ t.Switches by omega)]; rfl
        rw [this]; rfl
    · rw [decide_eq_false hV]; rfl
  · rw [decide_eq_false hs]; rfl
end Go.Proofs.Ytjfhiochcdjkhaa.T
