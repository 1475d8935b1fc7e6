/- The law TopoTells: the program's answers are the document's. Conditions: none. -/
import Derived.Test.YtjfhiochcdjkhaaTL
open Go.Ev Go
namespace Go.Proofs.Ytjfhiochcdjkhaa.T

theorem beq_sw (a b : Int) : (a == b) = (b == a) := by rw [Bool.eq_iff_iff, beq_iff_eq, beq_iff_eq]; exact eq_comm

theorem ref_peer (t : api_Topo) (sw p : Int) : ref17_Peer t sw p = topo_Peer t sw p := by
  have : ref17_Peer_L1 t sw p = topo_Peer_L1 t sw p := by
    funext i
    simp only [ref17_Peer_L1, topo_Peer_L1, Bool.and_true, beq_sw sw, beq_sw p]
  simp only [ref17_Peer, topo_Peer, this]
  cases loopO (topo_Peer_L1 t sw p) 0 with
  | none => rfl
  | some q =>
    cases q with
    | inl q => obtain ⟨a, b, c⟩ := q; rfl
    | inr q => rfl

theorem ref_hostAt (t : api_Topo) (sw p : Int) : ref17_HostAt t sw p = topo_HostAt t sw p := by
  have : ref17_HostAt_L1 t sw p = slices_Index_api_Host_api_Host_L1 t.Hosts ⟨sw, p⟩ := by
    funext i
    simp only [ref17_HostAt_L1, slices_Index_api_Host_api_Host_L1, Bool.and_true, beq_sw sw, beq_sw p]
  simp only [ref17_HostAt, topo_HostAt, slices_Index_api_Host_api_Host, this]
  cases loopO (slices_Index_api_Host_api_Host_L1 t.Hosts ⟨sw, p⟩) 0 with
  | none => rfl
  | some q => cases q <;> rfl

theorem ref_slowest (t : api_Topo) : ref17_Slowest t = topo_Slowest t := by
  have : ref17_Slowest_L1 t = topo_Slowest_L1 t := by
    funext ⟨i, j⟩
    simp only [ref17_Slowest_L1, topo_Slowest_L1]
    cases decide (j < (t.Links.l.length : Int)) with
    | false => rfl
    | true =>
      simp only [cond_true]
      cases ixI j t.Links.l.length with
      | none => rfl
      | some n =>
        simp only [Option.bind_some]
        by_cases h : (gt t.Links.l n).Most > i
        · rw [decide_eq_true h, if_pos h]; rfl
        · rw [decide_eq_false h, if_neg h]; rfl
  simp only [ref17_Slowest, topo_Slowest, this]

theorem slowest_ok {t : api_Topo} (hb : t.Links.l.length < 9223372036854775807) : ∃ n, topo_Slowest t = some n := by
  have e0 : ((0 : Nat) : Int) = 0 := rfl
  have : ∃ n, loopO (topo_Slowest_L1 t) (0, 0) = some n := by
    refine forE (f := topo_Slowest_L1 t) (fun i (n : Int) => (n, (i : Int))) t.Links.l.length (fun _ _ => True) (fun _ => True) ?_ ?_ 0 0 (Nat.zero_le _) trivial (fun b q1 _ => ⟨b, by rw [e0] at q1; exact q1⟩)
    · intro i n hi _
      exact .inl ⟨if (gt t.Links.l i).Most > n then (gt t.Links.l i).Most else n, by simp only [topo_Slowest_L1, lt_t hi, cond_true, ixI_of hi, Option.bind_some, wr_s (show i < 9223372036854775807 by omega)], trivial⟩
    · intro n _
      exact ⟨n, by simp only [topo_Slowest_L1, lt_f, cond_false], trivial⟩
  obtain ⟨n, h⟩ := this
  exact ⟨n, by simp only [topo_Slowest, h, Option.bind_some]⟩

/-! ### Near -/

def conv (x : ref17_Side) : topo_Side := ⟨x.Port, x.To, x.Link⟩

/-- the document's list: port by port -/
def portS (t : api_Topo) (sw : Int) (p : Nat) : Option topo_Side := (scan (peerP sw (p : Int)) t.Links.l 0).map fun q => ⟨(p : Int), q.1, q.2.2⟩
def refList (t : api_Topo) (sw : Int) : List topo_Side := (List.range 8).filterMap (portS t sw)

theorem ref_near {t : api_Topo} (sw : Int) (hb : t.Links.l.length < 9223372036854775808) : ∃ s, ref17_Near t sw = some s ∧ s.l.map conv = refList t sw := by
  have e0 : ((0 : Nat) : Int) = 0 := rfl
  have : ∃ s, loopO (ref17_Near_L1 t sw) (Sl.nil, 0) = some s ∧ s.l.map conv = refList t sw := by
    refine forE (f := ref17_Near_L1 t sw) (fun i (s : Sl ref17_Side) => (s, (i : Int))) 8 (fun i s => s.l.map conv = (List.range i).filterMap (portS t sw) ∧ s.l.length ≤ i) (fun s => s.l.map conv = refList t sw) ?_ ?_ 0 .nil (Nat.zero_le _) ⟨rfl, Nat.le_refl _⟩ (fun b q1 q2 => ⟨b, by rw [e0] at q1; exact q1, q2⟩)
    · rintro i s hi ⟨hs, hl⟩
      left
      have hd : decide ((i : Int) < 8) = true := decide_eq_true (by omega)
      have er : (List.range (i + 1)).filterMap (portS t sw) = (List.range i).filterMap (portS t sw) ++ (portS t sw i).toList := by
        rw [List.range_succ, List.filterMap_append]
        cases h : portS t sw i <;> simp [h]
      cases h : scan (peerP sw (i : Int)) t.Links.l 0 with
      | none =>
        have hp : portS t sw i = none := by simp [portS, h]
        refine ⟨s, by simp only [ref17_Near_L1, hd, cond_true, ref_peer, peer_spec sw (i : Int) hb, h, Option.bind_some, cond_false, wr_s (show i < 9223372036854775807 by omega)], ?_, by omega⟩
        rw [er, hp, hs]; simp
      | some q =>
        obtain ⟨a, b, c⟩ := q
        have hp : portS t sw i = some ⟨(i : Int), a, c⟩ := by simp [portS, h]
        have hcap : capI (s.l ++ [(⟨(i : Int), a, c⟩ : ref17_Side)]) = some (s.l ++ [⟨(i : Int), a, c⟩]) := capI_of (by rw [List.length_append, List.length_singleton]; omega)
        refine ⟨.mk (s.l ++ [⟨(i : Int), a, c⟩]), by simp only [ref17_Near_L1, hd, cond_true, ref_peer, peer_spec sw (i : Int) hb, h, Option.bind_some, hcap, wr_s (show i < 9223372036854775807 by omega)], ?_, by rw [sl_mk, List.length_append, List.length_singleton]; omega⟩
        rw [er, hp, ← hs, sl_mk, List.map_append]; rfl
    · rintro s ⟨hs, _⟩
      exact ⟨s, by simp only [ref17_Near_L1]; rfl, hs⟩
  obtain ⟨s, h1, h2⟩ := this
  exact ⟨s, by simp only [ref17_Near, h1, Option.bind_some], h2⟩

theorem mem_ref {t : api_Topo} (hV : Valid t) {sw : Int} {x : topo_Side} : x ∈ refList t sw ↔ x ∈ nearOf t sw := by
  rw [mem_near, refList, List.mem_filterMap]
  constructor
  · rintro ⟨p, _, h⟩
    obtain ⟨⟨a, b, c⟩, h1, rfl⟩ := Option.map_eq_some_iff.1 h
    obtain ⟨j, l, h2, h3, rfl⟩ := (peer_iff hV).1 h1
    exact ⟨j, l, b, h2, h3, rfl⟩
  · rintro ⟨j, l, b, h2, h3, h4⟩
    have hpl := (hV.place ⟨sw, x.Port⟩ (by rw [places_eq]; exact List.mem_append_left _ (List.mem_flatMap.2 ⟨l, List.mem_of_getElem? h2, h3.mem⟩))).2
    simp only at hpl
    have e : ((x.Port.toNat : Nat) : Int) = x.Port := by omega
    refine ⟨x.Port.toNat, List.mem_range.2 (by omega), ?_⟩
    have := (peer_iff hV).2 ⟨j, l, h2, h3, rfl⟩
    simp only [portS, e, this, Option.map_some, ← h4]

theorem ref_sorted (t : api_Topo) (sw : Int) : (refList t sw).Pairwise (fun a b => a.Port < b.Port) := by
  unfold refList
  rw [List.pairwise_filterMap]
  refine List.Pairwise.imp (fun {a b} hab x hx y hy => ?_) List.pairwise_lt_range
  obtain ⟨_, _, rfl⟩ := Option.map_eq_some_iff.1 hx
  obtain ⟨_, _, rfl⟩ := Option.map_eq_some_iff.1 hy
  simp only; omega

theorem near_ref {t : api_Topo} (hV : Valid t) (sw : Int) : nearOf t sw = refList t sw := by
  have h1 : (nearOf t sw).Pairwise (fun a b => a.Port ≤ b.Port) := List.Pairwise.imp (fun {a b} h => by simp only [ltP, decide_eq_false_iff_not] at h; omega) (insAll_sorted ltP_weak (rawNear t sw))
  have h2 : (refList t sw).Pairwise (fun a b => a.Port ≤ b.Port) := List.Pairwise.imp (fun {a b} h => by omega) (ref_sorted t sw)
  have n1 : (nearOf t sw).Nodup := (insAll_perm ltP (rawNear t sw)).symm.nodup (List.Pairwise.imp (fun {a b} h e => h (by rw [e])) (raw_nodup hV sw))
  have n2 : (refList t sw).Nodup := List.Pairwise.imp (fun {a b} h e => by rw [e] at h; omega) (ref_sorted t sw)
  refine List.Perm.eq_of_pairwise (fun a b ha hb hab hba => ?_) h1 h2 ((List.perm_ext_iff_of_nodup n1 n2).2 fun x => (mem_ref hV).symm)
  obtain ⟨i, l, b1, h3, h4, h5⟩ := mem_near.1 ha
  obtain ⟨j, m, b2, h6, h7, h8⟩ := mem_near.1 ((mem_ref hV).1 hb)
  have hp : a.Port = b.Port := by omega
  rw [← hp] at h7
  obtain rfl := links_apart hV h3 h6 h4.mem h7.mem
  obtain rfl : l = m := Option.some.inj (h3.symm.trans h6)
  have hl := hV.link l (List.mem_of_getElem? h3)
  have e := (peerP_of hl.1 h4 0).symm.trans (peerP_of hl.1 h7 0)
  obtain ⟨q1, _⟩ : a.To = b.To ∧ b1 = b2 := by simpa using e
  cases a; cases b
  simp only at hp q1 h5 h8
  subst hp q1 h5 h8
  rfl

/-! ### Hops -/

theorem no_walk {t : api_Topo} (hV : Valid t) {u : Int} (hu : ¬ (0 ≤ u ∧ u < t.Switches)) {n : Nat} {v : Int} (h : Walk t n u v) : u = v := by
  induction h with
  | zero => rfl
  | step _ ha ih => exact absurd (ha.symm.mem hV) (by rw [← ih hu]; exact hu)

theorem hops_any {t : api_Topo} (hV : Valid t) (sw : Int) : ∃ s : Sl Int, topo_Hops t sw = some s ∧ IsDist t sw s.l := by
  by_cases h : 0 ≤ sw ∧ sw < t.Switches
  · exact hops_spec2 hV h
  · have hS := hV.sw
    refine ⟨_, hops_out hV h, ⟨by rw [sl_mk, List.length_replicate]; omega, fun v hv => ?_, fun v hv h0 => ?_, fun n v hv hw => ?_⟩⟩
    · rw [sl_mk, List.length_replicate] at hv
      rw [sl_mk, gt_rep hv]; simp only [List.length_replicate]; omega
    · rw [sl_mk, List.length_replicate] at hv
      rw [sl_mk, gt_rep hv] at h0; omega
    · rw [sl_mk, List.length_replicate] at hv
      have := no_walk hV h hw
      omega

/-- one half of a step of the document's -/
def half (n : Int) (s : Sl Int) (x y : Nat) : Sl Int := if gt s.l x = n ∧ gt s.l y = -1 then .mk (s.l.set y (n + 1)) else s

theorem half_run {n : Int} {s : Sl Int} {x y : Nat} (hx : x < s.l.length) (hy : y < s.l.length) (hw : wr .i64 (n + 1) = n + 1) :
    ((ixI (x : Int) s.l.length).bind fun n45 =>
      (bif ((gt s.l n45) == n) then ((ixI (y : Int) s.l.length).bind fun n47 =>
      some ((gt s.l n47) == (-1))) else (some false)).bind fun b49 =>
      bif b49 then ((ixI (y : Int) s.l.length).bind fun n54 =>
      some (Sl.mk (s.l.set n54 (wr .i64 (n + 1))))) else
      (some s) : Option (Sl Int)) = some (half n s x y) := by
  simp only [ixI_of hx, ixI_of hy, Option.bind_some, hw, half]
  by_cases h1 : gt s.l x = n
  · by_cases h2 : gt s.l y = -1
    · rw [if_pos ⟨h1, h2⟩, h1, h2]; simp
    · rw [if_neg fun h => h2 h.2, h1]
      have : (gt s.l y == -1) = false := by simpa using h2
      simp [this]
  · rw [if_neg fun h => h1 h.1]
    have : (gt s.l x == n) = false := by simpa using h1
    simp [this]

/-- within the round n -/
def Mid (d : List Int) (n : Nat) (l : List Int) : Prop := l.length = d.length ∧ ∀ v : Nat, v < d.length → (gt d v ≤ n → gt l v = gt d v) ∧ ((n : Int) + 1 < gt d v → gt l v = -1) ∧ (gt d v = n + 1 → gt l v = -1 ∨ gt l v = n + 1)

theorem half_mid {t : api_Topo} {u : Int} {d : List Int} (hD : IsDist t u d) {n : Nat} {s : Sl Int} (hM : Mid d n s.l) {x y : Nat} (hx : x < d.length) (hy : y < d.length) (ha : Adj t x y) :
    Mid d n (half n s x y).l ∧ (gt d x = n → gt d y = n + 1 → gt (half n s x y).l y = n + 1) ∧ ∀ v : Nat, 0 ≤ gt s.l v → gt (half n s x y).l v = gt s.l v := by
  have mx := hM.2 x hx
  have my := hM.2 y hy
  unfold half
  by_cases h : gt s.l x = n ∧ gt s.l y = -1
  · rw [if_pos h]
    have hdx : gt d x = n := by
      have := hD.lo x hx
      rcases Int.lt_trichotomy (gt d x) ((n : Int) + 1) with h1 | h1 | h1
      · have := mx.1 (by omega); omega
      · have := mx.2.2 h1; omega
      · have := mx.2.1 h1; omega
    have hn := hD.next hx hy (by omega) ha
    have hdy : gt d y = n + 1 := by
      rcases Int.lt_trichotomy (gt d y) ((n : Int) + 1) with h1 | h1 | h1
      · have := my.1 (by omega); omega
      · exact h1
      · omega
    have hg : ∀ v : Nat, gt (s.l.set y ((n : Int) + 1)) v = if y = v then (n : Int) + 1 else gt s.l v := fun v => gt_set (by rw [hM.1]; exact hy)
    simp only [sl_mk]
    refine ⟨⟨by rw [List.length_set]; exact hM.1, fun v hv => ?_⟩, fun _ _ => by rw [hg, if_pos rfl], fun v hv => ?_⟩
    · rw [hg]
      split
      · rename_i e; subst e
        exact ⟨fun h => by omega, fun h => by omega, fun _ => .inr rfl⟩
      · exact hM.2 v hv
    · rw [hg, if_neg]
      rintro rfl; omega
  · rw [if_neg h]
    refine ⟨hM, fun h1 h2 => ?_, fun v _ => rfl⟩
    have := mx.1 (by omega)
    have := my.2.2 h2
    omega

def Rnd (d : List Int) (n : Nat) (l : List Int) : Prop := l.length = d.length ∧ ∀ v : Nat, v < d.length → gt l v = if gt d v ≤ n then gt d v else -1

theorem ref_round {t : api_Topo} (hV : Valid t) {u : Int} {d : List Int} (hD : IsDist t u d) {n : Nat} (hn : n < 100) {s : Sl Int} (hR : Rnd d n s.l) : ∃ s', loopO (ref17_Hops_L3 t (n : Int)) (s, 0) = some s' ∧ Rnd d (n + 1) s'.l := by
  have e0 : ((0 : Nat) : Int) = 0 := rfl
  have hl := hV.links
  refine forE (f := ref17_Hops_L3 t (n : Int)) (fun i (s : Sl Int) => (s, (i : Int))) t.Links.l.length
    (fun i s => Mid d n s.l ∧ ∀ l ∈ t.Links.l.take i, ∀ x y : Nat, ((l.A = x ∧ l.B = y) ∨ (l.B = x ∧ l.A = y)) → gt d x = n → gt d y = n + 1 → gt s.l y = n + 1) (fun s => Rnd d (n + 1) s.l) ?_ ?_ 0 s (Nat.zero_le _)
    ⟨⟨hR.1, fun v hv => ?_⟩, fun l hl => by simp at hl⟩ (fun b q1 q2 => ⟨b, by rw [e0] at q1; exact q1, q2⟩)
  · rintro i s hi ⟨hM, hp⟩
    left
    have hm : gt t.Links.l i ∈ t.Links.l := by rw [gt_eq hi]; exact List.getElem_mem _
    obtain ⟨hA, hB⟩ := link_in hV hm
    obtain ⟨x, hx⟩ : ∃ x : Nat, (gt t.Links.l i).A = (x : Int) := ⟨(gt t.Links.l i).A.toNat, by omega⟩
    obtain ⟨y, hy⟩ : ∃ y : Nat, (gt t.Links.l i).B = (y : Int) := ⟨(gt t.Links.l i).B.toNat, by omega⟩
    have hdl := hD.len
    have hxd : x < d.length := by omega
    have hyd : y < d.length := by omega
    have ha : Adj t x y := ⟨_, hm, .inl ⟨hx, hy⟩⟩
    have hw : wr .i64 ((n : Int) + 1) = (n : Int) + 1 := wr_id (by omega) (by omega)
    obtain ⟨m1, m2, m3⟩ := half_mid hD hM hxd hyd ha
    obtain ⟨k1, k2, k3⟩ := half_mid hD m1 hyd hxd ha.symm
    have r1 := half_run (n := (n : Int)) (s := s) (x := x) (y := y) (by rw [hM.1]; exact hxd) (by rw [hM.1]; exact hyd) hw
    have r2 := half_run (n := (n : Int)) (s := half n s x y) (x := y) (y := x) (by rw [m1.1]; exact hyd) (by rw [m1.1]; exact hxd) hw
    refine ⟨half n (half n s x y) y x, by simp only [ref17_Hops_L3, lt_t hi, cond_true, ixI_of hi, Option.bind_some, hx, hy, r1, r2, wr_s (show i < 9223372036854775807 by omega)], k1, fun l hlm p q hpq h1 h2 => ?_⟩
    have et : t.Links.l.take (i + 1) = t.Links.l.take i ++ [gt t.Links.l i] := by rw [gt_eq hi, List.take_append_getElem hi]
    rw [et] at hlm
    rcases List.mem_append.1 hlm with hlm | hlm
    · have := hp l hlm p q hpq h1 h2
      have e1 := m3 q (by omega)
      have e2 := k3 q (by omega)
      omega
    · obtain rfl := List.mem_singleton.1 hlm
      rcases hpq with ⟨h3, h4⟩ | ⟨h3, h4⟩
      · obtain rfl : x = p := by omega
        obtain rfl : y = q := by omega
        have := m2 h1 h2
        rw [k3 y (by omega)]; exact this
      · obtain rfl : y = p := by omega
        obtain rfl : x = q := by omega
        exact k2 h1 h2
  · rintro s ⟨hM, hp⟩
    rw [List.take_length] at hp
    refine ⟨s, by simp only [ref17_Hops_L3, lt_f, cond_false], hM.1, fun v hv => ?_⟩
    have mv := hM.2 v hv
    have hlo := hD.lo v hv
    by_cases h1 : gt d v ≤ n
    · rw [if_pos (by omega)]; exact mv.1 h1
    · by_cases h2 : gt d v = n + 1
      · rw [if_pos (by omega), h2]
        have hwk := hD.walk v hv (by omega)
        have e : (gt d v).toNat = n + 1 := by omega
        rw [e] at hwk
        cases hwk with
        | @step _ _ w _ hw ha =>
          have hwm := ha.symm.mem hV
          have hdl := hD.len
          obtain ⟨x, rfl⟩ : ∃ x : Nat, w = (x : Int) := ⟨w.toNat, by omega⟩
          have hxd : x < d.length := by omega
          have h3 := hD.least n x hxd hw
          have h4 := hD.next hxd hv h3.1 ha
          obtain ⟨l, hlm, hl2⟩ := ha
          exact hp l hlm x v hl2 (by omega) h2
      · rw [if_neg (by omega)]; exact mv.2.1 (by omega)
  · have := hR.2 v hv
    have hlo := hD.lo v hv
    refine ⟨fun h => by rw [this, if_pos h], fun h => by rw [this, if_neg (by omega)], fun h => .inl (by rw [this, if_neg (by omega)])⟩

theorem ref_hops {t : api_Topo} (hV : Valid t) {u : Int} {d : List Int} (hD : IsDist t u d) : ∃ s, ref17_Hops t u = some s ∧ s.l = d := by
  have e0 : ((0 : Nat) : Int) = 0 := rfl
  have hS := hV.sw
  have hlen := hD.len
  have h1 : ∃ s : Sl Int, loopO (ref17_Hops_L1 t u) (Sl.nil, 0) = some s ∧ s.l = (List.range d.length).map (fun j : Nat => if (j : Int) = u then (0 : Int) else -1) := by
    refine forE (f := ref17_Hops_L1 t u) (fun i (s : Sl Int) => (s, (i : Int))) d.length (fun i s => s.l = (List.range i).map (fun j : Nat => if (j : Int) = u then (0 : Int) else -1)) (fun s => s.l = (List.range d.length).map (fun j : Nat => if (j : Int) = u then (0 : Int) else -1)) ?_ ?_ 0 .nil (Nat.zero_le _) rfl (fun b q1 q2 => ⟨b, by rw [e0] at q1; exact q1, q2⟩)
    · intro i s hi hs
      left
      have hd : decide ((i : Int) < t.Switches) = true := decide_eq_true (by omega)
      have hcap : ∀ z : Int, capI (s.l ++ [z]) = some (s.l ++ [z]) := fun z => capI_of (by rw [hs]; simp; omega)
      by_cases hc : (i : Int) = u
      · have hb : ((i : Int) == u) = true := by simpa using hc
        refine ⟨.mk (s.l ++ [0]), by simp only [ref17_Hops_L1, hd, cond_true, hb, hcap, Option.bind_some, wr_s (show i < 9223372036854775807 by omega)], ?_⟩
        rw [sl_mk, hs, List.range_succ, List.map_append]; simp [hc]
      · have hb : ((i : Int) == u) = false := by simpa using hc
        refine ⟨.mk (s.l ++ [-1]), by simp only [ref17_Hops_L1, hd, cond_true, hb, cond_false, hcap, Option.bind_some, wr_s (show i < 9223372036854775807 by omega)], ?_⟩
        rw [sl_mk, hs, List.range_succ, List.map_append]; simp [hc]
    · intro s hs
      have hd : decide ((d.length : Int) < t.Switches) = false := decide_eq_false (by omega)
      exact ⟨s, by simp only [ref17_Hops_L1, hd, cond_false], hs⟩
  obtain ⟨s0, h1, hs0⟩ := h1
  have hR0 : Rnd d 0 s0.l := by
    refine ⟨by rw [hs0]; simp, fun v hv => ?_⟩
    have hg : gt s0.l v = if (v : Int) = u then 0 else -1 := by
      rw [hs0, gt_eq (by simpa using hv)]; simp
    have hlo := hD.lo v hv
    rw [hg]
    by_cases hc : (v : Int) = u
    · rw [if_pos hc, hD.start hc.symm hv]; rfl
    · rw [if_neg hc]
      have : gt d v ≠ 0 := fun h => hc (hD.zero hv h).symm
      split <;> omega
  have h2 : ∃ s : Sl Int, loopO (ref17_Hops_L2 t) (s0, 0) = some s ∧ Rnd d d.length s.l := by
    refine forE (f := ref17_Hops_L2 t) (fun i (s : Sl Int) => (s, (i : Int))) d.length (fun i s => Rnd d i s.l) (fun s => Rnd d d.length s.l) ?_ ?_ 0 s0 (Nat.zero_le _) hR0 (fun b q1 q2 => ⟨b, by rw [e0] at q1; exact q1, q2⟩)
    · intro i s hi hR
      left
      have hd : decide ((i : Int) < t.Switches) = true := decide_eq_true (by omega)
      obtain ⟨s', k1, k2⟩ := ref_round hV hD (n := i) (by omega) hR
      exact ⟨s', by simp only [ref17_Hops_L2, hd, cond_true, k1, Option.bind_some, wr_s (show i < 9223372036854775807 by omega)], k2⟩
    · intro s hR
      have hd : decide ((d.length : Int) < t.Switches) = false := decide_eq_false (by omega)
      exact ⟨s, by simp only [ref17_Hops_L2, hd, cond_false], hR⟩
  obtain ⟨s, h2, hR⟩ := h2
  refine ⟨s, by simp only [ref17_Hops, h1, Option.bind_some, h2], ?_⟩
  refine List.ext_getElem hR.1 fun v h3 h4 => ?_
  have := hR.2 v h4
  have hlo := hD.lo v h4
  rw [if_pos (by omega), gt_eq h3, gt_eq h4] at this
  exact this

theorem same_spec {a b : Sl Int} (h : a.l = b.l) (hb : a.l.length < 9223372036854775808) : ref13_Same a b = some true := by
  have h1 : ((a.l.length : Int) != (b.l.length : Int)) = false := by rw [h]; simp
  have h2 := passE (f := ref13_Same_L1 a b) (c := .inr ()) a.l.length hb (fun i hi => by
    have i1 : ixI (i : Int) b.l.length = some i := ixI_of (by rw [← h]; exact hi)
    have i2 : (gt a.l i != gt b.l i) = false := by rw [h]; simp
    simp only [ref13_Same_L1, lt_t hi, cond_true, ixI_of hi, Option.bind_some, i1, i2, cond_false]) (by simp only [ref13_Same_L1, lt_f, cond_false])
  simp only [ref13_Same, h1, cond_false, h2, Option.bind_some]

theorem whole_spec {t : api_Topo} (hV : Valid t) : ∃ s : Sl Int, topo_Hops t 0 = some s ∧ IsDist t 0 s.l ∧ topo_Whole t = some (decide (∀ x ∈ s.l, 0 ≤ x)) := by
  obtain ⟨s, h1, h2⟩ := hops_any hV 0
  have hS := hV.sw
  have hlen := h2.len
  have h3 := scanE (f := slices_Index_int_int_L1 s (-1)) s.l (fun i x => if x = -1 then some (i : Int) else none) () (by omega) (fun i hi => by
    simp only [slices_Index_int_int_L1, lt_t hi, cond_true, ixI_of hi, Option.bind_some]
    by_cases hc : gt s.l i = -1
    · rw [if_pos hc, hc]; rfl
    · have : ((-1 : Int) == gt s.l i) = false := by simpa using fun h => hc h.symm
      rw [if_neg hc, this]; rfl) (by simp only [slices_Index_int_int_L1, lt_f, cond_false])
  refine ⟨s, h1, h2, ?_⟩
  simp only [topo_Whole, h1, Option.bind_some, slices_Contains_int_int, slices_Index_int_int, h3]
  have hall : (∀ x ∈ s.l, 0 ≤ x) ↔ scan (fun i x => if x = (-1 : Int) then some (i : Int) else none) s.l 0 = none := by
    rw [scan_none]
    constructor
    · intro h j x hj
      have := h x (List.mem_of_getElem? hj)
      rw [if_neg (by omega)]
    · intro h x hx
      obtain ⟨j, hj, rfl⟩ := List.getElem_of_mem hx
      have h4 := h j s.l[j] (List.getElem?_eq_getElem hj)
      have h5 := (h2.lo j hj).1
      rw [gt_eq hj] at h5
      split at h4
      · simp at h4
      · omega
  cases hc : scan (fun i x => if x = (-1 : Int) then some (i : Int) else none) s.l 0 with
  | none => rw [decide_eq_true (hall.2 hc)]; rfl
  | some q =>
    obtain ⟨j, x, _, h5, _⟩ := scan_some hc
    have hq : q = (j : Int) := by
      simp only [Nat.zero_add] at h5
      split at h5
      · simpa using h5.symm
      · simp at h5
    rw [decide_eq_false (fun h => by rw [hall.1 h] at hc; simp at hc)]
    simp only [hq, Option.bind_some]
    have : decide ((j : Int) ≥ 0) = true := decide_eq_true (by omega)
    rw [this]; rfl

theorem fold_spec {s : Sl Int} (hb : s.l.length < 9223372036854775807) : loopO (law17_TopoTells_L2 s) (true, 0) = some (decide (∀ x ∈ s.l, 0 ≤ x)) := by
  have e0 : ((0 : Nat) : Int) = 0 := rfl
  have : ∃ b, loopO (law17_TopoTells_L2 s) (true, 0) = some b ∧ b = decide (∀ x ∈ s.l, 0 ≤ x) := by
    refine forE (f := law17_TopoTells_L2 s) (fun i (b : Bool) => (b, (i : Int))) s.l.length (fun i b => b = decide (∀ x ∈ s.l.take i, 0 ≤ x)) (fun b => b = decide (∀ x ∈ s.l, 0 ≤ x)) ?_ ?_ 0 true (Nat.zero_le _) (by simp) (fun b q1 q2 => ⟨b, by rw [e0] at q1; exact q1, q2⟩)
    · intro i b hi hI
      left
      have et : s.l.take (i + 1) = s.l.take i ++ [gt s.l i] := by rw [gt_eq hi, List.take_append_getElem hi]
      refine ⟨b && decide (gt s.l i ≥ 0), ?_, ?_⟩
      · simp only [law17_TopoTells_L2, lt_t hi, cond_true, ixI_of hi, Option.bind_some, wr_s (show i < 9223372036854775807 by omega)]
        cases b <;> rfl
      · rw [hI, et, Bool.eq_iff_iff]
        simp only [Bool.and_eq_true, decide_eq_true_eq, List.mem_append, List.mem_singleton]
        constructor
        · rintro ⟨h1, h2⟩ x (h | rfl)
          · exact h1 x h
          · exact h2
        · intro h
          exact ⟨fun x hx => h x (.inl hx), h _ (.inr rfl)⟩
    · intro b hI
      rw [List.take_length] at hI
      exact ⟨b, by simp only [law17_TopoTells_L2, lt_f, cond_false], hI⟩
  obtain ⟨b, h1, rfl⟩ := this
  exact h1

theorem topoTells_law (t : api_Topo) (sw port : Int) : law17_TopoTells t sw port = some true := by
  unfold law17_TopoTells
  simp only [small_spec, Option.bind_some, law17_awake_runs]
  by_cases hs : t.Links.l.length ≤ 30 ∧ t.Hosts.l.length ≤ 12
  · rw [decide_eq_true hs]
    simp only [Bool.not_true, cond_false, ref_right hs.1 hs.2, topo_right, Option.bind_some, beq_self_eq_true]
    by_cases hV : Valid t
    · obtain ⟨n, hn⟩ := slowest_ok (t := t) (by omega)
      obtain ⟨s1, hs1, hs2⟩ := near_spec hV sw
      obtain ⟨s3, hs3, hs4⟩ := ref_near (t := t) sw (by omega)
      obtain ⟨w, hw1, hw2, hw3⟩ := whole_spec hV
      obtain ⟨w2, hw4, hw5⟩ := ref_hops hV hw2
      obtain ⟨a, ha1, ha2⟩ := hops_any hV sw
      obtain ⟨b, hb1, hb2⟩ := ref_hops hV ha2
      have hS := hV.sw
      have hal := ha2.len
      have hwl := hw2.len
      have hmap : s1.l = s3.l.map conv := by rw [hs2, hs4, near_ref hV]
      have hlen : s1.l.length = s3.l.length := by rw [hmap, List.length_map]
      have h8 : s1.l.length ≤ 8 := by rw [hs2, nearOf, insAll_length]; exact raw_len hV sw
      have e1 : ((s1.l.length : Int) != (s3.l.length : Int)) = false := by rw [hlen]; simp
      have hloop := passE (f := law17_TopoTells_L1 s1 s3) (c := .inr ()) s3.l.length (by omega) (fun i hi => by
        have i1 : ixI (i : Int) s1.l.length = some i := ixI_of (by omega)
        have hg : gt s1.l i = conv (gt s3.l i) := by
          rw [gt_eq (by omega), gt_eq hi]
          simp only [hmap, List.getElem_map]
        simp only [law17_TopoTells_L1, lt_t hi, cond_true, ixI_of hi, Option.bind_some, i1, hg, conv, bne_self_eq_false, Bool.or_false, cond_false]) (by simp only [law17_TopoTells_L1, lt_f, cond_false])
      have hfold := fold_spec (s := w2) (by rw [hw5]; omega)
      rw [hw5] at hfold
      have hsame := same_spec (a := a) (b := b) hb2.symm (by omega)
      rw [decide_eq_true hV]
      simp only [Bool.not_true, cond_false, ref_peer, ref_hostAt, ref_slowest, peer_spec sw port (show t.Links.l.length < 9223372036854775808 by omega), hostAt_spec sw port (show t.Hosts.l.length < 9223372036854775808 by omega), hn, Option.bind_some, hs1, hs3, e1, hloop, hw4, hfold, ha1, hb1, hsame, hw3, cond_true, beq_self_eq_true]
      cases scan (peerP sw port) t.Links.l 0 with
      | none => simp
      | some q => obtain ⟨x, y, z⟩ := q; simp
    · rw [decide_eq_false hV]; rfl
  · rw [decide_eq_false hs]; rfl
end Go.Proofs.Ytjfhiochcdjkhaa.T
