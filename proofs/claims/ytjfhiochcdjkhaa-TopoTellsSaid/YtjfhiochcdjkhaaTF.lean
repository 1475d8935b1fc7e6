/- Topologies: what the document's Right and Peer answer, and the law TopoPeers. Conditions: none. -/
import Derived.Test.YtjfhiochcdjkhaaTR
import Derived.Test.YtjfhiochcdjkhaaTpt
open Go.Ev Go
namespace Go.Proofs.Ytjfhiochcdjkhaa.T

instance (t : api_Topo) (p : topo_place) : Decidable (PlaceOk t p) := inferInstanceAs (Decidable ((0 ≤ p.sw ∧ p.sw < t.Switches) ∧ 0 ≤ p.port ∧ p.port < 8))

def endsOf (l : api_Link) : List topo_place := [⟨l.A, l.PortA⟩, ⟨l.B, l.PortB⟩]
def endOf (h : api_Host) : List topo_place := [⟨h.At, h.Port⟩]

theorem places_eq (t : api_Topo) : placesOf t = t.Links.l.flatMap endsOf ++ t.Hosts.l.flatMap endOf := rfl

theorem count_two (a b q : topo_place) : [a, b].count q = (if a = q then 1 else 0) + (if b = q then 1 else 0) := by
  by_cases h1 : a = q <;> by_cases h2 : b = q <;> simp [h1, h2]

theorem place_beq (a b sw p : Int) : ((a == sw) && (b == p)) = decide ((⟨a, b⟩ : topo_place) = ⟨sw, p⟩) := by
  rw [Bool.eq_iff_iff]; simp

def okAt (t : api_Topo) (sw p : Int) : Bool := decide (PlaceOk t ⟨sw, p⟩ ∧ (placesOf t).count ⟨sw, p⟩ = 1)

theorem port_spec {t : api_Topo} (hl : t.Links.l.length ≤ 30) (hh : t.Hosts.l.length ≤ 12) (sw p : Int) : ref17_port t sw p = some (okAt t sw p) := by
  have e0 : ((0 : Nat) : Int) = 0 := rfl
  have h1 : ∃ b, loopO (ref17_port_L1 t sw p) (0, 0) = some b ∧ b = ((t.Links.l.flatMap endsOf).count ⟨sw, p⟩ : Nat) ∧ (t.Links.l.flatMap endsOf).count ⟨sw, p⟩ ≤ 60 := by
    refine forE (f := ref17_port_L1 t sw p) (fun i (n : Nat) => ((n : Int), (i : Int))) t.Links.l.length (fun i n => n = ((t.Links.l.take i).flatMap endsOf).count ⟨sw, p⟩ ∧ n ≤ 2 * i)
      (fun b => b = ((t.Links.l.flatMap endsOf).count ⟨sw, p⟩ : Nat) ∧ (t.Links.l.flatMap endsOf).count ⟨sw, p⟩ ≤ 60) ?_ ?_ 0 0 (Nat.zero_le _) ⟨by simp, by omega⟩ (fun b q1 q2 => ⟨b, by rw [e0] at q1; exact q1, q2⟩)
    · rintro i n hi ⟨hn, hle⟩
      left
      have et : t.Links.l.take (i + 1) = t.Links.l.take i ++ [gt t.Links.l i] := by rw [gt_eq hi, List.take_append_getElem hi]
      have hc : ((t.Links.l.take (i + 1)).flatMap endsOf).count ⟨sw, p⟩ = n + ((if (⟨(gt t.Links.l i).A, (gt t.Links.l i).PortA⟩ : topo_place) = ⟨sw, p⟩ then 1 else 0) + (if (⟨(gt t.Links.l i).B, (gt t.Links.l i).PortB⟩ : topo_place) = ⟨sw, p⟩ then 1 else 0)) := by
        rw [et, List.flatMap_append, List.count_append, ← hn]
        simp only [List.flatMap_cons, List.flatMap_nil, List.append_nil, endsOf, count_two]
      have w1 : wr .i64 ((n : Int) + 1) = ((n + 1 : Nat) : Int) := wr_s (by omega)
      have w2 : wr .i64 (((n + 1 : Nat) : Int) + 1) = ((n + 1 + 1 : Nat) : Int) := wr_s (by omega)
      have w3 := wr_s (show i < 9223372036854775807 by omega)
      refine ⟨n + ((if (⟨(gt t.Links.l i).A, (gt t.Links.l i).PortA⟩ : topo_place) = ⟨sw, p⟩ then 1 else 0) + (if (⟨(gt t.Links.l i).B, (gt t.Links.l i).PortB⟩ : topo_place) = ⟨sw, p⟩ then 1 else 0)), ?_, hc.symm, ?_⟩
      · simp only [ref17_port_L1, lt_t hi, cond_true, ixI_of hi, Option.bind_some, place_beq, w3]
        split <;> rename_i c1 <;> split <;> rename_i c2
        · rw [decide_eq_true c1, decide_eq_true c2]; simp only [cond_true, Option.bind_some, w1, w2]
        · rw [decide_eq_true c1, decide_eq_false c2]; simp only [cond_true, cond_false, Option.bind_some, w1]
        · rw [decide_eq_false c1, decide_eq_true c2]; simp only [cond_true, cond_false, Option.bind_some, w1, Nat.zero_add]
        · rw [decide_eq_false c1, decide_eq_false c2]; simp only [cond_false, Option.bind_some, Nat.add_zero]
      · split <;> split <;> omega
    · rintro n ⟨hn, hle⟩
      rw [List.take_length] at hn
      exact ⟨(n : Int), by simp only [ref17_port_L1, lt_f, cond_false], by rw [hn], by rw [← hn]; omega⟩
  obtain ⟨b1, h1, rfl, hb1⟩ := h1
  generalize hk : (t.Links.l.flatMap endsOf).count ⟨sw, p⟩ = k at *
  have h2 : ∃ b, loopO (ref17_port_L2 t sw p) ((k : Int), 0) = some b ∧ b = ((placesOf t).count ⟨sw, p⟩ : Nat) := by
    refine forE (f := ref17_port_L2 t sw p) (fun i (n : Nat) => ((n : Int), (i : Int))) t.Hosts.l.length (fun i n => n = k + ((t.Hosts.l.take i).flatMap endOf).count ⟨sw, p⟩ ∧ n ≤ k + i)
      (fun b => b = ((placesOf t).count ⟨sw, p⟩ : Nat)) ?_ ?_ 0 k (Nat.zero_le _) ⟨by simp, by omega⟩ (fun b q1 q2 => ⟨b, by rw [e0] at q1; exact q1, q2⟩)
    · rintro i n hi ⟨hn, hle⟩
      left
      have et : t.Hosts.l.take (i + 1) = t.Hosts.l.take i ++ [gt t.Hosts.l i] := by rw [gt_eq hi, List.take_append_getElem hi]
      have hc : k + ((t.Hosts.l.take (i + 1)).flatMap endOf).count ⟨sw, p⟩ = n + (if (⟨(gt t.Hosts.l i).At, (gt t.Hosts.l i).Port⟩ : topo_place) = ⟨sw, p⟩ then 1 else 0) := by
        rw [et, List.flatMap_append, List.count_append, hn]
        simp only [List.flatMap_cons, List.flatMap_nil, List.append_nil, endOf]
        by_cases h : (⟨(gt t.Hosts.l i).At, (gt t.Hosts.l i).Port⟩ : topo_place) = ⟨sw, p⟩ <;> simp [h] <;> omega
      have w1 : wr .i64 ((n : Int) + 1) = ((n + 1 : Nat) : Int) := wr_s (by omega)
      have w3 := wr_s (show i < 9223372036854775807 by omega)
      refine ⟨n + (if (⟨(gt t.Hosts.l i).At, (gt t.Hosts.l i).Port⟩ : topo_place) = ⟨sw, p⟩ then 1 else 0), ?_, hc.symm, ?_⟩
      · simp only [ref17_port_L2, lt_t hi, cond_true, ixI_of hi, Option.bind_some, place_beq, w3]
        split <;> rename_i c1
        · rw [decide_eq_true c1]; simp only [cond_true, Option.bind_some, w1]
        · rw [decide_eq_false c1]; simp only [cond_false, Option.bind_some, Nat.add_zero]
      · split <;> omega
    · rintro n ⟨hn, hle⟩
      rw [List.take_length] at hn
      exact ⟨(n : Int), by simp only [ref17_port_L2, lt_f, cond_false], by rw [places_eq, List.count_append, hk, ← hn]⟩
  obtain ⟨b2, h2, rfl⟩ := h2
  simp only [ref17_port, h1, Option.bind_some, h2]
  congr 1
  rw [Bool.eq_iff_iff, okAt]
  generalize (placesOf t).count ⟨sw, p⟩ = m
  constructor
  · intro h
    simp only [Bool.and_eq_true, decide_eq_true_eq, beq_iff_eq] at h
    obtain ⟨a, b, c, d, e⟩ := h
    exact decide_eq_true ⟨⟨⟨a, b⟩, c, by simp only; omega⟩, by omega⟩
  · intro h
    obtain ⟨⟨⟨a, b⟩, c, d⟩, e⟩ := of_decide_eq_true h
    simp only at a b c d
    simp only [Bool.and_eq_true, decide_eq_true_eq, beq_iff_eq]
    exact ⟨a, b, c, by omega, by omega⟩

theorem nodup_count {l : List topo_place} : l.Nodup ↔ ∀ p ∈ l, l.count p = 1 := by
  rw [List.nodup_iff_count]
  constructor
  · intro h p hp
    have h1 := h p
    have h2 := List.count_pos_iff.2 hp
    omega
  · intro h p
    by_cases hp : p ∈ l
    · rw [h p hp]; exact Nat.le_refl _
    · rw [List.count_eq_zero_of_not_mem hp]; omega

theorem ref_right {t : api_Topo} (hl : t.Links.l.length ≤ 30) (hh : t.Hosts.l.length ≤ 12) : ref17_Right t = some (decide (Valid t)) := by
  unfold ref17_Right
  by_cases hs : (1 ≤ t.Switches ∧ t.Switches ≤ 8) ∧ t.Links.l.length ≤ 24 ∧ t.Hosts.l.length ≤ 8
  · have hc : ((decide (t.Switches < 1)) || ((decide (t.Switches > 8)) || ((decide ((t.Links.l.length : Int) > 24)) || (decide ((t.Hosts.l.length : Int) > 8))))) = false := by
      simp only [Bool.or_eq_false_iff, decide_eq_false_iff_not]; omega
    have h1 := allE (f := ref17_Right_L1 t) t.Links.l (fun l => ((l.A == l.B) || (decide (l.Least < 1) || (decide (l.Least > l.Most) || (decide (l.Most > 1000) ||
        (!(okAt t l.A l.PortA) || !(okAt t l.B l.PortB))))))) (by omega) (fun i hi => by
      simp only [ref17_Right_L1, lt_t hi, cond_true, ixI_of hi, Option.bind_some, port_spec hl hh]
      generalize ((gt t.Links.l i).A == (gt t.Links.l i).B) = b1
      generalize decide ((gt t.Links.l i).Least < 1) = b2
      generalize decide ((gt t.Links.l i).Least > (gt t.Links.l i).Most) = b3
      generalize decide ((gt t.Links.l i).Most > 1000) = b4
      generalize okAt t (gt t.Links.l i).A (gt t.Links.l i).PortA = b5
      generalize okAt t (gt t.Links.l i).B (gt t.Links.l i).PortB = b6
      cases b1 <;> cases b2 <;> cases b3 <;> cases b4 <;> cases b5 <;> cases b6 <;> rfl) (by simp only [ref17_Right_L1, lt_f, cond_false])
    have h2 := allE (f := ref17_Right_L2 t) t.Hosts.l (fun h => !(okAt t h.At h.Port)) (by omega) (fun i hi => by
      simp only [ref17_Right_L2, lt_t hi, cond_true, ixI_of hi, Option.bind_some, port_spec hl hh]
      generalize okAt t (gt t.Hosts.l i).At (gt t.Hosts.l i).Port = b
      cases b <;> rfl) (by simp only [ref17_Right_L2, lt_f, cond_false])
    have hlk : ∀ l : api_Link, ((l.A == l.B) || (decide (l.Least < 1) || (decide (l.Least > l.Most) || (decide (l.Most > 1000) ||
        (!(okAt t l.A l.PortA) || !(okAt t l.B l.PortB)))))) = false ↔
        LinkOk l ∧ ∀ p ∈ endsOf l, PlaceOk t p ∧ (placesOf t).count p = 1 := fun l => by
      simp only [okAt, Bool.or_eq_false_iff, beq_eq_false_iff_ne, decide_eq_false_iff_not, LinkOk, Bool.not_eq_false', decide_eq_true_eq, endsOf, List.mem_cons, List.not_mem_nil, or_false, forall_eq_or_imp, forall_eq]
      constructor
      · rintro ⟨a, b, c, d, e, f⟩; exact ⟨⟨a, by omega, by omega, by omega⟩, e, f⟩
      · rintro ⟨⟨a, b, c, d⟩, e, f⟩; exact ⟨a, by omega, by omega, by omega, e, f⟩
    have hho : ∀ h : api_Host, (!(okAt t h.At h.Port)) = false ↔ ∀ p ∈ endOf h, PlaceOk t p ∧ (placesOf t).count p = 1 := fun h => by
      simp only [okAt, Bool.not_eq_false', decide_eq_true_eq, endOf, List.mem_singleton, forall_eq]
    have hV : Valid t ↔ (∀ l ∈ t.Links.l, LinkOk l ∧ ∀ p ∈ endsOf l, PlaceOk t p ∧ (placesOf t).count p = 1) ∧ ∀ h ∈ t.Hosts.l, ∀ p ∈ endOf h, PlaceOk t p ∧ (placesOf t).count p = 1 := by
      constructor
      · intro hV
        have hc := nodup_count.1 hV.nodup
        refine ⟨fun l hl => ⟨hV.link l hl, fun p hp => ?_⟩, fun h hh p hp => ?_⟩
        · have hm : p ∈ placesOf t := by rw [places_eq]; exact List.mem_append_left _ (List.mem_flatMap.2 ⟨l, hl, hp⟩)
          exact ⟨hV.place p hm, hc p hm⟩
        · have hm : p ∈ placesOf t := by rw [places_eq]; exact List.mem_append_right _ (List.mem_flatMap.2 ⟨h, hh, hp⟩)
          exact ⟨hV.place p hm, hc p hm⟩
      · rintro ⟨ha, hb⟩
        have all : ∀ p ∈ placesOf t, PlaceOk t p ∧ (placesOf t).count p = 1 := by
          intro p hp
          rw [places_eq] at hp
          rcases List.mem_append.1 hp with h | h
          · obtain ⟨l, hl, hp⟩ := List.mem_flatMap.1 h; exact (ha l hl).2 p hp
          · obtain ⟨x, hx, hp⟩ := List.mem_flatMap.1 h; exact hb x hx p hp
        exact ⟨hs.1, hs.2.1, hs.2.2, fun l hl => (ha l hl).1, nodup_count.2 fun p hp => (all p hp).2, fun p hp => (all p hp).1⟩
    rw [hc, cond_false, h1]
    by_cases c1 : ∀ l ∈ t.Links.l, LinkOk l ∧ ∀ p ∈ endsOf l, PlaceOk t p ∧ (placesOf t).count p = 1
    · rw [if_pos (fun l hm => (hlk l).2 (c1 l hm))]
      simp only [Option.bind_some, h2]
      by_cases c2 : ∀ h ∈ t.Hosts.l, ∀ p ∈ endOf h, PlaceOk t p ∧ (placesOf t).count p = 1
      · rw [if_pos (fun h hm => (hho h).2 (c2 h hm))]
        exact congrArg some (decide_eq_true (hV.2 ⟨c1, c2⟩)).symm
      · rw [if_neg (fun h => c2 fun x hm => (hho x).1 (h x hm))]
        exact congrArg some (decide_eq_false fun h => c2 (hV.1 h).2).symm
    · rw [if_neg (fun h => c1 fun l hm => (hlk l).1 (h l hm))]
      exact congrArg some (decide_eq_false fun h => c1 (hV.1 h).1).symm
  · have hc : ((decide (t.Switches < 1)) || ((decide (t.Switches > 8)) || ((decide ((t.Links.l.length : Int) > 24)) || (decide ((t.Hosts.l.length : Int) > 8))))) = true := by
      simp only [Bool.or_eq_true, decide_eq_true_eq]; omega
    rw [hc, cond_true]
    exact congrArg some (decide_eq_false fun h => hs ⟨h.sw, h.links, h.hosts⟩).symm

/-! ### who is where -/

/-- the places of a topology, each with what is there -/
theorem links_apart {t : api_Topo} (hV : Valid t) {i j : Nat} {l m : api_Link} (hi : t.Links.l[i]? = some l) (hj : t.Links.l[j]? = some m) {p : topo_place} (hp : p ∈ endsOf l) (hq : p ∈ endsOf m) : i = j := by
  have h := (List.nodup_append.1 (places_eq t ▸ hV.nodup)).1
  have h2 := (List.pairwise_flatMap.1 h).2
  rw [List.pairwise_iff_getElem] at h2
  obtain ⟨hil, rfl⟩ := List.getElem?_eq_some_iff.1 hi
  obtain ⟨hjl, rfl⟩ := List.getElem?_eq_some_iff.1 hj
  rcases Nat.lt_trichotomy i j with h3 | h3 | h3
  · exact absurd rfl (h2 i j hil hjl h3 p hp p hq)
  · exact h3
  · exact absurd rfl (h2 j i hjl hil h3 p hq p hp)

theorem host_apart {t : api_Topo} (hV : Valid t) {l : api_Link} {h : api_Host} (hl : l ∈ t.Links.l) (hh : h ∈ t.Hosts.l) {p : topo_place} (hp : p ∈ endsOf l) : p ∉ endOf h := by
  intro hq
  exact (List.nodup_append.1 (places_eq t ▸ hV.nodup)).2.2 p (List.mem_flatMap.2 ⟨l, hl, hp⟩) p (List.mem_flatMap.2 ⟨h, hh, hq⟩) rfl

theorem hosts_apart {t : api_Topo} (hV : Valid t) {i j : Nat} {l m : api_Host} (hi : t.Hosts.l[i]? = some l) (hj : t.Hosts.l[j]? = some m) {p : topo_place} (hp : p ∈ endOf l) (hq : p ∈ endOf m) : i = j := by
  have h := (List.nodup_append.1 (places_eq t ▸ hV.nodup)).2.1
  have h2 := (List.pairwise_flatMap.1 h).2
  rw [List.pairwise_iff_getElem] at h2
  obtain ⟨hil, rfl⟩ := List.getElem?_eq_some_iff.1 hi
  obtain ⟨hjl, rfl⟩ := List.getElem?_eq_some_iff.1 hj
  rcases Nat.lt_trichotomy i j with h3 | h3 | h3
  · exact absurd rfl (h2 i j hil hjl h3 p hp p hq)
  · exact h3
  · exact absurd rfl (h2 j i hjl hil h3 p hq p hp)

/-- the two ends of a link, one way or the other -/
def Join (l : api_Link) (sw p a b : Int) : Prop := (sw = l.A ∧ p = l.PortA ∧ a = l.B ∧ b = l.PortB) ∨ (sw = l.B ∧ p = l.PortB ∧ a = l.A ∧ b = l.PortA)

theorem Join.symm {l : api_Link} {sw p a b : Int} (h : Join l sw p a b) : Join l a b sw p := by
  rcases h with ⟨rfl, rfl, rfl, rfl⟩ | ⟨rfl, rfl, rfl, rfl⟩
  · exact .inr ⟨rfl, rfl, rfl, rfl⟩
  · exact .inl ⟨rfl, rfl, rfl, rfl⟩
theorem Join.mem {l : api_Link} {sw p a b : Int} (h : Join l sw p a b) : (⟨sw, p⟩ : topo_place) ∈ endsOf l := by
  rcases h with ⟨rfl, rfl, _, _⟩ | ⟨rfl, rfl, _, _⟩ <;> simp [endsOf]

theorem peerP_join {sw p : Int} {i : Nat} {l : api_Link} {a b c : Int} (h : peerP sw p i l = some (a, b, c)) : Join l sw p a b ∧ c = i := by
  unfold peerP at h
  split at h
  · rename_i h1
    obtain ⟨rfl, rfl, rfl⟩ : l.B = a ∧ l.PortB = b ∧ (i : Int) = c := by simpa using h
    exact ⟨.inl ⟨h1.1, h1.2, rfl, rfl⟩, rfl⟩
  · split at h
    · rename_i h1
      obtain ⟨rfl, rfl, rfl⟩ : l.A = a ∧ l.PortA = b ∧ (i : Int) = c := by simpa using h
      exact ⟨.inr ⟨h1.1, h1.2, rfl, rfl⟩, rfl⟩
    · simp at h
theorem peerP_of {l : api_Link} (hl : l.A ≠ l.B) {sw p a b : Int} (h : Join l sw p a b) (i : Nat) : peerP sw p i l = some (a, b, (i : Int)) := by
  unfold peerP
  rcases h with ⟨rfl, rfl, rfl, rfl⟩ | ⟨rfl, rfl, rfl, rfl⟩
  · rw [if_pos ⟨rfl, rfl⟩]
  · rw [if_neg fun h => hl h.1.symm, if_pos ⟨rfl, rfl⟩]

/-- what Peer finds -/
theorem peer_iff {t : api_Topo} (hV : Valid t) {sw p a b c : Int} : scan (peerP sw p) t.Links.l 0 = some (a, b, c) ↔ ∃ (j : Nat) (l : api_Link), t.Links.l[j]? = some l ∧ Join l sw p a b ∧ c = j := by
  constructor
  · intro h
    obtain ⟨j, l, h1, h2, _⟩ := scan_some h
    obtain ⟨h3, h4⟩ := peerP_join h2
    exact ⟨j, l, h1, h3, by simpa using h4⟩
  · rintro ⟨j, l, h1, h2, rfl⟩
    have hlk := hV.link l (List.mem_of_getElem? h1)
    cases h : scan (peerP sw p) t.Links.l 0 with
    | none =>
      have := scan_none.1 h j l h1
      rw [peerP_of hlk.1 h2] at this; simp at this
    | some q =>
      obtain ⟨a', b', c'⟩ := q
      obtain ⟨k, m, h3, h4, _⟩ := scan_some h
      obtain ⟨h5, h6⟩ := peerP_join h4
      obtain rfl := links_apart hV h1 h3 h2.mem h5.mem
      obtain rfl : l = m := Option.some.inj (h1.symm.trans h3)
      have e := peerP_of hlk.1 h2 (0 + j)
      rw [peerP_of hlk.1 h5] at e
      obtain ⟨rfl, rfl⟩ : a' = a ∧ b' = b := by simpa using e
      rw [h6]; simp

/-- the place of a host -/
def hostP (sw p : Int) (i : Nat) (h : api_Host) : Option Int := if sw = h.At ∧ p = h.Port then some (i : Int) else none

theorem hostAt_spec {t : api_Topo} (sw p : Int) (hb : t.Hosts.l.length < 9223372036854775808) : topo_HostAt t sw p = some ((scan (hostP sw p) t.Hosts.l 0).getD (-1)) := by
  have h := scanE (f := slices_Index_api_Host_api_Host_L1 t.Hosts ⟨sw, p⟩) t.Hosts.l (hostP sw p) () hb (fun i hi => by
    have c1 : ((sw == ((gt t.Hosts.l i).At)) && ((p == ((gt t.Hosts.l i).Port)) && true)) = decide (sw = (gt t.Hosts.l i).At ∧ p = (gt t.Hosts.l i).Port) := by
      rw [Bool.eq_iff_iff]; simp
    simp only [slices_Index_api_Host_api_Host_L1, lt_t hi, cond_true, ixI_of hi, Option.bind_some, c1, hostP]
    by_cases h1 : sw = (gt t.Hosts.l i).At ∧ p = (gt t.Hosts.l i).Port
    · rw [if_pos h1, decide_eq_true h1]; rfl
    · rw [if_neg h1, decide_eq_false h1]; rfl) (by simp only [slices_Index_api_Host_api_Host_L1, lt_f, cond_false])
  simp only [topo_HostAt, slices_Index_api_Host_api_Host, h, Option.bind_some]
  cases scan (hostP sw p) t.Hosts.l 0 <;> rfl

theorem no_host {t : api_Topo} (hV : Valid t) {l : api_Link} (hl : l ∈ t.Links.l) {sw p : Int} (hp : (⟨sw, p⟩ : topo_place) ∈ endsOf l) : scan (hostP sw p) t.Hosts.l 0 = none := by
  cases h : scan (hostP sw p) t.Hosts.l 0 with
  | none => rfl
  | some k =>
    obtain ⟨j, x, h1, h2, _⟩ := scan_some h
    unfold hostP at h2
    split at h2
    · rename_i h3
      exact absurd (by rw [h3.1, h3.2]; simp [endOf]) (host_apart hV hl (List.mem_of_getElem? h1) hp)
    · simp at h2

theorem small_spec (t : api_Topo) : law17_small t = some (decide (t.Links.l.length ≤ 30 ∧ t.Hosts.l.length ≤ 12)) := by
  simp only [law17_small]; congr 1; rw [Bool.eq_iff_iff]; simp only [Bool.and_eq_true, decide_eq_true_eq]; omega

theorem topoPeers_law (t : api_Topo) (sw p : Int) : law17_TopoPeers t sw p = some true := by
  unfold law17_TopoPeers
  simp only [small_spec, Option.bind_some, law17_awake_runs]
  by_cases hs : t.Links.l.length ≤ 30 ∧ t.Hosts.l.length ≤ 12
  · rw [decide_eq_true hs]
    simp only [Bool.not_true, cond_false, ref_right hs.1 hs.2, Option.bind_some]
    by_cases hV : Valid t
    · rw [decide_eq_true hV]
      simp only [Bool.not_true, cond_false, Option.bind_some, peer_spec _ _ (show t.Links.l.length < 9223372036854775808 by omega), hostAt_spec _ _ (show t.Hosts.l.length < 9223372036854775808 by omega)]
      cases h : scan (peerP sw p) t.Links.l 0 with
      | none => rfl
      | some q =>
        obtain ⟨a, b, c⟩ := q
        obtain ⟨j, l, h1, h2, rfl⟩ := (peer_iff hV).1 h
        have hback := (peer_iff hV).2 ⟨j, l, h1, h2.symm, rfl⟩
        have hm := List.mem_of_getElem? h1
        have hne : (a != sw) = true := by
          have := (hV.link l hm).1
          rcases h2 with ⟨rfl, _, rfl, _⟩ | ⟨rfl, _, rfl, _⟩
          · simpa using fun e => this e.symm
          · simpa using this
        simp only [Option.bind_some, Bool.not_true, cond_false, hback, no_host hV hm h2.mem, cond_true, beq_self_eq_true, hne, Option.getD_none]
    · rw [decide_eq_false hV]; rfl
  · rw [decide_eq_false hs]; rfl
end Go.Proofs.Ytjfhiochcdjkhaa.T
