/- Topologies: what Right and Peer answer. Conditions: as stated. -/
import Derived.Test.YtjfhiochcdjkhaaTp
import Derived.Test.YtjfhiochcdjkhaaScan
open Go.Ev Go
namespace Go.Proofs.Ytjfhiochcdjkhaa.T

/-! ### maps that count -/

section
variable {κ ν : Type}

theorem mpFind_none [DecidableEq κ] {k : κ} : ∀ {l : List (κ × ν × Nat)} {i : Nat}, mpFind k l i = none ↔ ∀ e ∈ l, k ≠ e.1 := by
  intro l
  induction l with
  | nil => intro i; simp [mpFind]
  | cons x l ih =>
    intro i
    simp only [mpFind]
    by_cases h : k = x.1
    · simp [h]
    · simp [h, ih]

theorem mpFind_put [DecidableEq κ] {k : κ} {v : ν} : ∀ {l : List (κ × ν × Nat)} {i j : Nat} {e : κ × ν × Nat}, mpFind k l i = some (j, e) → mpFind k (mpPut l (j - i) v) i = some (j, (e.1, v, e.2.2)) := by
  intro l
  induction l with
  | nil => intro i j e h; simp [mpFind] at h
  | cons x l ih =>
    intro i j e h
    simp only [mpFind] at h
    split at h
    · rename_i hk
      obtain ⟨rfl, rfl⟩ : i = j ∧ x = e := by simpa using h
      simp [mpPut, mpFind, hk]
    · rename_i hk
      obtain ⟨h1, _, _⟩ := mpFind_some h
      have e1 : j - i = (j - (i + 1)) + 1 := by omega
      rw [e1]
      simp only [mpPut, mpFind, hk, if_false]
      exact ih h

theorem mpPut_last {v : ν} {e : κ × ν × Nat} : ∀ {l : List (κ × ν × Nat)}, mpPut (l ++ [e]) l.length v = l ++ [(e.1, v, e.2.2)] := by
  intro l
  induction l with
  | nil => rfl
  | cons x l ih => simp only [List.cons_append, List.length_cons, mpPut, ih]

theorem stamp_find {l : List (κ × ν × Nat)} (h : ∀ (i : Nat) (e : κ × ν × Nat), l[i]? = some e → e.2.2 = i) {j : Nat} (hj : j < l.length) : l.findIdx? (fun e => decide ((e.2.2 : Int) = (j : Int))) = some j := by
  rw [List.findIdx?_eq_some_iff_getElem]
  refine ⟨hj, ?_, fun k hk => ?_⟩
  · have := h j l[j] (by simp)
    simp [this]
  · have := h k (l[k]'(by omega)) (by simp)
    simp only [this, decide_eq_true_eq]
    omega
end

/-- each of some things once -/
def mpOf {κ : Type} (l : List κ) : Mp κ Int := ⟨l.zipIdx.map fun q => (q.1, 1, q.2), l.length⟩

theorem mpOf_at {κ : Type} {l : List κ} {i : Nat} {e : κ × Int × Nat} (h : (mpOf l).es[i]? = some e) : l[i]? = some e.1 ∧ e.2.1 = 1 ∧ e.2.2 = i := by
  simp only [mpOf, List.getElem?_map, Option.map_eq_some_iff] at h
  obtain ⟨q, hq, rfl⟩ := h
  rw [List.getElem?_zipIdx] at hq
  obtain ⟨x, hx, rfl⟩ := Option.map_eq_some_iff.1 hq
  exact ⟨hx, rfl, by simp⟩

theorem mpOf_mem {κ : Type} {l : List κ} {e : κ × Int × Nat} (h : e ∈ (mpOf l).es) : e.1 ∈ l := by
  obtain ⟨i, hi, rfl⟩ := List.getElem_of_mem h
  exact List.mem_of_getElem? (mpOf_at (i := i) (by simp [hi])).1

theorem mpOf_get {κ : Type} [DecidableEq κ] {l : List κ} {k : κ} : mpGet (mpOf l) 0 k = if k ∈ l then 1 else 0 := by
  unfold mpGet
  by_cases hk : k ∈ l
  · rw [if_pos hk]
    cases h : mpFind k (mpOf l).es 0 with
    | none =>
      exfalso
      rw [mpFind_none] at h
      obtain ⟨i, hi, rfl⟩ := List.getElem_of_mem hk
      refine h (l[i], 1, i) ?_ rfl
      simp only [mpOf, List.mem_map]
      exact ⟨(l[i], i), by rw [List.mem_zipIdx_iff_getElem?]; simp [hi], rfl⟩
    | some p =>
      obtain ⟨j, e⟩ := p
      obtain ⟨_, h2, _⟩ := mpFind_some h
      exact (mpOf_at h2).2.1
  · rw [if_neg hk, mpFind_none.2 fun e he hke => hk (by rw [hke]; exact mpOf_mem he)]

/-- one more -/
theorem mpOf_new {κ : Type} [DecidableEq κ] {l : List κ} {k : κ} (hk : k ∉ l) : mpSet (mpEnt (mpOf l) 0 k).1 (mpEnt (mpOf l) 0 k).2.2 1 = some (mpOf (l ++ [k])) := by
  have hf : mpFind k (mpOf l).es 0 = none := mpFind_none.2 fun e he hke => hk (by rw [hke]; exact mpOf_mem he)
  have he : mpEnt (mpOf l) 0 k = (⟨(mpOf l).es ++ [(k, 0, l.length)], l.length + 1⟩, 0, (l.length : Int)) := by
    simp only [mpEnt, hf]; rfl
  have hlen : (mpOf l).es.length = l.length := by simp [mpOf]
  have hst : ((mpOf l).es ++ [(k, (0 : Int), l.length)]).findIdx? (fun e => decide ((e.2.2 : Int) = (l.length : Int))) = some l.length := by
    refine stamp_find (fun i e hi => ?_) (by simp [hlen])
    rcases Nat.lt_or_ge i (mpOf l).es.length with h | h
    · rw [List.getElem?_append_left h] at hi; exact (mpOf_at hi).2.2
    · rw [List.getElem?_append_right h] at hi
      have h0 : i - (mpOf l).es.length = 0 := by
        have := (List.getElem?_eq_some_iff.1 hi).1
        simp at this; omega
      rw [h0] at hi
      obtain rfl : (k, (0 : Int), l.length) = e := by simpa using hi
      simp only; omega
  rw [he]
  simp only [mpSet, hst, Option.map_some]
  have hp := mpPut_last (v := (1 : Int)) (e := (k, (0 : Int), l.length)) (l := (mpOf l).es)
  rw [hlen] at hp
  rw [hp]
  simp [mpOf, List.zipIdx_append]

/-- one that is there -/
theorem mpOf_old {κ : Type} [DecidableEq κ] {l : List κ} {k : κ} (hk : k ∈ l) (v : Int) : ∃ m, mpSet (mpEnt (mpOf l) 0 k).1 (mpEnt (mpOf l) 0 k).2.2 v = some m ∧ mpGet m 0 k = v := by
  cases h : mpFind k (mpOf l).es 0 with
  | none =>
    have := @mpOf_get κ _ l k
    rw [if_pos hk] at this
    unfold mpGet at this
    rw [h] at this; simp at this
  | some p =>
    obtain ⟨j, e⟩ := p
    obtain ⟨_, h2, _⟩ := mpFind_some h
    rw [Nat.sub_zero] at h2
    obtain ⟨_, _, h5⟩ := mpOf_at h2
    have he : mpEnt (mpOf l) 0 k = (mpOf l, e.2.1, (e.2.2 : Int)) := by simp only [mpEnt, h]
    have hj : j < (mpOf l).es.length := (List.getElem?_eq_some_iff.1 h2).1
    have hst := stamp_find (l := (mpOf l).es) (fun i e hi => (mpOf_at hi).2.2) hj
    refine ⟨⟨mpPut (mpOf l).es j v, (mpOf l).clock⟩, by rw [he]; simp only [mpSet, h5, hst, Option.map_some], ?_⟩
    have := mpFind_put (v := v) h
    rw [Nat.sub_zero] at this
    simp only [mpGet, this]

/-! ### a topology -/

def placesOf (t : api_Topo) : List topo_place := (t.Links.l.flatMap fun l => [⟨l.A, l.PortA⟩, ⟨l.B, l.PortB⟩]) ++ t.Hosts.l.flatMap fun h => [⟨h.At, h.Port⟩]

def LinkOk (l : api_Link) : Prop := l.A ≠ l.B ∧ 1 ≤ l.Least ∧ l.Least ≤ l.Most ∧ l.Most ≤ 1000
def PlaceOk (t : api_Topo) (p : topo_place) : Prop := (0 ≤ p.sw ∧ p.sw < t.Switches) ∧ 0 ≤ p.port ∧ p.port < 8

structure Valid (t : api_Topo) : Prop where
  sw : 1 ≤ t.Switches ∧ t.Switches ≤ 8
  links : t.Links.l.length ≤ 24
  hosts : t.Hosts.l.length ≤ 8
  link : ∀ l ∈ t.Links.l, LinkOk l
  nodup : (placesOf t).Nodup
  place : ∀ p ∈ placesOf t, PlaceOk t p

noncomputable instance (t : api_Topo) : Decidable (Valid t) := Classical.propDecidable _

theorem places_len {t : api_Topo} (h1 : t.Links.l.length ≤ 24) (h2 : t.Hosts.l.length ≤ 8) : (placesOf t).length ≤ 56 := by
  have e : ∀ l : List api_Link, (l.flatMap fun l => [(⟨l.A, l.PortA⟩ : topo_place), ⟨l.B, l.PortB⟩]).length = 2 * l.length := fun l => by
    induction l with
    | nil => rfl
    | cons x l ih => simp [ih]; omega
  have e2 : ∀ l : List api_Host, (l.flatMap fun h => [(⟨h.At, h.Port⟩ : topo_place)]).length = l.length := fun l => by
    induction l with
    | nil => rfl
    | cons x l ih => simp [ih]
  rw [placesOf, List.length_append, e, e2]; omega

theorem places_spec {t : api_Topo} (h1 : t.Links.l.length ≤ 24) (h2 : t.Hosts.l.length ≤ 8) : ∃ s, topo_places t = some s ∧ s.l = placesOf t := by
  have e2 : ∀ l : List api_Link, (l.flatMap fun l => [(⟨l.A, l.PortA⟩ : topo_place), ⟨l.B, l.PortB⟩]).length = 2 * l.length := fun l => by
    induction l with
    | nil => rfl
    | cons x l ih => simp [ih]; omega
  have e1 : ∀ l : List api_Host, (l.flatMap fun h => [(⟨h.At, h.Port⟩ : topo_place)]).length = l.length := fun l => by
    induction l with
    | nil => rfl
    | cons x l ih => simp [ih]
  obtain ⟨s, k1, k2⟩ := layE1 (f := topo_places_L1 t) t.Links.l (fun l => [⟨l.A, l.PortA⟩, ⟨l.B, l.PortB⟩]) .nil (by omega) (fun i s hi hs => by
    have hcap : capI (s.l ++ [(⟨(gt t.Links.l i).A, (gt t.Links.l i).PortA⟩ : topo_place), ⟨(gt t.Links.l i).B, (gt t.Links.l i).PortB⟩]) = some (s.l ++ [⟨(gt t.Links.l i).A, (gt t.Links.l i).PortA⟩, ⟨(gt t.Links.l i).B, (gt t.Links.l i).PortB⟩]) :=
      capI_of (by rw [hs, List.length_append, List.length_append, e2, List.length_take]; simp; omega)
    exact ⟨.mk (s.l ++ [⟨(gt t.Links.l i).A, (gt t.Links.l i).PortA⟩, ⟨(gt t.Links.l i).B, (gt t.Links.l i).PortB⟩]), by simp only [topo_places_L1, lt_t hi, cond_true, ixI_of hi, Option.bind_some, hcap], rfl⟩) (fun s => by simp only [topo_places_L1, lt_f, cond_false])
  obtain ⟨s2, k3, k4⟩ := layE1 (f := topo_places_L2 t) t.Hosts.l (fun h => [⟨h.At, h.Port⟩]) s (by omega) (fun i s' hi hs => by
    have hcap : capI (s'.l ++ [(⟨(gt t.Hosts.l i).At, (gt t.Hosts.l i).Port⟩ : topo_place)]) = some (s'.l ++ [⟨(gt t.Hosts.l i).At, (gt t.Hosts.l i).Port⟩]) :=
      capI_of (by rw [hs, k2, List.length_append, List.length_append, List.length_append, e2, e1, List.length_take]; simp; omega)
    exact ⟨.mk (s'.l ++ [⟨(gt t.Hosts.l i).At, (gt t.Hosts.l i).Port⟩]), by simp only [topo_places_L2, lt_t hi, cond_true, ixI_of hi, Option.bind_some, hcap], rfl⟩) (fun s => by simp only [topo_places_L2, lt_f, cond_false])
  exact ⟨s2, by simp only [topo_places, k1, Option.bind_some, k3], by rw [k4, k2]; rfl⟩

theorem count_spec {t : api_Topo} {r : Sl topo_place} (hb : r.l.length < 9223372036854775808) :
    ∃ b, loopO (topo_Right_L2 t r) ((Mp.none : Mp topo_place Int), 0) = some b ∧ match b with | .inl _ => ¬ (r.l.Nodup ∧ ∀ p ∈ r.l, PlaceOk t p) | .inr _ => r.l.Nodup ∧ ∀ p ∈ r.l, PlaceOk t p := by
  have e0 : ((0 : Nat) : Int) = 0 := rfl
  refine forE (f := topo_Right_L2 t r) (fun i (m : Mp topo_place Int) => (m, (i : Int))) r.l.length (fun i m => m = mpOf (r.l.take i) ∧ (r.l.take i).Nodup ∧ ∀ p ∈ r.l.take i, PlaceOk t p)
    (fun b => match b with | .inl _ => ¬ (r.l.Nodup ∧ ∀ p ∈ r.l, PlaceOk t p) | .inr _ => r.l.Nodup ∧ ∀ p ∈ r.l, PlaceOk t p) ?_ ?_ 0 Mp.none (Nat.zero_le _) ⟨by simp [mpOf, Mp.none], by simp, by simp⟩ (fun b q1 q2 => ?_)
  · rintro i m hi ⟨rfl, hnd, hok⟩
    have hgm : gt r.l i ∈ r.l := by rw [gt_eq hi]; exact List.getElem_mem _
    have et : r.l.take (i + 1) = r.l.take i ++ [gt r.l i] := by rw [gt_eq hi, List.take_append_getElem hi]
    have hsplit : r.l = r.l.take i ++ gt r.l i :: r.l.drop (i + 1) := by
      rw [gt_eq hi, ← List.drop_eq_getElem_cons hi, List.take_append_drop]
    by_cases hm : gt r.l i ∈ r.l.take i
    · right
      obtain ⟨m2, h1, h2⟩ := mpOf_old hm 2
      have hw : wr .i64 (mpGet (mpOf (r.l.take i)) 0 (gt r.l i) + 1) = 2 := by rw [mpOf_get, if_pos hm]; rfl
      have hd : decide ((2 : Int) > 1) = true := rfl
      refine ⟨.inl (), by simp only [topo_Right_L2, lt_t hi, cond_true, ixI_of hi, Option.bind_some, hw, h1, h2, hd, Bool.or_true], fun hh => ?_⟩
      have h3 := hh.1
      rw [hsplit] at h3
      exact (List.nodup_append.1 h3).2.2 _ hm _ (List.mem_cons_self ..) rfl
    · have h1 := mpOf_new hm
      have hw : wr .i64 (mpGet (mpOf (r.l.take i)) 0 (gt r.l i) + 1) = 1 := by rw [mpOf_get, if_neg hm]; rfl
      have h2 : mpGet (mpOf (r.l.take i ++ [gt r.l i])) 0 (gt r.l i) = 1 := by rw [mpOf_get, if_pos (by simp)]
      have hd : decide ((1 : Int) > 1) = false := rfl
      have hc : ((decide (((gt r.l i).sw) < 0)) || ((decide (((gt r.l i).sw) ≥ t.Switches)) || ((decide (((gt r.l i).port) < 0)) || ((decide (((gt r.l i).port) ≥ 8)) || false)))) = true ↔ ¬ PlaceOk t (gt r.l i) := by
        simp only [Bool.or_eq_true, decide_eq_true_eq, PlaceOk, Bool.false_eq_true, or_false]; omega
      by_cases hp : PlaceOk t (gt r.l i)
      · left
        have hc2 : ((decide (((gt r.l i).sw) < 0)) || ((decide (((gt r.l i).sw) ≥ t.Switches)) || ((decide (((gt r.l i).port) < 0)) || ((decide (((gt r.l i).port) ≥ 8)) || false)))) = false := by
          rw [← Bool.not_eq_true]; exact fun h => hc.1 h hp
        refine ⟨mpOf (r.l.take (i + 1)), by simp only [topo_Right_L2, lt_t hi, cond_true, ixI_of hi, Option.bind_some, hw, h1, h2, hd, hc2, cond_false, wr_s (show i < 9223372036854775807 by omega), et], rfl, ?_, ?_⟩
        · rw [et]
          exact List.nodup_append.2 ⟨hnd, by simp, fun a ha b hb => by rw [List.mem_singleton] at hb; subst hb; exact fun e => hm (e ▸ ha)⟩
        · intro p hpm
          rw [et] at hpm
          rcases List.mem_append.1 hpm with h | h
          · exact hok p h
          · rw [List.mem_singleton] at h; subst h; exact hp
      · right
        exact ⟨.inl (), by simp only [topo_Right_L2, lt_t hi, cond_true, ixI_of hi, Option.bind_some, hw, h1, h2, hd, hc.2 hp], fun hh => hp (hh.2 _ hgm)⟩
  · rintro m ⟨_, hnd, hok⟩
    rw [List.take_length] at hnd hok
    exact ⟨.inr (), by simp only [topo_Right_L2, lt_f, cond_false], hnd, hok⟩
  · rw [e0] at q1
    exact ⟨b, q1, q2⟩

theorem topo_right {t : api_Topo} : topo_Right t = some (decide (Valid t)) := by
  unfold topo_Right
  by_cases hs : (1 ≤ t.Switches ∧ t.Switches ≤ 8) ∧ t.Links.l.length ≤ 24 ∧ t.Hosts.l.length ≤ 8
  · have hc : ((decide (t.Switches < 1)) || ((decide (t.Switches > 8)) || ((decide ((t.Links.l.length : Int) > 24)) || (decide ((t.Hosts.l.length : Int) > 8))))) = false := by
      simp only [Bool.or_eq_false_iff, decide_eq_false_iff_not]; omega
    have hl := allE (f := topo_Right_L1 t) t.Links.l (fun l => ((l.A == l.B) || ((decide (l.Least < 1)) || ((decide (l.Least > l.Most)) || (decide (l.Most > 1000)))))) (by omega) (fun i hi => by
      simp only [topo_Right_L1, lt_t hi, cond_true, ixI_of hi, Option.bind_some]
      generalize ((gt t.Links.l i).A == (gt t.Links.l i).B || _) = c
      cases c <;> rfl) (by simp only [topo_Right_L1, lt_f, cond_false])
    have hlk : ∀ l : api_Link, ((l.A == l.B) || ((decide (l.Least < 1)) || ((decide (l.Least > l.Most)) || (decide (l.Most > 1000))))) = false ↔ LinkOk l := fun l => by
      simp only [Bool.or_eq_false_iff, beq_eq_false_iff_ne, decide_eq_false_iff_not, LinkOk]; omega
    rw [hc, cond_false, hl]
    by_cases hlo : ∀ l ∈ t.Links.l, LinkOk l
    · rw [if_pos (fun l hm => (hlk l).2 (hlo l hm))]
      simp only [Option.bind_some]
      obtain ⟨s, p1, p2⟩ := places_spec hs.2.1 hs.2.2
      have hpl := places_len hs.2.1 hs.2.2
      obtain ⟨b, q1, q2⟩ := count_spec (t := t) (r := s) (by rw [p2]; omega)
      simp only [p1, Option.bind_some, q1]
      rw [p2] at q2
      cases b with
      | inl _ => exact congrArg some (decide_eq_false fun h => q2 ⟨h.nodup, h.place⟩).symm
      | inr _ => exact congrArg some (decide_eq_true ⟨hs.1, hs.2.1, hs.2.2, hlo, q2.1, q2.2⟩).symm
    · rw [if_neg (fun h => hlo fun l hm => (hlk l).1 (h l hm))]
      exact congrArg some (decide_eq_false fun h => hlo h.link).symm
  · have hc : ((decide (t.Switches < 1)) || ((decide (t.Switches > 8)) || ((decide ((t.Links.l.length : Int) > 24)) || (decide ((t.Hosts.l.length : Int) > 8))))) = true := by
      simp only [Bool.or_eq_true, decide_eq_true_eq]; omega
    rw [hc, cond_true]
    exact congrArg some (decide_eq_false fun h => hs ⟨h.sw, h.links, h.hosts⟩).symm

/-! ### Peer -/

/-- the other end -/
def peerP (sw p : Int) (i : Nat) (l : api_Link) : Option (Int × Int × Int) :=
  if sw = l.A ∧ p = l.PortA then some (l.B, l.PortB, (i : Int)) else if sw = l.B ∧ p = l.PortB then some (l.A, l.PortA, (i : Int)) else none

theorem peer_spec {t : api_Topo} (sw p : Int) (hb : t.Links.l.length < 9223372036854775808) : topo_Peer t sw p = some (match scan (peerP sw p) t.Links.l 0 with | some (a, b, c) => (a, b, c, true) | none => (0, 0, 0, false)) := by
  have h := scanE (f := topo_Peer_L1 t sw p) t.Links.l (peerP sw p) () hb (fun i hi => by
    have c1 : ((sw == ((gt t.Links.l i).A)) && ((p == ((gt t.Links.l i).PortA)) && true)) = decide (sw = (gt t.Links.l i).A ∧ p = (gt t.Links.l i).PortA) := by
      rw [Bool.eq_iff_iff]; simp
    have c2 : ((sw == ((gt t.Links.l i).B)) && ((p == ((gt t.Links.l i).PortB)) && true)) = decide (sw = (gt t.Links.l i).B ∧ p = (gt t.Links.l i).PortB) := by
      rw [Bool.eq_iff_iff]; simp
    simp only [topo_Peer_L1, lt_t hi, cond_true, ixI_of hi, Option.bind_some, c1, c2, peerP]
    by_cases h1 : sw = (gt t.Links.l i).A ∧ p = (gt t.Links.l i).PortA
    · rw [if_pos h1, decide_eq_true h1]; rfl
    · by_cases h2 : sw = (gt t.Links.l i).B ∧ p = (gt t.Links.l i).PortB
      · rw [if_neg h1, if_pos h2, decide_eq_false h1, decide_eq_true h2]; rfl
      · rw [if_neg h1, if_neg h2, decide_eq_false h1, decide_eq_false h2]; rfl) (by simp only [topo_Peer_L1, lt_f, cond_false])
  simp only [topo_Peer, h, Option.bind_some]
  cases scan (peerP sw p) t.Links.l 0 with
  | none => rfl
  | some q => obtain ⟨a, b, c⟩ := q; rfl

/-- where a link leads, there is a switch -/
theorem peer_in {t : api_Topo} (hV : Valid t) {sw p a b c : Int} (h : scan (peerP sw p) t.Links.l 0 = some (a, b, c)) : 0 ≤ a ∧ a < t.Switches := by
  obtain ⟨j, l, h1, h2, _⟩ := scan_some h
  have hm : l ∈ t.Links.l := List.mem_of_getElem? h1
  have hA : PlaceOk t ⟨l.A, l.PortA⟩ := hV.place _ (List.mem_append_left _ (List.mem_flatMap.2 ⟨l, hm, by simp⟩))
  have hB : PlaceOk t ⟨l.B, l.PortB⟩ := hV.place _ (List.mem_append_left _ (List.mem_flatMap.2 ⟨l, hm, by simp⟩))
  unfold peerP at h2
  split at h2
  · obtain ⟨rfl, _⟩ := Prod.mk.inj (Option.some.inj h2); exact hB.1
  · split at h2
    · obtain ⟨rfl, _⟩ := Prod.mk.inj (Option.some.inj h2); exact hA.1
    · simp at h2
end Go.Proofs.Ytjfhiochcdjkhaa.T
