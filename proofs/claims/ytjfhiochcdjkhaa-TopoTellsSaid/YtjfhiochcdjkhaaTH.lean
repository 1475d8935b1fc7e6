/- Topologies: how far switches are apart, and what Hops answers. Conditions: a topology that may be. -/
import Derived.Test.YtjfhiochcdjkhaaTN
open Go.Ev Go
namespace Go.Proofs.Ytjfhiochcdjkhaa.T

/-- two switches that a link joins -/
def Adj (t : api_Topo) (v w : Int) : Prop := ∃ l ∈ t.Links.l, (l.A = v ∧ l.B = w) ∨ (l.B = v ∧ l.A = w)

theorem Adj.symm {t : api_Topo} {v w : Int} (h : Adj t v w) : Adj t w v := by
  obtain ⟨l, hl, h⟩ := h
  exact ⟨l, hl, h.elim (fun h => .inr ⟨h.2, h.1⟩) fun h => .inl ⟨h.2, h.1⟩⟩

theorem link_in {t : api_Topo} (hV : Valid t) {l : api_Link} (hl : l ∈ t.Links.l) : (0 ≤ l.A ∧ l.A < t.Switches) ∧ 0 ≤ l.B ∧ l.B < t.Switches := by
  have h1 := hV.place ⟨l.A, l.PortA⟩ (by rw [places_eq]; exact List.mem_append_left _ (List.mem_flatMap.2 ⟨l, hl, by simp [endsOf]⟩))
  have h2 := hV.place ⟨l.B, l.PortB⟩ (by rw [places_eq]; exact List.mem_append_left _ (List.mem_flatMap.2 ⟨l, hl, by simp [endsOf]⟩))
  exact ⟨h1.1, h2.1⟩

theorem Adj.mem {t : api_Topo} (hV : Valid t) {v w : Int} (h : Adj t v w) : 0 ≤ w ∧ w < t.Switches := by
  obtain ⟨l, hl, h⟩ := h
  obtain ⟨h1, h2⟩ := link_in hV hl
  rcases h with ⟨_, rfl⟩ | ⟨_, rfl⟩
  · exact h2
  · exact h1

theorem near_adj {t : api_Topo} {v : Int} {x : topo_Side} (h : x ∈ nearOf t v) : Adj t v x.To := by
  obtain ⟨i, l, b, h1, h2, _⟩ := mem_near.1 h
  refine ⟨l, List.mem_of_getElem? h1, ?_⟩
  rcases h2 with ⟨rfl, _, h3, _⟩ | ⟨rfl, _, h3, _⟩
  · exact .inl ⟨rfl, h3.symm⟩
  · exact .inr ⟨rfl, h3.symm⟩

theorem adj_near {t : api_Topo} {v w : Int} (h : Adj t v w) : ∃ x ∈ nearOf t v, x.To = w := by
  obtain ⟨l, hl, h⟩ := h
  obtain ⟨i, hi, rfl⟩ := List.getElem_of_mem hl
  have e : t.Links.l[i]? = some t.Links.l[i] := List.getElem?_eq_getElem hi
  rcases h with ⟨rfl, rfl⟩ | ⟨rfl, rfl⟩
  · exact ⟨⟨t.Links.l[i].PortA, t.Links.l[i].B, (i : Int)⟩, mem_near.2 ⟨i, _, _, e, .inl ⟨rfl, rfl, rfl, rfl⟩, rfl⟩, rfl⟩
  · exact ⟨⟨t.Links.l[i].PortB, t.Links.l[i].A, (i : Int)⟩, mem_near.2 ⟨i, _, _, e, .inr ⟨rfl, rfl, rfl, rfl⟩, rfl⟩, rfl⟩

inductive Walk (t : api_Topo) : Nat → Int → Int → Prop
  | zero (u : Int) : Walk t 0 u u
  | step {n : Nat} {u v w : Int} (h : Walk t n u v) (ha : Adj t v w) : Walk t (n + 1) u w

theorem Walk.trans {t : api_Topo} {n m : Nat} {u v w : Int} (h1 : Walk t n u v) (h2 : Walk t m v w) : Walk t (n + m) u w := by
  induction h2 with
  | zero => exact h1
  | step _ ha ih => exact .step (ih h1) ha
theorem Walk.symm {t : api_Topo} {n : Nat} {u v : Int} (h : Walk t n u v) : Walk t n v u := by
  induction h with
  | zero => exact .zero _
  | @step n u v w _ ha ih =>
    have := Walk.trans (.step (.zero w) ha.symm) ih
    rwa [Nat.zero_add, Nat.add_comm] at this

/-- how far switches are from one; -1: they are not reached -/
structure IsDist (t : api_Topo) (u : Int) (d : List Int) : Prop where
  len : (d.length : Int) = t.Switches
  lo : ∀ v : Nat, v < d.length → -1 ≤ gt d v ∧ gt d v < d.length
  walk : ∀ v : Nat, v < d.length → 0 ≤ gt d v → Walk t (gt d v).toNat u v
  least : ∀ (n v : Nat), v < d.length → Walk t n u v → 0 ≤ gt d v ∧ gt d v ≤ n

/-- those that are not reached yet -/
def undisc (d : List Int) : Nat := d.countP (fun x => decide (x < 0))

theorem undisc_set {d : List Int} {n : Nat} {x : Int} (hn : n < d.length) (h : gt d n < 0) (hx : 0 ≤ x) : undisc (d.set n x) + 1 = undisc d := by
  unfold undisc
  rw [List.countP_set hn, ← gt_eq hn]
  have h1 : decide (gt d n < 0) = true := decide_eq_true h
  have h2 : decide (x < 0) = false := decide_eq_false (by omega)
  have h3 : 0 < d.countP (fun x => decide (x < 0)) := List.countP_pos_iff.2 ⟨gt d n, by rw [gt_eq hn]; exact List.getElem_mem _, h1⟩
  simp only [h1, h2, if_true, Bool.false_eq_true, if_false]
  omega

structure Bfs (t : api_Topo) (u : Nat) (d q : List Int) : Prop where
  len : (d.length : Int) = t.Switches
  ulen : u < d.length
  lo : ∀ v : Nat, v < d.length → -1 ≤ gt d v
  walk : ∀ v : Nat, v < d.length → 0 ≤ gt d v → Walk t (gt d v).toNat (u : Int) v
  q_ok : ∀ x ∈ q, ∃ n : Nat, x = (n : Int) ∧ n < d.length ∧ 0 ≤ gt d n
  mono : q.Pairwise (fun x y => gt d x.toNat ≤ gt d y.toNat)
  top : ∀ h, q.head? = some h → ∀ v : Nat, v < d.length → gt d v ≤ gt d h.toNat + 1
  done : ∀ v : Nat, v < d.length → 0 ≤ gt d v → (v : Int) ∉ q → ∀ w : Nat, Adj t v w → 0 ≤ gt d w ∧ gt d w ≤ gt d v + 1
  start : gt d u = 0
  bound : ∀ v : Nat, v < d.length → gt d v + undisc d + 1 ≤ d.length
  count : q.length + undisc d ≤ d.length

theorem Bfs.push {t : api_Topo} {u : Nat} {d q : List Int} (h : Bfs t u d q) {hd : Nat} (hq : q.head? = some (hd : Int)) {w : Nat} (hw : w < d.length) (hlt : gt d w < 0) (ha : Adj t hd w) :
    Bfs t u (d.set w (gt d hd + 1)) (q ++ [(w : Int)]) ∧ undisc (d.set w (gt d hd + 1)) + 1 = undisc d ∧ ∀ v : Nat, 0 ≤ gt d v → gt (d.set w (gt d hd + 1)) v = gt d v := by
  have hhm : (hd : Int) ∈ q := List.mem_of_head? hq
  obtain ⟨n0, e0, hhl, hh0⟩ := h.q_ok _ hhm
  obtain rfl : hd = n0 := by omega
  have hu := undisc_set hw hlt (show 0 ≤ gt d hd + 1 by omega)
  have hg : ∀ v : Nat, gt (d.set w (gt d hd + 1)) v = if w = v then gt d hd + 1 else gt d v := fun v => gt_set hw
  have hsame : ∀ v : Nat, 0 ≤ gt d v → gt (d.set w (gt d hd + 1)) v = gt d v := fun v hv => by
    rw [hg, if_neg]; rintro rfl; omega
  have hqs : ∀ x ∈ q, gt (d.set w (gt d hd + 1)) x.toNat = gt d x.toNat := fun x hx => by
    obtain ⟨n, rfl, _, hn⟩ := h.q_ok x hx
    exact hsame _ (by simpa using hn)
  refine ⟨⟨by rw [List.length_set]; exact h.len, by rw [List.length_set]; exact h.ulen, fun v hv => ?_, fun v hv h0 => ?_, fun x hx => ?_, ?_, fun x hx v hv => ?_, fun v hv h0 hn y hy => ?_, ?_, fun v hv => ?_, ?_⟩, hu, hsame⟩
  · rw [List.length_set] at hv
    rw [hg]; split
    · omega
    · exact h.lo v hv
  · rw [List.length_set] at hv
    rw [hg] at h0 ⊢
    split
    · rename_i e
      subst e
      have := Walk.step (h.walk hd hhl hh0) ha
      have e : (gt d hd + 1).toNat = (gt d hd).toNat + 1 := by omega
      rw [e]; exact this
    · rename_i e; rw [if_neg e] at h0; exact h.walk v hv h0
  · rcases List.mem_append.1 hx with hx | hx
    · obtain ⟨n, rfl, h1, h2⟩ := h.q_ok x hx
      exact ⟨n, rfl, by rw [List.length_set]; exact h1, by rw [hsame n h2]; exact h2⟩
    · obtain rfl := List.mem_singleton.1 hx
      exact ⟨w, rfl, by rw [List.length_set]; exact hw, by rw [hg, if_pos rfl]; omega⟩
  · rw [List.pairwise_append]
    refine ⟨?_, by simp, fun x hx y hy => ?_⟩
    · refine List.Pairwise.imp_of_mem (fun {x y} hx hy hxy => ?_) h.mono
      rw [hqs x hx, hqs y hy]; exact hxy
    · obtain rfl := List.mem_singleton.1 hy
      rw [hqs x hx, Int.toNat_natCast, hg, if_pos rfl]
      obtain ⟨n, rfl, h1, _⟩ := h.q_ok x hx
      have := h.top _ hq n h1
      simpa using this
  · rw [List.length_set] at hv
    have hx2 : x = (hd : Int) := by
      cases q with
      | nil => simp at hq
      | cons a q =>
        simp only [List.cons_append, List.head?_cons, Option.some.injEq] at hx hq
        omega
    subst hx2
    rw [hqs _ hhm, hg]
    split
    · simp
    · exact h.top _ hq v hv
  · rw [List.length_set] at hv
    have hvw : w ≠ v := by rintro rfl; exact hn (List.mem_append_right _ (by simp))
    rw [hg v, if_neg hvw] at h0
    rw [hg v, if_neg hvw]
    have h1 := h.done v hv h0 (fun hm => hn (List.mem_append_left _ hm)) y hy
    rw [hsame y h1.1]; exact h1
  · rw [hsame u (by rw [h.start]; exact Int.le_refl _)]; exact h.start
  · rw [List.length_set] at hv ⊢
    rw [hg]; split
    · have := h.bound hd hhl; omega
    · have := h.bound v hv; omega
  · have := h.count
    rw [List.length_append, List.length_set, List.length_singleton]; omega

/-- the neighbours of the first in the queue -/
theorem hops_inner {t : api_Topo} (hV : Valid t) {u : Nat} {d q : List Int} (hI : Bfs t u d q) {hd : Nat} (hq : q.head? = some (hd : Int)) {r : Sl topo_Side} (hr : r.l = nearOf t hd) (hrl : r.l.length ≤ 8) :
    ∃ d' q', loopO (topo_Hops_L2 r) (d, q, 0) = some (d', q') ∧ Bfs t u d' q' ∧ q'.head? = some (hd : Int) ∧ q'.length + undisc d' = q.length + undisc d ∧ ∀ w : Nat, Adj t hd w → 0 ≤ gt d' w ∧ gt d' w ≤ gt d' hd + 1 := by
  have e0 : ((0 : Nat) : Int) = 0 := rfl
  have h8 : t.Switches ≤ 8 := hV.sw.2
  refine forE (f := topo_Hops_L2 r) (fun i (s : List Int × List Int) => (s.1, s.2, (i : Int))) r.l.length
    (fun i s => Bfs t u s.1 s.2 ∧ s.2.head? = some (hd : Int) ∧ s.2.length + undisc s.1 = q.length + undisc d ∧ ∀ x ∈ r.l.take i, 0 ≤ gt s.1 x.To.toNat ∧ gt s.1 x.To.toNat ≤ gt s.1 hd + 1)
    (fun b => Bfs t u b.1 b.2 ∧ b.2.head? = some (hd : Int) ∧ b.2.length + undisc b.1 = q.length + undisc d ∧ ∀ x ∈ r.l, 0 ≤ gt b.1 x.To.toNat ∧ gt b.1 x.To.toNat ≤ gt b.1 hd + 1) ?_ ?_ 0 (d, q) (Nat.zero_le _) ⟨hI, hq, rfl, fun x hx => by simp at hx⟩ (fun b q1 q2 => ?_)
  · rintro i ⟨d1, q1⟩ hi ⟨h1, h2, h3, h4⟩
    left
    simp only at h1 h2 h3 h4
    have hm : gt r.l i ∈ nearOf t hd := by rw [← hr, gt_eq hi]; exact List.getElem_mem _
    have ha := near_adj hm
    have hin := ha.mem hV
    obtain ⟨w, hw⟩ : ∃ w : Nat, (gt r.l i).To = (w : Int) := ⟨(gt r.l i).To.toNat, by omega⟩
    have hwl : w < d1.length := by have := h1.len; omega
    have hhm : (hd : Int) ∈ q1 := List.mem_of_head? h2
    obtain ⟨n0, e1, hhl, hh0⟩ := h1.q_ok _ hhm
    obtain rfl : hd = n0 := by omega
    have et : r.l.take (i + 1) = r.l.take i ++ [gt r.l i] := by rw [gt_eq hi, List.take_append_getElem hi]
    have i1 : ixI (gt r.l i).To d1.length = some w := by rw [hw]; exact ixI_of hwl
    have w3 := wr_s (show i < 9223372036854775807 by omega)
    by_cases hc : gt d1 w < 0
    · have hd1 : decide (gt d1 w < 0) = true := decide_eq_true hc
      have hne : q1 ≠ [] := by rintro rfl; simp at h2
      have hqpos : 0 < q1.length := List.length_pos_iff.2 hne
      have i2 : ixI 0 q1.length = some 0 := ixI_of (i := 0) hqpos
      have hg0 : gt q1 0 = (hd : Int) := by
        cases q1 with
        | nil => exact absurd rfl hne
        | cons a q1 => simpa [gt] using h2
      have i3 : ixI (gt q1 0) d1.length = some hd := by rw [hg0]; exact ixI_of hhl
      have hb := h1.bound hd hhl
      have hlen := h1.len
      have hcnt := h1.count
      have hcap : capI (q1 ++ [(gt r.l i).To]) = some (q1 ++ [(w : Int)]) := by rw [hw]; exact capI_of (by rw [List.length_append, List.length_singleton]; omega)
      have hwr : wr .i64 (gt d1 hd + 1) = gt d1 hd + 1 := wr_id (by omega) (by omega)
      obtain ⟨p1, p2, p3⟩ := h1.push h2 hwl hc (hw ▸ ha)
      refine ⟨(d1.set w (gt d1 hd + 1), q1 ++ [(w : Int)]), by simp only [topo_Hops_L2, lt_t hi, cond_true, ixI_of hi, Option.bind_some, i1, hd1, i2, i3, hcap, hwr, w3], p1, ?_, ?_, fun x hx => ?_⟩
      · cases q1 with
        | nil => exact absurd rfl hne
        | cons a q1 => simpa using h2
      · simp only [List.length_append, List.length_singleton]; omega
      · simp only
        rw [et] at hx
        rw [p3 hd hh0]
        rcases List.mem_append.1 hx with hx | hx
        · have := h4 x hx
          rw [p3 _ this.1]; exact this
        · obtain rfl := List.mem_singleton.1 hx
          rw [hw, Int.toNat_natCast, gt_set hwl, if_pos rfl]; omega
    · have hd1 : decide (gt d1 w < 0) = false := decide_eq_false hc
      refine ⟨(d1, q1), by simp only [topo_Hops_L2, lt_t hi, cond_true, ixI_of hi, Option.bind_some, i1, hd1, cond_false, w3], h1, h2, h3, fun x hx => ?_⟩
      rw [et] at hx
      rcases List.mem_append.1 hx with hx | hx
      · exact h4 x hx
      · obtain rfl := List.mem_singleton.1 hx
        rw [hw, Int.toNat_natCast]
        have := h1.top _ h2 w hwl
        rw [Int.toNat_natCast] at this
        simp only
        omega
  · rintro ⟨d1, q1⟩ ⟨h1, h2, h3, h4⟩
    rw [List.take_length] at h4
    exact ⟨(d1, q1), by simp only [topo_Hops_L2, lt_f, cond_false], h1, h2, h3, h4⟩
  · rw [e0] at q1
    obtain ⟨h1, h2, h3, h4⟩ := q2
    refine ⟨b.1, b.2, q1, h1, h2, h3, fun w hw => ?_⟩
    obtain ⟨x, hx, he⟩ := adj_near hw
    have := h4 x (by rw [hr]; exact hx)
    rwa [he, Int.toNat_natCast] at this

theorem hops_loop {t : api_Topo} (hV : Valid t) {u : Nat} {d q : List Int} (hI : Bfs t u d q) : ∃ d', loopO (topo_Hops_L1 t) (d, q) = some d' ∧ Bfs t u d' [] := by
  refine whileE (f := topo_Hops_L1 t) (fun s => s.2.length + undisc s.1) (fun s => Bfs t u s.1 s.2) (fun d' => Bfs t u d' []) ?_ (d, q) hI fun b h1 h2 => ⟨b, h1, h2⟩
  rintro ⟨d1, q1⟩ h
  simp only at h
  cases q1 with
  | nil => right; exact ⟨d1, by simp only [topo_Hops_L1]; rfl, h⟩
  | cons a q1 =>
    left
    obtain ⟨hd, rfl, _, _⟩ := h.q_ok a (List.mem_cons_self ..)
    obtain ⟨s, hs, hsl⟩ := near_spec hV (hd : Int)
    have hs8 : s.l.length ≤ 8 := by rw [hsl, nearOf, insAll_length]; exact raw_len hV _
    obtain ⟨d', q', k1, k2, k3, k4, k5⟩ := hops_inner hV h rfl hsl hs8
    have hdec : decide ((((((hd : Int) :: q1).length : Nat)) : Int) > 0) = true := by rw [decide_eq_true_eq]; simp only [List.length_cons]; omega
    have i1 : ixI 0 (((hd : Int) :: q1).length) = some 0 := ixI_of (i := 0) (by simp)
    cases q' with
    | nil => simp at k3
    | cons b q' =>
      obtain rfl : b = (hd : Int) := by simpa using k3
      have hcut : cutI ((hd : Int) :: q') 1 (((hd : Int) :: q').length) = some q' := by
        refine cutI_some.2 ⟨by simp only [List.length_cons]; omega, ?_⟩
        simp
      refine ⟨(d', q'), by simp only [topo_Hops_L1, hdec, cond_true, i1, Option.bind_some, show gt ((hd : Int) :: q1) 0 = (hd : Int) from rfl, hs, k1, hcut], ?_, ?_⟩
      · show Bfs t u d' q'
        refine ⟨k2.len, k2.ulen, k2.lo, k2.walk, fun x hx => k2.q_ok x (List.mem_cons_of_mem _ hx), (List.pairwise_cons.1 k2.mono).2, fun x hx v hv => ?_, fun v hv h0 hn w hw => ?_, k2.start, k2.bound, ?_⟩
        · have h1 := k2.top _ rfl v hv
          have h2 := (List.pairwise_cons.1 k2.mono).1 x (List.mem_of_head? hx)
          omega
        · by_cases he : v = hd
          · subst he; exact k5 w hw
          · exact k2.done v hv h0 (fun hm => by
              rcases List.mem_cons.1 hm with h | h
              · omega
              · exact hn h) w hw
        · have := k2.count
          simp only [List.length_cons] at this; omega
      · simp only [List.length_cons] at k4 ⊢; omega

theorem Walk.mem {t : api_Topo} (hV : Valid t) {n : Nat} {u v : Int} (h : Walk t n u v) (hu : 0 ≤ u ∧ u < t.Switches) : 0 ≤ v ∧ v < t.Switches := by
  cases h with
  | zero => exact hu
  | step _ ha => exact ha.mem hV

theorem bfs_dist {t : api_Topo} (hV : Valid t) {u : Nat} {d : List Int} (h : Bfs t u d []) : IsDist t u d := by
  have h8 := hV.sw.2
  have hl := h.len
  refine ⟨h.len, fun v hv => ⟨h.lo v hv, ?_⟩, h.walk, ?_⟩
  · have := h.bound v hv; omega
  · have key : ∀ (n : Nat) (w : Int), Walk t n (u : Int) w → ∀ v : Nat, w = (v : Int) → 0 ≤ gt d v ∧ gt d v ≤ n := by
      intro n
      induction n with
      | zero =>
        intro w hw v hv
        cases hw
        obtain rfl : u = v := by omega
        rw [h.start]; omega
      | succ n ih =>
        intro w hw v hv
        cases hw with
        | @step _ _ x _ hx ha =>
          have hxm := hx.mem hV ⟨by omega, by have := h.ulen; omega⟩
          have e : x = ((x.toNat : Nat) : Int) := by omega
          have h1 := ih x hx x.toNat e
          have h2 := h.done x.toNat (by omega) h1.1 (by simp) v (by rw [← e, ← hv]; exact ha)
          omega
    exact fun n v hv hw => key n v hw v rfl

theorem repeat_spec {s : Int} (h1 : 1 ≤ s) (h2 : s ≤ 8) : slices_Repeat_int_int (Sl.mk [(-1)]) s = some (Sl.mk (List.replicate s.toNat (-1))) := by
  have : ∀ k : Fin 8, slices_Repeat_int_int_c (Sl.mk [(-1)]) ((k.val : Int) + 1) = some (Sl.mk (List.replicate (k.val + 1) (-1))) := by decide +kernel
  have h3 := this ⟨(s - 1).toNat, by omega⟩
  simp only at h3
  have e1 : (((s - 1).toNat : Nat) : Int) + 1 = s := by omega
  have e2 : (s - 1).toNat + 1 = s.toNat := by omega
  rw [e1, e2] at h3
  exact slices_Repeat_int_int_le _ _ _ h3

theorem gt_rep {n v : Nat} (h : v < n) : gt (List.replicate n (-1 : Int)) v = -1 := by
  rw [gt_eq (by simpa using h)]; simp

theorem hops_out {t : api_Topo} (hV : Valid t) {sw : Int} (h : ¬ (0 ≤ sw ∧ sw < t.Switches)) : topo_Hops t sw = some (.mk (List.replicate t.Switches.toNat (-1))) := by
  have e : (if 0 > t.Switches then 0 else t.Switches) = t.Switches := if_neg (by have := hV.sw; omega)
  have hc : ((decide (sw < 0)) || (decide (sw ≥ t.Switches))) = true := by simp only [Bool.or_eq_true, decide_eq_true_eq]; omega
  simp only [topo_Hops, e, repeat_spec hV.sw.1 hV.sw.2, Option.bind_some, hc, cond_true]

theorem hops_spec {t : api_Topo} (hV : Valid t) {sw : Int} (h : 0 ≤ sw ∧ sw < t.Switches) : ∃ d, topo_Hops t sw = some (.mk d) ∧ IsDist t sw d := by
  have e : (if 0 > t.Switches then 0 else t.Switches) = t.Switches := if_neg (by have := hV.sw; omega)
  have hc : ((decide (sw < 0)) || (decide (sw ≥ t.Switches))) = false := by simp only [Bool.or_eq_false_iff, decide_eq_false_iff_not]; omega
  obtain ⟨u, rfl⟩ : ∃ u : Nat, sw = (u : Int) := ⟨sw.toNat, by omega⟩
  have hul : u < (List.replicate t.Switches.toNat (-1 : Int)).length := by simp; omega
  have i1 : ixI (u : Int) (List.replicate t.Switches.toNat (-1 : Int)).length = some u := ixI_of hul
  have hlen : ((List.replicate t.Switches.toNat (-1 : Int)).set u 0).length = t.Switches.toNat := by simp
  have hg : ∀ v : Nat, v < t.Switches.toNat → gt ((List.replicate t.Switches.toNat (-1 : Int)).set u 0) v = if u = v then 0 else -1 := fun v hv => by
    rw [gt_set hul, gt_rep hv]
  have hun : undisc ((List.replicate t.Switches.toNat (-1 : Int)).set u 0) + 1 = t.Switches.toNat := by
    rw [undisc_set hul (by rw [gt_rep (by simpa using hul)]; decide) (Int.le_refl 0)]
    simp [undisc, List.countP_replicate]
  have hB : Bfs t u ((List.replicate t.Switches.toNat (-1 : Int)).set u 0) [(u : Int)] := by
    refine ⟨by rw [hlen]; omega, by rw [hlen]; omega, fun v hv => ?_, fun v hv h0 => ?_, fun x hx => ?_, by simp, fun x hx v hv => ?_, fun v hv h0 hn => ?_, ?_, fun v hv => ?_, ?_⟩
    · rw [hlen] at hv; rw [hg v hv]; split <;> omega
    · rw [hlen] at hv; rw [hg v hv] at h0 ⊢
      split
      · rename_i e; subst e; exact .zero _
      · rename_i e; rw [if_neg e] at h0; omega
    · obtain rfl := List.mem_singleton.1 hx
      exact ⟨u, rfl, by rw [hlen]; omega, by rw [hg u (by omega), if_pos rfl]; exact Int.le_refl _⟩
    · obtain rfl : (u : Int) = x := by simpa using hx
      rw [hlen] at hv
      rw [hg v hv, Int.toNat_natCast, hg u (by omega), if_pos rfl]
      split <;> omega
    · rw [hlen] at hv
      rw [hg v hv] at h0
      split at h0
      · rename_i e; subst e; exact absurd (List.mem_singleton.2 rfl) hn
      · omega
    · rw [hg u (by omega), if_pos rfl]
    · rw [hlen] at hv ⊢
      rw [hg v hv]
      split <;> omega
    · rw [hlen, List.length_singleton]; omega
  obtain ⟨d, h1, h2⟩ := hops_loop hV hB
  exact ⟨d, by simp only [topo_Hops, e, repeat_spec hV.sw.1 hV.sw.2, Option.bind_some, hc, cond_false, sl_mk, i1, h1], bfs_dist hV h2⟩
end Go.Proofs.Ytjfhiochcdjkhaa.T
