/- Routes: what the program's Walk, Far and Good answer, of routes that are good. Conditions: as stated. -/
import Derived.Test.YthcplpfiidlinaaLR
open Go.Ev Go
namespace Go.Proofs.Ythcplpfiidlinaa.L
def GoodP (t : api_Topo) (r : Sl (Sl Int)) : Prop := RValid t r ∧ ∀ s, s < r.l.length → ∀ h, h < t.Hosts.l.length → ∃ k, Away t r h s k
section
variable {t : api_Topo} {r : Sl (Sl Int)} {h : Nat}
theorem q8b (hS : q65 t r) : q7j t r = some (tt (GoodP t r)) := by
 unfold q7j
 simp only [q7c hS, Option.bind_some]
 by_cases hV : RValid t r
 rotate_left
 ·rw [decide_eq_false hV, qkf fun h => hV h.1]; rfl
 have hsm := hV.small
 have hho := hV.hosts
 have hin : ∀ s : Nat, s < r.l.length → q0e (q3c t r (s : Int)) 0 = some (bif tt (∀ h, h < t.Hosts.l.length → ∃ k, Away t r h s k) then .inr () else .inl false) := by
  intro s hs
  have h1 := qbs (f := q3c t r (s : Int)) (List.range t.Hosts.l.length) (fun _ h => bif tt (∃ k, Away t r h s k) then none else some false) () (by simp; omega) (fun i hi => by
   have hi : i < t.Hosts.l.length := by simpa using hi
   have hg : gt (List.range t.Hosts.l.length) i = i := by rw [q22 (by simpa using hi)]; simp
   rw [hg]
   by_cases hk : ∃ k, Away t r i s k
   ·obtain ⟨k, hk⟩ := hk
    obtain ⟨l, h2, _⟩ := qcg hS hV hi hs hk
    rw [qrj ⟨k, hk⟩]
    simp only [q3c, q4n hi, cond_true, h2, Option.bind_some, bne_self_eq_false, cond_false]
   ·obtain ⟨e, h2, h3⟩ := qil hS hV hi hs (fun k hh => hk ⟨k, hh⟩)
    have h4 : (e != 0) = true := by simpa using h3
    rw [qkf hk]
    simp only [q3c, q4n hi, cond_true, h2, Option.bind_some, h4, cond_false]) (by simp only [q3c, List.length_range, q77, cond_false])
  rw [h1]
  cases hc : qap (fun _ h => bif tt (∃ k, Away t r h s k) then none else some false) (List.range t.Hosts.l.length) 0 with
  | none =>
   rw [qrj]
   ·rfl
   intro h hh
   have := q33.1 hc h h (by simp [hh])
   apply Classical.byContradiction
   intro hn
   rw [qkf hn] at this; simp at this
  | some b =>
   obtain ⟨j, x, h2, h3, _⟩ := q5z hc
   have hx : x < t.Hosts.l.length := by have := List.mem_of_getElem? h2; simpa using this
   cases hq : tt (∃ k, Away t r x s k) with
   | true => rw [hq] at h3; simp at h3
   | false =>
    rw [hq] at h3
    obtain rfl : false = b := by simpa using h3
    rw [qkf]
    ·rfl
    exact fun hall => qdd.1 hq (hall x hx)
 have h1 := qbs (f := q5f t r) (List.range r.l.length) (fun _ s => bif tt (∀ h, h < t.Hosts.l.length → ∃ k, Away t r h s k) then none else some false) () (by simp; omega) (fun i hi => by
  have hi : i < r.l.length := by simpa using hi
  have hg : gt (List.range r.l.length) i = i := by rw [q22 (by simpa using hi)]; simp
  rw [hg]
  simp only [q5f, q4n hi, cond_true, hin i hi]
  by_cases hk : ∀ h, h < t.Hosts.l.length → ∃ k, Away t r h i k
  ·rw [qrj hk]; rfl
  ·rw [qkf hk]; rfl) (by simp only [q5f, List.length_range, q77, cond_false])
 rw [decide_eq_true hV]
 simp only [Bool.not_true, cond_false, h1]
 cases hc : qap (fun _ s => bif tt (∀ h, h < t.Hosts.l.length → ∃ k, Away t r h s k) then none else some false) (List.range r.l.length) 0 with
 | none =>
  rw [qrj]
  ·rfl
  ·refine ⟨hV, fun s hs => ?_⟩
   have := q33.1 hc s s (by simp [hs])
   apply Classical.byContradiction
   intro hn
   rw [qkf hn] at this; simp at this
 | some b =>
  obtain ⟨j, x, h2, h3, _⟩ := q5z hc
  have hx : x < r.l.length := by have := List.mem_of_getElem? h2; simpa using this
  cases hq : tt (∀ h, h < t.Hosts.l.length → ∃ k, Away t r h x k) with
  | true => rw [hq] at h3; simp at h3
  | false =>
   rw [hq] at h3
   obtain rfl : false = b := by simpa using h3
   rw [qkf fun hG => qdd.1 hq (hG.2 x hx)]; rfl
noncomputable def dist (t : api_Topo) (r : Sl (Sl Int)) (h s : Nat) : Nat := open Classical in if hk : ∃ k, Away t r h s k then Classical.choose hk else 0
theorem qt4 {s k : Nat} (ha : Away t r h s k) : dist t r h s = k := by
 have hk : ∃ k, Away t r h s k := ⟨k, ha⟩
 unfold dist
 rw [dif_pos hk]
 exact (Classical.choose_spec hk).uniq ha
theorem GoodP.dist (hG : GoodP t r) {s : Nat} (hs : s < r.l.length) (hh : h < t.Hosts.l.length) : Away t r h s (dist t r h s) := by
 obtain ⟨k, hk⟩ := hG.2 s hs h hh
 rw [qt4 hk]; exact hk
theorem GoodP.lt (hG : GoodP t r) {s : Nat} (hs : s < r.l.length) (hh : h < t.Hosts.l.length) : L.dist t r h s < r.l.length := (hG.dist hs hh).lt hG.1 hs
noncomputable def qcx (t : api_Topo) (r : Sl (Sl Int)) (h : Nat) : List Int := (List.range r.l.length).map fun s => (dist t r h s : Int)
theorem qdf : (qcx t r h).length = r.l.length := by simp [qcx]
theorem qu7 {s : Nat} (hs : s < r.l.length) : gt (qcx t r h) s = (dist t r h s : Int) := by
 rw [q22 (by rw [qdf]; exact hs)]; simp [qcx]
theorem qox {n : Nat} : ((List.range (n + 1)).map fun s => (dist t r h s : Int)) = ((List.range n).map fun s => (dist t r h s : Int)) ++ [(dist t r h n : Int)] := by
 rw [List.range_succ, List.map_append]; rfl
theorem qsz (hh : h < t.Hosts.l.length) : (((!true) || (decide ((h : Int) < 0))) || (decide ((h : Int) ≥ (t.Hosts.l.length : Int)))) = false := by
 simp only [Bool.not_true, Bool.false_or, Bool.or_eq_false_iff, decide_eq_false_iff_not]; omega
theorem qb4 (hV : RValid t r) {s : Nat} (hs : s < r.l.length) (hh : h < t.Hosts.l.length) : q4s r (s : Int) (h : Int) = some (q18 r h s, true) := by
 have h1 : decide ((s : Int) < 0) = false := by rw [decide_eq_false_iff_not]; omega
 have h2 : decide ((s : Int) ≥ (r.l.length : Int)) = false := by rw [decide_eq_false_iff_not]; omega
 have h3 : decide ((h : Int) < 0) = false := by rw [decide_eq_false_iff_not]; omega
 have hrl := hV.row hs
 have h4 : decide ((h : Int) ≥ ((gt r.l s).l.length : Int)) = false := by rw [decide_eq_false_iff_not]; omega
 have hhl : h < (gt r.l s).l.length := by omega
 simp only [q4s, h1, h2, h3, Bool.or_self, cond_false, q07 hs, Option.bind_some, h4, q07 hhl, q18]
theorem qe1 (hV : RValid t r) (hh : h < t.Hosts.l.length) {s : Nat} (hs : s < r.l.length) :
  q5q t r (s : Int) (h : Int) = some ((qdo t s (q18 r h s)).1, (qdo t s (q18 r h s)).2.2.2) := by
 have hlk := hV.topo.links
 simp only [q5q, qb4 hV hs hh, Option.bind_some, Bool.not_true, cond_false, qtv _ _ (show t.Links.l.length < 9223372036854775808 by omega)]
def q2j (l : List Nat) : List Int := l.map fun (x : Nat) => (x : Int)
theorem q57 (l : List Nat) : (q2j l).length = l.length := by simp [q2j]
theorem qda (l : List Nat) (i : Nat) : gt (q2j l) i = ((gt l i : Nat) : Int) := by
 simp only [gt, q2j, List.getD_eq_getElem?_getD, List.getElem?_map]
 cases l[i]? <;> rfl
theorem qt9 {l : List Nat} {k : Nat} : (k : Int) ∈ q2j l ↔ k ∈ l := by
 simp only [q2j, List.mem_map]
 exact ⟨fun ⟨y, hy, e⟩ => by rw [show k = y by omega]; exact hy, fun h => ⟨k, h, rfl⟩⟩
theorem qhx (l : List Nat) (k : Nat) : q2j l ++ [(k : Int)] = q2j (l ++ [k]) := by simp [q2j]
theorem q5g {s : Sl Int} (x : Int) (hb : s.l.length < 9223372036854775808) : q0i s x = some (decide (x ∈ s.l)) := by
 have h := qbs (f := q13 s x) s.l (fun i y => if x = y then some (i : Int) else none) () hb (fun i hi => by
  have e : (x == gt s.l i) = decide (x = gt s.l i) := by rw [Bool.eq_iff_iff]; simp
  simp only [q13, q4n hi, cond_true, q07 hi, Option.bind_some, e]
  by_cases hc : x = gt s.l i
  ·rw [if_pos hc, decide_eq_true hc]; rfl
  ·rw [if_neg hc, decide_eq_false hc]; rfl) (by simp only [q13, q77, cond_false])
 simp only [q0i, q1g, h, Option.bind_some]
 cases hs : qap (fun i y => if x = y then some (i : Int) else none) s.l 0 with
 | none =>
  have hn : x ∉ s.l := by
   intro hx
   obtain ⟨j, hj, e⟩ := List.getElem_of_mem hx
   have := q33.1 hs j s.l[j] (by simp [hj])
   rw [if_pos e.symm] at this; simp at this
  rw [decide_eq_false hn]; rfl
 | some b =>
  obtain ⟨j, y, h1, h2, _⟩ := q5z hs
  split at h2
  ·rename_i hx
   obtain rfl := Option.some.inj h2
   rw [decide_eq_true (by rw [hx]; exact List.mem_of_getElem? h1)]
   simp only [Option.bind_some, Option.some.injEq, decide_eq_true_eq]; omega
  ·simp at h2
theorem qbp {l : List Nat} {x : Nat} (hb : l.length < 1000000) : q1n (.mk (q2j (l ++ [x]))) = some (decide (x ∈ l)) := by
 have main : ∀ s : Sl Int, s = .mk (q2j (l ++ [x])) → q1n s = some (decide (x ∈ l)) := by
  intro s hs
  have hsl : s.l = q2j (l ++ [x]) := by rw [hs]; rfl
  have hlen : s.l.length = l.length + 1 := by rw [hsl, q57]; simp
  have h0 : decide ((s.l.length : Int) > 0) = true := by rw [decide_eq_true_eq]; omega
  have hw : wr .i64 ((s.l.length : Int) - 1) = (l.length : Int) := by rw [hlen, q2l (by omega) (by omega)]; omega
  have hcut : qk2 s.l 0 (l.length : Int) = some (q2j l) := by
   rw [q7l]
   refine ⟨⟨Int.le_refl _, by omega, by omega⟩, ?_⟩
   rw [hsl]; simp [q2j]
  have hi : l.length < s.l.length := by omega
  have hg : gt s.l l.length = (x : Int) := by
   rw [hsl, qda, q22 (by simp)]; simp
  have hto : s.to (q2j l) = .mk (q2j l) := by rw [hs]; rfl
  have hc := q5g (s := .mk (q2j l)) (x : Int) (by rw [Sl.l_mk, q57]; omega)
  have hm : decide ((x : Int) ∈ (Sl.mk (q2j l)).l) = decide (x ∈ l) := by rw [Bool.eq_iff_iff, decide_eq_true_eq, decide_eq_true_eq]; exact qt9
  rw [hm] at hc
  simp only [q1n, h0, cond_true, hw, hcut, Option.bind_some, q07 hi, hto, hg, hc]
 exact main _ rfl
theorem qd8 (s : Nat) : decide ((gt t.Hosts.l h) = (⟨(s : Int), q18 r h s⟩ : api_Host)) = decide (qk7 t r h s) := by
 rw [Bool.eq_iff_iff, decide_eq_true_eq, decide_eq_true_eq (p := qk7 t r h s)]
 unfold qk7
 generalize gt t.Hosts.l h = x
 obtain ⟨a, b⟩ := x
 exact Prod.mk.injEq .. ▸ Iff.rfl
theorem qrx {o : List Nat} {k : Nat} : gt (o ++ [k]) o.length = k := by
 rw [q22 (by simp)]; simp
theorem qvw (hV : RValid t r) (hh : h < t.Hosts.l.length) : ∀ (m : Nat) (l : List Nat) (x : Nat), x < r.l.length → (∀ y ∈ l, ∃ j, m < j ∧ Away t r h y j) → Away t r h x m → l.length + m < 1000 →
  ∃ w : List Int, q0e (q0m t r (h : Int)) (.mk (q2j (l ++ [x]))) = some (.inl (0, .mk w)) ∧ w.length = l.length + m + 1 := by
 intro m
 induction m with
 | zero =>
  intro l x hx hl ha hb
  have hno : x ∉ l := fun hm => by
   obtain ⟨j, h1, h2⟩ := hl x hm
   have := h2.uniq ha; omega
  have htw := qbp (l := l) (x := x) (by omega)
  rw [decide_eq_false hno] at htw
  have hlen : (Sl.mk (q2j (l ++ [x]))).l.length = l.length + 1 := by rw [Sl.l_mk, q57]; simp
  have hw : wr .i64 (((Sl.mk (q2j (l ++ [x]))).l.length : Int) - 1) = (l.length : Int) := by rw [hlen, q2l (by omega) (by omega)]; omega
  have hi : l.length < (Sl.mk (q2j (l ++ [x]))).l.length := by omega
  have hg : gt (Sl.mk (q2j (l ++ [x]))).l l.length = (x : Int) := by rw [Sl.l_mk, qda, qrx]
  have hhr : h < (gt r.l x).l.length := by rw [hV.row hx]; exact hh
  have hport : gt (gt r.l x).l h = q18 r h x := rfl
  cases ha with
  | here hH =>
   refine ⟨_, q0p (by simp only [q0m, htw, Option.bind_some, Bool.not_false, cond_true, hw, q07 hi, q07 hh, hg, q07 hx, q07 hhr, hport, qd8, decide_eq_true hH]; rfl), by rw [q57]; simp⟩
 | succ m ih =>
  intro l x hx hl ha hb
  have hno : x ∉ l := fun hm => by
   obtain ⟨j, h1, h2⟩ := hl x hm
   have := h2.uniq ha; omega
  have htw := qbp (l := l) (x := x) (by omega)
  rw [decide_eq_false hno] at htw
  have hlen : (Sl.mk (q2j (l ++ [x]))).l.length = l.length + 1 := by rw [Sl.l_mk, q57]; simp
  have hw : wr .i64 (((Sl.mk (q2j (l ++ [x]))).l.length : Int) - 1) = (l.length : Int) := by rw [hlen, q2l (by omega) (by omega)]; omega
  have hi : l.length < (Sl.mk (q2j (l ++ [x]))).l.length := by omega
  have hg : gt (Sl.mk (q2j (l ++ [x]))).l l.length = (x : Int) := by rw [Sl.l_mk, qda, qrx]
  have hhr : h < (gt r.l x).l.length := by rw [hV.row hx]; exact hh
  have hport : gt (gt r.l x).l h = q18 r h x := rfl
  have ha0 := ha
  cases ha with
  | @step _ y _ hH hn ha' =>
   rcases qbh (h := h) hV x with ⟨e1, _⟩ | ⟨y', b, c, e1, hy, e2⟩
   ·rw [e1] at hn; cases hn
   ·rw [e1] at hn
    obtain rfl := Option.some.inj hn
    obtain ⟨w, h1, h2⟩ := ih (l ++ [x]) y' hy (fun z hz => by
     rcases List.mem_append.1 hz with hz | hz
     ·obtain ⟨j, q1, q2⟩ := hl z hz; exact ⟨j, by omega, q2⟩
     ·obtain rfl := List.mem_singleton.1 hz; exact ⟨m + 1, by omega, ha0⟩) ha' (by rw [List.length_append, List.length_singleton]; omega)
    refine ⟨w, ?_, by rw [h2, List.length_append, List.length_singleton]; omega⟩
    rw [q1z (a' := .mk (q2j (l ++ [x] ++ [y'])))]
    ·exact h1
    ·have hcap : q8m ((Sl.mk (q2j (l ++ [x]))).l ++ [(y' : Int)]) = some (q2j (l ++ [x] ++ [y'])) := by
      rw [Sl.l_mk, q2v (by rw [List.length_append, q57]; simp; omega), qhx]
     simp only [q0m, htw, Option.bind_some, Bool.not_false, cond_true, hw, q07 hi, q07 hh, hg, q07 hx, q07 hhr, hport, qd8, decide_eq_false hH, cond_false, qe1 hV hh hx, e2, Bool.not_true, hcap]
theorem q4v (hV : RValid t r) : q2k t r = some true := by
 have hsm := hV.small
 rw [qdz (by omega) (fun row hm => by have := (hV.rows row hm).1; have := hV.topo.hosts; omega), decide_eq_true hV]
theorem qi9 (hV : RValid t r) (hh : h < t.Hosts.l.length) {s k : Nat} (hs : s < r.l.length) (ha : Away t r h s k) : ∃ w : List Int, q2r t r (s : Int) (h : Int) = some (.mk w, 0) ∧ w.length = k + 1 := by
 have hk := ha.lt hV hs
 have hsm := hV.small
 obtain ⟨w, h1, h2⟩ := qvw hV hh k [] s hs (fun y hy => by simp at hy) ha (by simp; omega)
 have h1 : q0e (q0m t r (h : Int)) (.mk [(s : Int)]) = _ := h1
 exact ⟨w, by simp only [q2r, qb4 hV hs hh, q4v hV, Option.bind_some, Bool.not_true, cond_false, h1], by simpa using h2⟩
theorem qs1 (hG : GoodP t r) (hh : h < t.Hosts.l.length) (hn : 0 < r.l.length) : q49 t r (h : Int) = some (.mk (qcx t r h)) := by
 have hsm := hG.1.small
 have main : ∀ (d i : Nat), i + d = r.l.length → ∀ s : Sl Int, s.l = ((List.range i).map fun s => (dist t r h s : Int)) → (0 < i ∨ 0 < d) → (0 < i → s = .mk s.l) → q0e (q1c t r (h : Int)) ((i : Int), s) = some (.mk (qcx t r h)) := by
  intro d
  induction d with
  | zero =>
   intro i hi s hs hp hmk
   obtain rfl : i = r.l.length := by omega
   rw [q0p (b := s) (by simp only [q1c, q77, cond_false]), hmk (by omega), hs]; rfl
  | succ d ih =>
   intro i hi s hs hp hmk
   have hlt : i < r.l.length := by omega
   have ha := hG.dist hlt hh
   have hb := hG.lt hlt hh
   obtain ⟨l, h1, h2⟩ := qi9 hG.1 hh hlt ha
   have hw : wr .i64 (((Sl.mk l).l.length : Int) - 1) = (dist t r h i : Int) := by rw [Sl.l_mk, h2, q2l (by omega) (by omega)]; omega
   have hsl : s.l.length = i := by rw [hs]; simp
   rw [q1z (a' := (((i + 1 : Nat) : Int), .mk (s.l ++ [(dist t r h i : Int)]))) (by
    simp only [q1c, q4n hlt, cond_true, h1, Option.bind_some, hw, q2v (show (s.l ++ [(dist t r h i : Int)]).length ≤ 2147483648 by rw [List.length_append, List.length_singleton]; omega), qa8 (show i < 9223372036854775807 by omega)])]
   exact ih (i + 1) (by omega) _ (by rw [Sl.l_mk, hs, qox]) (.inl (by omega)) (fun _ => rfl)
 have h1 : q0e (q1c t r (h : Int)) (0, Sl.nil) = _ := main r.l.length 0 (by omega) .nil rfl (.inr hn) (fun h => by omega)
 simp only [q49, q4v hG.1, Option.bind_some, qsz hh, cond_false, h1]
theorem GoodP.pos (hG : GoodP t r) : 0 < r.l.length := by have := hG.1.len; have := hG.1.topo.sw; omega
theorem qhe (hG : GoodP t r) : q2s t r = some true := by
 have hsm := hG.1.small
 have hho := hG.1.hosts
 have h1 := qbs (f := q1i t r) (β := Bool) (γ := Unit) (List.range t.Hosts.l.length) (fun _ _ => none) () (by simp; omega) (fun i hi => by
  have hi : i < t.Hosts.l.length := by simpa using hi
  have hno : (-1 : Int) ∉ (Sl.mk (qcx t r i)).l := fun hm => by
   obtain ⟨s, _, e⟩ := List.mem_map.1 hm
   omega
  have hc := q5g (s := .mk (qcx t r i)) (-1) (by rw [Sl.l_mk, qdf]; omega)
  rw [decide_eq_false hno] at hc
  simp only [q1i, q4n hi, cond_true, qs1 hG hi hG.pos, Option.bind_some, hc, cond_false]) (by simp only [q1i, List.length_range, q77, cond_false])
 have h2 : qap (β := Bool) (fun (_ _ : Nat) => none) (List.range t.Hosts.l.length) 0 = none := q33.2 fun _ _ _ => rfl
 rw [h2] at h1
 simp only [q2s, q4v hG.1, Option.bind_some, Bool.not_true, cond_false, h1]
end
end Go.Proofs.Ythcplpfiidlinaa.L
