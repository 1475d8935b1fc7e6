/- Routes of any kind: what the program's Walk, Far, Good and Moves answer. Conditions: as stated. -/
import Derived.Test.YthcplpfiidlinaaLM
open Go.Ev Go
namespace Go.Proofs.Ythcplpfiidlinaa.L
section
variable {t : api_Topo} {r : Sl (Sl Int)} {h : Nat}
theorem qsc (hV : RValid t r) (hh : h < t.Hosts.l.length) : ∀ (d : Nat) (l : List Nat) (x : Nat), l.length + d = 9 → l.Nodup → (∀ y ∈ l ++ [x], y < r.l.length) → (∀ k, ¬ Away t r h x k) →
  q0e (q0m t r (h : Int)) (.mk (q2j (l ++ [x]))) = some (.inr ()) ∨ ∃ e, e ≠ 0 ∧ q0e (q0m t r (h : Int)) (.mk (q2j (l ++ [x]))) = some (.inl (e, .nil)) := by
 have hsm := hV.small
 intro d
 induction d with
 | zero =>
  intro l x hd hnd hlt _
  exfalso
  have hsub : l ⊆ List.range r.l.length := fun y hy => List.mem_range.2 (hlt y (List.mem_append_left _ hy))
  have := hnd.length_le_of_subset hsub
  simp at this; omega
 | succ d ih =>
  intro l x hd hnd hlt hno
  have hx : x < r.l.length := hlt x (by simp)
  have htw := qbp (l := l) (x := x) (by omega)
  by_cases hm : x ∈ l
  ·rw [decide_eq_true hm] at htw
   exact .inl (q0p (by simp only [q0m, htw, Option.bind_some, Bool.not_true, cond_false]))
  rw [decide_eq_false hm] at htw
  have hlen : (Sl.mk (q2j (l ++ [x]))).l.length = l.length + 1 := by rw [Sl.l_mk, q57]; simp
  have hw : wr .i64 (((Sl.mk (q2j (l ++ [x]))).l.length : Int) - 1) = (l.length : Int) := by rw [hlen, q2l (by omega) (by omega)]; omega
  have hi : l.length < (Sl.mk (q2j (l ++ [x]))).l.length := by omega
  have hg : gt (Sl.mk (q2j (l ++ [x]))).l l.length = (x : Int) := by rw [Sl.l_mk, qda, qrx]
  have hhr : h < (gt r.l x).l.length := by rw [hV.row hx]; exact hh
  have hport : gt (gt r.l x).l h = q18 r h x := rfl
  have hH : ¬ qk7 t r h x := fun hH => hno 0 (.here hH)
  rcases qbh (h := h) hV x with ⟨_, e2⟩ | ⟨y, b, c, e1, hy, e2⟩
  ·exact .inr ⟨13, by decide, q0p (by simp only [q0m, htw, Option.bind_some, Bool.not_false, cond_true, hw, q07 hi, q07 hh, hg, q07 hx, q07 hhr, hport, qd8, decide_eq_false hH, cond_false, qe1 hV hh hx, e2])⟩
  ·have hcap : q8m ((Sl.mk (q2j (l ++ [x]))).l ++ [(y : Int)]) = some (q2j (l ++ [x] ++ [y])) := by
    rw [Sl.l_mk, q2v (by rw [List.length_append, q57]; simp; omega), qhx]
   rw [q1z (a' := .mk (q2j (l ++ [x] ++ [y]))) (by
    simp only [q0m, htw, Option.bind_some, Bool.not_false, cond_true, hw, q07 hi, q07 hh, hg, q07 hx, q07 hhr, hport, qd8, decide_eq_false hH, cond_false, qe1 hV hh hx, e2, Bool.not_true, hcap])]
   refine ih (l ++ [x]) y (by rw [List.length_append, List.length_singleton]; omega) ?_ (fun z hz => ?_) fun k hk => hno (k + 1) (.step hH e1 hk)
   ·exact List.nodup_append.2 ⟨hnd, by simp, fun a ha b hb => by rw [List.mem_singleton] at hb; subst hb; exact fun e => hm (e ▸ ha)⟩
   ·rcases List.mem_append.1 hz with hz | hz
    ·exact hlt z hz
    ·obtain rfl := List.mem_singleton.1 hz; exact hy
theorem qrp (hV : RValid t r) (hh : h < t.Hosts.l.length) {s : Nat} (hs : s < r.l.length) (hno : ∀ k, ¬ Away t r h s k) : ∃ e, q2r t r (s : Int) (h : Int) = some (.nil, e) := by
 rcases qsc hV hh 9 [] s rfl List.nodup_nil (fun y hy => by
  have e : y = s := by simpa using hy
  rw [e]; exact hs) hno with h1 | ⟨e, _, h1⟩
 ·have h1 : q0e (q0m t r (h : Int)) (.mk [(s : Int)]) = _ := h1
  exact ⟨12, by simp only [q2r, qb4 hV hs hh, q4v hV, Option.bind_some, Bool.not_true, cond_false, h1]⟩
 ·have h1 : q0e (q0m t r (h : Int)) (.mk [(s : Int)]) = _ := h1
  exact ⟨e, by simp only [q2r, qb4 hV hs hh, q4v hV, Option.bind_some, Bool.not_true, cond_false, h1]⟩
noncomputable def qf7 (t : api_Topo) (r : Sl (Sl Int)) (h s : Nat) : Int := bif tt (∃ k, Away t r h s k) then (dist t r h s : Int) else -1
theorem qzs (hV : RValid t r) (hh : h < t.Hosts.l.length) : ∃ S, q49 t r (h : Int) = some S ∧ S.l = (List.range r.l.length).map (qf7 t r h) := by
 have hsm := hV.small
 have main : ∀ (d i : Nat), i + d = r.l.length → ∀ s : Sl Int, s.l = (List.range i).map (qf7 t r h) → ∃ S, q0e (q1c t r (h : Int)) ((i : Int), s) = some S ∧ S.l = (List.range r.l.length).map (qf7 t r h) := by
  intro d
  induction d with
  | zero =>
   intro i hi s hs
   obtain rfl : i = r.l.length := by omega
   exact ⟨s, q0p (by simp only [q1c, q77, cond_false]), hs⟩
  | succ d ih =>
   intro i hi s hs
   have hlt : i < r.l.length := by omega
   have hsl : s.l.length = i := by rw [hs]; simp
   have hstep : ∃ l e, q2r t r (i : Int) (h : Int) = some (l, e) ∧ wr .i64 ((l.l.length : Int) - 1) = qf7 t r h i := by
    by_cases hk : ∃ k, Away t r h i k
    ·obtain ⟨k, hk⟩ := hk
     obtain ⟨w, h1, h2⟩ := qi9 hV hh hlt hk
     have := hk.lt hV hlt
     refine ⟨_, _, h1, ?_⟩
     rw [qf7, qrj ⟨k, hk⟩, cond_true, qt4 hk, Sl.l_mk, h2, q2l (by omega) (by omega)]; omega
    ·obtain ⟨e, h1⟩ := qrp hV hh hlt (fun k hk2 => hk ⟨k, hk2⟩)
     refine ⟨_, _, h1, ?_⟩
     rw [qf7, qkf hk, cond_false]; rfl
   obtain ⟨l, e, h1, h2⟩ := hstep
   obtain ⟨S, h3, h4⟩ := ih (i + 1) (by omega) (.mk (s.l ++ [qf7 t r h i])) (by rw [Sl.l_mk, hs, List.range_succ, List.map_append]; rfl)
   exact ⟨S, (q1z (by
    simp only [q1c, q4n hlt, cond_true, h1, Option.bind_some, h2, q2v (show (s.l ++ [qf7 t r h i]).length ≤ 2147483648 by rw [List.length_append, List.length_singleton]; omega), qa8 (show i < 9223372036854775807 by omega)])).trans h3, h4⟩
 obtain ⟨S, h1, h2⟩ := main r.l.length 0 (by omega) .nil rfl
 have h1 : q0e (q1c t r (h : Int)) (0, Sl.nil) = _ := h1
 exact ⟨S, by simp only [q49, q4v hV, Option.bind_some, qsz hh, cond_false, h1], h2⟩
theorem qmn (hS : q65 t r) : q2s t r = some (tt (GoodP t r)) := by
 by_cases hV : RValid t r
 rotate_left
 ·unfold q2s
  rw [qdz (by have := hS.2.2.2; omega) (fun row hm => by have := hS.1 row hm; omega), decide_eq_false hV, qkf fun h => hV h.1]; rfl
 have hsm := hV.small
 have hho := hV.hosts
 by_cases hG : GoodP t r
 ·rw [qhe hG, qrj hG]
 have h1 := qbs (f := q1i t r) (β := Bool) (γ := Unit) (List.range t.Hosts.l.length) (fun _ h => bif tt (∀ s, s < r.l.length → ∃ k, Away t r h s k) then none else some false) () (by simp; omega) (fun i hi => by
  have hi : i < t.Hosts.l.length := by simpa using hi
  rw [q9g hi]
  obtain ⟨S, h1, h2⟩ := qzs hV hi
  have hc := q5g (s := S) (-1) (by rw [h2]; simp; omega)
  have hm : decide ((-1 : Int) ∈ S.l) = !tt (∀ s, s < r.l.length → ∃ k, Away t r i s k) := by
   rw [Bool.eq_iff_iff, decide_eq_true_eq, Bool.not_eq_true', qdd, h2]
   constructor
   ·intro hm hall
    obtain ⟨s, hs, e⟩ := List.mem_map.1 hm
    rw [qf7, qrj (hall s (List.mem_range.1 hs)), cond_true] at e
    omega
   ·intro hn
    obtain ⟨s, hs⟩ := Classical.not_forall.1 hn
    obtain ⟨hs, hk⟩ := Classical.not_imp.1 hs
    exact List.mem_map.2 ⟨s, List.mem_range.2 hs, by rw [qf7, qkf hk, cond_false]⟩
  rw [hm] at hc
  simp only [q1i, q4n hi, cond_true, h1, Option.bind_some, hc]
  cases tt (∀ s, s < r.l.length → ∃ k, Away t r i s k) <;> rfl) (by simp only [q1i, List.length_range, q77, cond_false])
 simp only [q2s, q4v hV, Option.bind_some, Bool.not_true, cond_false, h1]
 cases hc : qap (fun (_ : Nat) h => bif tt (∀ s, s < r.l.length → ∃ k, Away t r h s k) then none else some false) (List.range t.Hosts.l.length) 0 with
 | none =>
  exfalso
  refine hG ⟨hV, fun s hs h hh => ?_⟩
  have := q33.1 hc h h (by simp [hh])
  cases hq : tt (∀ s, s < r.l.length → ∃ k, Away t r h s k) with
  | true => exact qr2.1 hq s hs
  | false => rw [hq] at this; simp at this
 | some b =>
  obtain ⟨j, x, h2, h3, _⟩ := q5z hc
  cases hq : tt (∀ s, s < r.l.length → ∃ k, Away t r x s k) with
  | true => rw [hq] at h3; simp at h3
  | false =>
   rw [hq] at h3
   obtain rfl : false = b := by simpa using h3
   rw [qkf hG]
theorem qqp {old now : Sl (Sl Int)} (hO : q65 t old) (hN : q65 t now) (hG : ¬ (GoodP t old ∧ GoodP t now)) : q38 t old now = some (.nil, 2) := by
 unfold q38
 rw [qmn hO, qmn hN]
 by_cases h1 : GoodP t old
 ·rw [qrj h1, qkf fun h2 => hG ⟨h1, h2⟩]; rfl
 ·rw [qkf h1]; rfl
end
end Go.Proofs.Ythcplpfiidlinaa.L
