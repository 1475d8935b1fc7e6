/- The law BundlePlays over its program. Conditions: as stated. -/
import Derived.Test.YtmeemkllagjnmaaBS
open Go.Ev Go
namespace Go.Proofs.Ytmeemkllagjnmaa.B
theorem qr1 {α β : Type} {D : Option α} {K : α → Option β} {G : β → Prop} (P : α → Prop) (h : ∃ a, D = some a ∧ P a) (hk : ∀ a, P a → ∃ r, K a = some r ∧ G r) : ∃ r, D.bind K = some r ∧ G r := by
 obtain ⟨a, rfl, h2⟩ := h
 exact hk a h2
theorem forG {S σ β : Type} {f : S → Option (Sum S β)} (st : Nat → σ → S) (n : Nat) (I : Nat → σ → Prop) (R : β → Prop)
  (hstep : ∀ i s, i < n → I i s → ∃ r, f (st i s) = some r ∧ (match r with | .inl s' => ∃ q, s' = st (i + 1) q ∧ I (i + 1) q | .inr b => R b))
  (hend : ∀ s, I n s → ∃ b, f (st n s) = some (.inr b) ∧ R b) (s : σ) (hI : I 0 s) : ∃ b, loopO f (st 0 s) = some b ∧ R b :=
 forI st n I R (fun i s hi h => by
  obtain ⟨r, h1, h2⟩ := hstep i s hi h
  cases r with
  | inl s' => obtain ⟨q, rfl, h3⟩ := h2; exact .inl ⟨q, h1, h3⟩
  | inr b => exact .inr ⟨b, h1, h2⟩) hend 0 s (Nat.zero_le n) hI
theorem kind4 (K : Int) : (bif (K == 0) then (some (K == 0)) else (bif (K == 1) then (some (K == 1)) else (bif (K == 2) then (some (K == 2)) else (some (K == 3)))) : Option Bool) = some (tt (0 ≤ K ∧ K ≤ 3)) := by
 by_cases h : 0 ≤ K ∧ K ≤ 3
 ·obtain rfl | rfl | rfl | rfl : K = 0 ∨ K = 1 ∨ K = 2 ∨ K = 3 := by omega
  all_goals (rw [tt_t h]; rfl)
 ·rw [tt_f h, show (K == 0) = false by rw [beq_eq_false_iff_ne]; omega, show (K == 1) = false by rw [beq_eq_false_iff_ne]; omega, show (K == 2) = false by rw [beq_eq_false_iff_ne]; omega, show (K == 3) = false by rw [beq_eq_false_iff_ne]; omega]; rfl
theorem qks (l : Sl law12_Deed) (t : Sl api_Rule) (ports room : Int) (hn : t.l.length < 9223372036854775808) (ha : ∀ x ∈ t.l, (api_Rule.Acts x).l.length < 9223372036854775808) (hf : ∀ d ∈ l.l, MFit (law12_Deed.M d)) :
  q3x l t ports room = some true := by
 unfold q3x
 rw [qgv t ports room hn ha]
 simp only [Option.bind_some]
 by_cases h20 : t.l.length ≤ 20
 case neg => rw [decide_eq_true (by omega), q3b]; rfl
 rw [decide_eq_false (by omega), cond_false]
 simp only [Option.bind_some]
 by_cases hT : TOk t.l ports room
 case neg => rw [tt_f hT, q3b]; rfl
 rw [tt_t hT, Bool.not_true, cond_false]
 simp only [q4o, Option.bind_some]
 have h : ∃ r, loopO (q1n l ports room) (t, ((0 : Nat) : Int), (⟨0, (zeE (.ar 16 .b)), (zeE (.ar 16 y3)), 0⟩ : bundle_Bundle), (0 : Int), (0 : Int), (Sl.nil : Sl ref12_Item)) = some r ∧ (r = .inl true ∨ r = .inr ()) := by
  refine forG (fun i (s : Sl api_Rule × bundle_Bundle × Int × Int × Sl ref12_Item) => (s.1, ((i : Nat) : Int), s.2.1, s.2.2.1, s.2.2.2.1, s.2.2.2.2)) (min l.l.length 40)
   (fun i s => TOk s.1.l ports room ∧ s.1.l.length ≤ 20 + 16 * i ∧ Rel s.2.1 s.2.2.1 s.2.2.2.1 s.2.2.2.2) (fun r : Bool ⊕ Unit => r = .inl true ∨ r = .inr ()) (fun i s hi hI => ?_) (fun s hI => ⟨.inr (), ?_, .inr rfl⟩) (t, (⟨0, (zeE (.ar 16 .b)), (zeE (.ar 16 y3)), 0⟩ : bundle_Bundle), 0, 0, Sl.nil)
   ⟨hT, by omega, rfl, .inl ⟨rfl, List.nodup_nil, fun it hit => absurd hit List.not_mem_nil, fun j hj => ⟨fun h => absurd ((qsm j hj).symm.trans h) Bool.false_ne_true, fun h => absurd h List.not_mem_nil⟩, fun it hit => absurd hit List.not_mem_nil, fun it hit => absurd hit List.not_mem_nil⟩⟩
  ·obtain ⟨s, b, st, N, L⟩ := s
   obtain ⟨hS, hlen, hR⟩ := hI
   simp only at hS hlen hR
   have hil : i < l.l.length := by omega
   have hM := hf _ (q2i hil)
   simp only [q1n]
   rw [decide_eq_true (by omega), decide_eq_true (by omega), Bool.and_self, cond_true, q0y hil]
   simp only [Option.bind_some]
   by_cases ha10 : (api_Rule.Acts (api_Mod.R (law12_Deed.M (gt l.l i)))).l.length ≤ 10
   case neg =>
    rw [decide_eq_true (by omega), q3b]
    exact ⟨_, rfl, .inl rfl⟩
   rw [decide_eq_false (by omega), cond_false, kind4]
   simp only [Option.bind_some]
   refine qr1 (fun a => ∃ s' e b' st' N' L', a = .inl (s', e, e, b', st', N', L') ∧ TOk s'.l ports room ∧ s'.l.length ≤ 20 + 16 * (i + 1) ∧ Rel b' st' N' L') ?_ ?_
   ·by_cases hk : 0 ≤ law12_Deed.Kind (gt l.l i) ∧ law12_Deed.Kind (gt l.l i) ≤ 3
    ·rw [tt_t hk, cond_true]
     obtain ⟨e, b', L', e1, e2, e3⟩ := qs7 hR (law12_Deed.I (gt l.l i)) hM
     rw [e1, e2]
     exact ⟨_, rfl, s, e, b', st, N, L', rfl, hS, by omega, e3⟩
    rw [tt_f hk, cond_false]
    by_cases h4 : law12_Deed.Kind (gt l.l i) = 4
    ·rw [show (law12_Deed.Kind (gt l.l i) == 4) = true by simpa using h4, cond_true]
     obtain ⟨e, b', st', N', e1, e2, e3⟩ := qlo hR (law12_Deed.I (gt l.l i))
     rw [e1, e2]
     exact ⟨_, rfl, s, e, b', st', N', L, rfl, hS, by omega, e3⟩
    rw [show (law12_Deed.Kind (gt l.l i) == 4) = false by simpa using h4, cond_false]
    by_cases h5 : law12_Deed.Kind (gt l.l i) = 5
    ·rw [show (law12_Deed.Kind (gt l.l i) == 5) = true by simpa using h5, cond_true]
     obtain ⟨e, e1, e2⟩ := qfs hR (t := s) (room := room) (by omega) hS
     rw [e1, e2]
     exact ⟨_, rfl, s, e, b, st, N, L, rfl, hS, by omega, hR⟩
    rw [show (law12_Deed.Kind (gt l.l i) == 5) = false by simpa using h5, cond_false]
    by_cases h6 : law12_Deed.Kind (gt l.l i) = 6
    ·rw [show (law12_Deed.Kind (gt l.l i) == 6) = true by simpa using h6, cond_true]
     obtain ⟨q, q', e, b', st', N', L', e1, e2, e3, e4, e5, e6, e7, e8⟩ := qjd hR (t := s) (room := room) (by omega) hS
     rw [e1, e2]
     simp only [Option.bind_some]
     rw [qpf q q' e3 (by omega) (qns e4)]
     exact ⟨_, rfl, q', e, b', st', N', L', rfl, e5, by omega, e8⟩
    rw [show (law12_Deed.Kind (gt l.l i) == 6) = false by simpa using h6, cond_false]
    by_cases h7 : law12_Deed.Kind (gt l.l i) = 7
    ·rw [show (law12_Deed.Kind (gt l.l i) == 7) = true by simpa using h7, cond_true]
     exact ⟨_, rfl, s, 0, _, 2, N, Sl.nil, rfl, hS, by omega, rfl, .inr (.inr rfl)⟩
    rw [show (law12_Deed.Kind (gt l.l i) == 7) = false by simpa using h7, cond_false]
    exact ⟨_, rfl, s, 0, b, st, N, L, rfl, hS, by omega, hR⟩
   ·rintro _ ⟨s', e, b', st', N', L', rfl, g1, g2, g3⟩
    obtain ⟨m1, m2, f1, f2, f3, f4, f5, _⟩ := qe1 g3
    have hst := g3.1
    simp only [q01, Option.bind_some]
    rw [hst, bne_self_eq_false, cond_false, bne_self_eq_false, cond_false, f1]
    simp only [Option.bind_some]
    rw [f2]
    simp only [Option.bind_some]
    rw [qox m1 m2 f3 (by omega) (fun m hm => (f5 m hm).2)]
    simp only [Option.bind_some, Bool.not_true, cond_false]
    rw [wrS (by omega)]
    exact ⟨_, rfl, (s', b', st', N', L'), rfl, g1, g2, g3⟩
  ·simp only [q1n]
   rw [show ((decide (((min l.l.length 40 : Nat) : Int) < (l.l.length : Int))) && (decide (((min l.l.length 40 : Nat) : Int) < 40))) = false by simp; omega, cond_false]
 obtain ⟨r, h1, h2⟩ := h
 have h1 : loopO (q1n l ports room) (t, 0, (⟨0, (zeE (.ar 16 .b)), (zeE (.ar 16 y3)), 0⟩ : bundle_Bundle), 0, 0, Sl.nil) = some r := h1
 rw [h1]
 rcases h2 with rfl | rfl
 ·rfl
 ·rw [q3b]; rfl
theorem qmm {s : Sl law12_Deed} (h : fitT (.sl y8) s) : ∀ d ∈ s.l, MFit (law12_Deed.M d) := fun d hd => by
 have h1 : fitT y8 d := h.2 d hd
 have h2 : fitT y3 (law12_Deed.M d) := h1.2.2
 exact qpg h2.2.1
end Go.Proofs.Ytmeemkllagjnmaa.B
