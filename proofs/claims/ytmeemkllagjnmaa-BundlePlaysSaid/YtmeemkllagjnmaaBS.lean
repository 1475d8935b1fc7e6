/- A bundle beside the document's, call by call; the law BundlePlays over its program. Conditions: as stated. -/
import Derived.Test.YtmeemkllagjnmaaBQ
open Go.Ev Go
namespace Go.Proofs.Ytmeemkllagjnmaa.B
theorem ql1 {a b : api_Mod} (h : nmM a = nmM b) (hb : MFit b) : MFit a := by
 obtain ⟨_, h2⟩ := ql9.1 h
 obtain ⟨h3, h4⟩ := nm_eq.1 h2
 exact ⟨fun f hf => by rw [h3.2]; exact hb.1 f hf, by rw [h4]; exact hb.2⟩
abbrev ikey (it : ref12_Item) : Nat := (ref12_Item.I it).toNat
structure RelO (b : bundle_Bundle) (L : List ref12_Item) : Prop where
 nd : (L.map ikey).Nodup
 rng : ∀ it ∈ L, 0 ≤ ref12_Item.I it ∧ ref12_Item.I it < 16
 has : ∀ j, j < 16 → (bhas b j = true ↔ j ∈ L.map ikey)
 eq : ∀ it ∈ L, nmM (bl b (ikey it)) = nmM (ref12_Item.M it)
 fit : ∀ it ∈ L, MFit (ref12_Item.M it)
def Rel (b : bundle_Bundle) (st N : Int) (L : Sl ref12_Item) : Prop :=
 bundle_Bundle.state b = st ∧ ((st = 0 ∧ RelO b L.l) ∨ (st = 1 ∧ RelO b L.l ∧ bundle_Bundle.n b = N ∧ 0 ≤ N ∧ N ≤ 16 ∧ ∀ j : Nat, (j : Int) < N → bhas b j = true) ∨ st = 2)
theorem RelO.len {b : bundle_Bundle} {L : List ref12_Item} (h : RelO b L) : L.length ≤ 16 := by
 have := (pig 16 _ h.nd fun k hk => by
  obtain ⟨it, hit, rfl⟩ := List.mem_map.1 hk
  have := h.rng it hit
  simp only [ikey]; omega).1
 rwa [List.length_map] at this
theorem qln (st N : Int) (L : Sl ref12_Item) (i : Int) (hn : L.l.length < 9223372036854775807) :
  (∃ it, it ∈ L.l ∧ ref12_Item.I it = i ∧ q1k st N L i = some (ref12_Item.M it, true, st, N, L)) ∨ ((∀ it ∈ L.l, ref12_Item.I it ≠ i) ∧ ∃ x, q1k st N L i = some (x, false, st, N, L)) := by
 let Z : api_Mod := (⟨0, (⟨0, (⟨0, (zeE (.ar 4 (.i .i64))), (zeE (.ar 4 (.i .i64)))⟩ : api_Match), Sl.nil⟩ : api_Rule), false⟩ : api_Mod)
 have step : ∀ k, k < L.l.length → ref12_Item.I (gt L.l k) ≠ i → q0t L i (((k : Nat) : Int), Z) = some (.inl (((k + 1 : Nat) : Int), Z)) := by
  intro k hk hne
  simp only [q0t]
  rw [decide_eq_true (by omega), cond_true, q0y hk, wrS (by omega)]
  simp only [Option.bind_some]
  rw [show (ref12_Item.I (gt L.l k) == i) = false by simpa using hne]; rfl
 rcases qiu (P := fun k => ref12_Item.I (gt L.l k) ≠ i) L.l.length with h | ⟨k, hk, hp, hj⟩
 ·refine .inr ⟨qc4.1 h, Z, ?_⟩
  have e := runL (f := q0t L i) (fun k => (((k : Nat) : Int), Z)) L.l.length (b := .inr Z) (fun k hk => step k hk (h k hk)) (by
   simp only [q0t]
   rw [decide_eq_false (by omega), cond_false])
  unfold q1k
  have e : loopO (q0t L i) (0, Z) = some (.inr Z) := e
  rw [e]; rfl
 ·have hp : ref12_Item.I (gt L.l k) = i := Classical.not_not.1 hp
  refine .inl ⟨gt L.l k, q2i hk, hp, ?_⟩
  have e := runL (f := q0t L i) (fun k => (((k : Nat) : Int), Z)) k (b := .inl (true, ref12_Item.M (gt L.l k))) (fun j hj2 => step j (by omega) (hj j hj2)) (by
   simp only [q0t]
   rw [decide_eq_true (by omega), cond_true, q0y hk]
   simp only [Option.bind_some]
   rw [show (ref12_Item.I (gt L.l k) == i) = true by simpa using hp]; rfl)
  unfold q1k
  have e : loopO (q0t L i) (0, Z) = some (.inl (true, ref12_Item.M (gt L.l k))) := e
  rw [e]; rfl
theorem q93 {L : List ref12_Item} {b : bundle_Bundle} (h : RelO b L) {i : Nat} : i ∈ L.map ikey ↔ ∃ it ∈ L, ref12_Item.I it = (i : Int) := by
 rw [List.mem_map]
 constructor
 ·rintro ⟨it, hit, rfl⟩
  exact ⟨it, hit, by have := h.rng it hit; simp only [ikey]; omega⟩
 ·rintro ⟨it, hit, e⟩
  exact ⟨it, hit, by simp only [ikey]; omega⟩
theorem qs7 {b : bundle_Bundle} {st N : Int} {L : Sl ref12_Item} (h : Rel b st N L) (i : Int) {m : api_Mod} (hm : MFit m) :
  ∃ e b' L', q0w b i m = some (e, b') ∧ q3c st N L i m = some (e, st, N, L') ∧ Rel b' st N L' := by
 obtain ⟨hst, hc⟩ := h
 unfold q0w q3c
 simp only [q01, Option.bind_some]
 rw [hst]
 by_cases h0 : st = 0
 case neg =>
  rw [show (st != 0) = true by simpa using h0]
  exact ⟨16, b, L, rfl, rfl, hst, hc⟩
 have hR : RelO b L.l := by
  rcases hc with ⟨_, h⟩ | ⟨h1, _⟩ | h2
  ·exact h
  ·omega
  ·omega
 subst h0
 rw [show ((0 : Int) != 0) = false from rfl, cond_false, cond_false]
 by_cases hi : 0 ≤ i ∧ i < 16
 case neg =>
  rw [show ((decide (i < 0)) || (decide (i ≥ 16))) = true by simp; omega, show ((decide (i < 0)) || (decide (i > 15))) = true by simp; omega]
  exact ⟨2, b, L, rfl, rfl, hst, .inl ⟨rfl, hR⟩⟩
 rw [show ((decide (i < 0)) || (decide (i ≥ 16))) = false by simp; omega, show ((decide (i < 0)) || (decide (i > 15))) = false by simp; omega, cond_false, cond_false]
 obtain ⟨k, rfl⟩ := Int.eq_ofNat_of_zero_le hi.1
 have hk : k < 16 := by omega
 rw [q0y hk]
 simp only [Option.bind_some]
 have hlen := hR.len
 -- the new bundle
 have newR : ∀ L' : List ref12_Item, (L'.map ikey).Nodup → (∀ it ∈ L', 0 ≤ ref12_Item.I it ∧ ref12_Item.I it < 16) → (∀ j, j ∈ L'.map ikey ↔ j = k ∨ j ∈ L.l.map ikey) →
   (∀ it ∈ L', (ikey it = k → nmM m = nmM (ref12_Item.M it)) ∧ (ikey it ≠ k → nmM (bl b (ikey it)) = nmM (ref12_Item.M it)) ∧ MFit (ref12_Item.M it)) →
   Rel (⟨0, Arr.set (bundle_Bundle.has b) k true, Arr.set (bundle_Bundle.l b) k m, bundle_Bundle.n b⟩ : bundle_Bundle) 0 N (Sl.mk L') := by
  intro L' h1 h2 h3 h4
  refine ⟨rfl, .inl ⟨rfl, h1, h2, fun j hj => ?_, fun it hit => ?_, fun it hit => (h4 it hit).2.2⟩⟩
  ·simp only [bhas, bundle_Bundle.has]
   rw [qnb _ _ hk, show (Sl.mk L').l = L' from rfl, h3]
   by_cases e : k = j
   ·rw [if_pos e]; exact ⟨fun _ => .inl e.symm, fun _ => rfl⟩
   ·rw [if_neg e]
    rw [show gt (bundle_Bundle.has b).1 j = bhas b j from rfl, hR.has j hj]
    exact ⟨.inr, fun h => h.resolve_left fun e2 => e e2.symm⟩
  ·simp only [bl, bundle_Bundle.l]
   rw [qnb _ _ hk]
   by_cases e : k = ikey it
   ·rw [if_pos e]; exact (h4 it hit).1 e.symm
   ·rw [if_neg e]; exact (h4 it hit).2.1 fun e2 => e e2.symm
 rcases qln 0 N L (k : Int) (by omega) with ⟨it, hit, hI, hH⟩ | ⟨hno, x, hH⟩
 ·have hkey : ikey it = k := by simp only [ikey]; omega
  have hhas : gt (bundle_Bundle.has b).1 k = true := (hR.has k hk).2 ((q93 hR).2 ⟨it, hit, hI⟩)
  have heq := hR.eq it hit
  rw [hkey] at heq
  have hfit := hR.fit it hit
  rw [hH, hhas, cond_true, qsl _ _ (ql1 heq hfit).2]
  simp only [Option.bind_some, cond_true]
  rw [q8v _ _ hfit.2]
  simp only [Option.bind_some]
  rw [show tt (nmM (gt (bundle_Bundle.l b).1 k) = nmM m) = tt (nmM (ref12_Item.M it) = nmM m) from q0n (by rw [show nmM (gt (bundle_Bundle.l b).1 k) = nmM (ref12_Item.M it) from heq])]
  by_cases hs : nmM (ref12_Item.M it) = nmM m
  ·rw [tt_t hs]
   refine ⟨0, _, L, rfl, rfl, ?_⟩
   have hmk : L = Sl.mk L.l := by
    cases L with
    | nil => exact absurd hit (List.not_mem_nil)
    | mk l => rfl
   rw [hmk]
   refine newR L.l hR.nd hR.rng (fun j => ⟨.inr, fun h => ?_⟩) fun it2 hit2 => ⟨fun e => ?_, fun _ => hR.eq it2 hit2, hR.fit it2 hit2⟩
   ·rcases h with rfl | h
    ·exact (q93 hR).2 ⟨it, hit, hI⟩
    ·exact h
   ·have h2 := hR.eq it2 hit2
    rw [e] at h2
    rw [← h2, heq, hs]
  ·rw [tt_f hs]
   exact ⟨8, b, L, rfl, rfl, hst, .inl ⟨rfl, hR⟩⟩
 ·have hnot : k ∉ L.l.map ikey := fun h => by
   obtain ⟨it, hit, e⟩ := (q93 hR).1 h
   exact hno it hit e
  have hhas : gt (bundle_Bundle.has b).1 k = false := by
   cases e : gt (bundle_Bundle.has b).1 k
   ·rfl
   ·exact absurd ((hR.has k hk).1 e) hnot
  rw [hH, hhas]
  simp only [Option.bind_some, cond_false, Bool.not_false, cond_true]
  rw [q37 (n := 16) hlen (by omega)]
  simp only [Option.bind_some]
  refine ⟨0, _, _, rfl, rfl, newR _ ?_ ?_ ?_ ?_⟩
  ·rw [List.map_append, List.nodup_append]
   refine ⟨hR.nd, by simp, fun a ha c hc => ?_⟩
   obtain rfl : c = k := List.mem_singleton.1 hc
   exact fun e => hnot (e ▸ ha)
  ·intro it hit
   rcases List.mem_append.1 hit with hit | hit
   ·exact hR.rng it hit
   ·rw [List.mem_singleton.1 hit]; exact ⟨hi.1, hi.2⟩
  ·intro j
   rw [List.map_append, List.mem_append]
   constructor
   ·rintro (h | h)
    ·exact .inr h
    ·exact .inl (List.mem_singleton.1 h)
   ·rintro (h | h)
    ·exact .inr (List.mem_singleton.2 h)
    ·exact .inl h
  ·intro it hit
   rcases List.mem_append.1 hit with hit | hit
   ·exact ⟨fun e => absurd (List.mem_map.2 ⟨it, hit, e⟩) hnot, fun _ => hR.eq it hit, hR.fit it hit⟩
   ·rw [List.mem_singleton.1 hit]
    exact ⟨fun _ => rfl, fun e => absurd (show ikey (⟨(k : Int), m⟩ : ref12_Item) = k from rfl) e, hm⟩
theorem qlo {b : bundle_Bundle} {st N : Int} {L : Sl ref12_Item} (h : Rel b st N L) (n : Int) :
  ∃ e b' st' N', q17 b n = some (e, b') ∧ q2o st N L n = some (e, st', N', L) ∧ Rel b' st' N' L := by
 have h0 := h
 obtain ⟨hst, hc⟩ := h
 unfold q17 q2o
 simp only [q01, Option.bind_some]
 rw [hst]
 by_cases h2 : st = 2
 ·rw [show (st == 2) = true by simpa using h2]
  exact ⟨16, b, st, N, rfl, rfl, h0⟩
 rw [show (st == 2) = false by simpa using h2, cond_false, cond_false]
 by_cases h1 : st = 1
 ·have hN : bundle_Bundle.n b = N := by
   rcases hc with ⟨h, _⟩ | ⟨_, _, h, _⟩ | h
   ·omega
   ·exact h
   ·omega
  rw [show (st == 1) = true by simpa using h1, Bool.true_and, Bool.true_and, hN]
  by_cases hn : n = N
  ·rw [show (n == N) = true by simpa using hn]
   exact ⟨0, b, st, N, rfl, rfl, h0⟩
  ·rw [show (n == N) = false by simpa using hn, Bool.true_or, Bool.true_or]
   exact ⟨2, b, st, N, rfl, rfl, h0⟩
 rw [show (st == 1) = false by simpa using h1, Bool.false_and, Bool.false_and, cond_false, cond_false, Bool.false_or]
 have hR : st = 0 ∧ RelO b L.l := by
  rcases hc with h | ⟨h, _⟩ | h
  ·exact h
  ·omega
  ·omega
 obtain ⟨rfl, hR⟩ := hR
 have hlen := hR.len
 by_cases hn : 0 ≤ n ∧ n ≤ 16
 case neg =>
  rw [show ((decide (n < 0)) || (decide (n > 16))) = true by simp; omega]
  exact ⟨2, b, 0, N, rfl, rfl, h0⟩
 rw [show ((decide (n < 0)) || (decide (n > 16))) = false by simp; omega, cond_false, cond_false]
 obtain ⟨k, rfl⟩ := Int.eq_ofNat_of_zero_le hn.1
 have hk : k ≤ 16 := by omega
 -- behind the end
 by_cases hb : ∃ j, k ≤ j ∧ j < 16 ∧ bhas b j = true
 ·have e1 : loopO (q0d b) (k : Int) = some (.inl 8) := by
   rcases qiu (P := fun d => bhas b (k + d) = false) (16 - k) with hall | ⟨d, hd, hp, hj⟩
   ·obtain ⟨j, hj1, hj2, hj3⟩ := hb
    have := hall (j - k) (by omega)
    rw [show k + (j - k) = j by omega, hj3] at this; cases this
   ·exact runL (f := q0d b) (fun d => (((k + d : Nat)) : Int)) d (b := .inl 8) (fun d' hd' => by
     simp only [q0d]
     rw [decide_eq_true (by omega), cond_true, q0y (show k + d' < 16 by omega), wrS (by omega)]
     simp only [Option.bind_some]
     rw [show gt (bundle_Bundle.has b).1 (k + d') = false from hj d' hd']; rfl) (by
     simp only [q0d]
     rw [decide_eq_true (by omega), cond_true, q0y (show k + d < 16 by omega)]
     simp only [Option.bind_some]
     rw [show gt (bundle_Bundle.has b).1 (k + d) = true by simpa using hp]; rfl)
  have e2 : loopO (q0l L (k : Int)) 0 = some (.inl 8) := by
   rcases findL (f := q0l L (k : Int)) L.l.length (by omega) (fun i => ref12_Item.I (gt L.l i) < (k : Int)) (fun _ => 8) () (fun i hi hp => by
    simp only [q0l]
    rw [decide_eq_true (by omega), cond_true, q0y hi]
    simp only [Option.bind_some]
    rw [decide_eq_false (by omega)]; rfl) (fun i hi hp => by
    simp only [q0l]
    rw [decide_eq_true (by omega), cond_true, q0y hi]
    simp only [Option.bind_some]
    rw [decide_eq_true (by omega)]; rfl) (by simp only [q0l]; rw [decide_eq_false (by omega), cond_false]) with ⟨hall, _⟩ | ⟨_, _, _, _, e⟩
   ·obtain ⟨j, hj1, hj2, hj3⟩ := hb
    obtain ⟨it, hit, hI⟩ := (q93 hR).1 ((hR.has j hj2).1 hj3)
    have := (qc4 (P := fun it => ref12_Item.I it < (k : Int))).1 hall it hit
    omega
   ·exact e
  rw [e1, e2]
  exact ⟨8, b, 0, N, rfl, rfl, h0⟩
 have hb : ∀ j, k ≤ j → j < 16 → bhas b j = false := fun j h1 h2 => by
  cases e : bhas b j
  ·rfl
  ·exact absurd ⟨j, h1, h2, e⟩ hb
 have hkeys : ∀ it ∈ L.l, ref12_Item.I it < (k : Int) := by
  intro it hit
  have hr := hR.rng it hit
  rcases Int.lt_or_le (ref12_Item.I it) (k : Int) with h | h
  ·exact h
  ·have := hb (ikey it) (by simp only [ikey]; omega) (by simp only [ikey]; omega)
   rw [(hR.has (ikey it) (by simp only [ikey]; omega)).2 (List.mem_map.2 ⟨it, hit, rfl⟩)] at this; cases this
 have e1 : loopO (q0d b) (k : Int) = some (.inr ()) := runL (f := q0d b) (fun d => (((k + d : Nat)) : Int)) (16 - k) (b := .inr ()) (fun d hd => by
   simp only [q0d]
   rw [decide_eq_true (by omega), cond_true, q0y (show k + d < 16 by omega), wrS (by omega)]
   simp only [Option.bind_some]
   rw [show gt (bundle_Bundle.has b).1 (k + d) = false from hb (k + d) (by omega) (by omega)]; rfl) (by
   simp only [q0d]
   rw [decide_eq_false (by omega), cond_false])
 have e2 : loopO (q0l L (k : Int)) 0 = some (.inr ()) := by
  rcases findL (f := q0l L (k : Int)) L.l.length (by omega) (fun i => ref12_Item.I (gt L.l i) < (k : Int)) (fun _ => 8) () (fun i hi hp => by
    simp only [q0l]
    rw [decide_eq_true (by omega), cond_true, q0y hi]
    simp only [Option.bind_some]
    rw [decide_eq_false (by omega)]; rfl) (fun i hi hp => absurd (hkeys _ (q2i hi)) hp) (by simp only [q0l]; rw [decide_eq_false (by omega), cond_false]) with ⟨_, e⟩ | ⟨i, hi, hp, _, _⟩
  ·exact e
  ·exact absurd (hkeys _ (q2i hi)) hp
 rw [e1, e2]
 simp only [Option.bind_some]
 have hpig := (pig k (L.l.map ikey) hR.nd fun j hj => by
  obtain ⟨it, hit, rfl⟩ := List.mem_map.1 hj
  have := hkeys it hit
  have := hR.rng it hit
  simp only [ikey]; omega).2
 rw [List.length_map] at hpig
 by_cases hm : ∃ j, j < k ∧ j ∉ L.l.map ikey
 ·have hlt := hpig.2 hm
  have e3 : loopO (q02 b (k : Int)) 0 = some (.inl 7) := by
   rcases findL (f := q02 b (k : Int)) k (by omega) (fun i => bhas b i = true) (fun _ => 7) () (fun i hi hp => by
    simp only [q02]
    rw [decide_eq_true (by omega), cond_true, q0y (show i < 16 by omega)]
    simp only [Option.bind_some]
    rw [show gt (bundle_Bundle.has b).1 i = true from hp]; rfl) (fun i hi hp => by
    simp only [q02]
    rw [decide_eq_true (by omega), cond_true, q0y (show i < 16 by omega)]
    simp only [Option.bind_some]
    rw [show gt (bundle_Bundle.has b).1 i = false by simpa using hp]; rfl) (by simp only [q02]; rw [decide_eq_false (by omega), cond_false]) with ⟨hall, _⟩ | ⟨_, _, _, _, e⟩
   ·obtain ⟨j, hj, hj2⟩ := hm
    exact absurd ((hR.has j (by omega)).1 (hall j hj)) hj2
   ·exact e
  rw [e3, decide_eq_true (by omega)]
  exact ⟨7, b, 0, N, rfl, rfl, h0⟩
 ·have hge : ¬ L.l.length < k := fun h => hm (hpig.1 h)
  have hall : ∀ j, j < k → bhas b j = true := fun j hj => (hR.has j (by omega)).2 (Classical.not_not.1 fun h => hm ⟨j, hj, h⟩)
  have e3 : loopO (q02 b (k : Int)) 0 = some (.inr ()) := by
   rcases findL (f := q02 b (k : Int)) k (by omega) (fun i => bhas b i = true) (fun _ => 7) () (fun i hi hp => by
    simp only [q02]
    rw [decide_eq_true (by omega), cond_true, q0y (show i < 16 by omega)]
    simp only [Option.bind_some]
    rw [show gt (bundle_Bundle.has b).1 i = true from hp]; rfl) (fun i hi hp => absurd (hall i hi) hp) (by simp only [q02]; rw [decide_eq_false (by omega), cond_false]) with ⟨_, e⟩ | ⟨i, hi, hp, _, _⟩
   ·exact e
   ·exact absurd (hall i hi) hp
  rw [e3, decide_eq_false (by omega)]
  exact ⟨0, _, 1, (k : Int), rfl, rfl, rfl, .inr (.inl ⟨rfl, ⟨hR.nd, hR.rng, hR.has, hR.eq, hR.fit⟩, rfl, by omega, by omega, fun j hj => hall j (by omega)⟩)⟩
theorem qe1 {b : bundle_Bundle} {st N : Int} {L : Sl ref12_Item} (h : Rel b st N L) :
  ∃ s s', q0q b = some (s, b) ∧ q1h st N L = some (s', st, N, L) ∧ s.l.map nmM = s'.l.map nmM ∧ s.l.length ≤ 16 ∧ (∀ m ∈ s.l, MFit m) ∧ (∀ m ∈ s'.l, MFit m) := by
 obtain ⟨hst, hc⟩ := h
 by_cases h1 : st = 1
 case neg =>
  refine ⟨Sl.nil, Sl.nil, ?_, ?_, rfl, by simp [Sl.l], fun m hm => absurd hm List.not_mem_nil, fun m hm => absurd hm List.not_mem_nil⟩
  ·unfold q0q
   simp only [q01, Option.bind_some]
   rw [hst, show (st != 1) = true by simpa using h1]; rfl
  ·unfold q1h
   rw [q34 (b := (Sl.nil, st, N, L)) (by
    simp only [q1c]
    rw [show (st == 1) = false by simpa using h1]; rfl)]; rfl
 obtain ⟨hR, hN, h0, h16, hall⟩ : RelO b L.l ∧ bundle_Bundle.n b = N ∧ 0 ≤ N ∧ N ≤ 16 ∧ ∀ j : Nat, (j : Int) < N → bhas b j = true := by
  rcases hc with ⟨h, _⟩ | ⟨_, h⟩ | h
  ·omega
  ·exact h
  ·omega
 subst h1
 obtain ⟨n, rfl⟩ := Int.eq_ofNat_of_zero_le h0
 have hlen := hR.len
 have hitem : ∀ j, j < n → ∃ it ∈ L.l, ref12_Item.I it = (j : Int) := fun j hj => (q93 hR).1 ((hR.has j (by omega)).1 (hall j (by omega)))
 obtain ⟨s, e1, e2⟩ := qpb (b := b) (L := (List.range n).map (bl b)) (by rw [List.length_map, List.length_range]; omega) hst (by rw [List.length_map, List.length_range]; exact hN) (fun j hj => by
  rw [gt_eq hj, List.getElem_map, List.getElem_range])
 have hloop : ∃ r, loopO q1c (((0 : Nat) : Int), (1 : Int), (n : Int), (Sl.nil : Sl api_Mod), L) = some r ∧ ∃ s' : Sl api_Mod, r = (s', 1, (n : Int), L) ∧ s'.l.map nmM = ((List.range n).map (bl b)).map nmM ∧ ∀ m ∈ s'.l, MFit m := by
  refine forI (fun i (s : Sl api_Mod) => (((i : Nat) : Int), (1 : Int), (n : Int), s, L)) n (fun i s => s.l.map nmM = ((List.range i).map (bl b)).map nmM ∧ ∀ m ∈ s.l, MFit m) _ (fun i s hi hI => .inl ?_) (fun s hI => ⟨_, ?_, s, rfl, hI⟩) 0 Sl.nil (by omega) ⟨rfl, fun m hm => absurd hm List.not_mem_nil⟩
  ·obtain ⟨hI1, hI2⟩ := hI
   have hsl : s.l.length = i := by simpa using congrArg List.length hI1
   simp only [q1c]
   rw [show ((1 : Int) == 1) = true from rfl, decide_eq_true (by omega), Bool.and_self, cond_true, wrS (by omega)]
   rcases qln 1 (n : Int) L (i : Int) (by omega) with ⟨it, hit, hI, hH⟩ | ⟨hno, _⟩
   ·rw [hH]
    simp only [Option.bind_some]
    rw [q37 (n := i) (by omega) (by omega)]
    have hk : ikey it = i := by simp only [ikey]; omega
    refine ⟨_, rfl, ?_, fun m hm => ?_⟩
    ·show (s.l ++ [ref12_Item.M it]).map nmM = _
     rw [List.range_succ, List.map_append, List.map_append, List.map_append, hI1]
     have := hR.eq it hit
     rw [hk] at this
     rw [List.map_cons, List.map_nil, ← this]; rfl
    ·rcases List.mem_append.1 (show m ∈ s.l ++ [ref12_Item.M it] from hm) with hm | hm
     ·exact hI2 m hm
     ·rw [List.mem_singleton.1 hm]; exact hR.fit it hit
   ·obtain ⟨it, hit, e⟩ := hitem i hi
    exact absurd e (hno it hit)
  ·simp only [q1c]
   rw [decide_eq_false (by omega), Bool.and_false]; rfl
 obtain ⟨_, e3, s', rfl, e4, e5⟩ := hloop
 refine ⟨s, s', e1, ?_, by rw [e2, e4], by rw [e2, List.length_map, List.length_range]; omega, fun m hm => ?_, e5⟩
 ·unfold q1h
  have e3 : loopO q1c (0, 1, (n : Int), Sl.nil, L) = some (s', 1, (n : Int), L) := e3
  rw [e3]; rfl
 ·rw [e2] at hm
  obtain ⟨j, hj, rfl⟩ := List.mem_map.1 hm
  rw [List.mem_range] at hj
  obtain ⟨it, hit, e⟩ := hitem j hj
  have := hR.eq it hit
  rw [show ikey it = j by simp only [ikey]; omega] at this
  exact ql1 this (hR.fit it hit)
theorem qfs {b : bundle_Bundle} {st N : Int} {L : Sl ref12_Item} (h : Rel b st N L) {t : Sl api_Rule} {ports room : Int} (hn : t.l.length + 16 < 2147483647) (hT : TOk t.l ports room) :
  ∃ e, q1v b t ports room = some (e, b) ∧ q23 st N L t ports room = some (e, st, N, L) := by
 obtain ⟨s, s', e1, e2, e3, e4, e5, e6⟩ := qe1 h
 unfold q1v q23
 simp only [q01, Option.bind_some]
 rw [h.1]
 by_cases h1 : st = 1
 case neg => rw [show (st != 1) = true by simpa using h1]; exact ⟨16, rfl, rfl⟩
 rw [show (st != 1) = false by simpa using h1, cond_false, cond_false, e1, e2]
 simp only [Option.bind_some]
 have e4' : s'.l.length ≤ 16 := by have := (qie e3).1; omega
 obtain ⟨q, e7, _⟩ := q8y (t := t) (l := s) (room := room) (by omega) hT e5
 obtain ⟨q', e8, _⟩ := q9e (t := t) (l := s') (room := room) (by omega) hT e6
 rw [e7, e8]
 simp only [Option.bind_some]
 rw [(qfr (ports := ports) (room := room) (t := t.l) e3).2]
 exact ⟨_, rfl, rfl⟩
theorem qjd {b : bundle_Bundle} {st N : Int} {L : Sl ref12_Item} (h : Rel b st N L) {t : Sl api_Rule} {ports room : Int} (hn : t.l.length + 16 < 2147483647) (hT : TOk t.l ports room) :
  ∃ q q' e b' st' N' L', q28 b t ports room = some (q, e, b') ∧ q2f st N L t ports room = some (q', e, st', N', L') ∧ q.l.map nm = q'.l.map nm ∧ TOk q.l ports room ∧ TOk q'.l ports room ∧ q.l.length ≤ t.l.length + 16 ∧ q'.l.length ≤ t.l.length + 16 ∧ Rel b' st' N' L' := by
 obtain ⟨e, c1, c2⟩ := qfs h hn hT (room := room)
 unfold q28 q2f
 rw [c1, c2]
 simp only [Option.bind_some]
 by_cases he : e = 0
 case neg =>
  rw [show (e != 0) = true by simpa using he]
  exact ⟨t, t, e, b, st, N, L, rfl, rfl, rfl, hT, hT, by omega, by omega, h⟩
 rw [show (e != 0) = false by simpa using he, cond_false, cond_false]
 obtain ⟨s, s', e1, e2, e3, e4, e5, e6⟩ := qe1 h
 have e4' : s'.l.length ≤ 16 := by have := (qie e3).1; omega
 obtain ⟨q, e7, e9⟩ := q8y (t := t) (l := s) (room := room) (by omega) hT e5
 obtain ⟨q', e8, e10⟩ := q9e (t := t) (l := s') (room := room) (by omega) hT e6
 obtain ⟨g1, g2⟩ := ql4 hT s.l t.l 0 hT
 obtain ⟨g3, g4⟩ := ql4 hT s'.l t.l 0 hT
 rw [e1, e2]
 simp only [Option.bind_some]
 rw [e7, e8]
 simp only [Option.bind_some, q25]
 rw [← e9] at g1 g2
 rw [← e10] at g3 g4
 exact ⟨q, q', 0, _, 2, N, Sl.nil, rfl, rfl, by rw [e9, e10]; exact (qfr e3).1, g1, g3, by omega, by omega, rfl, .inr (.inr rfl)⟩
end Go.Proofs.Ytmeemkllagjnmaa.B
