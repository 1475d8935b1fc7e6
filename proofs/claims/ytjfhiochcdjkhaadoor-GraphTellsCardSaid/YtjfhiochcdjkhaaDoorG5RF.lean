/- Graphs: the reference's Far is the program's. Conditions: as stated. -/
import Derived.Test.YtjfhiochcdjkhaaDoorG5RO
import Derived.Test.YtjfhiochcdjkhaaDoorG5RR
open Go.Ev Go
namespace Go.Proofs.YtjfhiochcdjkhaaDoor.G

theorem ints_rep (n v : Nat) : ints (List.replicate n v) = List.replicate n (v : Int) := by simp [ints]

theorem Wk.le {l : List graph_Edge} {f : List Nat} (hU : ∀ i j, Ed l i j → gt f i < gt f j) {d i : Nat} (h : Wk l d i) : d ≤ gt f i := by
  induction h with
  | zero => exact Nat.zero_le _
  | step _ e ih => have := hU _ _ e; omega

theorem Wk.short {n d i : Nat} {l : List graph_Edge} {o : List Nat} (hF : Fits n l) (hP : Part n l 0 o) (h : Wk l d i) : i < n → d + 1 ≤ n := by
  have hlen := hP.len
  have hq : ∀ i, i < n → ∃ q, q < o.length ∧ gt o q = i := fun i hi => by
    rcases (hP.all i).2 hi with h | h
    · simp at h
    · exact mem_gt h
  have main : ∀ p, p < o.length → gt o p = i → d ≤ p := by
    induction h with
    | zero => intros; exact Nat.zero_le _
    | @step d i j h e ih =>
      intro p hp e2
      subst e2
      obtain ⟨q, hq, e3⟩ := hP.topo p hp _ e
      have := ih q (by omega) e3
      omega
  intro hi
  obtain ⟨q, hq, e⟩ := hq i hi
  have := main q hq e
  omega

theorem ref_far {n : Nat} {l : Sl ref20_Edge} {s : Sl Int} {o f : List Nat} (hb : l.l.length < 1000000) (hF : Fits n (l.l.map conv)) (hP : Part n (l.l.map conv) 0 o)
    (hO : ref20_Order (n : Int) l = some (s, true)) (hfl : f.length = n) (hU : ∀ i j, Ed (l.l.map conv) i j → gt f i < gt f j) (hW : ∀ i, Wk (l.l.map conv) (gt f i) i) :
    ∃ t, ref20_Far (n : Int) l = some (t, true) ∧ t.l = ints f := by
  have hn16 : n ≤ 16 := by have := hF.1; omega
  have e0 : ((0 : Nat) : Int) = 0 := rfl
  have hrep : ∀ i, gt (List.replicate n 0) i = 0 := fun i => by
    rcases Nat.lt_or_ge i n with h | h
    · rw [gt_eq (by simpa using h)]; simp
    · rw [gt_out (by simpa using h)]; rfl
  refine forE (f := ref20_Far_L1 n) (fun i (s : Sl Int) => (s, (i : Int))) n (fun i s => s.l = ints (List.replicate i 0)) (fun b => b.l = ints (List.replicate n 0)) ?_ ?_ 0 .nil (Nat.zero_le _) rfl (fun b k1 k2 => ?_)
  · intro i s hi hs
    have hcap : capI (s.l ++ [0]) = some (s.l ++ [0]) := capI_of (by rw [hs, List.length_append, ints_len, List.length_replicate, List.length_singleton]; omega)
    refine .inl ⟨.mk (s.l ++ [0]), by simp only [ref20_Far_L1, lt_t hi, cond_true, hcap, Option.bind_some, wr_s (show i < 1000000 by omega)], ?_⟩
    rw [Sl.l_mk, hs, show (0 : Int) = ((0 : Nat) : Int) from rfl, ints_app, List.replicate_succ']
  · intro s hs
    exact ⟨s, by simp only [ref20_Far_L1, lt_f, cond_false], hs⟩
  rw [e0] at k1
  -- the state: walks, and all walks of so many edges
  let S (g : List Nat) : Prop := g.length = n ∧ ∀ i, Wk (l.l.map conv) (gt g i) i
  refine forE (f := ref20_Far_L2 n l) (fun i (s : Sl Int) => (s, (i : Int))) n (fun k s => ∃ g, s.l = ints g ∧ S g ∧ ∀ d i, d ≤ k → Wk (l.l.map conv) d i → d ≤ gt g i)
    (fun s => ∃ g, s.l = ints g ∧ S g ∧ ∀ d i, d ≤ n → Wk (l.l.map conv) d i → d ≤ gt g i) ?_ ?_ 0 b (Nat.zero_le _) ⟨_, k2, ⟨by simp, fun i => by rw [hrep]; exact .zero i⟩, fun d i hd _ => by omega⟩ (fun c q1 q2 => ?_)
  · rintro k s hk ⟨F, hs, hS, hC⟩
    refine forE (f := ref20_Far_L3 l) (fun i (s : Sl Int) => (s, (i : Int))) l.l.length (fun t s => ∃ g, s.l = ints g ∧ S g ∧ (∀ i, gt F i ≤ gt g i) ∧ ∀ p, p < t → gt F (gt l.l p).From.toNat + 1 ≤ gt g (gt l.l p).To.toNat)
      (fun s => ∃ g, s.l = ints g ∧ S g ∧ (∀ i, gt F i ≤ gt g i) ∧ ∀ p, p < l.l.length → gt F (gt l.l p).From.toNat + 1 ≤ gt g (gt l.l p).To.toNat) ?_ ?_ 0 s (Nat.zero_le _) ⟨F, hs, hS, fun i => Nat.le_refl _, fun p hp => by omega⟩ (fun c q1 q2 => ?_)
    · rintro t s ht ⟨g, hs, ⟨g1, g2⟩, g3, g4⟩
      have hm : conv (gt l.l t) ∈ l.l.map conv := by rw [gt_eq ht]; exact List.mem_map_of_mem (List.getElem_mem _)
      obtain ⟨⟨f0, f1⟩, t0, t1⟩ := hF.2 _ hm
      simp only [conv] at f0 f1 t0 t1
      obtain ⟨x, hx⟩ : ∃ x : Nat, (gt l.l t).From = (x : Int) := ⟨(gt l.l t).From.toNat, by omega⟩
      obtain ⟨y, hy⟩ : ∃ y : Nat, (gt l.l t).To = (y : Int) := ⟨(gt l.l t).To.toNat, by omega⟩
      have hE : Ed (l.l.map conv) x y := ⟨_, hm, hx, hy⟩
      have hxl : x < s.l.length := by rw [hs, ints_len, g1]; omega
      have hyl : y < s.l.length := by rw [hs, ints_len, g1]; omega
      have hgx : gt s.l x = ((gt g x : Nat) : Int) := by rw [hs, ints_gt]
      have hgy : gt s.l y = ((gt g y : Nat) : Int) := by rw [hs, ints_gt]
      have hsh := (g2 x).short hF hP (by omega)
      have hw := wr_s (i := gt g x) (by omega)
      left
      by_cases hlt : gt g y < gt g x + 1
      · have hd : decide (((gt g y : Nat) : Int) < ((gt g x + 1 : Nat) : Int)) = true := by rw [decide_eq_true_eq]; omega
        have hset : s.l.set y ((gt g x + 1 : Nat) : Int) = ints (g.set y (gt g x + 1)) := by rw [hs, ints_set]
        have hgs : ∀ j, gt (g.set y (gt g x + 1)) j = if y = j then gt g x + 1 else gt g j := fun j => gt_set (by omega)
        refine ⟨.mk (ints (g.set y (gt g x + 1))), by simp only [ref20_Far_L3, lt_t ht, cond_true, ixI_of ht, Option.bind_some, hx, hy, ixI_of hxl, ixI_of hyl, hgx, hgy, hw, hd, hset, wr_s (show t < 1000000 by omega)], _, rfl, ⟨by rw [List.length_set]; exact g1, fun i => ?_⟩, fun i => ?_, fun p hp => ?_⟩
        · rw [hgs]; split
          · rename_i e; subst e; exact (g2 x).step hE
          · exact g2 i
        · rw [hgs]; have := g3 i; split
          · rename_i e; subst e; omega
          · exact this
        · rw [hgs]
          rcases Nat.lt_succ_iff_lt_or_eq.1 hp with h | rfl
          · have := g4 p h
            split
            · rename_i e; rw [← e] at this; omega
            · exact this
          · rw [hx, hy, Int.toNat_natCast, Int.toNat_natCast, if_pos rfl]
            have := g3 x; omega
      · have hd : decide (((gt g y : Nat) : Int) < ((gt g x + 1 : Nat) : Int)) = false := by rw [decide_eq_false_iff_not]; omega
        refine ⟨s, by simp only [ref20_Far_L3, lt_t ht, cond_true, ixI_of ht, Option.bind_some, hx, hy, ixI_of hxl, ixI_of hyl, hgx, hgy, hw, hd, cond_false, wr_s (show t < 1000000 by omega)], g, hs, ⟨g1, g2⟩, g3, fun p hp => ?_⟩
        rcases Nat.lt_succ_iff_lt_or_eq.1 hp with h | rfl
        · exact g4 p h
        · rw [hx, hy, Int.toNat_natCast, Int.toNat_natCast]
          have := g3 x; omega
    · rintro s hI
      exact ⟨s, by simp only [ref20_Far_L3, lt_f, cond_false], hI⟩
    · rw [e0] at q1
      obtain ⟨g, g1, g2, g3, g4⟩ := q2
      refine .inl ⟨c, by simp only [ref20_Far_L2, lt_t hk, cond_true, q1, Option.bind_some, wr_s (show k < 1000000 by omega)], g, g1, g2, fun d i hd h => ?_⟩
      cases h with
      | zero => exact Nat.zero_le _
      | @step d' a _ h e =>
        have h1 := hC d' a (by omega) h
        obtain ⟨e', he', e1, e2⟩ := e
        obtain ⟨e'', he'', rfl⟩ := List.mem_map.1 he'
        obtain ⟨p, hp, rfl⟩ := List.getElem_of_mem he''
        have h2 := g4 p hp
        rw [gt_eq hp] at h2
        simp only [conv] at e1 e2
        rw [e1, e2, Int.toNat_natCast, Int.toNat_natCast] at h2
        omega
  · rintro s hI
    exact ⟨s, by simp only [ref20_Far_L2, lt_f, cond_false], hI⟩
  · rw [e0] at q1
    obtain ⟨g, g1, ⟨g2, g3⟩, g4⟩ := q2
    refine ⟨c, by simp only [ref20_Far, hO, Option.bind_some, Bool.not_true, cond_false, k1, q1], ?_⟩
    rw [g1]
    congr 1
    refine List.ext_getElem (by omega) fun i h1 h2 => ?_
    rw [← gt_eq h1, ← gt_eq h2]
    have h3 := Wk.le hU (g3 i)
    have h4 := g4 (gt f i) i (by have := (hW i).short hF hP (by omega); omega) (hW i)
    omega

theorem far_same {n : Nat} {l : Sl ref20_Edge} {m : Sl graph_Edge} (hb : l.l.length < 1000000) (hm : m.l = l.l.map conv) (hF : Fits n m.l) :
    ∃ s t b, graph_Order (n : Int) m = some (s, b) ∧ ref20_Order (n : Int) l = some (t, b) ∧ s.l = t.l ∧ s.l.length ≤ 16 ∧
    ∃ s t, graph_Far (n : Int) m = some (s, b) ∧ ref20_Far (n : Int) l = some (t, b) ∧ s.l = t.l ∧ s.l.length ≤ 16 := by
  have hn16 : n ≤ 16 := by have := hF.1; omega
  have hbm : m.l.length < 1000000 := by rw [hm, List.length_map]; exact hb
  rcases order_spec hbm hF with ⟨s, o, h1, h2, hP⟩ | ⟨h1, x, o, hP, hS⟩
  · obtain ⟨f, h3, h4, h5, h6⟩ := far_exact hbm hF h1 h2 hP
    have hol := hP.len
    rw [hm] at hF hP h5 h6
    obtain ⟨t, h7, h8⟩ := (ref_order hb hF hP (.inl rfl)).1 rfl
    obtain ⟨t2, h9, h10⟩ := ref_far hb hF hP h7 h4 h5 h6
    exact ⟨s, t, true, h1, h7, by rw [h2, h8], by rw [h2, ints_len]; omega, _, t2, h3, h9, by rw [h10, Sl.l_mk], by rw [Sl.l_mk, ints_len]; omega⟩
  · rw [hm] at hF hP hS
    have h7 := (ref_order hb hF hP (.inr hS)).2 hS.ne
    exact ⟨.nil, .nil, false, h1, h7, rfl, by simp, .nil, .nil, by simp only [graph_Far, h1, Option.bind_some, Bool.not_false, cond_true], by simp only [ref20_Far, h7, Option.bind_some, Bool.not_false, cond_true], rfl, by simp⟩
end Go.Proofs.YtjfhiochcdjkhaaDoor.G
