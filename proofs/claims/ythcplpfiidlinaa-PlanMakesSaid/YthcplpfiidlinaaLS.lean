/- The library's sorts and Compact in this program: what they do. Conditions: none. -/
import Derived.Test.YthcplpfiidlinaaKs
import Derived.Test.YthcplpfiidlinaaKm
import Derived.Test.YthcplpfiidlinaaLa
import Derived.Test.YthcplpfiidlinaaLSh
import Derived.Lib.RowBridge
namespace Go.Proofs.Ythcplpfiidlinaa.L
open Go Go.Ev Go.Proofs Go.Shelf Go.RowKit Go.Lib Go.Sort
def qp4 (a b : Int) : Int := if a < b then -1 else if a > b then 1 else 0
def qpo (x y : O.level_Move) : Int := if qp4 x.2.2.2 y.2.2.2 ≠ 0 then qp4 x.2.2.2 y.2.2.2 else if qp4 x.1 y.1 ≠ 0 then qp4 x.1 y.1 else qp4 x.2.1 y.2.1
theorem q116 (a b : Int) : O.cmp_Compare_int a b = some (qp4 a b) := by
 simp only [O.cmp_Compare_int, O.cmp_isNaN_int, Option.bind_some, bne_self_eq_false, cond_false, qp4]
 by_cases h1 : a < b
 ·rw [decide_eq_true h1, if_pos h1]; rfl
 ·rw [decide_eq_false h1, if_neg h1, cond_false]
  by_cases h2 : a > b
  ·rw [decide_eq_true h2, if_pos h2]; rfl
  ·rw [decide_eq_false h2, if_neg h2]; rfl
theorem q14f (a b c : Int) : O.cmp_Or_int (Sl.mk [a, b, c]) = some (if a ≠ 0 then a else if b ≠ 0 then b else c) := by
 have st : ∀ (i : Nat) (x : Int), [a, b, c][i]? = some x → O.cmp_Or_int_L1 (Sl.mk [a, b, c]) (i : Int) = if x ≠ 0 then some (.inr (.inl x)) else some (.inl ((i + 1 : Nat) : Int)) := by
  intro i x hx
  obtain ⟨hi, he⟩ := List.getElem?_eq_some_iff.1 hx
  have hi3 : i < 3 := hi
  simp only [O.cmp_Or_int_L1]
  rw [decide_eq_true (show (i : Int) < ((Sl.mk [a, b, c]).l.length : Int) by show (i : Int) < 3; omega), cond_true, q07 (show i < (Sl.mk [a, b, c]).l.length from hi3)]
  simp only [Option.bind_some]
  have hg : gt (Sl.mk [a, b, c]).l i = x := by rw [q22 (show i < (Sl.mk [a, b, c]).l.length from hi3)]; exact he
  rw [hg]
  by_cases h : x = 0
  ·subst h
   have : wr .i64 ((i : Int) + 1) = ((i + 1 : Nat) : Int) := by simp [wr, IntKind.wrap, IntKind.bits, IntKind.signed]; omega
   rw [this]; rfl
  ·rw [if_pos h, show (x != 0) = true by simpa using h]; rfl
 unfold O.cmp_Or_int
 by_cases h1 : a = 0
 case neg =>
  rw [q0p (b := .inl a) (by have := st 0 a rfl; rw [if_pos h1] at this; exact this), if_pos h1]; rfl
 rw [q1z (a' := ((1 : Nat) : Int)) (by have := st 0 a rfl; rw [if_neg (not_not_intro h1)] at this; exact this), if_neg (not_not_intro h1)]
 by_cases h2 : b = 0
 case neg =>
  rw [q0p (b := .inl b) (by have := st 1 b rfl; rw [if_pos h2] at this; exact this), if_pos h2]; rfl
 rw [q1z (a' := ((2 : Nat) : Int)) (by have := st 1 b rfl; rw [if_neg (not_not_intro h2)] at this; exact this), if_neg (not_not_intro h2)]
 by_cases h3 : c = 0
 case neg => rw [q0p (b := .inl c) (by have := st 2 c rfl; rw [if_pos h3] at this; exact this)]; rfl
 rw [q1z (a' := ((3 : Nat) : Int)) (by have := st 2 c rfl; rw [if_neg (not_not_intro h3)] at this; exact this), q0p (b := .inr ()) rfl, h3]; rfl
theorem quw (x y : O.level_Move) : O.level_order x y = some (qpo x y) := by
 simp only [O.level_order, q116, q14f, Option.bind_some, qpo]
theorem qht {a b : Int} : qp4 a b < 0 ↔ a < b := by unfold qp4; split <;> (try split) <;> omega
theorem qbc {a b : Int} : qp4 a b = 0 ↔ a = b := by unfold qp4; split <;> (try split) <;> omega
def Bef (x y : O.level_Move) : Prop := x.2.2.2 < y.2.2.2 ∨ x.2.2.2 = y.2.2.2 ∧ (x.1 < y.1 ∨ x.1 = y.1 ∧ x.2.1 < y.2.1)
theorem qgr {x y : O.level_Move} : Go.Proofs.ltOf qpo x y = true ↔ Bef x y := by
 unfold Go.Proofs.ltOf qpo Bef
 rw [decide_eq_true_eq]
 by_cases h1 : qp4 x.2.2.2 y.2.2.2 = 0
 ·rw [if_neg (not_not_intro h1)]
  have e1 := qbc.1 h1
  by_cases h2 : qp4 x.1 y.1 = 0
  ·rw [if_neg (not_not_intro h2), qht]
   have e2 := qbc.1 h2
   omega
  ·rw [if_pos h2, qht]
   have e2 : x.1 ≠ y.1 := fun h => h2 (qbc.2 h)
   omega
 ·rw [if_pos h1, qht]
  have e1 : x.2.2.2 ≠ y.2.2.2 := fun h => h1 (qbc.2 h)
  omega
theorem swoM : Go.Sort.SWO (Go.Proofs.ltOf qpo) where
 irrefl x := by
  cases h : Go.Proofs.ltOf qpo x x
  ·rfl
  ·have := qgr.1 h; unfold Bef at this; omega
 trans x y z h1 h2 := by rw [qgr] at *; unfold Bef at *; omega
 ntrans x y z h1 h2 := by
  rw [← Bool.not_eq_true, qgr] at *
  unfold Bef at *; omega
noncomputable def q3r (d : Array O.level_Move) : Array O.level_Move := Go.Sort.pdq (Go.Proofs.ltOf qpo) d 0 d.size (Lib.bitLen d.size) true true
theorem q4q (d : Array O.level_Move) : Go.Sort.PermIn 0 d.size d (q3r d) ∧ Go.Sort.SortedIn (Go.Proofs.ltOf qpo) 0 d.size (q3r d) :=
 Go.Sort.pdq_sorts (Go.Proofs.ltOf qpo) swoM d 0 d.size (Lib.bitLen d.size) true true (Nat.zero_le _) (Nat.le_refl _) (Or.inl rfl)
def qkz (x : O.level_Move) : List Value := [.int .i64 x.1, .int .i64 x.2.1, .int .i64 x.2.2.1, .int .i64 x.2.2.2]
theorem qjx (x : O.level_Move) : q06 O.y0 x = q0n (qkz x) := rfl
theorem qe3 (x : O.level_Move) : ∀ v ∈ qkz x, q1e v = true := by
 intro v hv
 simp only [qkz, List.mem_cons, List.not_mem_nil, or_false] at hv
 rcases hv with rfl | rfl | rfl | rfl <;> rfl
theorem qow (x y : O.level_Move) : Go.Ev.Good Try.prog 36 [.agg (q06 O.y0 x), .agg (q06 O.y0 y)] [.c (.d (.lit (.int .i64 (qpo x y))))] [] :=
 O.ok3.2 (x, y) (qpo x y) (quw x y)
theorem qql (args : Array Value) (w : World) : (callFunc 36 args).run Try.prog w = .ok (.enter 36 args) w := enters_of Try.func36 (by kernel_rfl) rfl args w
theorem qzw (args : Array Value) (w : World) : (callFunc 35 args).run Try.prog w = .ok (.enter 35 args) w := enters_of Try.func35 (by kernel_rfl) rfl args w
theorem q13t (w : World) : Glob (fun _ => False) w := qj0 fun _ => rfl
theorem qoh (p : Option Addr) (cap : Nat) (fv : Value) (w : World) : Calls Try.prog 35 #[.slice p 0 cap, fv] w fun e w' => e = .returned (.tuple #[]) ∧ w' = w := by
 have := @AnyF.slices_SortFunc_none _ _ qrw p cap fv w
 exact this
theorem cmpM (x y : O.level_Move) (w : World) : Calls Try.prog 36 #[.agg (qkz x).toArray, .agg (qkz y).toArray] w fun e w' => e = .returned (.int .i64 (qpo x y)) ∧ ∃ q os, w' = grow (w.drewN q) os :=
 qwh (t := O.y0) qjx qe3 qow qql q13t x y w
theorem qrf : q0l Try.prog 35 (qlq O.y0 36 q3r) :=
 qyi fun s hs => qri (t := O.y0) qjx qe3 (by decide) q3r (fun d => (q4q d).1.1) qzw
  (fun blk off cap d w hH hb hd => AnyQ.slices_SortFunc_eq qrw 4 Try.isAgg35 Try.sizeOf35 qkz (fun _ => rfl) (fun x v hv => by
   simp only [qkz, List.mem_cons, List.not_mem_nil, or_false] at hv
   rcases hv with rfl | rfl | rfl | rfl <;> rfl) qpo swoM 36 #[] blk off cap d w qql
   (fun m os dk _ x y => cmpM x y _) hH hb hd)
  qoh s hs
def qcp (x : Int) : List Value := [.int .i64 x]
theorem q11f (d : Array Int) {j : Nat} (hj : j < d.size) : (flatK qcp 1 d)[j]! = .int .i64 d[j]! := by
 rw [get_flatK _ _ _ _ (by omega), Nat.div_one, Nat.mod_one]; rfl
theorem qx3 {w : World} {blk off : Nat} {d : Array Int} (h : HoldsK qcp 1 w blk off d) : Holds (Value.int .i64) w blk off d := by
 intro j hj
 have := h j (by rw [size_flatK]; omega)
 rw [q11f d hj] at this
 exact this
theorem put1 (w : World) (blk off : Nat) (d : Array Int) : putRow (Value.int .i64) w blk off d = putRowK qcp 1 w blk off d := by
 unfold putRowK putRow putCells
 rw [size_flatK, Nat.mul_one]
 congr 1
 funext c
 apply Array.ext
 ·simp
 ·intro i h1 h2
  simp only [Array.getElem_mapIdx]
  by_cases h : off ≤ i ∧ i < off + d.size
  ·rw [if_pos h, if_pos h, q11f d (by omega)]; rfl
  ·rw [if_neg h, if_neg h]
theorem q127 (w : World) (blk off n : Nat) (d : Array Int) (os : Array Obj) : grow (putRow (Value.int .i64) (Go.Sort.ahead w n) blk off d) os = sortWorldK qcp 1 w blk off n d os := by
 rw [put1]; rfl
theorem q12t (w : World) (blk off n : Nat) (d : Array Int) : putRow (Value.int .i64) (Go.Sort.ahead w n) blk off d = sortWorldK qcp 1 w blk off n d #[] := by
 rw [put1]
 unfold sortWorldK
 rw [grow_empty]
def leI (x y : Int) : Bool := decide (x ≤ y)
noncomputable def qf4 (d : Array Int) : Array Int := (d.toList.mergeSort leI).toArray
theorem qsw (d : Array Int) : (qf4 d).size = d.size := by simp [qf4]
theorem qz1 (args : Array Value) (w : World) : (callFunc 54 args).run Try.prog w = .ok (.enter 54 args) w := enters_of Try.func54 (by kernel_rfl) rfl args w
theorem qyx (args : Array Value) (w : World) : (callFunc 55 args).run Try.prog w = .ok (.enter 55 args) w := enters_of Try.func55 (by kernel_rfl) rfl args w
theorem qwu (x : Int) : ∀ v ∈ qcp x, q1e v = true := by
 intro v hv
 obtain rfl := List.mem_singleton.1 hv
 rfl
theorem qqs (blk off cap : Nat) (d : Array Int) (w : World) (hH : HoldsK qcp 1 w blk off d) (hb : blk < w.heap.size) (hd : d.size < 4611686018427387904) :
  Calls Try.prog 54 #[.slice (some ⟨blk, off, none⟩) d.size cap] w fun e w' => e = .returned (.tuple #[]) ∧ ∃ n os, w' = sortWorldK qcp 1 w blk off n (qf4 d) os := by
 have h : Calls Try.prog 54 _ w _ := Any.slices_Sort_int qxd blk off cap d.toList w (by simpa using qx3 hH) hb (by simpa using hd)
 rw [Array.length_toList] at h
 refine h.mono ?_
 rintro e w' ⟨rfl, n, os, rfl⟩
 exact ⟨rfl, n, os, q127 w blk off n _ os⟩
theorem qtn (p : Option Addr) (cap : Nat) (w : World) : Calls Try.prog 54 #[.slice p 0 cap] w fun e w' => e = .returned (.tuple #[]) ∧ w' = w := by
 have := @Any.slices_Sort_int_none _ _ qxd p cap w
 exact this
theorem qwq : q0l Try.prog 54 (qh1 (.i .i64) qf4) :=
 qvz fun s hs => qo1 (t := .i .i64) (vals := qcp) (fun _ => rfl) qwu (by decide) qf4 qsw qz1 qqs qtn s hs
theorem qwp (blk off cap : Nat) (l : List Int) (w : World) (hH : HoldsK qcp 1 w blk off l.toArray) (_ : blk < w.heap.size) (hd : l.length < 4611686018427387904) (hc : l.length ≤ cap) :
  Calls Try.prog 55 #[.slice (some ⟨blk, off, none⟩) l.length cap] w fun e w' => e = .returned (.slice (some ⟨blk, off, none⟩) (Lib.compact l).length cap) ∧ ∃ n os rest, (Lib.compact l ++ rest).length = l.length ∧ w' = sortWorldK qcp 1 w blk off n (Lib.compact l ++ rest).toArray os := by
 have h : Calls Try.prog 55 _ w _ := Any.slices_Compact_int q11w blk off cap l w (qx3 hH) (by omega) hc
 refine h.mono ?_
 rintro e w' ⟨rfl, q, rfl⟩
 refine ⟨rfl, q, #[], List.replicate (l.length - (Lib.compact l).length) 0, ?_, q12t w blk off q _⟩
 have := Lib.compact_length_le l
 rw [List.length_append, List.length_replicate]
 omega
theorem qw7 (p : Option Addr) (cap : Nat) (w : World) : Calls Try.prog 55 #[.slice p 0 cap] w fun e w' => e = .returned (.slice p 0 cap) ∧ w' = w := by
 have := @Any.slices_Compact_int_empty _ _ q11w p cap w
 exact this
theorem qy8 : q0l Try.prog 55 (qnu (.i .i64) Lib.compact) :=
 q11b fun s hs => qv2 (t := .i .i64) (vals := qcp) (fun _ => rfl) qwu (by decide) Lib.compact qyx qwp qw7 s hs
def qbg (l : List Int) : List Int := Lib.compact l
theorem qvq : q0l Try.prog 55 (qnu (.i .i64) qbg) := qy8
end Go.Proofs.Ythcplpfiidlinaa.L
