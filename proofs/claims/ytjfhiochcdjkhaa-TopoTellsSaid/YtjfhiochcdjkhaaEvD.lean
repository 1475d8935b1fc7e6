/- What the model's operations on memory do where the relation holds: loads, stores, new blocks. Conditions: the relation of XEvC. -/
import Derived.Test.YtjfhiochcdjkhaaEvC
import Derived.Laws.CopyRow
namespace Go.Ev

variable {P : Program}

def szOf (P : Program) (t : TypeId) : Option Nat := (P.info? t).map (·.size)
def aggOf (P : Program) (t : TypeId) : Option Bool := (P.underlying t).map fun | .struct _ | .array _ _ => true | _ => false
def zeroOf (P : Program) (t : TypeId) : Option (List Value) := match (P.info? t).bind (·.zero) with | some z => if z.cells.toList.all plain then some z.cells.toList else none | none => none

theorem add_eq (b off n : Nat) : (⟨b, off, none⟩ : Addr).add n = ⟨b, off + n, none⟩ := by
  unfold Addr.add; split <;> simp_all

theorem run_sz {t : TypeId} {n : Nat} (h : szOf P t = some n) (w : World) : (sizeOf t).run P w = .ok n w := by
  simp only [szOf, Option.map_eq_some_iff] at h
  obtain ⟨i, hi, rfl⟩ := h
  simp [sizeOf, typeInfo, hi]

theorem run_und {t : TypeId} {d : TypeDesc} (h : P.underlying t = some d) (w : World) : (underlying t).run P w = .ok d w := by
  simp [underlying, h]

theorem run_agg {t : TypeId} {g : Bool} (h : aggOf P t = some g) (w : World) : (isAgg t).run P w = .ok g w := by
  simp only [aggOf, Option.map_eq_some_iff] at h
  obtain ⟨d, hd, rfl⟩ := h
  simp only [isAgg, Sem.run_bind, run_und hd, Result.andThen_ok]
  cases d <;> rfl

theorem run_zero {t : TypeId} {z : List Value} (h : zeroOf P t = some z) (w : World) :
    ∃ v, (zeroValue t).run P w = .ok v w ∧ v.cells.toList = z ∧ ∀ x ∈ z, plain x = true := by
  simp only [zeroOf] at h
  split at h
  · rename_i v hv
    split at h
    · rename_i hp
      obtain rfl := Option.some.inj h
      obtain ⟨i, hi, hz⟩ := Option.bind_eq_some_iff.1 hv
      exact ⟨v, by simp [zeroValue, typeInfo, hi, hz], rfl, fun x hx => List.all_eq_true.1 hp x hx⟩
    · simp at h
  · simp at h

section
variable {S K : Nat → Prop} {w0 w : World} {Kn : Nat → Prop} {φ : Nat → Loc} {hf : Nat → Option Ob}

theorem ldD_eq (agg : Bool) (n : Nat) (cells : List D) : ldD agg n cells = ldC agg n (cells.map .d) := by
  unfold ldD ldC
  cases agg
  · cases cells <;> rfl
  · simp [List.map_take]

/-- a load of what is known cell by cell -/
theorem run_ld {t : TypeId} {agg : Bool} {n : Nat} (ha : aggOf P t = some agg) (hn : szOf P t = some n) {cells : List C} {b o : Nat} {v : TV}
    (hc : ∀ (j : Nat) (x : C), cells[j]? = some x → ∃ u, w.cell? ⟨b, o + j, none⟩ = some u ∧ RC S w Kn φ x u) (h : ldC agg n cells = some v) :
    ∃ val, (loadVar t ⟨b, o, none⟩).run P w = .ok val w ∧ RTV S w Kn φ v val := by
  unfold ldC at h
  cases agg
  · simp only [Bool.false_eq_true, if_false] at h
    cases cells with
    | nil => simp at h
    | cons x r =>
      obtain rfl : TV.c x = v := by simpa using h
      obtain ⟨u, hu, hr⟩ := hc 0 x rfl
      refine ⟨u, ?_, .c hr⟩
      simp only [loadVar, Sem.run_bind, run_agg ha, Result.andThen_ok, Bool.false_eq_true, if_false, run_load]
      simp only [Nat.add_zero] at hu
      simp [hu]
  · simp only [if_true] at h
    split at h
    · rename_i hle
      obtain rfl := Option.some.inj h
      have hcell : ∀ j, j < n → w.cell? ((⟨b, o, none⟩ : Addr).add j) = some ((w.cell? ⟨b, o + j, none⟩).getD undef) := by
        intro j hj
        have hj' : j < cells.length := by omega
        obtain ⟨u, hu, _⟩ := hc j cells[j] (by simp [hj'])
        rw [add_eq, hu]; rfl
      refine ⟨.agg ((List.range n).map fun j => (w.cell? ⟨b, o + j, none⟩).getD undef).toArray, ?_, .agg (by simp; omega) ?_⟩
      · simp only [loadVar, Sem.run_bind, run_agg ha, Result.andThen_ok, if_true, run_sz hn, run_loadCells w _ n _ hcell, Sem.run_pure]
      · intro i x hi
        rw [List.getElem?_take] at hi
        split at hi
        · rename_i hin
          obtain ⟨u, hu, hr⟩ := hc i x hi
          have : ((List.range n).map fun j => (w.cell? ⟨b, o + j, none⟩).getD undef).toArray.getD i undef = u := by
            simp [Array.getD, hin, hu]
          rw [this]; exact hr
        · simp at hi
    · simp at h

/-- the cells that a handle leads to -/
theorem cells_of_arr {id row : Nat} {sz : Nat} {rows : List (List D)} (hI : Inv S K w0 Kn φ hf w) (ho : hf id = some (.arr sz rows) ∨ hf id = some (.imm sz rows)) {r : List D} (hr : rows[row]? = some r) (off : Nat) :
    (φ id).sz = sz ∧ r.length = sz ∧ ∀ (j : Nat) (x : C), ((r.drop off).map C.d)[j]? = some x → ∃ u, w.cell? ⟨(φ id).blk, (φ id).base + row * (φ id).sz + off + j, none⟩ = some u ∧ RC S w Kn φ x u := by
  rcases ho with ho | ho
  · obtain ⟨hk, h0⟩ := hI.obj _ _ ho
    cases h0 with
    | arr hsz hl hS hK hown hext hfit hrr =>
      refine ⟨hl, hrr.1 _ _ hr, fun j x hj => ?_⟩
      rw [List.getElem?_map, List.getElem?_drop] at hj
      obtain ⟨d, hd, rfl⟩ := Option.map_eq_some_iff.1 hj
      obtain ⟨u, hu, hrd⟩ := hrr.2 row r hr (off + j) d hd
      refine ⟨u, ?_, .d hrd⟩
      rw [hown.cell, hl, ← hu]
      show _ = _
      congr 1; omega
  · obtain ⟨hk, h0⟩ := hI.obj _ _ ho
    cases h0 with
    | imm hsz hl hS hrr =>
      refine ⟨hl, hrr.1 _ _ hr, fun j x hj => ?_⟩
      rw [List.getElem?_map, List.getElem?_drop] at hj
      obtain ⟨d, hd, rfl⟩ := Option.map_eq_some_iff.1 hj
      obtain ⟨u, hu, hrd⟩ := hrr.2 row r hr (off + j) d hd
      refine ⟨u, ?_, .d hrd⟩
      rw [hl, ← hu]
      simp only [Nat.add_assoc]

theorem run_evLoad {t : TypeId} {agg : Bool} {n : Nat} (ha : aggOf P t = some agg) (hn : szOf P t = some n) {p : C} {H : Heap} {v : TV} {ids : List Nat} {pv : Value}
    (hI : Inv S K w0 Kn φ (look H) w) (hp : RC S w Kn φ p pv) (h : evLoad agg n p H = some (v, ids)) :
    ∃ val, (Instr.loadAt t pv).run P w = .ok val w ∧ RTV S w Kn φ v val := by
  unfold evLoad at h
  split at h
  · rename_i cells
    split at h
    · rename_i v' hv
      obtain ⟨rfl, rfl⟩ : v' = v ∧ [] = ids := by simpa using h
      rw [ldD_eq] at hv
      cases hp with
      | d hd =>
        cases hd with
        | pt f hb hcell hrd =>
          obtain ⟨val, h1, h2⟩ := run_ld (Kn := Kn) (φ := φ) (S := S) ha hn (cells := cells.map .d) (fun j x hj => by
            rw [List.getElem?_map] at hj
            obtain ⟨d, hd, rfl⟩ := Option.map_eq_some_iff.1 hj
            exact ⟨_, hcell j d hd, .d (hrd j d hd)⟩) hv
          exact ⟨val, by simp [Instr.loadAt, Instr.sureAddr, h1], h2⟩
    · simp at h
  · rename_i id row off
    have key : ∀ sz rows, (look H id = some (.arr sz rows) ∨ look H id = some (.imm sz rows)) →
        (match rows[row]? with | some r => (match ldD agg n (r.drop off) with | some v => some (v, [id]) | none => none) | none => none) = some (v, ids) →
        ∃ val, (Instr.loadAt t pv).run P w = .ok val w ∧ RTV S w Kn φ v val := by
      intro sz rows ho h
      split at h
      · rename_i r hr
        split at h
        · rename_i v' hv
          obtain ⟨rfl, rfl⟩ : v' = v ∧ [id] = ids := by simpa using h
          rw [ldD_eq] at hv
          obtain ⟨hl, hrl, hc⟩ := cells_of_arr hI ho hr off
          cases hp with
          | ep hk =>
            obtain ⟨val, h1, h2⟩ := run_ld ha hn hc hv
            exact ⟨val, by simp [Instr.loadAt, Instr.sureAddr, h1], h2⟩
        · simp at h
      · simp at h
    split at h
    · rename_i sz rows ho; exact key sz rows (.inl ho) h
    · rename_i sz rows ho; exact key sz rows (.inr ho) h
    · simp at h
  · rename_i id off
    split at h
    · rename_i cells ho
      split at h
      · rename_i v' hv
        obtain ⟨rfl, rfl⟩ : v' = v ∧ [id] = ids := by simpa using h
        obtain ⟨hk, h0⟩ := hI.obj _ _ ho
        cases h0 with
        | box hb hS hK hown hlen hrr =>
          cases hp with
          | op hk =>
            obtain ⟨val, h1, h2⟩ := run_ld (S := S) (Kn := Kn) (φ := φ) ha hn (cells := cells.drop off) (b := (φ id).blk) (o := (φ id).base + off) (fun j x hj => by
              rw [List.getElem?_drop] at hj
              have hlt := (List.getElem?_eq_some_iff.1 hj).1
              rw [hlen] at hlt
              refine ⟨_, ?_, hrr _ _ hj⟩
              rw [hown.cell, hb]
              simp [Array.getD, hlt]) hv
            exact ⟨val, by simp [Instr.loadAt, Instr.sureAddr, h1], h2⟩
      · simp at h
    · rename_i cells ho
      split at h
      · rename_i v' hv
        obtain ⟨rfl, rfl⟩ : v' = v ∧ [id] = ids := by simpa using h
        rw [ldD_eq] at hv
        obtain ⟨hk, h0⟩ := hI.obj _ _ ho
        cases h0 with
        | ibox hb hS hrr =>
          cases hp with
          | op hk =>
            obtain ⟨val, h1, h2⟩ := run_ld (S := S) (Kn := Kn) (φ := φ) ha hn (cells := (cells.drop off).map .d) (b := (φ id).blk) (o := (φ id).base + off) (fun j x hj => by
              rw [List.getElem?_map, List.getElem?_drop] at hj
              obtain ⟨d, hd, rfl⟩ := Option.map_eq_some_iff.1 hj
              obtain ⟨u, hu, hr⟩ := hrr _ _ hd
              exact ⟨u, by rw [hb, ← hu]; simp, .d hr⟩) hv
            exact ⟨val, by simp [Instr.loadAt, Instr.sureAddr, h1], h2⟩
      · simp at h
    · simp at h
  · simp at h

/-! ### stores -/

theorem frozen_setRow {w : World} {b : Nat} {old arr : Array Value} (h : Own w b old) (a : Addr) : (w.setRow b arr).frozen? a = w.frozen? a := by
  obtain ⟨t, h⟩ := h
  unfold World.frozen?
  by_cases e : a.block = b
  · rw [e, setRow_heap w b old arr t _ h, h]
  · rw [setRow_other w b _ _ e]

theorem own_setRow {w : World} {b : Nat} {old arr : Array Value} (h : Own w b old) : Own (w.setRow b arr) b arr := by
  obtain ⟨t, h⟩ := h
  exact ⟨t, setRow_heap w b old arr t _ h⟩

theorem oneCell_eq (v : Value) : v.oneCell' = one v := by cases v <;> rfl

theorem RTV.cells {S : Nat → Prop} {w : World} {Kn : Nat → Prop} {φ : Nat → Loc} {v : TV} {val : Value} {cs : List C} (h : RTV S w Kn φ v val) (hc : cellsOf v = some cs) :
    cs.length = val.cells.size ∧ (∀ (i : Nat) (x : C), cs[i]? = some x → RC S w Kn φ x (val.cells.getD i undef)) ∧ ∀ x ∈ val.cells.toList, one x = true := by
  cases h with
  | @c x v h =>
    obtain rfl : [x] = cs := by simpa [cellsOf] using hc
    have e := cells_of_one h.one
    refine ⟨by rw [e]; rfl, fun i y hi => ?_, fun y hy => ?_⟩
    · cases i with
      | zero =>
        rw [e]
        obtain rfl : x = y := by simpa using hi
        exact h
      | succ i => simp at hi
    · rw [e] at hy
      obtain rfl : y = val := by simpa using hy
      exact h.one
  | @agg cs' arr hlen h =>
    obtain rfl : cs' = cs := by simpa [cellsOf] using hc
    refine ⟨hlen, h, fun y hy => ?_⟩
    obtain ⟨i, hi, rfl⟩ := List.getElem_of_mem hy
    have hi' : i < arr.size := by simpa [Value.cells] using hi
    have := (h i (cs'[i]'(by omega)) (by simp [hlen, hi'])).one
    simpa [Array.getD, hi', Value.cells] using this
  | tup hlen h => simp [cellsOf] at hc

/-- a run of stores into a block of one's own -/
theorem run_put {t : TypeId} {n : Nat} (hn : szOf P t = some n) {b o : Nat} {arr : Array Value} {val : Value} (ho : Own w b arr) (hlen : val.cells.size = n) (hfit : o + n ≤ arr.size)
    (hone : ∀ x ∈ val.cells.toList, one x = true) :
    (storeVar t ⟨b, o, none⟩ val).run P w = .ok () (w.setRow b (arr.toList.take o ++ val.cells.toList ++ arr.toList.drop (o + n)).toArray) := by
  obtain ⟨ty, hb⟩ := ho
  have := run_storeCells_at P b o ty val.cells.toList 0 arr w hb (by simp; omega) (fun v hv => by rw [oneCell_eq]; exact hone v hv)
  have e : val.cells.toList.length = n := by simpa using hlen
  rw [e] at this
  simp only [Nat.add_zero] at this
  simp only [storeVar, Sem.run_bind, run_sz hn, Result.andThen_ok, hlen, ne_eq, not_true_eq_false, if_false]
  exact this

theorem splice_get {α : Type} (l : List α) (off : Nat) (p : List α) (hfit : off + p.length ≤ l.length) (i : Nat) :
    (splice l off p)[i]? = if i < off then l[i]? else if i < off + p.length then p[i - off]? else l[i]? := by
  unfold splice
  by_cases h1 : i < off
  · rw [List.append_assoc, List.getElem?_append_left (by simp; omega)]
    simp [h1]
  · by_cases h2 : i < off + p.length
    · rw [List.getElem?_append_left (by simp; omega), List.getElem?_append_right (by simp; omega)]
      simp only [List.length_take, h1, h2, if_true, if_false]
      congr 1; omega
    · rw [List.getElem?_append_right (by simp; omega)]
      simp only [List.length_append, List.length_take, List.getElem?_drop, h1, h2, if_false]
      congr 1; omega

theorem splice_length {α : Type} (l : List α) (off : Nat) (p : List α) (hfit : off + p.length ≤ l.length) : (splice l off p).length = l.length := by
  unfold splice; simp; omega

theorem put_eq {arr : Array Value} {vs : List Value} {o n : Nat} (hn : vs.length = n) : arr.toList.take o ++ vs ++ arr.toList.drop (o + n) = splice arr.toList o vs := by
  rw [← hn]; rfl

end
end Go.Ev
