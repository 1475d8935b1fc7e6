/- The relation between the abstract machine's data and the model's memory, and how it is kept. Conditions: none, these are definitions and small laws. -/
import Derived.Test.YtjfhiochcdjkhaaEvB
namespace Go.Ev

/-! ### data -/

inductive RD (S : Nat → Prop) (w : World) : D → Value → Prop
  | lit {v : Value} (h : plain v = true) : RD S w (.lit v) v
  | sl {sz : Nat} {rows : List (List D)} {b off cap : Nat} (f : Nat → Nat → Value) (hb : S b) (hsz : 0 < sz) (hcap : rows.length ≤ cap)
      (hrow : ∀ (i : Nat) (r : List D), rows[i]? = some r → r.length = sz)
      (hcell : ∀ (i : Nat) (r : List D), rows[i]? = some r → ∀ (j : Nat) (x : D), r[j]? = some x → w.cell? ⟨b, off + i * sz + j, none⟩ = some (f i j))
      (hrd : ∀ (i : Nat) (r : List D), rows[i]? = some r → ∀ (j : Nat) (x : D), r[j]? = some x → RD S w x (f i j)) :
      RD S w (.sl sz rows) (.slice (some ⟨b, off, none⟩) rows.length cap)
  | sl0 {sz : Nat} {a : Addr} (hsz : 0 < sz) : RD S w (.sl sz []) (.slice (some a) 0 0)
  | pt {cells : List D} {b off : Nat} (f : Nat → Value) (hb : S b)
      (hcell : ∀ (j : Nat) (x : D), cells[j]? = some x → w.cell? ⟨b, off + j, none⟩ = some (f j))
      (hrd : ∀ (j : Nat) (x : D), cells[j]? = some x → RD S w x (f j)) :
      RD S w (.pt cells) (.pointer (some ⟨b, off, none⟩))
  | fn {g : FuncId} {caps : List D} {vs : Array Value} (hlen : caps.length = vs.size)
      (hrd : ∀ (j : Nat) (x : D), caps[j]? = some x → RD S w x (vs.getD j undef)) :
      RD S w (.fn g caps) (.func (.func g) #[] vs)

/-- what is frozen stays as it is -/
structure Stp (S : Nat → Prop) (w : World) (S' : Nat → Prop) (w' : World) : Prop where
  sub : ∀ b, S b → S' b
  same : ∀ b, S b → w'.heap[b]? = w.heap[b]?

theorem Stp.refl (S : Nat → Prop) (w : World) : Stp S w S w := ⟨fun _ h => h, fun _ _ => rfl⟩
theorem Stp.trans {S S' S'' : Nat → Prop} {w w' w'' : World} (a : Stp S w S' w') (b : Stp S' w' S'' w'') : Stp S w S'' w'' :=
  ⟨fun x h => b.sub x (a.sub x h), fun x h => (b.same x (a.sub x h)).trans (a.same x h)⟩

theorem cell?_same {w w' : World} {b : Nat} (h : w'.heap[b]? = w.heap[b]?) (off : Nat) : w'.cell? ⟨b, off, none⟩ = w.cell? ⟨b, off, none⟩ := by
  simp [World.cell?, h]

theorem RD.mono {S S' : Nat → Prop} {w w' : World} (hs : Stp S w S' w') {x : D} {v : Value} (h : RD S w x v) : RD S' w' x v := by
  induction h with
  | lit h => exact .lit h
  | sl f hb hsz hcap hrow hcell hrd ih => exact .sl f (hs.sub _ hb) hsz hcap hrow (fun i r hi j x hj => (cell?_same (hs.same _ hb) _).trans (hcell i r hi j x hj)) ih
  | sl0 h => exact .sl0 h
  | pt f hb hcell hrd ih => exact .pt f (hs.sub _ hb) (fun j x hj => (cell?_same (hs.same _ hb) _).trans (hcell j x hj)) ih
  | fn hlen hrd ih => exact .fn hlen ih

/-! ### cells of a frame -/

structure Loc where
  blk : Nat
  base : Nat
  sz : Nat
  ext : Nat
  deriving Inhabited

inductive RC (S : Nat → Prop) (w : World) (Kn : Nat → Prop) (φ : Nat → Loc) : C → Value → Prop
  | d {x : D} {v : Value} (h : RD S w x v) : RC S w Kn φ (.d x) v
  | osl {id off len cap addr : Nat} (hk : Kn id) (hcap : len ≤ cap) (haddr : 0 < cap → addr = (φ id).base + off * (φ id).sz) (hext : addr + cap * (φ id).sz ≤ (φ id).ext) :
      RC S w Kn φ (.osl (φ id).sz id off len) (.slice (some ⟨(φ id).blk, addr, none⟩) len cap)
  | ep {id row off : Nat} (hk : Kn id) : RC S w Kn φ (.ep id row off) (.pointer (some ⟨(φ id).blk, (φ id).base + row * (φ id).sz + off, none⟩))
  | op {id off : Nat} (hk : Kn id) : RC S w Kn φ (.op id off) (.pointer (some ⟨(φ id).blk, (φ id).base + off, none⟩))
  | ofn {g : FuncId} {caps : List C} {vs : Array Value} (hlen : caps.length = vs.size)
      (hrc : ∀ (j : Nat) (x : C), caps[j]? = some x → RC S w Kn φ x (vs.getD j undef)) :
      RC S w Kn φ (.ofn g caps) (.func (.func g) #[] vs)
  | om {id : Nat} (hk : Kn id) : RC S w Kn φ (.om id) (.map (some (φ id).blk))

/-- names are only added -/
structure Ren (Kn : Nat → Prop) (φ : Nat → Loc) (Kn' : Nat → Prop) (φ' : Nat → Loc) : Prop where
  sub : ∀ i, Kn i → Kn' i
  same : ∀ i, Kn i → φ' i = φ i

theorem Ren.refl (Kn : Nat → Prop) (φ : Nat → Loc) : Ren Kn φ Kn φ := ⟨fun _ h => h, fun _ _ => rfl⟩
theorem Ren.trans {K1 K2 K3 : Nat → Prop} {f1 f2 f3 : Nat → Loc} (a : Ren K1 f1 K2 f2) (b : Ren K2 f2 K3 f3) : Ren K1 f1 K3 f3 :=
  ⟨fun i h => b.sub i (a.sub i h), fun i h => (b.same i (a.sub i h)).trans (a.same i h)⟩

theorem RC.mono {S S' : Nat → Prop} {w w' : World} {Kn Kn' : Nat → Prop} {φ φ' : Nat → Loc} (hs : Stp S w S' w') (hr : Ren Kn φ Kn' φ') {x : C} {v : Value}
    (h : RC S w Kn φ x v) : RC S' w' Kn' φ' x v := by
  induction h with
  | d h => exact .d (h.mono hs)
  | osl hk hcap haddr hext => rw [← hr.same _ hk] at hext haddr ⊢; exact .osl (hr.sub _ hk) hcap haddr hext
  | ep hk => rw [← hr.same _ hk]; exact .ep (hr.sub _ hk)
  | op hk => rw [← hr.same _ hk]; exact .op (hr.sub _ hk)
  | ofn hlen hrc ih => exact .ofn hlen ih
  | om hk => rw [← hr.same _ hk]; exact .om (hr.sub _ hk)

inductive RTV (S : Nat → Prop) (w : World) (Kn : Nat → Prop) (φ : Nat → Loc) : TV → Value → Prop
  | c {x : C} {v : Value} (h : RC S w Kn φ x v) : RTV S w Kn φ (.c x) v
  | agg {cs : List C} {arr : Array Value} (hlen : cs.length = arr.size) (h : ∀ (i : Nat) (x : C), cs[i]? = some x → RC S w Kn φ x (arr.getD i undef)) : RTV S w Kn φ (.agg cs) (.agg arr)
  | tup {xs : List TV} {arr : Array Value} (hlen : xs.length = arr.size) (h : ∀ (i : Nat) (x : TV), xs[i]? = some x → RTV S w Kn φ x (arr.getD i undef)) : RTV S w Kn φ (.tup xs) (.tuple arr)

theorem RTV.mono {S S' : Nat → Prop} {w w' : World} {Kn Kn' : Nat → Prop} {φ φ' : Nat → Loc} (hs : Stp S w S' w') (hr : Ren Kn φ Kn' φ') {x : TV} {v : Value}
    (h : RTV S w Kn φ x v) : RTV S' w' Kn' φ' x v := by
  induction h with
  | c h => exact .c (h.mono hs hr)
  | agg hlen h => exact .agg hlen fun i x hi => (h i x hi).mono hs hr
  | tup hlen h ih => exact .tup hlen ih

/-- a cell's value is one cell -/
def one : Value → Bool
  | .agg _ | .tuple _ => false
  | _ => true

theorem one_of_plain {v : Value} (h : plain v = true) : one v = true := by
  cases v <;> simp_all [plain, one]

theorem RD.one {S : Nat → Prop} {w : World} {x : D} {v : Value} (h : RD S w x v) : one v = true := by
  cases h with
  | lit h => exact one_of_plain h
  | _ => rfl

theorem RC.one {S : Nat → Prop} {w : World} {Kn : Nat → Prop} {φ : Nat → Loc} {x : C} {v : Value} (h : RC S w Kn φ x v) : one v = true := by
  cases h with
  | d h => exact h.one
  | _ => rfl

theorem cells_of_one {v : Value} (h : one v = true) : v.cells = #[v] := by
  cases v <;> simp_all [Ev.one, Value.cells]

/-! ### objects -/

/-- a block of cells that nobody has frozen in Go's sense -/
def Own (w : World) (b : Nat) (arr : Array Value) : Prop := ∃ t, w.heap[b]? = some (.cells arr t (0, 0))

theorem Own.cell {w : World} {b : Nat} {arr : Array Value} (h : Own w b arr) (i : Nat) : w.cell? ⟨b, i, none⟩ = arr[i]? := by
  obtain ⟨t, h⟩ := h; simp [World.cell?, h]
theorem Own.lt {w : World} {b : Nat} {arr : Array Value} (h : Own w b arr) : b < w.heap.size := by
  obtain ⟨t, h⟩ := h; exact (Array.getElem?_eq_some_iff.1 h).1
theorem Own.frozen {w : World} {b : Nat} {arr : Array Value} (h : Own w b arr) (i : Nat) (s : Option Nat) : w.frozen? ⟨b, i, s⟩ = false := by
  obtain ⟨t, h⟩ := h; simp [World.frozen?, h]
theorem Own.of_same {w w' : World} {b : Nat} {arr : Array Value} (h : Own w b arr) (hs : w'.heap[b]? = w.heap[b]?) : Own w' b arr := by
  obtain ⟨t, h⟩ := h; exact ⟨t, hs.trans h⟩

/-- the rows that lie from base on -/
def RowsAt (S : Nat → Prop) (w : World) (sz : Nat) (get : Nat → Option Value) (base : Nat) (rows : List (List D)) : Prop :=
  (∀ (i : Nat) (r : List D), rows[i]? = some r → r.length = sz) ∧
  ∀ (i : Nat) (r : List D), rows[i]? = some r → ∀ (j : Nat) (x : D), r[j]? = some x → ∃ v, get (base + i * sz + j) = some v ∧ RD S w x v

def isOwn : Ob → Bool
  | .arr _ _ | .box _ | .map _ _ _ _ => true
  | _ => false

/-- a key, and a value, of a map -/
def RKey (ka : Bool) (k : List Value) (v : Value) : Prop := (∀ x ∈ k, plain x = true) ∧ if ka then v = .agg k.toArray else k = [v]
def RVal (S : Nat → Prop) (w : World) (va : Bool) (ds : List D) (v : Value) : Prop :=
  if va then ∃ arr : Array Value, v = .agg arr ∧ ds.length = arr.size ∧ ∀ (i : Nat) (x : D), ds[i]? = some x → RD S w x (arr.getD i undef) else ∃ x, ds = [x] ∧ RD S w x v

theorem RVal.mono {S S' : Nat → Prop} {w w' : World} (hs : Stp S w S' w') {va : Bool} {ds : List D} {v : Value} (h : RVal S w va ds v) : RVal S' w' va ds v := by
  unfold RVal at h ⊢
  split
  · rename_i hv; rw [if_pos hv] at h
    obtain ⟨arr, h1, h2, h3⟩ := h
    exact ⟨arr, h1, h2, fun i x hi => (h3 i x hi).mono hs⟩
  · rename_i hv; rw [if_neg hv] at h
    obtain ⟨x, h1, h2⟩ := h
    exact ⟨x, h1, h2.mono hs⟩

inductive RO (S : Nat → Prop) (K : Nat → Prop) (w : World) (Kn : Nat → Prop) (φ : Nat → Loc) (l : Loc) : Ob → Prop
  | arr {sz : Nat} {rows : List (List D)} {arr : Array Value} (hsz : 0 < sz) (hl : l.sz = sz) (hS : ¬ S l.blk) (hK : ¬ K l.blk) (ho : Own w l.blk arr) (hext : arr.size = l.ext)
      (hfit : l.base + rows.length * sz ≤ l.ext) (hr : RowsAt S w sz (fun i => arr[i]?) l.base rows) : RO S K w Kn φ l (.arr sz rows)
  | imm {sz : Nat} {rows : List (List D)} (hsz : 0 < sz) (hl : l.sz = sz) (hS : S l.blk)
      (hr : RowsAt S w sz (fun i => w.cell? ⟨l.blk, i, none⟩) l.base rows) : RO S K w Kn φ l (.imm sz rows)
  | box {cells : List C} {arr : Array Value} (hb : l.base = 0) (hS : ¬ S l.blk) (hK : ¬ K l.blk) (ho : Own w l.blk arr) (hlen : cells.length = arr.size)
      (hr : ∀ (i : Nat) (x : C), cells[i]? = some x → RC S w Kn φ x (arr.getD i undef)) : RO S K w Kn φ l (.box cells)
  | ibox {cells : List D} (hb : l.base = 0) (hS : S l.blk)
      (hr : ∀ (i : Nat) (x : D), cells[i]? = some x → ∃ v, w.cell? ⟨l.blk, i, none⟩ = some v ∧ RD S w x v) : RO S K w Kn φ l (.ibox cells)
  | map {ka va : Bool} {es : List (List Value × List D × Nat)} {clock : Nat} {ms : Array MapEntry} (hS : ¬ S l.blk) (hK : ¬ K l.blk) (ho : w.heap[l.blk]? = some (.map ms clock)) (hlen : es.length = ms.size)
      (hr : ∀ (i : Nat) (e : List Value × List D × Nat) (m : MapEntry), es[i]? = some e → ms[i]? = some m → RKey ka e.1 m.key ∧ RVal S w va e.2.1 m.val ∧ m.born = e.2.2) : RO S K w Kn φ l (.map ka va es clock)

theorem RowsAt.mono {S S' : Nat → Prop} {w w' : World} (hs : Stp S w S' w') {sz base : Nat} {get : Nat → Option Value} {rows : List (List D)} (h : RowsAt S w sz get base rows) :
    RowsAt S' w' sz get base rows :=
  ⟨h.1, fun i r hi j x hj => let ⟨v, hg, hr⟩ := h.2 i r hi j x hj; ⟨v, hg, hr.mono hs⟩⟩

theorem RO.mono {S S' K : Nat → Prop} {w w' : World} {Kn Kn' : Nat → Prop} {φ φ' : Nat → Loc} {l : Loc} (hs : Stp S w S' w') (hr : Ren Kn φ Kn' φ') {o : Ob}
    (hsame : isOwn o = true → w'.heap[l.blk]? = w.heap[l.blk]? ∧ ¬ S' l.blk) (h : RO S K w Kn φ l o) : RO S' K w' Kn' φ' l o := by
  cases h with
  | arr hsz hl hS hK ho hext hfit hrr => exact .arr hsz hl (hsame rfl).2 hK (ho.of_same (hsame rfl).1) hext hfit (hrr.mono hs)
  | imm hsz hl hS hrr =>
    refine .imm hsz hl (hs.sub _ hS) ⟨hrr.1, fun i r hi j x hj => ?_⟩
    obtain ⟨v, hg, h⟩ := hrr.2 i r hi j x hj
    exact ⟨v, (cell?_same (hs.same _ hS) _).trans hg, h.mono hs⟩
  | box hb hS hK ho hlen hrr => exact .box hb (hsame rfl).2 hK (ho.of_same (hsame rfl).1) hlen fun i x hi => (hrr i x hi).mono hs hr
  | ibox hb hS hrr =>
    refine .ibox hb (hs.sub _ hS) fun i x hi => ?_
    obtain ⟨v, hg, h⟩ := hrr i x hi
    exact ⟨v, (cell?_same (hs.same _ hS) _).trans hg, h.mono hs⟩
  | map hS hK ho hlen hrr => exact .map (hsame rfl).2 hK ((hsame rfl).1.trans ho) hlen fun i e m hi hm => let ⟨h1, h2, h3⟩ := hrr i e m hi hm; ⟨h1, h2.mono hs, h3⟩

/-! ### the state -/

/-- w comes of w0: what is in K is as it was, nothing was frozen in Go's sense -/
structure Frm (K : Nat → Prop) (w0 w : World) : Prop where
  klt : ∀ b, K b → b < w0.heap.size
  keep : ∀ b, K b → w.heap[b]? = w0.heap[b]?
  grow : w0.heap.size ≤ w.heap.size
  frz : ∀ a, w.frozen? a = w0.frozen? a
  own : ∀ b arr, Own w0 b arr → ∃ arr', Own w b arr' ∧ arr'.size = arr.size
  io : w.os = w0.os ∧ w.output = w0.output

/-- the package-level variables are as the text lays them -/
def Glob (S : Nat → Prop) (w : World) : Prop := ∀ g d, glb g = some d → RD S w d (.pointer (some ⟨g, 0, none⟩))

theorem Glob.mono {S S' : Nat → Prop} {w w' : World} (h : Glob S w) (hs : Stp S w S' w') : Glob S' w' := fun g d hg => (h g d hg).mono hs

structure Inv (S K : Nat → Prop) (w0 : World) (Kn : Nat → Prop) (φ : Nat → Loc) (hf : Nat → Option Ob) (w : World) : Prop where
  slt : ∀ b, S b → b < w.heap.size
  sk : ∀ b, S b → ¬ K b
  frm : Frm K w0 w
  obj : ∀ id o, hf id = some o → Kn id ∧ RO S K w Kn φ (φ id) o
  dist : ∀ i j a b, hf i = some a → hf j = some b → isOwn a = true → isOwn b = true → i ≠ j → (φ i).blk ≠ (φ j).blk
  glob : Glob S w

def updF (u : Upd) (hf : Nat → Option Ob) (id : Nat) : Option Ob := match fnd u id with | some o => o | none => hf id

theorem fnd_append {α : Type} (a b : List (Nat × α)) (k : Nat) : fnd (a ++ b) k = match fnd a k with | some x => some x | none => fnd b k := by
  induction a with
  | nil => rfl
  | cons p r ih => obtain ⟨i, x⟩ := p; simp only [List.cons_append, fnd]; cases h : (i == k) <;> simp [ih]

theorem look_append (u : Upd) (h : Heap) : look (u ++ h) = updF u (look h) := by
  funext id
  simp only [look, updF, fnd_append]
  cases fnd u id <;> simp

theorem updF_nil (hf : Nat → Option Ob) : updF [] hf = hf := rfl

theorem updF_cons (i : Nat) (o : Option Ob) (u : Upd) (hf : Nat → Option Ob) (id : Nat) : updF ((i, o) :: u) hf id = if i = id then o else updF u hf id := by
  simp only [updF, fnd]
  by_cases h : i = id
  · simp [h]
  · have e : (i == id) = false := by simpa using h
    simp [h, e]

theorem updF_append (u v : Upd) (hf : Nat → Option Ob) : updF (u ++ v) hf = updF u (updF v hf) := by
  funext id
  simp only [updF, fnd_append]
  cases fnd u id <;> simp

/-- the general step: what is not named anew is untouched -/
theorem Inv.step {S S' K : Nat → Prop} {w0 w w' : World} {Kn Kn' : Nat → Prop} {φ φ' : Nat → Loc} {hf hf' : Nat → Option Ob} (h : Inv S K w0 Kn φ hf w)
    (hs : Stp S w S' w') (hr : Ren Kn φ Kn' φ') (hslt : ∀ b, S' b → b < w'.heap.size) (hsk : ∀ b, S' b → ¬ K b) (hfrm : Frm K w0 w')
    (hobj : ∀ id o, hf' id = some o → (hf id = some o ∧ (isOwn o = true → w'.heap[(φ id).blk]? = w.heap[(φ id).blk]? ∧ ¬ S' (φ id).blk)) ∨ (Kn' id ∧ RO S' K w' Kn' φ' (φ' id) o))
    (hdist : ∀ i j a b, hf' i = some a → hf' j = some b → isOwn a = true → isOwn b = true → i ≠ j → (φ' i).blk ≠ (φ' j).blk) :
    Inv S' K w0 Kn' φ' hf' w' where
  slt := hslt
  sk := hsk
  frm := hfrm
  dist := hdist
  glob := h.glob.mono hs
  obj id o ho := by
    rcases hobj id o ho with ⟨h1, h2⟩ | h1
    · obtain ⟨hk, hro⟩ := h.obj id o h1
      refine ⟨hr.sub _ hk, ?_⟩
      rw [hr.same _ hk]
      exact hro.mono hs hr h2
    · exact h1

/-! ### worlds that grow by a block, or change in one -/

theorem push_same {w : World} {o : Obj} {b : Nat} (h : b < w.heap.size) : ({ w with heap := w.heap.push o } : World).heap[b]? = w.heap[b]? := by
  simp [Array.getElem?_push, Nat.ne_of_lt h]

theorem own_push (w : World) (arr : Array Value) (t : TypeId) : Own { w with heap := w.heap.push (.cells arr t) } w.heap.size arr :=
  ⟨t, by simp⟩

theorem frozen_push (w : World) (arr : Array Value) (t : TypeId) (a : Addr) : ({ w with heap := w.heap.push (.cells arr t) } : World).frozen? a = w.frozen? a := by
  unfold World.frozen?
  rcases Nat.lt_trichotomy a.block w.heap.size with h | h | h
  · rw [push_same h]
  · simp [h]
  · rw [Array.getElem?_eq_none (by simp; omega), Array.getElem?_eq_none (by omega)]

theorem Frm.push {K : Nat → Prop} {w0 w : World} (h : Frm K w0 w) (arr : Array Value) (t : TypeId) : Frm K w0 { w with heap := w.heap.push (.cells arr t) } where
  klt := h.klt
  keep b hb := (push_same (Nat.lt_of_lt_of_le (h.klt b hb) h.grow)).trans (h.keep b hb)
  grow := by have := h.grow; simp; omega
  frz a := (frozen_push w arr t a).trans (h.frz a)
  own b a ha := let ⟨a', h1, h2⟩ := h.own b a ha; ⟨a', h1.of_same (push_same h1.lt), h2⟩
  io := h.io

theorem Frm.own_step {K : Nat → Prop} {w0 w w' : World} (h : Frm K w0 w) {c : Nat} (hother : ∀ b, b ≠ c → w'.heap[b]? = w.heap[b]?)
    (hsz : ∀ arr, Own w c arr → ∃ arr', Own w' c arr' ∧ arr'.size = arr.size) (b : Nat) (arr : Array Value) (ho : Own w0 b arr) : ∃ arr', Own w' b arr' ∧ arr'.size = arr.size := by
  obtain ⟨a, h1, h2⟩ := h.own b arr ho
  by_cases e : b = c
  · subst e
    obtain ⟨a', h3, h4⟩ := hsz a h1
    exact ⟨a', h3, h4.trans h2⟩
  · exact ⟨a, h1.of_same (hother b e), h2⟩

theorem Frm.drew {K : Nat → Prop} {w0 w : World} (h : Frm K w0 w) (n : Nat) : Frm K w0 { w with drawn := n } :=
  ⟨h.klt, h.keep, h.grow, h.frz, h.own, h.io⟩

theorem Stp.push {S : Nat → Prop} {w : World} (hs : ∀ b, S b → b < w.heap.size) (o : Obj) : Stp S w S { w with heap := w.heap.push o } :=
  ⟨fun _ h => h, fun b h => push_same (hs b h)⟩

theorem Stp.drew (S : Nat → Prop) (w : World) (n : Nat) : Stp S w S { w with drawn := n } := ⟨fun _ h => h, fun _ _ => rfl⟩

theorem Inv.drew {S K : Nat → Prop} {w0 w : World} {Kn : Nat → Prop} {φ : Nat → Loc} {hf : Nat → Option Ob} (h : Inv S K w0 Kn φ hf w) (n : Nat) :
    Inv S K w0 Kn φ hf { w with drawn := n } :=
  h.step (Stp.drew S w n) (Ren.refl _ _) h.slt h.sk (h.frm.drew n) (fun id o ho => .inl ⟨ho, fun hown => ⟨rfl, by
    obtain ⟨_, hro⟩ := h.obj id o ho; cases hro <;> simp_all [isOwn]⟩⟩) h.dist

theorem RO.own {S K : Nat → Prop} {w : World} {Kn : Nat → Prop} {φ : Nat → Loc} {l : Loc} {o : Ob} (h : RO S K w Kn φ l o) (ho : isOwn o = true) :
    ¬ S l.blk ∧ ¬ K l.blk ∧ l.blk < w.heap.size := by
  cases h with
  | arr hsz hl hS hK hown => exact ⟨hS, hK, hown.lt⟩
  | box hb hS hK hown => exact ⟨hS, hK, hown.lt⟩
  | map hS hK hmp => exact ⟨hS, hK, (Array.getElem?_eq_some_iff.1 hmp).1⟩
  | _ => simp [isOwn] at ho

/-- φ with one name more -/
def ext (φ : Nat → Loc) (i : Nat) (l : Loc) : Nat → Loc := fun j => if j = i then l else φ j

theorem ren_ext {Kn : Nat → Prop} {φ : Nat → Loc} {i : Nat} (l : Loc) (hi : ¬ Kn i) : Ren Kn φ (fun j => Kn j ∨ j = i) (ext φ i l) :=
  ⟨fun _ h => .inl h, fun j h => by simp only [ext]; rw [if_neg]; rintro rfl; exact hi h⟩

/-- a new block, a new object -/
theorem Inv.alloc {S K : Nat → Prop} {w0 w : World} {Kn : Nat → Prop} {φ : Nat → Loc} {hf : Nat → Option Ob} (h : Inv S K w0 Kn φ hf w) {i : Nat} (hi : ¬ Kn i)
    (arr : Array Value) (t : TypeId) (sz : Nat) (o : Ob)
    (hro : RO S K { w with heap := w.heap.push (.cells arr t) } (fun j => Kn j ∨ j = i) (ext φ i ⟨w.heap.size, 0, sz, arr.size⟩) ⟨w.heap.size, 0, sz, arr.size⟩ o) :
    Inv S K w0 (fun j => Kn j ∨ j = i) (ext φ i ⟨w.heap.size, 0, sz, arr.size⟩) (updF [(i, some o)] hf) { w with heap := w.heap.push (.cells arr t) } := by
  refine h.step (Stp.push h.slt _) (ren_ext _ hi) (fun b hb => by have := h.slt b hb; simp; omega) h.sk (h.frm.push arr t) ?_ ?_
  · intro id o' ho
    rw [updF_cons] at ho
    by_cases e : i = id
    · subst e
      rw [if_pos rfl] at ho
      obtain rfl : o = o' := by simpa using ho
      refine .inr ⟨.inr rfl, ?_⟩
      simpa [ext] using hro
    · rw [if_neg e, updF_nil] at ho
      refine .inl ⟨ho, fun hown => ?_⟩
      obtain ⟨_, h2⟩ := h.obj id o' ho
      obtain ⟨a, b, c⟩ := h2.own hown
      exact ⟨push_same c, a⟩
  · have key : ∀ j b, j ≠ i → hf j = some b → isOwn b = true → (ext φ i ⟨w.heap.size, 0, sz, arr.size⟩ j).blk < w.heap.size := by
      intro j b hj hb hown
      obtain ⟨_, h2⟩ := h.obj j b hb
      simpa [ext, hj] using (h2.own hown).2.2
    intro a b oa ob ha hb hoa hob hne
    rw [updF_cons] at ha hb
    by_cases ea : i = a
    · by_cases eb : i = b
      · exact absurd (ea.symm.trans eb) hne
      · rw [if_neg eb, updF_nil] at hb
        have := key b ob (fun e => eb e.symm) hb hob
        have e1 : (ext φ i ⟨w.heap.size, 0, sz, arr.size⟩ a).blk = w.heap.size := by simp [ext, ea]
        omega
    · rw [if_neg ea, updF_nil] at ha
      have h1 := key a oa (fun e => ea e.symm) ha hoa
      by_cases eb : i = b
      · have e1 : (ext φ i ⟨w.heap.size, 0, sz, arr.size⟩ b).blk = w.heap.size := by simp [ext, eb]
        omega
      · rw [if_neg eb, updF_nil] at hb
        have := h.dist a b oa ob ha hb hoa hob hne
        have e1 : ¬ a = i := fun e => ea e.symm
        have e2 : ¬ b = i := fun e => eb e.symm
        simpa [ext, e1, e2] using this

theorem frozen_pushM {w : World} {o : Obj} (ho : ∀ c t r, o ≠ .cells c t r) (a : Addr) : ({ w with heap := w.heap.push o } : World).frozen? a = w.frozen? a := by
  unfold World.frozen?
  rcases Nat.lt_trichotomy a.block w.heap.size with h | h | h
  · rw [push_same h]
  · rw [h]
    simp only [Array.getElem?_push_size, Array.getElem?_eq_none (Nat.le_refl _)]
    cases o with
    | cells c t r => exact absurd rfl (ho c t r)
    | _ => rfl
  · rw [Array.getElem?_eq_none (by simp; omega), Array.getElem?_eq_none (by omega)]

/-- a new block that is a map -/
theorem Inv.allocM {S K : Nat → Prop} {w0 w : World} {Kn : Nat → Prop} {φ : Nat → Loc} {hf : Nat → Option Ob} (h : Inv S K w0 Kn φ hf w) {i : Nat} (hi : ¬ Kn i)
    {ob : Obj} (hob : ∀ c t r, ob ≠ .cells c t r) (l : Loc) (hl : l.blk = w.heap.size) (o : Ob)
    (hro : RO S K { w with heap := w.heap.push ob } (fun j => Kn j ∨ j = i) (ext φ i l) l o) :
    Inv S K w0 (fun j => Kn j ∨ j = i) (ext φ i l) (updF [(i, some o)] hf) { w with heap := w.heap.push ob } := by
  have hfrm : Frm K w0 { w with heap := w.heap.push ob } :=
    ⟨h.frm.klt, fun b hb => (push_same (Nat.lt_of_lt_of_le (h.frm.klt b hb) h.frm.grow)).trans (h.frm.keep b hb), by have := h.frm.grow; simp; omega, fun a => (frozen_pushM hob a).trans (h.frm.frz a),
      fun b a ha => let ⟨a', h1, h2⟩ := h.frm.own b a ha; ⟨a', h1.of_same (push_same h1.lt), h2⟩, h.frm.io⟩
  refine h.step (Stp.push h.slt _) (ren_ext _ hi) (fun b hb => by have := h.slt b hb; simp; omega) h.sk hfrm ?_ ?_
  · intro id o' ho
    rw [updF_cons] at ho
    by_cases e : i = id
    · subst e
      rw [if_pos rfl] at ho
      obtain rfl : o = o' := by simpa using ho
      refine .inr ⟨.inr rfl, ?_⟩
      simpa [ext] using hro
    · rw [if_neg e, updF_nil] at ho
      refine .inl ⟨ho, fun hown => ?_⟩
      obtain ⟨_, h2⟩ := h.obj id o' ho
      obtain ⟨a, b, c⟩ := h2.own hown
      exact ⟨push_same c, a⟩
  · have key : ∀ j b, j ≠ i → hf j = some b → isOwn b = true → (ext φ i l j).blk < w.heap.size := by
      intro j b hj hb hown
      obtain ⟨_, h2⟩ := h.obj j b hb
      simpa [ext, hj] using (h2.own hown).2.2
    intro a b oa ob ha hb hoa hob hne
    rw [updF_cons] at ha hb
    by_cases ea : i = a
    · by_cases eb : i = b
      · exact absurd (ea.symm.trans eb) hne
      · rw [if_neg eb, updF_nil] at hb
        have := key b ob (fun e => eb e.symm) hb hob
        have e1 : (ext φ i l a).blk = w.heap.size := by simp [ext, ea, hl]
        omega
    · rw [if_neg ea, updF_nil] at ha
      have h1 := key a oa (fun e => ea e.symm) ha hoa
      by_cases eb : i = b
      · have e1 : (ext φ i l b).blk = w.heap.size := by simp [ext, eb, hl]
        omega
      · rw [if_neg eb, updF_nil] at hb
        have := h.dist a b oa ob ha hb hoa hob hne
        have e1 : ¬ a = i := fun e => ea e.symm
        have e2 : ¬ b = i := fun e => eb e.symm
        simpa [ext, e1, e2] using this

/-- the object is dropped -/
theorem Inv.kill {S K : Nat → Prop} {w0 w : World} {Kn : Nat → Prop} {φ : Nat → Loc} {hf hf' : Nat → Option Ob} (h : Inv S K w0 Kn φ hf w) (hsub : ∀ id o, hf' id = some o → hf id = some o) :
    Inv S K w0 Kn φ hf' w :=
  ⟨h.slt, h.sk, h.frm, fun id o ho => h.obj id o (hsub id o ho), fun i j a b ha hb => h.dist i j a b (hsub _ _ ha) (hsub _ _ hb), h.glob⟩

/-- one block changes, and with it its object -/
theorem Inv.set {S K : Nat → Prop} {w0 w w' : World} {Kn : Nat → Prop} {φ : Nat → Loc} {hf : Nat → Option Ob} (h : Inv S K w0 Kn φ hf w) {id : Nat} {o o' : Ob}
    (ho : hf id = some o) (hown : isOwn o = true) (hother : ∀ b, b ≠ (φ id).blk → w'.heap[b]? = w.heap[b]?) (hsize : w'.heap.size = w.heap.size)
    (hfrz : ∀ a, w'.frozen? a = w.frozen? a) (hsz : ∀ arr, Own w (φ id).blk arr → ∃ arr', Own w' (φ id).blk arr' ∧ arr'.size = arr.size) (hio : w'.os = w.os ∧ w'.output = w.output) (hro : Stp S w S w' → RO S K w' Kn φ (φ id) o') :
    Stp S w S w' ∧ Inv S K w0 Kn φ (updF [(id, some o')] hf) w' := by
  obtain ⟨hk, h0⟩ := h.obj id o ho
  obtain ⟨hS, hK, hlt⟩ := h0.own hown
  have hs : Stp S w S w' := ⟨fun _ h => h, fun b hb => hother b (fun e => hS (e ▸ hb))⟩
  refine ⟨hs, h.step hs (Ren.refl _ _) (fun b hb => hsize ▸ h.slt b hb) h.sk ?_ ?_ ?_⟩
  · exact ⟨h.frm.klt, fun b hb => (hother b (fun e => hK (e ▸ hb))).trans (h.frm.keep b hb), hsize ▸ h.frm.grow, fun a => (hfrz a).trans (h.frm.frz a), h.frm.own_step hother hsz, hio.1.trans h.frm.io.1, hio.2.trans h.frm.io.2⟩
  · intro i x hx
    rw [updF_cons] at hx
    by_cases e : id = i
    · subst e
      rw [if_pos rfl] at hx
      obtain rfl : o' = x := by simpa using hx
      exact .inr ⟨hk, hro hs⟩
    · rw [if_neg e, updF_nil] at hx
      refine .inl ⟨hx, fun hox => ⟨hother _ ?_, ((h.obj i x hx).2.own hox).1⟩⟩
      exact (h.dist i id x o hx ho hox hown (fun e' => e e'.symm))
  · intro i j a b ha hb hoa hob hne
    have fix : ∀ i a, updF [(id, some o')] hf i = some a → isOwn a = true → ∃ a', hf i = some a' ∧ isOwn a' = true := by
      intro i a ha hoa
      rw [updF_cons] at ha
      by_cases e : id = i
      · subst e; exact ⟨o, ho, hown⟩
      · rw [if_neg e, updF_nil] at ha; exact ⟨a, ha, hoa⟩
    obtain ⟨a', ha', hoa'⟩ := fix i a ha hoa
    obtain ⟨b', hb', hob'⟩ := fix j b hb hob
    exact h.dist i j a' b' ha' hb' hoa' hob' hne

end Go.Ev
