/- Typed data over the abstract machine, and what its operations do to it. Conditions: as stated. -/
import Derived.Test.YtjfhiochcdjkhaaEvW
namespace Go.Ev

/-- a slice's contents; nil or not -/
inductive Sl (α : Type) where
  | nil
  | mk (l : List α)
  deriving Inhabited, DecidableEq

def Sl.l {α : Type} : Sl α → List α
  | .nil => []
  | .mk l => l

@[simp] theorem Sl.l_mk {α : Type} (l : List α) : (Sl.mk l).l = l := rfl
@[simp] theorem Sl.l_nil {α : Type} : (Sl.nil : Sl α).l = [] := rfl

def Sl.isNil {α : Type} : Sl α → Bool
  | .nil => true
  | .mk _ => false

def nilS : Value := .slice none 0 0
abbrev dI (k : IntKind) (n : Int) : D := .lit (.int k n)
abbrev dB (b : Bool) : D := .lit (.bool b)
abbrev dS (s : ByteArray) : D := .lit (.string s)

abbrev tI (k : IntKind) (n : Int) : TV := .c (.d (.lit (.int k n)))
abbrev tB (b : Bool) : TV := .c (.d (.lit (.bool b)))

/-- data -/
def slD {α : Type} (sz : Nat) (enc : α → List D) : Sl α → D
  | .nil => .lit (.slice none 0 0)
  | .mk l => .sl sz (l.map enc)
/-- a slice that the frame owns: its cell, its object, as a tree -/
def slC {α : Type} (sz : Nat) (enc : α → List D) (id : Nat) : Sl α → C
  | .nil => .d (.lit (.slice none 0 0))
  | .mk l => .osl sz id 0 (l.map enc).length
def slO {α : Type} (sz : Nat) (enc : α → List D) : Sl α → Option Ob
  | .nil => none
  | .mk l => some (.arr sz (l.map enc))
def slT {α : Type} (sz : Nat) (enc : α → List D) : Sl α → T
  | .nil => .d (.lit (.slice none 0 0))
  | .mk l => .sl sz (l.map enc)

theorem frz_slT {α : Type} (sz : Nat) (enc : α → List D) (s : Sl α) : frzT (slT sz enc s) = slD sz enc s := by cases s <;> rfl

/-! ### numbers -/

abbrev wr (k : IntKind) (n : Int) : Int := k.wrap n
def bAnd (k : IntKind) (a b : Int) : Int := k.wrap (BitVec.ofInt k.bits a &&& BitVec.ofInt k.bits b).toNat
def bOr (k : IntKind) (a b : Int) : Int := k.wrap (BitVec.ofInt k.bits a ||| BitVec.ofInt k.bits b).toNat
def bXor (k : IntKind) (a b : Int) : Int := k.wrap (BitVec.ofInt k.bits a ^^^ BitVec.ofInt k.bits b).toNat
def bAndNot (k : IntKind) (a b : Int) : Int := k.wrap (BitVec.ofInt k.bits a &&& ~~~BitVec.ofInt k.bits b).toNat
def bNot (k : IntKind) (a : Int) : Int := k.wrap (BitVec.ofInt k.bits (if k.signed then -1 else k.max) ^^^ BitVec.ofInt k.bits a).toNat
def bShl (k : IntKind) (a b : Int) : Int := k.wrap (a * 2 ^ (min b.toNat k.bits))
def bShr (k : IntKind) (a b : Int) : Int := a.fdiv (2 ^ (min b.toNat k.bits))
def divI (k : IntKind) (a b : Int) : Option Int := if b = 0 then none else some (k.wrap (a.tdiv b))
def remI (_ : IntKind) (a b : Int) : Option Int := if b = 0 then none else some (a.tmod b)
def shlI (k : IntKind) (a b : Int) : Option Int := if b < 0 then none else some (bShl k a b)
def shrI (k : IntKind) (a b : Int) : Option Int := if b < 0 then none else some (bShr k a b)
def catS (a b : ByteArray) : Option ByteArray := if ((a.size + b.size : Nat) : Int) > IntKind.i64.max then none else some (a ++ b)
def atS (s : ByteArray) (i : Int) : Option Int := if 0 ≤ i then s[i.toNat]?.map fun b => (b.toNat : Int) else none
def subS (s : ByteArray) (lo hi : Int) : Option ByteArray := if 0 ≤ lo ∧ lo ≤ hi ∧ hi ≤ s.size then some (s.extract lo.toNat hi.toNat) else none
def mkI {α : Type} (z : α) (l c : Int) : Option (List α) := if 0 ≤ l ∧ l ≤ c ∧ c ≤ 2147483648 then some (List.replicate l.toNat z) else none
/-- a part of a slice, nil if it is -/
def Sl.to {α : Type} (s : Sl α) (r : List α) : Sl α := match s with | .nil => .nil | .mk _ => .mk r

section
variable {c : Ev.Call} {H : Heap} {nx : Nat} {k : IntKind} {a b x : Int} {s t u : ByteArray}
theorem ev_div (h : divI k a b = some x) : ev1 c (.bin .quo) [some (tI k a), some (tI k b)] H nx = some (tI k x, [], [], nx) := by
  unfold divI at h; split at h
  · simp at h
  · rename_i hb; obtain rfl := Option.some.inj h; simp [ev1, binV, hb, lv]
theorem ev_rem (h : remI k a b = some x) : ev1 c (.bin .rem) [some (tI k a), some (tI k b)] H nx = some (tI k x, [], [], nx) := by
  unfold remI at h; split at h
  · simp at h
  · rename_i hb; obtain rfl := Option.some.inj h; simp [ev1, binV, hb, lv]
theorem ev_shl {k2 : IntKind} (h : shlI k a b = some x) : ev1 c (.bin .shl) [some (tI k a), some (tI k2 b)] H nx = some (tI k x, [], [], nx) := by
  unfold shlI at h; split at h
  · simp at h
  · rename_i hb; obtain rfl := Option.some.inj h; simp [ev1, binV, hb, lv, bShl]
theorem ev_shr {k2 : IntKind} (h : shrI k a b = some x) : ev1 c (.bin .shr) [some (tI k a), some (tI k2 b)] H nx = some (tI k x, [], [], nx) := by
  unfold shrI at h; split at h
  · simp at h
  · rename_i hb; obtain rfl := Option.some.inj h; simp [ev1, binV, hb, lv, bShr]
theorem ev_cat (h : catS s t = some u) : ev1 c (.bin .add) [some (.c (.d (dS s))), some (.c (.d (dS t)))] H nx = some (.c (.d (dS u)), [], [], nx) := by
  unfold catS at h; split at h
  · simp at h
  · rename_i hb; obtain rfl := Option.some.inj h; simp only [ev1, binV]; rw [if_neg hb]; rfl
theorem ev_at (h : atS s a = some x) : ev1 c .indexStr [some (.c (.d (dS s))), some (tI k a)] H nx = some (tI .u8 x, [], [], nx) := by
  unfold atS at h; split at h
  · rename_i ha
    obtain ⟨y, hy, rfl⟩ := Option.map_eq_some_iff.1 h
    simp only [ev1, intOf?]; rw [if_pos ha, hy]; rfl
  · simp at h
end

/-! ### operations that may fail -/

/-- a place in so many -/
def ixI (i : Int) (n : Nat) : Option Nat := if 0 ≤ i ∧ i < n then some i.toNat else none

theorem ixI_some {i : Int} {n m : Nat} : ixI i n = some m ↔ i = m ∧ m < n := by
  unfold ixI
  split
  · simp only [Option.some.injEq]; omega
  · simp only [reduceCtorEq, false_iff]; omega
theorem ixI_of {i n : Nat} (h : i < n) : ixI (i : Int) n = some i := ixI_some.2 ⟨rfl, h⟩

/-- the element at a place -/
def gt {α : Type} [Inhabited α] (l : List α) (n : Nat) : α := l.getD n default

theorem gt_get {α : Type} [Inhabited α] {l : List α} {n : Nat} (h : n < l.length) : l[n]? = some (gt l n) := by
  simp [gt, List.getD, h]
theorem gt_eq {α : Type} [Inhabited α] {l : List α} {n : Nat} (h : n < l.length) : gt l n = l[n] := by
  simp [gt, List.getD, h]
theorem gt_map {α : Type} [Inhabited α] {l : List α} {n : Nat} {enc : α → List D} (h : n < l.length) : (l.map enc)[n]? = some (enc (gt l n)) := by
  rw [List.getElem?_map, gt_get h]; rfl

/-- as long as it fits -/
def capI {α : Type} (l : List α) : Option (List α) := if l.length ≤ 2147483648 then some l else none

theorem capI_some {α : Type} {l m : List α} : capI l = some m ↔ l = m ∧ l.length ≤ 2147483648 := by
  unfold capI
  split
  · simp_all
  · rename_i hl
    simp only [reduceCtorEq, false_iff, not_and]
    rintro rfl; omega
theorem capI_of {α : Type} {l : List α} (h : l.length ≤ 2147483648) : capI l = some l := capI_some.2 ⟨rfl, h⟩

/-- cut: from lo to hi -/
def cutI {α : Type} (l : List α) (lo hi : Int) : Option (List α) := if 0 ≤ lo ∧ lo ≤ hi ∧ hi ≤ l.length then some ((l.drop lo.toNat).take (hi.toNat - lo.toNat)) else none

theorem bnd {α β : Type} {x : Option α} {f : α → Option β} {r : β} (h : x.bind f = some r) : ∃ a, x = some a ∧ f a = some r := Option.bind_eq_some_iff.1 h
theorem cnd_t {α : Type} {c : Bool} {a b : α} {r : α} (hc : c = true) (h : (bif c then a else b) = r) : a = r := by subst hc; exact h
theorem cnd_f {α : Type} {c : Bool} {a b : α} {r : α} (hc : c = false) (h : (bif c then a else b) = r) : b = r := by subst hc; exact h

theorem cut_all {α : Type} {l : List α} {enc : α → List D} : ((l.map enc).drop 0).take (l.map enc).length = l.map enc := by
  rw [List.drop_zero, List.take_length]
theorem cut_map {α : Type} {l : List α} {enc : α → List D} {a b : Nat} : ((l.map enc).drop a).take b = ((l.drop a).take b).map enc := by
  rw [List.map_take, List.map_drop]
theorem take_all {α : Type} {l : List α} : (l.drop 0).take l.length = l := by simp

section
variable {α : Type} {c : Ev.Call} {H : Heap} {nx sz id off len m n : Nat} {k : IntKind} {i : Int} {enc : α → List D} {s : Sl α} {l : List α} {agg : Bool} {v : TV}

theorem v_o {k : Nat} (hl : look H id = some (.arr sz (l.map enc))) : viewC H k (.osl sz id 0 (l.map enc).length) = some (.sl sz (l.map enc), [id]) := by
  have : viewC H k (.osl sz id 0 (l.map enc).length) = (if 0 + (l.map enc).length ≤ (l.map enc).length then some (.sl sz (((l.map enc).drop 0).take (l.map enc).length), [id]) else none) := by cases k <;> simp only [viewC, hl]
  rw [this, if_pos (by omega), cut_all]
theorem v_i {k : Nat} (hl : look H id = some (.imm sz (l.map enc))) : viewC H k (.osl sz id 0 (l.map enc).length) = some (.sl sz (l.map enc), [id]) := by
  have : viewC H k (.osl sz id 0 (l.map enc).length) = (if 0 + (l.map enc).length ≤ (l.map enc).length then some (.sl sz (((l.map enc).drop 0).take (l.map enc).length), [id]) else none) := by cases k <;> simp only [viewC, hl]
  rw [this, if_pos (by omega), cut_all]
theorem p_o {k : Nat} (hl : look H id = some (.arr sz (l.map enc))) : packC H k (.osl sz id 0 (l.map enc).length) = some (.sl sz (l.map enc), [id], [id]) := by
  have : packC H k (.osl sz id 0 (l.map enc).length) = (if 0 + (l.map enc).length ≤ (l.map enc).length then some (.sl sz (((l.map enc).drop 0).take (l.map enc).length), [id], [id]) else none) := by cases k <;> simp only [packC, hl]
  rw [this, if_pos (by omega), cut_all]
theorem p_i {k : Nat} (hl : look H id = some (.imm sz (l.map enc))) : packC H k (.osl sz id 0 (l.map enc).length) = some (.d (.sl sz (l.map enc)), [], [id]) := by
  have : packC H k (.osl sz id 0 (l.map enc).length) = (if 0 + (l.map enc).length ≤ (l.map enc).length then some (.d (.sl sz (((l.map enc).drop 0).take (l.map enc).length)), [], [id]) else none) := by cases k <;> simp only [packC, hl]
  rw [this, if_pos (by omega), cut_all]
theorem cut_le {lo hi : Int} {r : List α} (hc : cutI l lo hi = some r) : lo.toNat + (r.map enc).length ≤ (l.map enc).length ∧ ((l.map enc).drop lo.toNat).take (r.map enc).length = r.map enc := by
  unfold cutI at hc
  split at hc
  · rename_i h
    obtain rfl := Option.some.inj hc
    refine ⟨by simp; omega, ?_⟩
    rw [cut_map]; congr 1; simp
  · simp at hc
theorem v_s {k : Nat} {lo hi : Int} {r : List α} (hl : look H id = some (.arr sz (l.map enc))) (hc : cutI l lo hi = some r) : viewC H k (.osl sz id lo.toNat (r.map enc).length) = some (.sl sz (r.map enc), [id]) := by
  obtain ⟨h1, h2⟩ := cut_le (enc := enc) hc
  have : viewC H k (.osl sz id lo.toNat (r.map enc).length) = (if lo.toNat + (r.map enc).length ≤ (l.map enc).length then some (.sl sz (((l.map enc).drop lo.toNat).take (r.map enc).length), [id]) else none) := by cases k <;> simp only [viewC, hl]
  rw [this, if_pos h1, h2]
theorem p_s {k : Nat} {lo hi : Int} {r : List α} (hl : look H id = some (.arr sz (l.map enc))) (hc : cutI l lo hi = some r) : packC H k (.osl sz id lo.toNat (r.map enc).length) = some (.sl sz (r.map enc), [id], [id]) := by
  obtain ⟨h1, h2⟩ := cut_le (enc := enc) hc
  have : packC H k (.osl sz id lo.toNat (r.map enc).length) = (if lo.toNat + (r.map enc).length ≤ (l.map enc).length then some (.sl sz (((l.map enc).drop lo.toNat).take (r.map enc).length), [id], [id]) else none) := by cases k <;> simp only [packC, hl]
  rw [this, if_pos h1, h2]
theorem len_set (l : List α) (enc : α → List D) (n : Nat) (y : α) : (l.map enc).length = ((l.set n y).map enc).length := by simp
theorem wh_nil : wholeLent H [] = true := rfl
theorem wh_op {i o : Nat} {own rd : List Nat} {r : List (C × List Nat × List Nat)} (h : wholeLent H r = true) : wholeLent H ((.op i o, own, rd) :: r) = true := h
theorem wh_d {x : D} {own rd : List Nat} {r : List (C × List Nat × List Nat)} (h : wholeLent H r = true) : wholeLent H ((.d x, own, rd) :: r) = true := h
theorem wh_o {own rd : List Nat} {r : List (C × List Nat × List Nat)} (hl : look H id = some (.arr sz (l.map enc))) (h : wholeLent H r = true) : wholeLent H ((.osl sz id 0 (l.map enc).length, own, rd) :: r) = true := by
  simp [wholeLent, hl, h]

theorem ix_sd [Inhabited α] (h : ixI i s.l.length = some n) : ev1 c (.indexAddr none sz) [some (.c (.d (slD sz enc s))), some (tI k i)] H nx = some (.c (.d (.pt (enc (gt s.l n)))), [], [], nx) := by
  obtain ⟨rfl, hn⟩ := ixI_some.1 h
  cases s with
  | nil => simp [Sl.l] at hn
  | mk l =>
    have hn' : n < l.length := hn
    simp only [ev1, intOf?, evIndexAddr, slD, Int.natCast_nonneg, and_self, if_true, Int.toNat_natCast]
    rw [gt_map hn']; rfl
theorem ix_pd [Inhabited α] (h : ixI i l.length = some n) : ev1 c (.indexAddr none sz) [some (.c (.d (.sl sz (l.map enc)))), some (tI k i)] H nx = some (.c (.d (.pt (enc (gt l n)))), [], [], nx) :=
  ix_sd (s := .mk l) h
theorem ix_g [Inhabited α] {f : α → D} {m : Nat} (hl : l.length = m) (h : ixI i l.length = some n) :
    ev1 c (.indexAddr (some m) 1) [some (.c (.d (.pt (l.map f)))), some (tI k i)] H nx = some (.c (.d (.pt (f (gt l n) :: (l.map f).drop (n + 1)))), [], [], nx) := by
  obtain ⟨rfl, hn⟩ := ixI_some.1 h
  subst hl
  simp only [ev1, intOf?, evIndexAddr, Int.natCast_nonneg, true_and, Int.toNat_natCast, Nat.mul_one, List.length_map]
  rw [if_pos (by omega), if_pos hn]
  have e : (l.map f).drop n = f (gt l n) :: (l.map f).drop (n + 1) := by
    rw [List.drop_eq_getElem_cons (by simpa using hn), List.getElem_map, gt_eq hn]
  simp only [e]
theorem ix_o (h : ixI i l.length = some n) : ev1 c (.indexAddr none sz) [some (.c (.osl sz id 0 (l.map enc).length)), some (tI k i)] H nx = some (.c (.ep id n 0), [], [], nx) := by
  obtain ⟨rfl, hn⟩ := ixI_some.1 h
  simp only [ev1, intOf?, evIndexAddr, List.length_map]
  rw [if_pos (by refine ⟨by omega, by omega, ?_⟩; trivial)]
  simp
theorem ix_oo (h : ixI i l.length = some n) : ev1 c (.indexAddr none sz) [some (.c (.osl sz id off (l.map enc).length)), some (tI k i)] H nx = some (.c (.ep id (off + n) 0), [], [], nx) := by
  obtain ⟨rfl, hn⟩ := ixI_some.1 h
  simp only [ev1, intOf?, evIndexAddr, List.length_map]
  rw [if_pos (by refine ⟨by omega, by omega, ?_⟩; trivial)]
  simp
theorem ix_nil {X : Prop} (h : ixI i (Sl.l (Sl.nil : Sl α)).length = some n) : X := by
  obtain ⟨_, hn⟩ := ixI_some.1 h
  simp [Sl.l] at hn

theorem ld_row [Inhabited α] (hl : look H id = some (.arr sz (l.map enc))) (hn : n < l.length) (hv : ldD agg m ((enc (gt l n)).drop off) = some v) : ev1 c (.load agg m) [some (.c (.ep id n off))] H nx = some (v, [], [id], nx) := by
  simp only [ev1, evLoad, hl, gt_map hn, hv]
theorem ld_imm [Inhabited α] (hl : look H id = some (.imm sz (l.map enc))) (hn : n < l.length) (hv : ldD agg m ((enc (gt l n)).drop off) = some v) : ev1 c (.load agg m) [some (.c (.ep id n off))] H nx = some (v, [], [id], nx) := by
  simp only [ev1, evLoad, hl, gt_map hn, hv]

/-- data is laid into a row -/
theorem st_row [Inhabited α] {cs : List C} {ds : List D} {y : α} (hl : look H id = some (.arr sz (l.map enc))) (hn : n < l.length) (hc : cellsOf v = some cs) (hm : cs.length = m) (hw : viewCs H cs = some (ds, [])) (hlen : off + m ≤ (enc (gt l n)).length)
    (hy : splice (enc (gt l n)) off ds = enc y) : ev1 c (.store m) [some (.c (.ep id n off)), some v] H nx = some (.tup [], [(id, some (.arr sz ((l.set n y).map enc)))], [id], nx) := by
  simp only [ev1, evStore, hc, hm, if_true, hl, gt_map hn, hw, freezeIds]
  rw [if_pos ⟨hlen, rfl⟩, hy, List.map_set]
/-- a slice that the frame owns is laid into a row, and frozen -/
theorem st_row1 [Inhabited α] {cs : List C} {ds : List D} {ids : List Nat} {u : Upd} {y : α} (hl : look H id = some (.arr sz (l.map enc))) (hn : n < l.length) (hc : cellsOf v = some cs) (hm : cs.length = m) (hw : viewCs H cs = some (ds, ids)) (hf : freezeIds H ids ids = some u)
    (hid : ids.contains id = false) (hlen : off + m ≤ (enc (gt l n)).length)
    (hy : splice (enc (gt l n)) off ds = enc y) : ev1 c (.store m) [some (.c (.ep id n off)), some v] H nx = some (.tup [], (id, some (.arr sz ((l.set n y).map enc))) :: u, id :: ids, nx) := by
  simp only [ev1, evStore, hc, hm, if_true, hl, gt_map hn, hw, hf]
  rw [if_pos ⟨hlen, hid⟩, hy, List.map_set]

theorem len_sd : ev1 c (.len false) [some (.c (.d (slD sz enc s)))] H nx = some (tI .i64 s.l.length, [], [], nx) := by
  cases s with
  | nil => rfl
  | mk l => simp [ev1, evLen, slD, Sl.l, lv]
theorem len_pd : ev1 c (.len false) [some (.c (.d (.sl sz (l.map enc))))] H nx = some (tI .i64 l.length, [], [], nx) := len_sd (s := .mk l)
theorem len_o : ev1 c (.len false) [some (.c (.osl sz id off (l.map enc).length))] H nx = some (tI .i64 l.length, [], [], nx) := by
  simp [ev1, evLen, lv]
theorem len_c : ev1 c (.len false) [some (.c (slC sz enc id s))] H nx = some (tI .i64 s.l.length, [], [], nx) := by
  cases s with
  | nil => rfl
  | mk l => simp [ev1, evLen, slC, Sl.l, lv]
theorem nil_sd {neg : Bool} : ev1 c (.eqNil 0 neg) [some (.c (.d (slD sz enc s)))] H nx = some (tB (if neg then !s.isNil else s.isNil), [], [], nx) := by
  cases s <;> rfl
theorem nil_c {neg : Bool} : ev1 c (.eqNil 0 neg) [some (.c (slC sz enc id s))] H nx = some (tB (if neg then !s.isNil else s.isNil), [], [], nx) := by
  cases s <;> rfl


theorem rows_o {id2 : Nat} (hl : look H id2 = some (.arr sz (l.map enc))) : rowsOf sz H (.osl sz id2 0 (l.map enc).length) = some (l.map enc, [id2]) := by
  simp only [rowsOf, hl]
  rw [if_pos ⟨trivial, by simp⟩, cut_all]
theorem rows_sd : rowsOf sz H (.d (slD sz enc s)) = some (s.l.map enc, []) := by
  cases s with
  | nil => rfl
  | mk l => simp [rowsOf, slD, Sl.l]

theorem app_o {x : C} {xs r : List α} {ids : List Nat} (hl : look H id = some (.arr sz (l.map enc))) (hx : rowsOf sz H x = some (xs.map enc, ids)) (hc : capI (l ++ xs) = some r) :
    ev1 c (.append sz) [some (.c (.osl sz id 0 (l.map enc).length)), some (.c x)] H nx = some (.c (.osl sz nx 0 (r.map enc).length), [(id, none), (nx, some (.arr sz (r.map enc)))], id :: ids, nx + 1) := by
  obtain ⟨rfl, hlen⟩ := capI_some.1 hc
  simp only [ev1, evAppend, hx, hl]
  rw [if_pos ⟨trivial, by simp, by simpa [lim] using hlen⟩, cut_all]
  simp
theorem app_nil {x : C} {y : α} {ys r : List α} {ids : List Nat} (hx : rowsOf sz H x = some ((y :: ys).map enc, ids)) (hc : capI ([] ++ (y :: ys)) = some r) :
    ev1 c (.append sz) [some (.c (.d (.lit (.slice none 0 0)))), some (.c x)] H nx = some (.c (.osl sz nx 0 (r.map enc).length), [(nx, some (.arr sz (r.map enc)))], ids, nx + 1) := by
  obtain ⟨rfl, hlen⟩ := capI_some.1 hc
  simp only [ev1, evAppend, hx]
  rw [if_pos (by simpa [lim] using hlen)]
  simp

theorem cutI_some {l r : List α} {lo hi : Int} : cutI l lo hi = some r ↔ (0 ≤ lo ∧ lo ≤ hi ∧ hi ≤ l.length) ∧ (l.drop lo.toNat).take (hi.toNat - lo.toNat) = r := by
  unfold cutI
  split
  · rename_i h; simp [h]
  · rename_i h; simp [h]

/-- a part of a slice -/
theorem cut_o {lo hi : Option Int} {r : List α} (hc : cutI l (lo.getD 0) (hi.getD l.length) = some r) : evSlice false sz (.osl sz id 0 (l.map enc).length) lo hi = some (.osl sz id (lo.getD 0).toNat (r.map enc).length) := by
  obtain ⟨h, rfl⟩ := cutI_some.1 hc
  simp only [evSlice, Bool.false_eq_true, if_false, List.length_map]
  rw [if_pos ⟨trivial, h⟩]
  simp; omega
theorem cut_sd {lo hi : Option Int} {r : List α} (hc : cutI s.l (lo.getD 0) (hi.getD s.l.length) = some r) : evSlice false sz (.d (slD sz enc s)) lo hi = some (.d (slD sz enc (s.to r))) := by
  obtain ⟨h, rfl⟩ := cutI_some.1 hc
  cases s with
  | nil =>
    simp only [Sl.l, List.length_nil] at h
    simp only [evSlice, slD, Bool.false_eq_true, if_false]
    rw [if_pos ⟨h.1, h.2.1, by simpa using h.2.2⟩]
    rfl
  | mk l =>
    simp only [Sl.l] at h ⊢
    simp only [evSlice, slD, Bool.false_eq_true, if_false, List.length_map]
    rw [if_pos ⟨trivial, h.1, h.2.1, h.2.2⟩]
    simp [List.map_take, List.map_drop, Sl.to]
theorem cut_n {lo hi : Option Int} {r : List α} (hc : cutI (Sl.l (Sl.nil : Sl α)) (lo.getD 0) (hi.getD (Sl.l (Sl.nil : Sl α)).length) = some r) : evSlice false sz (.d (.lit (.slice none 0 0))) lo hi = some (.d (.lit (.slice none 0 0))) := by
  obtain ⟨h, rfl⟩ := cutI_some.1 hc
  simp only [Sl.l, List.length_nil] at h
  simp only [evSlice, Bool.false_eq_true, if_false]
  rw [if_pos ⟨h.1, h.2.1, by simpa using h.2.2⟩]

section
variable {r : List α} {i j : Int} {k k2 : IntKind}
theorem cut_off (hc : cutI l 0 l.length = some r) : ev1 c (.slice false sz false false) [some (.c (.osl sz id 0 (l.map enc).length))] H nx = some (.c (.osl sz id 0 (r.map enc).length), [], [], nx) := by
  simp only [ev1]; rw [cut_o (enc := enc) (lo := none) (hi := none) hc]; rfl
theorem cut_otf (hc : cutI l i l.length = some r) : ev1 c (.slice false sz true false) [some (.c (.osl sz id 0 (l.map enc).length)), some (tI k i)] H nx = some (.c (.osl sz id i.toNat (r.map enc).length), [], [], nx) := by
  simp only [ev1, intOf?]; rw [cut_o (enc := enc) (lo := some i) (hi := none) hc]; rfl
theorem cut_oft (hc : cutI l 0 j = some r) : ev1 c (.slice false sz false true) [some (.c (.osl sz id 0 (l.map enc).length)), some (tI k j)] H nx = some (.c (.osl sz id 0 (r.map enc).length), [], [], nx) := by
  simp only [ev1, intOf?]; rw [cut_o (enc := enc) (lo := none) (hi := some j) hc]; rfl
theorem cut_ott (hc : cutI l i j = some r) : ev1 c (.slice false sz true true) [some (.c (.osl sz id 0 (l.map enc).length)), some (tI k i), some (tI k2 j)] H nx = some (.c (.osl sz id i.toNat (r.map enc).length), [], [], nx) := by
  simp only [ev1, intOf?]; rw [cut_o (enc := enc) (lo := some i) (hi := some j) hc]; rfl
theorem cut_sdff (hc : cutI s.l 0 s.l.length = some r) : ev1 c (.slice false sz false false) [some (.c (.d (slD sz enc s)))] H nx = some (.c (.d (slD sz enc (s.to r))), [], [], nx) := by
  simp only [ev1]; rw [cut_sd (lo := none) (hi := none) hc]
theorem cut_sdtf (hc : cutI s.l i s.l.length = some r) : ev1 c (.slice false sz true false) [some (.c (.d (slD sz enc s))), some (tI k i)] H nx = some (.c (.d (slD sz enc (s.to r))), [], [], nx) := by
  simp only [ev1, intOf?]; rw [cut_sd (lo := some i) (hi := none) hc]
theorem cut_sdft (hc : cutI s.l 0 j = some r) : ev1 c (.slice false sz false true) [some (.c (.d (slD sz enc s))), some (tI k j)] H nx = some (.c (.d (slD sz enc (s.to r))), [], [], nx) := by
  simp only [ev1, intOf?]; rw [cut_sd (lo := none) (hi := some j) hc]
theorem cut_sdtt (hc : cutI s.l i j = some r) : ev1 c (.slice false sz true true) [some (.c (.d (slD sz enc s))), some (tI k i), some (tI k2 j)] H nx = some (.c (.d (slD sz enc (s.to r))), [], [], nx) := by
  simp only [ev1, intOf?]; rw [cut_sd (lo := some i) (hi := some j) hc]
theorem cut_nff (hc : cutI (Sl.l (Sl.nil : Sl α)) 0 (Sl.l (Sl.nil : Sl α)).length = some r) : ev1 c (.slice false sz false false) [some (.c (.d (.lit (.slice none 0 0))))] H nx = some (.c (.d (.lit (.slice none 0 0))), [], [], nx) := by
  simp only [ev1]; rw [cut_n (lo := none) (hi := none) hc]
theorem cut_ntf (hc : cutI (Sl.l (Sl.nil : Sl α)) i (Sl.l (Sl.nil : Sl α)).length = some r) : ev1 c (.slice false sz true false) [some (.c (.d (.lit (.slice none 0 0)))), some (tI k i)] H nx = some (.c (.d (.lit (.slice none 0 0))), [], [], nx) := by
  simp only [ev1, intOf?]; rw [cut_n (lo := some i) (hi := none) hc]
theorem cut_nft (hc : cutI (Sl.l (Sl.nil : Sl α)) 0 j = some r) : ev1 c (.slice false sz false true) [some (.c (.d (.lit (.slice none 0 0)))), some (tI k j)] H nx = some (.c (.d (.lit (.slice none 0 0))), [], [], nx) := by
  simp only [ev1, intOf?]; rw [cut_n (lo := none) (hi := some j) hc]
theorem cut_ntt (hc : cutI (Sl.l (Sl.nil : Sl α)) i j = some r) : ev1 c (.slice false sz true true) [some (.c (.d (.lit (.slice none 0 0)))), some (tI k i), some (tI k2 j)] H nx = some (.c (.d (.lit (.slice none 0 0))), [], [], nx) := by
  simp only [ev1, intOf?]; rw [cut_n (lo := some i) (hi := some j) hc]

/-- l with what is at off replaced by the first n of x -/
def cpL (l : List α) (off n : Nat) (x : List α) : List α := splice l off (x.take n)

theorem cp_map {off n : Nat} {x : List α} : splice (l.map enc) off ((x.map enc).take n) = (cpL l off n x).map enc := by
  simp [cpL, splice]

theorem rows_s {id2 : Nat} {lo hi : Int} {r : List α} (hl : look H id2 = some (.arr sz (l.map enc))) (hc : cutI l lo hi = some r) : rowsOf sz H (.osl sz id2 lo.toNat (r.map enc).length) = some (r.map enc, [id2]) := by
  obtain ⟨h1, h2⟩ := cut_le (enc := enc) hc
  simp only [rowsOf, hl]
  rw [if_pos ⟨trivial, h1⟩, h2]

theorem copy_o {xc : C} {x : List α} {ids : List Nat} (hl : look H id = some (.arr sz (l.map enc))) (hx : rowsOf sz H xc = some (x.map enc, ids)) :
    ev1 c (.copy sz) [some (.c (.osl sz id 0 (l.map enc).length)), some (.c xc)] H nx = some (tI .i64 (min x.length l.length : Nat), [(id, some (.arr sz ((cpL l 0 l.length x).map enc)))], id :: ids, nx) := by
  simp only [ev1, evCopy, hx, hl]
  rw [if_pos ⟨trivial, by simp⟩]
  simp only [cp_map, List.length_map]; rfl
theorem copy_s {xc : C} {x r : List α} {lo hi : Int} {ids : List Nat} (hl : look H id = some (.arr sz (l.map enc))) (hc : cutI l lo hi = some r) (hx : rowsOf sz H xc = some (x.map enc, ids)) :
    ev1 c (.copy sz) [some (.c (.osl sz id lo.toNat (r.map enc).length)), some (.c xc)] H nx = some (tI .i64 (min x.length r.length : Nat), [(id, some (.arr sz ((cpL l lo.toNat r.length x).map enc)))], id :: ids, nx) := by
  obtain ⟨h1, _⟩ := cut_le (enc := enc) hc
  simp only [ev1, evCopy, hx, hl]
  rw [if_pos ⟨trivial, h1⟩]
  simp only [cp_map, List.length_map]; rfl

theorem cpL_length {off n : Nat} {x : List α} (h : off + n ≤ l.length) : (cpL l off n x).length = l.length := splice_length _ _ _ (by simp only [List.length_take]; omega)
theorem len_cpo (l : List α) (enc : α → List D) (x : List α) : (l.map enc).length = ((cpL l 0 l.length x).map enc).length := by
  rw [List.length_map, List.length_map, cpL_length (by omega)]
theorem len_cps {lo hi : Int} {r : List α} (hc : cutI l lo hi = some r) (x : List α) : (l.map enc).length = ((cpL l lo.toNat r.length x).map enc).length := by
  have := (cut_le (enc := enc) hc).1
  simp only [List.length_map] at this
  rw [List.length_map, List.length_map, cpL_length this]

/-- a part of a slice, on its own; the rest is forgotten -/
theorem sub_cutS (t : Nat) {e : Env} {h : Heap} {n : Nat} {gh : List C} {lo hi : Int} {r : List α} (hc : cutI l lo hi = some r) (ht : fnd e t = some (.c (.osl sz id lo.toNat (r.map enc).length))) (ho : look h id = some (.arr sz (l.map enc))) :
    Sub ⟨e, h, n, gh⟩ ⟨(t, .c (.osl sz n 0 (r.map enc).length)) :: e, (id, none) :: (n, some (.arr sz (r.map enc))) :: h, n + 1, gh⟩ :=
  let ⟨h1, h2⟩ := cut_le (enc := enc) hc
  sub_cut ht ho h2 h1

theorem pk_t {b : Bool} (hb : b = true) {x : TV} {y : Option TV} : ev1 c .pick [some (.c (.d (.lit (.bool b)))), some x, y] H nx = some (x, [], [], nx) := by subst hb; rfl
theorem pk_f {b : Bool} (hb : b = false) {x : TV} {y : Option TV} : ev1 c .pick [some (.c (.d (.lit (.bool b)))), y, some x] H nx = some (x, [], [], nx) := by subst hb; rfl

/-- of one length -/
def lenI (a b : List α) : Option Unit := if a.length = b.length then some () else none
theorem lenI_some {a b : List α} {u : Unit} : lenI a b = some u ↔ a.length = b.length := by
  unfold lenI; split <;> simp_all
theorem lenI_map {a b : List α} {u : Unit} (h : lenI a b = some u) : (a.map enc).length = (b.map enc).length := by
  rw [List.length_map, List.length_map, lenI_some.1 h]

/-- a slice that may be nil is lent -/
def lendO (s : Sl α) (f : List α → Option (List α)) (g : Option Unit) : Option (Sl α) :=
  match s with
  | .nil => g.bind fun _ => some .nil
  | .mk l => (f l).bind fun r => (lenI r l).bind fun _ => some (Sl.mk r)
theorem lend_len {f : List α → Option (List α)} {g : Option Unit} {r : List α} (h : lendO (Sl.mk l) f g = some (Sl.mk r)) : (r.map enc).length = (l.map enc).length := by
  obtain ⟨l', _, h⟩ := bnd h
  obtain ⟨_, h2, h⟩ := bnd h
  obtain rfl : l' = r := by simpa using h
  exact lenI_map h2
theorem lend_mk {f : List α → Option (List α)} {g : Option Unit} (h : lendO (Sl.mk l) f g = some (.nil : Sl α)) {p : Prop} : p := by
  obtain ⟨l', _, h⟩ := bnd h
  obtain ⟨_, h2, h⟩ := bnd h
  cases h
theorem lend_nil {f : List α → Option (List α)} {g : Option Unit} {r : List α} (h : lendO (.nil : Sl α) f g = some (Sl.mk r)) {p : Prop} : p := by
  cases g <;> simp [lendO] at h
theorem lend_ok {G : T → T → Prop} {f : List α → Option (List α)} {g : Option Unit} {r : Sl α} (h : lendO s f g = some r) (h1 : ∀ l l', f l = some l' → G (.sl sz (l.map enc)) (.sl sz (l'.map enc)))
    (h2 : g = some () → G (.d (.lit (.slice none 0 0))) (.d (.lit (.slice none 0 0)))) : G (slT sz enc s) (slT sz enc r) := by
  cases s with
  | nil =>
    obtain ⟨_, h3, h4⟩ := bnd h
    obtain rfl := Option.some.inj h4
    exact h2 h3
  | mk l =>
    obtain ⟨l', h3, h⟩ := bnd h
    obtain ⟨_, _, h⟩ := bnd h
    obtain rfl := Option.some.inj h
    exact h1 l l' h3

/-- what was cut out of a slice that the frame owns -/
theorem cut_sub {lo hi : Int} (hc : cutI l lo hi = some r) : ((l.map enc).drop lo.toNat).take (r.map enc).length = r.map enc := by
  obtain ⟨h, rfl⟩ := cutI_some.1 hc
  rw [cut_map]
  congr 1
  simp

theorem ev_make {z : α} {zero : List Value} {n m : Int} (hz : litsD zero = enc z) (h : mkI z n m = some l) : ev1 c (.makeSlice zero) [some (tI k n), some (tI k2 m)] H nx = some (.c (.osl zero.length nx 0 (l.map enc).length), [(nx, some (.arr zero.length (l.map enc)))], [], nx + 1) := by
  unfold mkI at h
  split at h
  · rename_i hb
    obtain rfl := Option.some.inj h
    simp only [ev1, intOf?]
    rw [if_pos (by simpa [lim] using hb), hz]
    simp
  · simp at h
end
end

/-! ### small arrays -/

theorem ar4 {P : Nat → Prop} {n : Nat} (h : n < 4) (h0 : P 0) (h1 : P 1) (h2 : P 2) (h3 : P 3) : P n := by
  match n, h with
  | 0, _ => exact h0
  | 1, _ => exact h1
  | 2, _ => exact h2
  | 3, _ => exact h3

section
variable {c : Call} {H : Heap} {id nx o : Nat} {i : Int} {n len : Nat} {k : IntKind}

theorem ix_ar (h : ixI i len = some n) : ev1 c (.indexAddr (some len) 1) [some (.c (.op id o)), some (tI k i)] H nx = some (.c (.op id (o + n * 1)), [], [], nx) := by
  obtain ⟨rfl, hn⟩ := ixI_some.1 h
  simp only [ev1, intOf?, evIndexAddr]
  rw [if_pos ⟨by omega, by omega⟩]; rfl

theorem ix_ap {l : List D} {off : Nat} (h : ixI i len = some n) (hl : off + len ≤ l.length) : ev1 c (.indexAddr (some len) 1) [some (.c (.d (.pt (l.drop off)))), some (tI k i)] H nx = some (.c (.d (.pt (l.drop (off + n * 1)))), [], [], nx) := by
  obtain ⟨rfl, hn⟩ := ixI_some.1 h
  simp only [ev1, intOf?, evIndexAddr]
  rw [if_pos ⟨by omega, by omega⟩, if_pos (by rw [List.length_drop, Int.toNat_natCast]; omega)]
  simp only [Int.toNat_natCast, List.drop_drop]

theorem ix_av {α : Type} [Inhabited α] {f : α → C} {l : List α} {cs : List C} (hc : cs = l.map f) (hl : l.length = len) (h : ixI i len = some n) :
    ev1 c (.index false len 1) [some (.agg cs), some (tI k i)] H nx = some (.c (f (gt l n)), [], [], nx) := by
  obtain ⟨rfl, hn⟩ := ixI_some.1 h
  subst hc
  simp only [ev1, intOf?]
  rw [if_pos ⟨by omega, by omega⟩]
  have hlt : n < l.length := by omega
  have : ldC false 1 ((l.map f).drop ((n : Int).toNat * 1)) = some (.c (f (gt l n))) := by
    rw [Int.toNat_natCast, Nat.mul_one, List.drop_eq_getElem_cons (by simpa using hlt)]
    simp [ldC, gt_eq hlt]
  rw [this]
end

/-! ### maps -/

/-- a map: its entries as they came, each with its number; how many came -/
structure Mp (K V : Type) where
  es : List (K × V × Nat)
  clock : Nat

def Mp.none {K V : Type} : Mp K V := ⟨[], 0⟩
instance {K V : Type} : Inhabited (Mp K V) := ⟨.none⟩

section
variable {κ ν : Type}

def mpFind [DecidableEq κ] (k : κ) : List (κ × ν × Nat) → Nat → Option (Nat × κ × ν × Nat)
  | [], _ => none
  | e :: r, i => if k = e.1 then some (i, e) else mpFind k r (i + 1)
def mpGet [DecidableEq κ] (m : Mp κ ν) (z : ν) (k : κ) : ν := match mpFind k m.es 0 with | some (_, e) => e.2.1 | none => z
def mpHas [DecidableEq κ] (m : Mp κ ν) (k : κ) : Bool := (mpFind k m.es 0).isSome
/-- the entry of a key, made where there is none: the map, the value, its number -/
def mpEnt [DecidableEq κ] (m : Mp κ ν) (z : ν) (k : κ) : Mp κ ν × ν × Int := match mpFind k m.es 0 with | some (_, e) => (m, e.2.1, e.2.2) | none => (⟨m.es ++ [(k, z, m.clock)], m.clock + 1⟩, z, m.clock)
def mpPut : List (κ × ν × Nat) → Nat → ν → List (κ × ν × Nat)
  | [], _, _ => []
  | e :: r, 0, v => (e.1, v, e.2.2) :: r
  | e :: r, i + 1, v => e :: mpPut r i v
def mpSet (m : Mp κ ν) (s : Int) (v : ν) : Option (Mp κ ν) := (m.es.findIdx? (fun e => decide ((e.2.2 : Int) = s))).map fun i => ⟨mpPut m.es i v, m.clock⟩

def mpE (ek : κ → List Value) (ev : ν → List D) (e : κ × ν × Nat) : MEnt := (ek e.1, ev e.2.1, e.2.2)
def mpO (ka va : Bool) (ek : κ → List Value) (ev : ν → List D) (m : Mp κ ν) : Option Ob := some (.map ka va (m.es.map (mpE ek ev)) m.clock)

variable {ek : κ → List Value} {ev : ν → List D} {ks : List Kd} {ka va : Bool}

theorem mpFind_some [DecidableEq κ] {k : κ} : ∀ {l : List (κ × ν × Nat)} {i j : Nat} {e : κ × ν × Nat}, mpFind k l i = some (j, e) → i ≤ j ∧ l[j - i]? = some e ∧ e.1 = k := by
  intro l
  induction l with
  | nil => intro i j e h; simp [mpFind] at h
  | cons x l ih =>
    intro i j e h
    simp only [mpFind] at h
    split at h
    · rename_i hk
      obtain ⟨rfl, rfl⟩ : i = j ∧ x = e := by simpa using h
      exact ⟨Nat.le_refl _, by simp, hk.symm⟩
    · obtain ⟨h1, h2, h3⟩ := ih h
      have e1 : j - i = (j - (i + 1)) + 1 := by omega
      exact ⟨by omega, by rw [e1]; simpa using h2, h3⟩

theorem findE_mp [DecidableEq κ] (heq : ∀ a b, eqVs ks (ek a) (ek b) = some (decide (a = b))) (k : κ) : ∀ (l : List (κ × ν × Nat)) (i : Nat), findE ks (ek k) (l.map (mpE ek ev)) i = some ((mpFind k l i).map (·.1)) := by
  intro l
  induction l with
  | nil => intro i; rfl
  | cons x l ih =>
    intro i
    simp only [List.map_cons, findE, mpFind]
    have : (mpE ek ev x).1 = ek x.1 := rfl
    rw [this, heq]
    by_cases h : k = x.1
    · simp [h]
    · simp [h, ih]

theorem ent_getD {l : List (κ × ν × Nat)} {j : Nat} {e : κ × ν × Nat} (h : l[j]? = some e) : (l.map (mpE ek ev)).getD j default = mpE ek ev e := by
  simp [List.getD_eq_getElem?_getD, h]

variable {m : Mp κ ν} {z : ν} {k : κ} {zero : List Value} {tv : ν → TV} {kt : TV} {H : Heap} {id nx : Nat} {c : Call}

theorem look_m [DecidableEq κ] (hl : look H id = mpO ka va ek ev m) (hk : keyTV ka ks kt = some (ek k)) (heq : ∀ a b, eqVs ks (ek a) (ek b) = some (decide (a = b))) (hz : litsD zero = ev z) (hv : ∀ x, valTV va (ev x) = some (tv x)) :
    ev1 c (.lookup ka ks va zero false) [some (.c (.om id)), some kt] H nx = some (tv (mpGet m z k), [], [id], nx) := by
  have h := findE_mp (ev := ev) heq k m.es 0
  simp only [ev1, evLookup, hk, hl, mpO, and_self, if_true, h]
  unfold mpGet
  cases hf : mpFind k m.es 0 with
  | none => simp only [Option.map_none, hz, hv, Bool.false_eq_true, if_false]
  | some p =>
    obtain ⟨j, e⟩ := p
    obtain ⟨_, h2, _⟩ := mpFind_some hf
    rw [Nat.sub_zero] at h2
    simp only [Option.map_some, ent_getD h2, mpE, hv, Bool.false_eq_true, if_false]

theorem look_mk [DecidableEq κ] (hl : look H id = mpO ka va ek ev m) (hk : keyTV ka ks kt = some (ek k)) (heq : ∀ a b, eqVs ks (ek a) (ek b) = some (decide (a = b))) (hz : litsD zero = ev z) (hv : ∀ x, valTV va (ev x) = some (tv x)) :
    ev1 c (.lookup ka ks va zero true) [some (.c (.om id)), some kt] H nx = some (.tup [tv (mpGet m z k), tB (mpHas m k)], [], [id], nx) := by
  have h := findE_mp (ev := ev) heq k m.es 0
  simp only [ev1, evLookup, hk, hl, mpO, and_self, if_true, h]
  unfold mpGet mpHas
  cases hf : mpFind k m.es 0 with
  | none => simp only [Option.map_none, hz, hv, Option.isSome_none, lv]
  | some p =>
    obtain ⟨j, e⟩ := p
    obtain ⟨_, h2, _⟩ := mpFind_some hf
    rw [Nat.sub_zero] at h2
    simp only [Option.map_some, ent_getD h2, mpE, hv, Option.isSome_some, lv]

theorem ent_m [DecidableEq κ] (hl : look H id = mpO ka va ek ev m) (hk : keyTV ka ks kt = some (ek k)) (heq : ∀ a b, eqVs ks (ek a) (ek b) = some (decide (a = b))) (hz : litsD zero = ev z) (hv : ∀ x, valTV va (ev x) = some (tv x)) :
    ev1 c (.mapEntry ka ks va zero) [some (.c (.om id)), some kt] H nx = some (.tup [tv (mpEnt m z k).2.1, tI .i64 (mpEnt m z k).2.2], [(id, mpO ka va ek ev (mpEnt m z k).1)], [id], nx) := by
  have h := findE_mp (ev := ev) heq k m.es 0
  simp only [ev1, evEntry, hk, hl, mpO, and_self, if_true, h]
  unfold mpEnt
  cases hf : mpFind k m.es 0 with
  | none =>
    simp only [Option.map_none, hz, hv, lv, List.map_append, List.map_cons, List.map_nil, mpE]
  | some p =>
    obtain ⟨j, e⟩ := p
    obtain ⟨_, h2, _⟩ := mpFind_some hf
    rw [Nat.sub_zero] at h2
    simp only [Option.map_some, ent_getD h2, mpE, hv, lv]

theorem mpPut_map {ds : List D} {v : ν} (hd : ev v = ds) : ∀ {l : List (κ × ν × Nat)} {i : Nat}, i < l.length →
    (l.map (mpE ek ev)).set i (((l.map (mpE ek ev)).getD i default).1, ds, ((l.map (mpE ek ev)).getD i default).2.2) = (mpPut l i v).map (mpE ek ev) := by
  intro l
  induction l with
  | nil => intro i h; simp at h
  | cons x l ih =>
    intro i h
    cases i with
    | zero => simp [mpPut, mpE, hd]
    | succ i =>
      have := ih (i := i) (by simpa using h)
      simp only [List.map_cons, List.set_cons_succ, List.getD_cons_succ, mpPut]
      rw [this]

theorem est_m {m' : Mp κ ν} {s : Int} {v : ν} {n : Nat} {xv : TV} {kd : IntKind} (hs : mpSet m s v = some m') (hl : look H id = mpO ka va ek ev m) (hx : (cellsOf xv).bind dsOf = some (ev v)) (hn : (ev v).length = n) (ha : isAggTV xv = va) :
    ev1 c (.entryStore va n) [some (.c (.om id)), some (tI kd s), some xv] H nx = some (.tup [], [(id, mpO ka va ek ev m')], [id], nx) := by
  unfold mpSet at hs
  obtain ⟨i, hi, rfl⟩ := Option.map_eq_some_iff.1 hs
  have hf : (m.es.map (mpE ek ev)).findIdx? (fun e => decide ((e.2.2 : Int) = s)) = some i := by
    rw [List.findIdx?_map]; exact hi
  have hlt : i < m.es.length := by
    obtain ⟨h1, _⟩ := List.findIdx?_eq_some_iff_getElem.1 hi
    exact h1
  simp only [ev1, evEStore, intOf?, hx, hl, mpO, hn, ha, and_self, if_true, hf, mpPut_map (ek := ek) (ev := ev) (v := v) rfl hlt]

theorem new_m : ev1 c (.makeMap ka va) [] H nx = some (.c (.om nx), [(nx, mpO ka va ek ev (Mp.none : Mp κ ν))], [], nx + 1) := rfl
end

end Go.Ev
