/- The abstract machine: deep data, cells, owned objects, operations and code, and their evaluation. Conditions: none, these are definitions. -/
import Derived.Orders
namespace Go.Ev

inductive D where
  | lit (v : Value)
  | sl (sz : Nat) (rows : List (List D))
  | pt (cells : List D)
  | fn (f : FuncId) (caps : List D)
  deriving Inhabited

inductive C where
  | d (x : D)
  | osl (sz id off len : Nat)
  | ep (id row off : Nat)
  | op (id off : Nat)
  | ofn (f : FuncId) (caps : List C)
  | om (id : Nat)
  deriving Inhabited

inductive TV where
  | c (x : C)
  | agg (cells : List C)
  | tup (xs : List TV)
  deriving Inhabited

inductive Ob where
  | arr (sz : Nat) (rows : List (List D))
  | imm (sz : Nat) (rows : List (List D))
  | box (cells : List C)
  | ibox (cells : List D)
  | map (ka va : Bool) (es : List (List Value × List D × Nat)) (clock : Nat)
  deriving Inhabited

/-- trees: what a call hands over and takes back, with what it owns -/
inductive T where
  | d (x : D)
  | sl (sz : Nat) (rows : List (List D))
  | pt (cells : List T)
  deriving Inhabited

inductive A where
  | d (x : D)
  | agg (cells : List D)
  | mt (t : T)
  deriving Inhabited

inductive R where
  | c (t : T)
  | agg (cells : List T)
  deriving Inhabited

def plain : Value → Bool
  | .bool _ | .int _ _ | .float _ _ | .string _ | .pointer none | .slice none 0 0 | .map none | .nilFunc | .nilIface => true
  | _ => false

def lim : Nat := 2147483648

def fnd {α : Type} : List (Nat × α) → Nat → Option α
  | [], _ => none
  | (a, x) :: r, k => bif a == k then some x else fnd r k

abbrev Env := List (Nat × TV)
abbrev Heap := List (Nat × Option Ob)
abbrev Upd := List (Nat × Option Ob)

def look (h : Heap) (id : Nat) : Option Ob := (fnd h id).join

/-- kinds of plain cells that can be compared -/
inductive Kd where
  | b
  | i (k : IntKind)
  | s
  deriving Inhabited, DecidableEq

inductive K where
  | mv
  | pick
  | alloc (zero : List Value)
  | box
  | build (zero : List Value) (places : List (Nat × Nat))
  | buildSlice (sz len : Nat) (zero : List Value) (places : List Nat)
  | load (agg : Bool) (n : Nat)
  | store (n : Nat)
  | nilCheck
  | bin (op : BinOp)
  | eqBool (neg : Bool)
  | eqNil (kind : Nat) (neg : Bool)
  | eqAgg (neg : Bool) (ks : List Kd)
  | un (op : UnOp)
  | convInt (k : IntKind)
  | convSame
  | mkFn (f : FuncId)
  | makeSlice (zero : List Value)
  | slice (str : Bool) (sz : Nat) (lo hi : Bool)
  | fieldAddr (off : Nat)
  | field (agg : Bool) (off n : Nat)
  | indexAddr (arr : Option Nat) (sz : Nat)
  | indexStr
  | index (agg : Bool) (len sz : Nat)
  | extract (i : Nat)
  | len (str : Bool)
  | minmax (isMax : Bool)
  | append (sz : Nat)
  | copy (sz : Nat)
  | call (ro : Bool) (muts : List Bool)
  | makeMap (ka va : Bool)
  | lookup (ka : Bool) (ks : List Kd) (va : Bool) (zero : List Value) (ok : Bool)
  | mapEntry (ka : Bool) (ks : List Kd) (va : Bool) (zero : List Value)
  | entryStore (va : Bool) (m : Nat)
  | bad
  deriving Inhabited

structure COp where
  dst : Option Nat
  k : K
  args : List Operand
  guard : Option (Nat × Bool)
  deriving Inhabited

inductive CC where
  | skip
  | region (ops : List COp) (keep : List Nat)
  | drawn (ops : List COp) (dyn : List (Nat × Nat)) (keep : List Nat)
  | seq (a b : CC)
  | cond (c : Operand) (a b : CC)
  | block (id : Nat) (a : CC)
  | loop (keep : List Nat) (a : CC)
  | exit (id : Nat)
  | ret
  | bad
  deriving Inhabited

structure St where
  env : Env
  heap : Heap
  next : Nat
  gh : List C
  deriving Inhabited

inductive Out where
  | normal
  | exit (id : Nat)
  | ret
  deriving Inhabited, DecidableEq

/-- what the package-level variables hold, as the text lays them -/
def glb : Nat → Option D := fun _ => none

/-! ### values -/

def cv : Value → Option TV
  | .agg cs => if cs.toList.all plain then some (.agg (cs.toList.map fun v => .d (.lit v))) else none
  | v => if plain v then some (.c (.d (.lit v))) else none

def opv (e : Env) : Operand → Option TV
  | .tmp t => fnd e t
  | .const v => cv v
  | .global g => (glb g).map fun d => .c (.d d)
  | .func f => some (.c (.d (.fn f [])))

def cellsOf : TV → Option (List C)
  | .c x => some [x]
  | .agg cs => some cs
  | .tup _ => none

def lits : List Value → List C := List.map fun v => .d (.lit v)
def litsD : List Value → List D := List.map D.lit

/-- l with what is at off replaced by p -/
def splice {α : Type} (l : List α) (off : Nat) (p : List α) : List α := l.take off ++ p ++ l.drop (off + p.length)

def fillC (cells : List C) : List ((Nat × Nat) × TV) → Option (List C)
  | [] => some cells
  | ((off, n), v) :: r =>
    match cellsOf v with
    | some cs => if cs.length = n ∧ off + n ≤ cells.length then fillC (splice cells off cs) r else none
    | none => none

def chunks {α : Type} (sz : Nat) : Nat → List α → List (List α)
  | 0, _ => []
  | n + 1, l => l.take sz :: chunks sz n (l.drop sz)

/-! ### reading owned things as data -/

mutual
def viewC (h : Heap) : Nat → C → Option (D × List Nat)
  | _, .d x => some (x, [])
  | _, .osl sz id off len =>
    match look h id with
    | some (.arr _ rows) | some (.imm _ rows) => if off + len ≤ rows.length then some (.sl sz ((rows.drop off).take len), [id]) else none
    | _ => none
  | _, .ep id row off =>
    match look h id with
    | some (.arr _ rows) | some (.imm _ rows) => match rows[row]? with | some r => if off ≤ r.length then some (.pt (r.drop off), [id]) else none | none => none
    | _ => none
  | 0, _ => none
  | n + 1, .op id off =>
    match look h id with
    | some (.ibox cells) => if off ≤ cells.length then some (.pt (cells.drop off), [id]) else none
    | some (.box cells) =>
      match viewL h n cells with
      | some (ds, ids) => if off ≤ ds.length then some (.pt (ds.drop off), id :: ids) else none
      | none => none
    | _ => none
  | n + 1, .ofn f caps =>
    match viewL h n caps with
    | some (ds, ids) => some (.fn f ds, ids)
    | none => none
  | _ + 1, .om _ => none
def viewL (h : Heap) : Nat → List C → Option (List D × List Nat)
  | _, [] => some ([], [])
  | 0, _ => none
  | n + 1, c :: cs =>
    match viewC h n c, viewL h n cs with
    | some (x, a), some (xs, b) => some (x :: xs, a ++ b)
    | _, _ => none
end

/-- the objects of these numbers, frozen -/
def freezeOb (h : Heap) (all : List Nat) (id : Nat) : Option Ob :=
  match look h id with
  | some (.arr sz rows) => some (.imm sz rows)
  | some (.imm sz rows) => some (.imm sz rows)
  | some (.ibox cells) => some (.ibox cells)
  | some (.box cells) => match viewL h 60 cells with | some (ds, ids) => if ids.all (fun i => all.contains i) then some (.ibox ds) else none | none => none
  | some (.map _ _ _ _) => none
  | none => none

def freezeIds (h : Heap) (all : List Nat) : List Nat → Option Upd
  | [] => some []
  | id :: r => match freezeOb h all id, freezeIds h all r with | some o, some u => some ((id, some o) :: u) | _, _ => none

/-- cells as data, and the numbers that are looked at -/
def viewCs (h : Heap) : List C → Option (List D × List Nat)
  | [] => some ([], [])
  | c :: cs =>
    match viewC h 60 c, viewCs h cs with
    | some (x, a), some (xs, b) => some (x :: xs, a ++ b)
    | _, _ => none

/-! ### trees -/
mutual
/-- what a cell leads to, taken out of the heap; the numbers that are owned, the numbers that are looked at -/
def packC (h : Heap) : Nat → C → Option (T × List Nat × List Nat)
  | _, .d x => some (.d x, [], [])
  | _, .osl sz id off len =>
    match look h id with
    | some (.arr _ rows) => if off + len ≤ rows.length then some (.sl sz ((rows.drop off).take len), [id], [id]) else none
    | some (.imm _ rows) => if off + len ≤ rows.length then some (.d (.sl sz ((rows.drop off).take len)), [], [id]) else none
    | _ => none
  | 0, _ => none
  | n + 1, .op id 0 =>
    match look h id with
    | some (.box cells) => match packL h n cells with | some (ts, own, ids) => some (.pt ts, id :: own, id :: ids) | none => none
    | some (.ibox cells) => some (.d (.pt cells), [], [id])
    | _ => none
  | _ + 1, _ => none
def packL (h : Heap) : Nat → List C → Option (List T × List Nat × List Nat)
  | _, [] => some ([], [], [])
  | 0, _ => none
  | n + 1, c :: cs =>
    match packC h n c, packL h n cs with
    | some (x, a, i), some (xs, b, j) => some (x :: xs, a ++ b, i ++ j)
    | _, _ => none
end

mutual
/-- a tree laid into the heap, from the number nxt on -/
def unC (nxt : Nat) : T → C × Upd × Nat
  | .d x => (.d x, [], nxt)
  | .sl sz rows => (.osl sz nxt 0 rows.length, [(nxt, some (.arr sz rows))], nxt + 1)
  | .pt ts => let (cs, u, m) := unL (nxt + 1) ts; (.op nxt 0, (nxt, some (.box cs)) :: u, m)
def unL (nxt : Nat) : List T → List C × Upd × Nat
  | [] => ([], [], nxt)
  | t :: ts => let (c, u, m) := unC nxt t; let (cs, v, k) := unL m ts; (c :: cs, u ++ v, k)
end

def unR (nxt : Nat) : R → TV × Upd × Nat
  | .c t => let (c, u, m) := unC nxt t; (.c c, u, m)
  | .agg ts => let (cs, u, m) := unL nxt ts; (.agg cs, u, m)

def unRs (nxt : Nat) : List R → List TV × Upd × Nat
  | [] => ([], [], nxt)
  | r :: rs => let (v, u, m) := unR nxt r; let (vs, w, k) := unRs m rs; (v :: vs, u ++ w, k)

end Go.Ev
