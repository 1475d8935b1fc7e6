/- The abstract machine: deep data, cells, owned objects, operations and code, and their evaluation. Conditions: none, these are definitions. -/
import Derived.Orders
import Derived.Laws.CopyRow
namespace Go.Ev
inductive D where
 | lit (v : Value)
 | sl (sz : Nat) (rows : List (List D))
 | pt (cells : List D)
 | fn (f : FuncId) (caps : List D)
 deriving Inhabited
inductive C where
 | d (x : D)
 | osl (sz id off len : Nat)
 | ep (id row off : Nat)
 | op (id off : Nat)
 | ofn (f : FuncId) (caps : List C)
 | om (id : Nat)
 deriving Inhabited
inductive TV where
 | c (x : C)
 | agg (cells : List C)
 | tup (xs : List TV)
 deriving Inhabited
inductive Ob where
 | arr (sz : Nat) (rows : List (List D))
 | imm (sz : Nat) (rows : List (List D))
 | box (cells : List C)
 | ibox (cells : List D)
 | map (ka va : Bool) (es : List (List Value × List D × Nat)) (clock : Nat)
 | cap (sz : Nat) (rows : List (List D)) (cp : Nat)
 deriving Inhabited
inductive T where
 | d (x : D)
 | sl (sz : Nat) (rows : List (List D))
 | pt (cells : List T)
 | gone
 deriving Inhabited
inductive A where
 | d (x : D)
 | agg (cells : List D)
 | mt (t : T)
 deriving Inhabited
inductive R where
 | c (t : T)
 | agg (cells : List T)
 deriving Inhabited
def q1e : Value → Bool
 | .bool _ | .int _ _ | .float _ _ | .string _ | .pointer none | .slice none 0 0 | .map none | .nilFunc | .nilIface => true
 | _ => false
def lim : Nat := 2147483648
def fnd {α : Type} : List (Nat × α) → Nat → Option α
 | [], _ => none
 | (a, x) :: r, k => bif a == k then some x else fnd r k
abbrev Env := List (Nat × TV)
abbrev q0k := List (Nat × Option Ob)
abbrev Upd := List (Nat × Option Ob)
def q02 (h : q0k) (id : Nat) : Option Ob := (fnd h id).join
inductive Kd where
 | b
 | i (k : IntKind)
 | s
 deriving Inhabited, DecidableEq
inductive K where
 | mv
 | pick
 | alloc (zero : List Value)
 | box
 | build (zero : List Value) (places : List (Nat × Nat))
 | buildSlice (sz len : Nat) (zero : List Value) (places : List Nat)
 | load (agg : Bool) (n : Nat)
 | store (n : Nat)
 | nilCheck
 | bin (op : BinOp)
 | eqBool (neg : Bool)
 | eqNil (kind : Nat) (neg : Bool)
 | eqAgg (neg : Bool) (ks : List Kd)
 | un (op : UnOp)
 | convInt (k : IntKind)
 | convSame
 | mkFn (f : FuncId)
 | makeSlice (zero : List Value)
 | slice (str : Bool) (sz : Nat) (lo hi : Bool)
 | fieldAddr (off n : Nat)
 | field (agg : Bool) (off n : Nat)
 | indexAddr (arr : Option Nat) (sz : Nat)
 | indexStr
 | index (agg : Bool) (len sz : Nat)
 | extract (i : Nat)
 | len (str : Bool)
 | minmax (isMax : Bool)
 | append (sz : Nat)
 | copy (sz : Nat)
 | clear (zero : List Value)
 | slice3 (sz : Nat)
 | capK
 | apm (zero : List Value)
 | ovl
 | call (ro : Bool) (muts : List Bool)
 | makeMap (ka va : Bool)
 | lookup (ka : Bool) (ks : List Kd) (va : Bool) (zero : List Value) (ok : Bool)
 | mapEntry (ka : Bool) (ks : List Kd) (va : Bool) (zero : List Value)
 | entryStore (va : Bool) (m : Nat)
 | bad
 deriving Inhabited
structure COp where
 dst : Option Nat
 k : K
 args : List Operand
 guard : Option (Nat × Bool)
 deriving Inhabited
inductive CC where
 | skip
 | region (ops : List COp) (keep : List Nat)
 | drawn (ops : List COp) (dyn : List (Nat × Nat)) (keep : List Nat)
 | seq (a b : CC)
 | cond (c : Operand) (a b : CC)
 | block (id : Nat) (a : CC)
 | loop (keep : List Nat) (a : CC)
 | exit (id : Nat)
 | ret
 | bad
 deriving Inhabited
structure St where
 env : Env
 heap : q0k
 next : Nat
 gh : List C
 deriving Inhabited
inductive Out where
 | normal
 | exit (id : Nat)
 | ret
 deriving Inhabited, DecidableEq
def glb : Nat → Option D := fun _ => none
def cv : Value → Option TV
 | .agg cs => if cs.toList.all q1e then some (.agg (cs.toList.map fun v => .d (.lit v))) else none
 | v => if q1e v then some (.c (.d (.lit v))) else none
def opv (e : Env) : Operand → Option TV
 | .tmp t => fnd e t
 | .const v => cv v
 | .global g => (glb g).map fun d => .c (.d d)
 | .func f => some (.c (.d (.fn f [])))
def cellsOf : TV → Option (List C)
 | .c x => some [x]
 | .agg cs => some cs
 | .tup _ => none
def lits : List Value → List C := List.map fun v => .d (.lit v)
def q0n : List Value → List D := List.map D.lit
def splice {α : Type} (l : List α) (off : Nat) (p : List α) : List α := l.take off ++ p ++ l.drop (off + p.length)
def q7q (cells : List C) : List ((Nat × Nat) × TV) → Option (List C)
 | [] => some cells
 | ((off, n), v) :: r =>
  match cellsOf v with
  | some cs => if cs.length = n ∧ off + n ≤ cells.length then q7q (splice cells off cs) r else none
  | none => none
def q6c {α : Type} (sz : Nat) : Nat → List α → List (List α)
 | 0, _ => []
 | n + 1, l => l.take sz :: q6c sz n (l.drop sz)
mutual
def q1d (h : q0k) : Nat → C → Option (D × List Nat)
 | _, .d x => some (x, [])
 | _, .osl sz id off len =>
  match q02 h id with
  | some (.arr _ rows) | some (.imm _ rows) => if off + len ≤ rows.length then some (.sl sz ((rows.drop off).take len), [id]) else none
  | _ => none
 | _, .ep id row off =>
  match q02 h id with
  | some (.arr _ rows) | some (.imm _ rows) => match rows[row]? with | some r => if off ≤ r.length then some (.pt (r.drop off), [id]) else none | none => none
  | _ => none
 | 0, _ => none
 | n + 1, .op id off =>
  match q02 h id with
  | some (.ibox cells) => if off ≤ cells.length then some (.pt (cells.drop off), [id]) else none
  | some (.box cells) =>
   match q28 h n cells with
   | some (ds, ids) => if off ≤ ds.length then some (.pt (ds.drop off), id :: ids) else none
   | none => none
  | _ => none
 | n + 1, .ofn f caps =>
  match q28 h n caps with
  | some (ds, ids) => some (.fn f ds, ids)
  | none => none
 | _ + 1, .om _ => none
def q28 (h : q0k) : Nat → List C → Option (List D × List Nat)
 | _, [] => some ([], [])
 | 0, _ => none
 | n + 1, c :: cs =>
  match q1d h n c, q28 h n cs with
  | some (x, a), some (xs, b) => some (x :: xs, a ++ b)
  | _, _ => none
end
def q3q (h : q0k) (all : List Nat) (id : Nat) : Option Ob :=
 match q02 h id with
 | some (.arr sz rows) => some (.imm sz rows)
 | some (.imm sz rows) => some (.imm sz rows)
 | some (.ibox cells) => some (.ibox cells)
 | some (.box cells) => match q28 h 300 cells with | some (ds, ids) => if ids.all (fun i => all.contains i) then some (.ibox ds) else none | none => none
 | some (.map _ _ _ _) => none
 | some (.cap _ _ _) => none
 | none => none
def q0q (h : q0k) (all : List Nat) : List Nat → Option Upd
 | [] => some []
 | id :: r => match q3q h all id, q0q h all r with | some o, some u => some ((id, some o) :: u) | _, _ => none
def q10 (h : q0k) : List C → Option (List D × List Nat)
 | [] => some ([], [])
 | c :: cs =>
  match q1d h 300 c, q10 h cs with
  | some (x, a), some (xs, b) => some (x :: xs, a ++ b)
  | _, _ => none
mutual
def q1h (h : q0k) : Nat → C → Option (T × List Nat × List Nat)
 | _, .d x => some (.d x, [], [])
 | _, .osl sz id off len =>
  match q02 h id with
  | some (.arr _ rows) => if off + len ≤ rows.length then some (.sl sz ((rows.drop off).take len), [id], [id]) else none
  | some (.imm _ rows) => if off + len ≤ rows.length then some (.d (.sl sz ((rows.drop off).take len)), [], [id]) else none
  | _ => none
 | 0, _ => none
 | n + 1, .op id 0 =>
  match q02 h id with
  | some (.box cells) => match q3l h n cells with | some (ts, own, ids) => some (.pt ts, id :: own, id :: ids) | none => none
  | some (.ibox cells) => some (.d (.pt cells), [], [id])
  | _ => none
 | _ + 1, _ => none
def q3l (h : q0k) : Nat → List C → Option (List T × List Nat × List Nat)
 | _, [] => some ([], [], [])
 | 0, _ => none
 | n + 1, c :: cs =>
  match q1h h n c, q3l h n cs with
  | some (x, a, i), some (xs, b, j) => some (x :: xs, a ++ b, i ++ j)
  | _, _ => none
end
mutual
def unC (nxt : Nat) : T → C × Upd × Nat
 | .d x => (.d x, [], nxt + 1)
 | .gone => (.d (.lit .nilFunc), [], nxt + 1)
 | .sl sz rows => (.osl sz nxt 0 rows.length, [(nxt, some (.arr sz rows))], nxt + 1)
 | .pt ts => let (cs, u, m) := unL (nxt + 1) ts; (.op nxt 0, (nxt, some (.box cs)) :: u, m)
def unL (nxt : Nat) : List T → List C × Upd × Nat
 | [] => ([], [], nxt)
 | t :: ts => let (c, u, m) := unC nxt t; let (cs, v, k) := unL m ts; (c :: cs, u ++ v, k)
end
def unR (nxt : Nat) : R → TV × Upd × Nat
 | .c t => let (c, u, m) := unC nxt t; (.c c, u, m)
 | .agg ts => let (cs, u, m) := unL nxt ts; (.agg cs, u, m)
def q5c (nxt : Nat) : List R → List TV × Upd × Nat
 | [] => ([], [], nxt)
 | r :: rs => let (v, u, m) := unR nxt r; let (vs, w, k) := q5c m rs; (v :: vs, u ++ w, k)
end Go.Ev

/- The abstract machine: one operation, a region, code, a function. Conditions: none, these are definitions. -/
namespace Go.Ev
abbrev Call := FuncId → List A → Option (List R × List T)
abbrev Res1 := Option (TV × Upd × List Nat × Nat)
def lv (v : Value) : TV := .c (.d (.lit v))
def qmx (op : BinOp) : Value → Value → Option Value
 | .int k a, .int k' b =>
  match op with
  | .shl => if b < 0 then none else some (.int k (k.wrap (a * 2 ^ (min b.toNat k.bits))))
  | .shr => if b < 0 then none else some (.int k (a.fdiv (2 ^ (min b.toNat k.bits))))
  | op => if k = k' then
   (match op with
   | .add => some (.int k (k.wrap (a + b)))
   | .sub => some (.int k (k.wrap (a - b)))
   | .mul => some (.int k (k.wrap (a * b)))
   | .quo => if b = 0 then none else some (.int k (k.wrap (a.tdiv b)))
   | .rem => if b = 0 then none else some (.int k (a.tmod b))
   | .and => some (.int k (k.wrap (BitVec.ofInt k.bits a &&& BitVec.ofInt k.bits b).toNat))
   | .or => some (.int k (k.wrap (BitVec.ofInt k.bits a ||| BitVec.ofInt k.bits b).toNat))
   | .xor => some (.int k (k.wrap (BitVec.ofInt k.bits a ^^^ BitVec.ofInt k.bits b).toNat))
   | .andNot => some (.int k (k.wrap (BitVec.ofInt k.bits a &&& ~~~BitVec.ofInt k.bits b).toNat))
   | .eql => some (.bool (a == b))
   | .neq => some (.bool (a != b))
   | .lss => some (.bool (a < b))
   | .leq => some (.bool (a ≤ b))
   | .gtr => some (.bool (a > b))
   | .geq => some (.bool (a ≥ b))
   | _ => none) else none
 | .float k a, .float k' b =>
  if k = k' then
   match op with
   | .add => (k.format.add a b).map (.float k)
   | .sub => (k.format.sub a b).map (.float k)
   | .mul => (k.format.mul a b).map (.float k)
   | .quo => (k.format.div a b).map (.float k)
   | .eql => some (.bool (k.format.order a b == some .eq))
   | .neq => some (.bool (k.format.order a b != some .eq))
   | .lss => some (.bool (k.format.order a b == some .lt))
   | .leq => some (.bool (k.format.order a b == some .lt || k.format.order a b == some .eq))
   | .gtr => some (.bool (k.format.order a b == some .gt))
   | .geq => some (.bool (k.format.order a b == some .gt || k.format.order a b == some .eq))
   | _ => none
  else none
 | .string x, .string y =>
  match op with
  | .add => if ((x.size + y.size : Nat) : Int) > IntKind.i64.max then none else some (.string (x ++ y))
  | .eql => some (.bool (x.toList == y.toList))
  | .neq => some (.bool !(x.toList == y.toList))
  | .lss => some (.bool (Op.bytesLess x.toList y.toList))
  | .leq => some (.bool (Op.bytesLess x.toList y.toList || x.toList == y.toList))
  | .gtr => some (.bool !(Op.bytesLess x.toList y.toList || x.toList == y.toList))
  | .geq => some (.bool !(Op.bytesLess x.toList y.toList))
  | _ => none
 | _, _ => none
def unV (op : UnOp) : Value → Option Value
 | .bool b => match op with | .not => some (.bool !b) | _ => none
 | .int k n => match op with
  | .neg => some (.int k (k.wrap (0 - n)))
  | .xor => some (.int k (k.wrap (BitVec.ofInt k.bits (if k.signed then -1 else k.max) ^^^ BitVec.ofInt k.bits n).toNat))
  | _ => none
 | .float k b => match op with | .neg => some (.float k (Op.negFloat k b)) | _ => none
 | _ => none
def eqK : Kd → Value → Value → Option Bool
 | .i q, .int k a, .int k' b => if k = q ∧ k' = q then some (a == b) else none
 | .b, .bool a, .bool b => some (a == b)
 | .s, .string a, .string b => some (a == b)
 | _, _, _ => none
def q4g : List Kd → List Value → List Value → Option Bool
 | [], [], [] => some true
 | k :: ks, x :: xs, y :: ys => match eqK k x y, q4g ks xs ys with | some a, some b => some (a && b) | _, _ => none
 | _, _, _ => none
def q5e : List C → Option (List Value)
 | [] => some []
 | .d (.lit v) :: r => match q5e r with | some l => some (v :: l) | none => none
 | _ => none
def mm2 (isMax : Bool) : Value → Value → Option Value
 | .int k x, .int k' y => if k = k' then some (.int k (if isMax then (if y > x then y else x) else (if y < x then y else x))) else none
 | .float k x, .float k' y =>
  if k = k' then match k.format.order x y with
  | none => none
  | some .lt => some (.float k (if isMax then y else x))
  | some .gt => some (.float k (if isMax then x else y))
  | some .eq => some (.float k (if isMax then (if (k.decode x).neg then y else x) else (if (k.decode x).neg then x else y)))
  else none
 | _, _ => none
def mmL (isMax : Bool) : Value → List (Option TV) → Option Value
 | x, [] => some x
 | x, some (.c (.d (.lit y))) :: r => match mm2 isMax x y with | some z => mmL isMax z r | none => none
 | _, _ => none
def ldC (agg : Bool) (n : Nat) (cells : List C) : Option TV :=
 if agg then (if n ≤ cells.length then some (.agg (cells.take n)) else none) else match cells with | x :: _ => some (.c x) | [] => none
def ldD (agg : Bool) (n : Nat) (cells : List D) : Option TV :=
 if agg then (if n ≤ cells.length then some (.agg ((cells.take n).map .d)) else none) else match cells with | x :: _ => some (.c (.d x)) | [] => none
def q63 (agg : Bool) (n : Nat) (p : C) (h : q0k) : Option (TV × List Nat) :=
 match p with
 | .d (.pt cells) => match ldD agg n cells with | some v => some (v, []) | none => none
 | .ep id row off =>
  match q02 h id with
  | some (.arr _ rows) | some (.imm _ rows) =>
   match rows[row]? with
   | some r => match ldD agg n (r.drop off) with | some v => some (v, [id]) | none => none
   | none => none
  | _ => none
 | .op id off =>
  match q02 h id with
  | some (.box cells) => match ldC agg n (cells.drop off) with | some v => some (v, [id]) | none => none
  | some (.ibox cells) => match ldD agg n (cells.drop off) with | some v => some (v, [id]) | none => none
  | _ => none
 | _ => none
def q75 (n : Nat) (p : C) (v : TV) (h : q0k) : Option (Upd × List Nat) :=
 match cellsOf v with
 | none => none
 | some cs =>
  if cs.length = n then
   match p with
   | .ep id row off =>
    match q02 h id with
    | some (.arr sz rows) =>
     match rows[row]?, q10 h cs with
     | some r, some (ds, ids) =>
      match q0q h ids ids with
      | some u => if off + n ≤ r.length ∧ ids.contains id = false then some ((id, some (.arr sz (rows.set row (splice r off ds)))) :: u, id :: ids) else none
      | none => none
     | _, _ => none
    | _ => none
   | .op id off =>
    match q02 h id with
    | some (.box cells) => if off + n ≤ cells.length then some ([(id, some (.box (splice cells off cs)))], [id]) else none
    | _ => none
   | _ => none
  else none
def intOf? : Option TV → Option Int
 | some (.c (.d (.lit (.int _ n)))) => some n
 | _ => none
def q1b (str : Bool) (sz : Nat) (x : C) (lo hi : Option Int) : Option C :=
 if str then match x with
 | .d (.lit (.string s)) =>
  let h := hi.getD s.size
  let l := lo.getD 0
  if 0 ≤ l ∧ l ≤ h ∧ h ≤ s.size then some (.d (.lit (.string (s.extract l.toNat h.toNat)))) else none
 | _ => none
 else match x with
 | .d (.lit (.slice none 0 0)) =>
  if 0 ≤ lo.getD 0 ∧ lo.getD 0 ≤ hi.getD 0 ∧ hi.getD 0 ≤ 0 then some x else none
 | .osl sz' id off len =>
  let h := hi.getD len
  let l := lo.getD 0
  if sz' = sz ∧ 0 ≤ l ∧ l ≤ h ∧ h ≤ len then some (.osl sz id (off + l.toNat) (h.toNat - l.toNat)) else none
 | .d (.sl sz' rows) =>
  let h := hi.getD rows.length
  let l := lo.getD 0
  if sz' = sz ∧ 0 ≤ l ∧ l ≤ h ∧ h ≤ rows.length then some (.d (.sl sz ((rows.drop l.toNat).take (h.toNat - l.toNat)))) else none
 | _ => none
def q7b (str : Bool) (sz : Nat) (x : C) (l u : Int) (h : q0k) : Option (C × List Nat) :=
 match str, x with
 | false, .osl sz' id off _ =>
  match q02 h id with
  | some (.arr _ rows) => if sz' = sz ∧ 0 ≤ l ∧ l ≤ u ∧ off + u.toNat ≤ rows.length then some (.osl sz id (off + l.toNat) (u.toNat - l.toNat), [id]) else none
  | some (.cap _ _ cp) => if sz' = sz ∧ 0 ≤ l ∧ l ≤ u ∧ off + u.toNat ≤ cp then some (.osl sz id (off + l.toNat) (u.toNat - l.toNat), [id]) else none
  | _ => none
 | _, _ => none
def qy0 (sz : Nat) (x : C) (l u m : Int) (nxt : Nat) : Option C :=
 match x with
 | .osl sz' _ _ len => if sz' = sz ∧ 0 ≤ l ∧ l ≤ u ∧ u ≤ m ∧ m ≤ len then some (.osl sz nxt 0 (u.toNat - l.toNat)) else none
 | _ => none
def q89 (zero : List Value) (x : C) (h : q0k) : Option (Upd × List Nat) :=
 match x with
 | .osl sz id off len =>
  match q02 h id with
  | some (.arr _ rows) => if sz = zero.length ∧ off + len ≤ rows.length then some ([(id, some (.arr sz (splice rows off (List.replicate len (q0n zero)))))], [id]) else none
  | _ => none
 | _ => none
def q3a (off n : Nat) : C → Option C
 | .op id o => some (.op id (o + off))
 | .ep id r o => some (.ep id r (o + off))
 | .d (.pt cells) => if off + n ≤ cells.length then some (.d (.pt ((cells.drop off).take n))) else none
 | _ => none
def q26 (arr : Option Nat) (sz : Nat) (x : C) (i : Int) : Option C :=
 match arr with
 | none =>
  match x with
  | .osl sz' id off len => if 0 ≤ i ∧ i < len ∧ sz' = sz then some (.ep id (off + i.toNat) 0) else none
  | .d (.sl sz' rows) => if 0 ≤ i ∧ sz' = sz then (match rows[i.toNat]? with | some r => some (.d (.pt r)) | none => none) else none
  | _ => none
 | some n =>
  if 0 ≤ i ∧ i < n then
   match x with
   | .op id o => some (.op id (o + i.toNat * sz))
   | .ep id r o => some (.ep id r (o + i.toNat * sz))
   | .d (.pt cells) => if i.toNat * sz + sz ≤ cells.length then some (.d (.pt ((cells.drop (i.toNat * sz)).take sz))) else none
   | _ => none
  else none
def qf0 : Bool → C → Option Int
 | true, .d (.lit (.string s)) => some s.size
 | false, .d (.lit (.slice none 0 0)) => some 0
 | false, .osl _ _ _ len => some len
 | false, .d (.sl _ rows) => some rows.length
 | _, _ => none
def q3h (sz : Nat) (h : q0k) : C → Option (List (List D) × List Nat)
 | .d (.lit (.slice none 0 0)) => some ([], [])
 | .d (.sl sz' rows) => if sz' = sz then some (rows, []) else none
 | .osl sz' id off len =>
  match q02 h id with
  | some (.arr _ rows) | some (.imm _ rows) => if sz' = sz ∧ off + len ≤ rows.length then some ((rows.drop off).take len, [id]) else none
  | _ => none
 | _ => none
def q6s (sz : Nat) (s x : C) (h : q0k) (nxt : Nat) : Res1 :=
 match q3h sz h x with
 | none => none
 | some (new, ids) =>
  match s with
  | .d (.lit (.slice none 0 0)) =>
   if new.length ≤ lim then
    match new with
    | [] => some (.c s, [], ids, nxt)
    | new => some (.c (.osl sz nxt 0 new.length), [(nxt, some (.arr sz new))], ids, nxt + 1)
   else none
  | .osl sz' id off len =>
   match q02 h id with
   | some (.arr _ rows) =>
    if sz' = sz ∧ off + len ≤ rows.length ∧ len + new.length ≤ lim then
     some (.c (.osl sz nxt 0 (len + new.length)), [(id, none), (nxt, some (.arr sz ((rows.drop off).take len ++ new ++ rows.drop (off + len + new.length))))], id :: ids, nxt + 1)
    else none
   | _ => none
  | _ => none
def q7y (sz : Nat) (dst src : C) (h : q0k) : Option (Int × Upd × List Nat) :=
 match dst, src with
 | .osl sz' id off len, .osl sz2 id2 off2 len2 =>
  match q02 h id, q02 h id2 with
  | some (.cap _ rows cp), some (.arr _ rows2) =>
   if sz' = sz ∧ sz2 = sz ∧ off ≤ rows.length ∧ off2 + min len2 len ≤ rows2.length then
    some ((min len2 len : Nat), [(id, some (.cap sz (splice rows off ((rows2.drop off2).take (min len2 len))) cp))], [id, id2])
   else none
  | some (.cap _ rows cp), some (.cap _ rows2 _) =>
   if sz' = sz ∧ sz2 = sz ∧ off ≤ rows.length ∧ off2 + min len2 len ≤ rows2.length then
    some ((min len2 len : Nat), [(id, some (.cap sz (splice rows off ((rows2.drop off2).take (min len2 len))) cp))], [id, id2])
   else none
  | _, _ => none
 | _, _ => none
def qpw (zero : List Value) (x : C) (k : Int) (h : q0k) (nxt : Nat) : Res1 :=
 match x with
 | .osl sz' id off len =>
  match q02 h id with
  | some (.cap _ rows cp) =>
   if sz' = zero.length ∧ 0 ≤ k ∧ len + k.toNat ≤ lim ∧ off + len ≤ rows.length ∧ cp < off + len + k.toNat then
    some (.c (.osl zero.length nxt 0 (len + k.toNat)), [(nxt, some (.arr zero.length ((rows.drop off).take len ++ List.replicate k.toNat (q0n zero))))], [id], nxt + 1)
   else none
  | _ => none
 | _ => none
def ql2 (x : C) (h : q0k) : Option (Nat × List Nat) :=
 match x with
 | .osl _ id off _ => match q02 h id with | some (.cap _ _ cp) => some (cp - off, [id]) | _ => none
 | _ => none
def qkg (x y : C) (h : q0k) : Option (List Nat) :=
 match x, y with
 | .osl _ a _ _, .osl _ b _ _ =>
  match q02 h a, q02 h b with
  | some (.arr _ _), some (.cap _ _ cp) => if a ≠ b ∧ 0 < cp then some [a, b] else none
  | _, _ => none
 | _, _ => none
def q5v (sz : Nat) (dst src : C) (h : q0k) : Option (Int × Upd × List Nat) :=
 match q3h sz h src, dst with
 | some (_, ids), .d (.lit (.slice none 0 0)) => some (0, [], ids)
 | some (new, ids), .osl sz' id off len =>
  match q02 h id with
  | some (.arr _ rows) =>
   if sz' = sz ∧ off + len ≤ rows.length then
    some ((min new.length len : Nat), [(id, some (.arr sz (splice rows off (new.take len))))], id :: ids)
   else none
  | _ => none
 | _, _ => none
def q1x (h : q0k) : List TV → List Bool → Option (List A × List Nat × List (C × List Nat × List Nat))
 | [], _ => some ([], [], [])
 | v :: vs, ms =>
  match q1x h vs ms.tail with
  | none => none
  | some (as, ids, lent) =>
   if ms.headD false then
    match v with
    | .c c => match q1h h 300 c with | some (t, own, rd) => some (.mt t :: as, ids, (c, own, rd) :: lent) | none => none
    | _ => none
   else match v with
    | .c c => match q1d h 300 c with | some (x, i) => some (.d x :: as, i ++ ids, lent) | none => none
    | .agg cs => match q10 h cs with | some (xs, i) => some (.agg xs :: as, i ++ ids, lent) | none => none
    | .tup _ => none
def q1l (nxt : Nat) : List (C × List Nat × List Nat) → List T → Option (Upd × Nat)
 | [], [] => some ([], nxt)
 | (_, [], _) :: r, .d _ :: ts => q1l nxt r ts
 | (.op id 0, own, _) :: r, .pt ts' :: ts =>
  match q1l (unL nxt ts').2.2 r ts with
  | some (w, k) => if own.contains id then some ((id, some (.box (unL nxt ts').1)) :: (unL nxt ts').2.1 ++ own.map (fun i => (i, none)) ++ w, k) else none
  | none => none
 | (.osl sz id 0 len, own, _) :: r, .sl sz' rows :: ts =>
  if rows.length = len ∧ sz' = sz ∧ own = [id] then
   match q1l nxt r ts with
   | some (w, k) => some ((id, some (.arr sz rows)) :: w, k)
   | none => none
  else none
 | (_, own, _) :: r, .gone :: ts =>
  match q1l nxt r ts with
  | some (w, k) => some (own.map (fun i => (i, none)) ++ w, k)
  | none => none
 | _, _ => none
def qtk : R → Bool
 | .c (.d (.lit _)) => true
 | .agg ts => ts.all fun | .d (.lit _) => true | _ => false
 | _ => false
def qk5 : List TV → TV
 | [v] => v
 | vs => .tup vs
def q11 {α : Type} : List (Option α) → Option (List α)
 | [] => some []
 | some x :: r => match q11 r with | some xs => some (x :: xs) | none => none
 | none :: _ => none
def q14 (h : q0k) : List (C × List Nat × List Nat) → Bool
 | [] => true
 | (.osl _ id off len, _) :: r => (match q02 h id with | some (.arr _ rows) => off == 0 && len == rows.length | _ => false) && q14 h r
 | _ :: r => q14 h r
def qdt (call : Call) (ro : Bool) (muts : List Bool) (f : Option TV) (vs : List (Option TV)) (h : q0k) (nxt : Nat) : Res1 :=
 match (match f with | some (.c (.d (.fn f caps))) => some (f, caps.map C.d) | some (.c (.ofn f caps)) => some (f, caps) | _ => none), q11 vs with
 | some (f, caps), some vs =>
  match q1x h (vs ++ caps.map TV.c) muts with
  | none => none
  | some (as, ids, lent) =>
   if q14 h lent ∧ (lent.flatMap (·.2.1)).Nodup ∧ (lent.flatMap (·.2.1)).all (fun i => !ids.contains i) then
    match call f as with
    | none => none
    | some (rs, outs) =>
     if ro then
      if rs.all qtk ∧ lent.isEmpty ∧ outs.isEmpty then
       let (vs, u, m) := q5c nxt rs
       some (qk5 vs, u, ids, m)
      else none
     else
      match q0q h ids ids with
      | none => none
      | some fu =>
       match q1l nxt lent outs with
       | none => none
       | some (bu, m) =>
        let (vs, u, k) := q5c m rs
        some (qk5 vs, u ++ bu ++ fu, ids ++ lent.flatMap (·.2.2), k)
   else none
 | _, _ => none
def qb5 : Nat → C → Option Bool
 | 0, .d (.lit (.slice none 0 0)) => some true
 | 0, .d (.sl _ _) | 0, .osl _ _ _ _ => some false
 | 1, .d (.lit (.pointer none)) => some true
 | 1, .d (.pt _) | 1, .ep _ _ _ | 1, .op _ _ => some false
 | 2, .d (.lit .nilFunc) => some true
 | 2, .d (.fn _ _) | 2, .ofn _ _ => some false
 | _, _ => none
def qrk : List C → Option (List D)
 | [] => some []
 | .d x :: r => match qrk r with | some l => some (x :: l) | none => none
 | _ => none
abbrev qi6 := List Value × List D × Nat
def q87 (ks : List Kd) (key : List Value) : List qi6 → Nat → Option (Option Nat)
 | [], _ => some none
 | e :: r, i => match q4g ks key e.1 with | some true => some (some i) | some false => q87 ks key r (i + 1) | none => none
def qa6 (va : Bool) (ds : List D) : Option TV := if va then some (.agg (ds.map .d)) else match ds with | [x] => some (.c (.d x)) | _ => none
def kOk1 : Kd → Value → Bool
 | .i q, .int k _ => decide (k = q)
 | .b, .bool _ => true
 | .s, .string _ => true
 | _, _ => false
def kOk : List Kd → List Value → Bool
 | [], [] => true
 | k :: ks, x :: xs => kOk1 k x && kOk ks xs
 | _, _ => false
def q9z (ka : Bool) (ks : List Kd) : TV → Option (List Value)
 | .agg cs => if ka = true ∧ cs.length = ks.length then (match q5e cs with | some l => if kOk ks l = true then some l else none | none => none) else none
 | .c x => if ka = false ∧ ks.length = 1 then (match q5e [x] with | some l => if kOk ks l = true then some l else none | none => none) else none
 | .tup _ => none
def q29 (ka : Bool) (ks : List Kd) (va : Bool) (zero : List Value) (ok : Bool) (m : C) (k : TV) (h : q0k) : Option (TV × List Nat) :=
 match m, q9z ka ks k with
 | .d (.lit (.map none)), some _ => match qa6 va (q0n zero) with | some v => some (if ok then .tup [v, lv (.bool false)] else v, []) | none => none
 | .om id, some key =>
  match q02 h id with
  | some (.map ka' va' es _) =>
   if ka' = ka ∧ va' = va then
    match q87 ks key es 0 with
    | some (some i) => match qa6 va (es.getD i default).2.1 with | some v => some (if ok then .tup [v, lv (.bool true)] else v, [id]) | none => none
    | some none => match qa6 va (q0n zero) with | some v => some (if ok then .tup [v, lv (.bool false)] else v, [id]) | none => none
    | none => none
   else none
  | _ => none
 | _, _ => none
def q6a (ka : Bool) (ks : List Kd) (va : Bool) (zero : List Value) (m : C) (k : TV) (h : q0k) : Option (TV × Upd × List Nat) :=
 match m, q9z ka ks k with
 | .om id, some key =>
  match q02 h id with
  | some (.map ka' va' es clock) =>
   if ka' = ka ∧ va' = va then
    match q87 ks key es 0 with
    | some (some i) => match qa6 va (es.getD i default).2.1 with | some v => some (.tup [v, lv (.int .i64 (es.getD i default).2.2)], [(id, some (.map ka va es clock))], [id]) | none => none
    | some none => match qa6 va (q0n zero) with | some v => some (.tup [v, lv (.int .i64 clock)], [(id, some (.map ka va (es ++ [(key, q0n zero, clock)]) (clock + 1)))], [id]) | none => none
    | none => none
   else none
  | _ => none
 | _, _ => none
def qhn : TV → Bool
 | .agg _ => true
 | _ => false
def q5n (va : Bool) (n : Nat) (m : C) (st : Option TV) (x : TV) (h : q0k) : Option (Upd × List Nat) :=
 match m, intOf? st, (cellsOf x).bind qrk with
 | .om id, some s, some ds =>
  match q02 h id with
  | some (.map ka va' es clock) =>
   if va' = va ∧ ds.length = n ∧ qhn x = va then
    match es.findIdx? (fun e => decide ((e.2.2 : Int) = s)) with
    | some i => some ([(id, some (.map ka va (es.set i ((es.getD i default).1, ds, (es.getD i default).2.2)) clock))], [id])
    | none => none
   else none
  | _ => none
 | _, _, _ => none
def ev1 (call : Call) (k : K) (vs : List (Option TV)) (h : q0k) (nxt : Nat) : Res1 :=
 match k, vs with
 | .mv, [some x] => some (x, [], [], nxt)
 | .pick, [some (.c (.d (.lit (.bool c)))), a, b] => match (if c then a else b) with | some v => some (v, [], [], nxt) | none => none
 | .alloc zero, [] => some (.c (.op nxt 0), [(nxt, some (.box (lits zero)))], [], nxt + 1)
 | .box, [some x] => match cellsOf x with | some cs => some (.c (.op nxt 0), [(nxt, some (.box cs))], [], nxt + 1) | none => none
 | .build zero places, vs =>
  match q11 vs with
  | some xs => match q7q (lits zero) (places.zip xs) with | some cs => some (.agg cs, [], [], nxt) | none => none
  | none => none
 | .buildSlice sz len zero places, vs =>
  match q11 vs with
  | some xs =>
   match q7q (lits zero) ((places.map fun i => (i * sz, sz)).zip xs) with
   | some cs =>
    match q10 h cs with
    | some (ds, ids) =>
     match q0q h ids ids with
     | some u => some (.c (.osl sz nxt 0 len), (nxt, some (.arr sz (q6c sz len ds))) :: u, ids, nxt + 1)
     | none => none
    | none => none
   | none => none
  | none => none
 | .load agg n, [some (.c p)] => match q63 agg n p h with | some (v, ids) => some (v, [], ids, nxt) | none => none
 | .store n, [some (.c p), some v] => match q75 n p v h with | some (u, ids) => some (.tup [], u, ids, nxt) | none => none
 | .nilCheck, [some (.c x)] =>
  match x with
  | .d (.pt _) | .d (.fn _ _) | .ep _ _ _ | .op _ _ | .ofn _ _ => some (.c x, [], [], nxt)
  | _ => none
 | .bin op, [some (.c (.d (.lit x))), some (.c (.d (.lit y)))] => match qmx op x y with | some v => some (lv v, [], [], nxt) | none => none
 | .eqBool neg, [some (.c (.d (.lit (.bool x)))), some (.c (.d (.lit (.bool y))))] => some (lv (.bool (if neg then !(x == y) else x == y)), [], [], nxt)
 | .eqNil kind neg, [some (.c x)] => match qb5 kind x with | some b => some (lv (.bool (if neg then !b else b)), [], [], nxt) | none => none
 | .eqAgg neg ks, [some (.agg xs), some (.agg ys)] =>
  match q5e xs, q5e ys with
  | some xs, some ys => match q4g ks xs ys with | some b => some (lv (.bool (if neg then !b else b)), [], [], nxt) | none => none
  | _, _ => none
 | .un op, [some (.c (.d (.lit x)))] => match unV op x with | some v => some (lv v, [], [], nxt) | none => none
 | .convInt k, [some (.c (.d (.lit (.int _ n))))] => some (lv (.int k (k.wrap n)), [], [], nxt)
 | .convSame, [some (.c (.d (.lit (.string s))))] => some (lv (.string s), [], [], nxt)
 | .mkFn f, vs =>
  match q11 vs with
  | some xs => match q11 (xs.map fun | .c c => some c | _ => none) with | some cs => some (.c (.ofn f cs), [], [], nxt) | none => none
  | none => none
 | .makeSlice zero, [l, c] =>
  match intOf? l, intOf? c with
  | some l, some c =>
   if 0 ≤ l ∧ l ≤ c ∧ c ≤ lim then
    some (.c (.osl zero.length nxt 0 l.toNat), [(nxt, some (.arr zero.length (List.replicate l.toNat (q0n zero))))], [], nxt + 1)
   else none
  | _, _ => none
 | .slice str sz lo hi, some (.c x) :: r =>
  match lo, hi, r with
  | false, false, [] => match q1b str sz x none none with | some y => some (.c y, [], [], nxt) | none => none
  | true, false, [l] => match intOf? l with | some l => (match q1b str sz x (some l) none with | some y => some (.c y, [], [], nxt) | none => none) | none => none
  | false, true, [u] => match intOf? u with | some u => (match q1b str sz x none (some u) with | some y => some (.c y, [], [], nxt) | none => (match q7b str sz x 0 u h with | some (y, ids) => some (.c y, [], ids, nxt) | none => none)) | none => none
  | true, true, [l, u] =>
   match intOf? l, intOf? u with
   | some l, some u => match q1b str sz x (some l) (some u) with
    | some y => some (.c y, [], [], nxt)
    | none => (match q7b str sz x l u h with | some (y, ids) => some (.c y, [], ids, nxt) | none => none)
   | _, _ => none
  | _, _, _ => none
 | .slice3 sz, [some (.c x), l, u, m] =>
  match intOf? l, intOf? u, intOf? m with
  | some l, some u, some m => match qy0 sz x l u m nxt with | some y => some (.c y, [], [], nxt + 1) | none => none
  | _, _, _ => none
 | .clear zero, [some (.c x)] => match q89 zero x h with | some (u, ids) => some (.tup [], u, ids, nxt) | none => none
 | .fieldAddr off n, [some (.c x)] => match q3a off n x with | some y => some (.c y, [], [], nxt) | none => none
 | .field agg off n, [some (.agg cs)] => match ldC agg n (cs.drop off) with | some v => some (v, [], [], nxt) | none => none
 | .indexAddr arr sz, [some (.c x), i] =>
  match intOf? i with
  | some i => match q26 arr sz x i with | some y => some (.c y, [], [], nxt) | none => none
  | none => none
 | .indexStr, [some (.c (.d (.lit (.string s)))), i] =>
  match intOf? i with
  | some i => match (if 0 ≤ i then s[i.toNat]? else none) with | some b => some (lv (.int .u8 b.toNat), [], [], nxt) | none => none
  | none => none
 | .index agg len sz, [some (.agg cs), i] =>
  match intOf? i with
  | some i => if 0 ≤ i ∧ i < len then match ldC agg sz (cs.drop (i.toNat * sz)) with | some v => some (v, [], [], nxt) | none => none else none
  | none => none
 | .extract i, [some (.tup xs)] => match xs[i]? with | some v => some (v, [], [], nxt) | none => none
 | .len str, [some (.c x)] => match qf0 str x with | some n => some (lv (.int .i64 n), [], [], nxt) | none => none
 | .minmax m, some (.c (.d (.lit x))) :: r => match mmL m x r with | some v => some (lv v, [], [], nxt) | none => none
 | .append sz, [some (.c s), some (.c x)] => q6s sz s x h nxt
 | .copy sz, [some (.c d), some (.c s)] => match q5v sz d s h with | some (i, u, ids) => some (lv (.int .i64 i), u, ids, nxt) | none => (match q7y sz d s h with | some (i, u, ids) => some (lv (.int .i64 i), u, ids, nxt) | none => none)
 | .capK, [some (.c x)] => match ql2 x h with | some (n, ids) => some (lv (.int .i64 n), [], ids, nxt) | none => none
 | .apm zero, [some (.c x), some (.c (.d (.lit (.int _ k))))] => qpw zero x k h nxt
 | .ovl, [some (.c x), some (.c y)] => match qkg x y h with | some ids => some (lv (.bool false), [], ids, nxt) | none => none
 | .call ro muts, f :: vs => qdt call ro muts f vs h nxt
 | .makeMap ka va, [] => some (.c (.om nxt), [(nxt, some (.map ka va [] 0))], [], nxt + 1)
 | .lookup ka ks va zero ok, [some (.c m), some k] => match q29 ka ks va zero ok m k h with | some (v, ids) => some (v, [], ids, nxt) | none => none
 | .mapEntry ka ks va zero, [some (.c m), some k] => match q6a ka ks va zero m k h with | some (v, u, ids) => some (v, u, ids, nxt) | none => none
 | .entryStore va n, [some (.c m), s, some x] => match q5n va n m s x h with | some (u, ids) => some (.tup [], u, ids, nxt) | none => none
 | _, _ => none
def q5a (e : Env) : Option (Nat × Bool) → Option Bool
 | none => some true
 | some (t, b) => match fnd e t with | some (.c (.d (.lit (.bool x)))) => some (x == b) | some (.tup []) => some false | _ => none
def put (e : Env) (dst : Option Nat) (v : TV) : Env := match dst with | some d => (d, v) :: e | none => e
def drop (e : Env) (dst : Option Nat) : Env := put e dst (.tup [])
def q66 : Nat := 1000000
def q6d (calls : Nat → Call) (base : Nat) : List COp → Nat → Env → q0k → Option (Env × q0k × List (List Nat × List Nat))
 | [], _, e, h => some (e, h, [])
 | o :: r, i, e, h =>
  match q5a e o.guard with
  | some true =>
   match ev1 (calls i) o.k (o.args.map (opv e)) h (base + q66 * i) with
   | some (v, u, ids, n) =>
    if n ≤ base + q66 * (i + 1) then
     match q6d calls base r (i + 1) (put e o.dst v) (u ++ h) with
     | some (e, h, tr) => some (e, h, (ids, u.map (·.1)) :: tr)
     | none => none
    else none
   | none => none
  | some false =>
   match q6d calls base r (i + 1) (drop e o.dst) h with
   | some (e, h, tr) => some (e, h, ([], []) :: tr)
   | none => none
  | none => none
def q6y (a b : List Nat × List Nat) : Bool :=
 a.2.all (fun i => !b.1.contains i && !b.2.contains i) && b.2.all (fun i => !a.1.contains i)
def qti (tr : List (List Nat × List Nat)) (i j : Nat) : Bool :=
 match tr[i]?, tr[j]? with
 | some a, some b => q6y a b || (match a with | ([id], []) => ((tr.take j).drop (i + 1)).all (fun x => !x.2.contains id) | _ => false)
 | _, _ => true
def qq1 (tr : List (List Nat × List Nat)) (dyn : List (Nat × Nat)) : Bool :=
 dyn.all fun (i, j) => if 1000 ≤ j then qti tr i (j - 1000) else match tr[i]?, tr[j]? with | some a, some b => q6y a b | _, _ => true
def idsC : C → List Nat
 | .d _ => []
 | .osl _ id _ _ | .ep id _ _ | .op id _ | .om id => [id]
 | .ofn _ caps => idsL caps
where idsL : List C → List Nat
 | [] => []
 | c :: r => idsC c ++ idsL r
def idsTV : TV → List Nat
 | .c x => idsC x
 | .agg cs => idsC.idsL cs
 | .tup xs => idsT xs
where idsT : List TV → List Nat
 | [] => []
 | x :: r => idsTV x ++ idsT r
inductive RV where
 | tmp (t : Nat)
 | cell (t : Nat) (agg : Bool) (n : Nat)
 deriving Inhabited
def enter : List A → Nat → Nat → Env × q0k × Nat × List C
 | [], _, n => ([], [], n, [])
 | .d x :: r, i, n => let (e, h, m, l) := enter r (i + 1) n; ((i, .c (.d x)) :: e, h, m, l)
 | .agg xs :: r, i, n => let (e, h, m, l) := enter r (i + 1) n; ((i, .agg (xs.map .d)) :: e, h, m, l)
 | .mt t :: r, i, n => let (c, u, k) := unC n t; let (e, h, m, l) := enter r (i + 1) k; ((i, .c c) :: e, u ++ h, m, c :: l)
def qir (s : St) : RV → Option TV
 | .tmp t => fnd s.env t
 | .cell t agg n => match fnd s.env t with | some (.c p) => (match q63 agg n p s.heap with | some (v, _) => some v | none => none) | _ => none
def qcm (h : q0k) : TV → Option (R × List Nat)
 | .c c => match q1h h 300 c with | some (t, ids, _) => some (.c t, ids) | none => none
 | .agg cs => match q3l h 300 cs with | some (ts, ids, _) => some (.agg ts, ids) | none => none
 | .tup _ => none
def qe7 (h : q0k) : List TV → Option (List R × List Nat)
 | [] => some ([], [])
 | v :: vs => match qcm h v, qe7 h vs with | some (r, a), some (rs, b) => some (r :: rs, a ++ b) | _, _ => none
structure Fn where
 np : Nat
 ntmps : Nat
 rvs : List RV
 body : CC
 deriving Inhabited
end Go.Ev

/- The relation between the abstract machine's data and the model's memory, and how it is kept. Conditions: none, these are definitions and small laws. -/
namespace Go.Ev
inductive RD (S : Nat → Prop) (w : World) : D → Value → Prop
 | lit {v : Value} (h : q1e v = true) : RD S w (.lit v) v
 | sl {sz : Nat} {rows : List (List D)} {b off cap : Nat} (f : Nat → Nat → Value) (hb : S b) (hsz : 0 < sz) (hcap : rows.length ≤ cap)
   (hrow : ∀ (i : Nat) (r : List D), rows[i]? = some r → r.length = sz)
   (hcell : ∀ (i : Nat) (r : List D), rows[i]? = some r → ∀ (j : Nat) (x : D), r[j]? = some x → w.cell? ⟨b, off + i * sz + j, none⟩ = some (f i j))
   (hrd : ∀ (i : Nat) (r : List D), rows[i]? = some r → ∀ (j : Nat) (x : D), r[j]? = some x → RD S w x (f i j)) :
   RD S w (.sl sz rows) (.slice (some ⟨b, off, none⟩) rows.length cap)
 | sl0 {sz : Nat} {a : Addr} (hsz : 0 < sz) : RD S w (.sl sz []) (.slice (some a) 0 0)
 | pt {cells : List D} {b off : Nat} (f : Nat → Value) (hb : S b)
   (hcell : ∀ (j : Nat) (x : D), cells[j]? = some x → w.cell? ⟨b, off + j, none⟩ = some (f j))
   (hrd : ∀ (j : Nat) (x : D), cells[j]? = some x → RD S w x (f j)) :
   RD S w (.pt cells) (.pointer (some ⟨b, off, none⟩))
 | fn {g : FuncId} {caps : List D} {vs : Array Value} (hlen : caps.length = vs.size)
   (hrd : ∀ (j : Nat) (x : D), caps[j]? = some x → RD S w x (vs.getD j undef)) :
   RD S w (.fn g caps) (.func (.func g) #[] vs)
structure Stp (S : Nat → Prop) (w : World) (S' : Nat → Prop) (w' : World) : Prop where
 sub : ∀ b, S b → S' b
 same : ∀ b, S b → w'.heap[b]? = w.heap[b]?
theorem Stp.refl (S : Nat → Prop) (w : World) : Stp S w S w := ⟨fun _ h => h, fun _ _ => rfl⟩
theorem Stp.trans {S S' S'' : Nat → Prop} {w w' w'' : World} (a : Stp S w S' w') (b : Stp S' w' S'' w'') : Stp S w S'' w'' :=
 ⟨fun x h => b.sub x (a.sub x h), fun x h => (b.same x (a.sub x h)).trans (a.same x h)⟩
theorem cell?_same {w w' : World} {b : Nat} (h : w'.heap[b]? = w.heap[b]?) (off : Nat) : w'.cell? ⟨b, off, none⟩ = w.cell? ⟨b, off, none⟩ := by
 simp [World.cell?, h]
theorem RD.mono {S S' : Nat → Prop} {w w' : World} (hs : Stp S w S' w') {x : D} {v : Value} (h : RD S w x v) : RD S' w' x v := by
 induction h with
 | lit h => exact .lit h
 | sl f hb hsz hcap hrow hcell hrd ih => exact .sl f (hs.sub _ hb) hsz hcap hrow (fun i r hi j x hj => (cell?_same (hs.same _ hb) _).trans (hcell i r hi j x hj)) ih
 | sl0 h => exact .sl0 h
 | pt f hb hcell hrd ih => exact .pt f (hs.sub _ hb) (fun j x hj => (cell?_same (hs.same _ hb) _).trans (hcell j x hj)) ih
 | fn hlen hrd ih => exact .fn hlen ih
structure Loc where
 blk : Nat
 base : Nat
 sz : Nat
 ext : Nat
 cap : Nat
 deriving Inhabited
inductive RC (S : Nat → Prop) (w : World) (Kn : Nat → Prop) (φ : Nat → Loc) : C → Value → Prop
 | d {x : D} {v : Value} (h : RD S w x v) : RC S w Kn φ (.d x) v
 | osl {id off len cap addr : Nat} (hk : Kn id) (hcap : len ≤ cap) (haddr : 0 < cap → addr = (φ id).base + off * (φ id).sz) (hext : addr + cap * (φ id).sz ≤ (φ id).ext) (hc : off + cap = (φ id).cap) :
   RC S w Kn φ (.osl (φ id).sz id off len) (.slice (some ⟨(φ id).blk, addr, none⟩) len cap)
 | ep {id row off : Nat} (hk : Kn id) : RC S w Kn φ (.ep id row off) (.pointer (some ⟨(φ id).blk, (φ id).base + row * (φ id).sz + off, none⟩))
 | op {id off : Nat} (hk : Kn id) : RC S w Kn φ (.op id off) (.pointer (some ⟨(φ id).blk, (φ id).base + off, none⟩))
 | ofn {g : FuncId} {caps : List C} {vs : Array Value} (hlen : caps.length = vs.size)
   (hrc : ∀ (j : Nat) (x : C), caps[j]? = some x → RC S w Kn φ x (vs.getD j undef)) :
   RC S w Kn φ (.ofn g caps) (.func (.func g) #[] vs)
 | om {id : Nat} (hk : Kn id) : RC S w Kn φ (.om id) (.map (some (φ id).blk))
structure Ren (Kn : Nat → Prop) (φ : Nat → Loc) (Kn' : Nat → Prop) (φ' : Nat → Loc) : Prop where
 sub : ∀ i, Kn i → Kn' i
 same : ∀ i, Kn i → φ' i = φ i
theorem Ren.refl (Kn : Nat → Prop) (φ : Nat → Loc) : Ren Kn φ Kn φ := ⟨fun _ h => h, fun _ _ => rfl⟩
theorem RC.mono {S S' : Nat → Prop} {w w' : World} {Kn Kn' : Nat → Prop} {φ φ' : Nat → Loc} (hs : Stp S w S' w') (hr : Ren Kn φ Kn' φ') {x : C} {v : Value}
  (h : RC S w Kn φ x v) : RC S' w' Kn' φ' x v := by
 induction h with
 | d h => exact .d (h.mono hs)
 | osl hk hcap haddr hext hc => rw [← hr.same _ hk] at hext haddr hc ⊢; exact .osl (hr.sub _ hk) hcap haddr hext hc
 | ep hk => rw [← hr.same _ hk]; exact .ep (hr.sub _ hk)
 | op hk => rw [← hr.same _ hk]; exact .op (hr.sub _ hk)
 | ofn hlen hrc ih => exact .ofn hlen ih
 | om hk => rw [← hr.same _ hk]; exact .om (hr.sub _ hk)
inductive RTV (S : Nat → Prop) (w : World) (Kn : Nat → Prop) (φ : Nat → Loc) : TV → Value → Prop
 | c {x : C} {v : Value} (h : RC S w Kn φ x v) : RTV S w Kn φ (.c x) v
 | agg {cs : List C} {arr : Array Value} (hlen : cs.length = arr.size) (h : ∀ (i : Nat) (x : C), cs[i]? = some x → RC S w Kn φ x (arr.getD i undef)) : RTV S w Kn φ (.agg cs) (.agg arr)
 | tup {xs : List TV} {arr : Array Value} (hlen : xs.length = arr.size) (h : ∀ (i : Nat) (x : TV), xs[i]? = some x → RTV S w Kn φ x (arr.getD i undef)) : RTV S w Kn φ (.tup xs) (.tuple arr)
theorem RTV.mono {S S' : Nat → Prop} {w w' : World} {Kn Kn' : Nat → Prop} {φ φ' : Nat → Loc} (hs : Stp S w S' w') (hr : Ren Kn φ Kn' φ') {x : TV} {v : Value}
  (h : RTV S w Kn φ x v) : RTV S' w' Kn' φ' x v := by
 induction h with
 | c h => exact .c (h.mono hs hr)
 | agg hlen h => exact .agg hlen fun i x hi => (h i x hi).mono hs hr
 | tup hlen h ih => exact .tup hlen ih
def one : Value → Bool
 | .agg _ | .tuple _ => false
 | _ => true
theorem qcl {v : Value} (h : q1e v = true) : one v = true := by
 cases v <;> simp_all [q1e, one]
theorem RD.one {S : Nat → Prop} {w : World} {x : D} {v : Value} (h : RD S w x v) : one v = true := by
 cases h with
 | lit h => exact qcl h
 | _ => rfl
theorem RC.one {S : Nat → Prop} {w : World} {Kn : Nat → Prop} {φ : Nat → Loc} {x : C} {v : Value} (h : RC S w Kn φ x v) : one v = true := by
 cases h with
 | d h => exact h.one
 | _ => rfl
theorem qcf {v : Value} (h : one v = true) : v.cells = #[v] := by
 cases v <;> simp_all [Ev.one, Value.cells]
def Own (w : World) (b : Nat) (arr : Array Value) : Prop := ∃ t, w.heap[b]? = some (.cells arr t (0, 0))
theorem Own.cell {w : World} {b : Nat} {arr : Array Value} (h : Own w b arr) (i : Nat) : w.cell? ⟨b, i, none⟩ = arr[i]? := by
 obtain ⟨t, h⟩ := h; simp [World.cell?, h]
theorem Own.lt {w : World} {b : Nat} {arr : Array Value} (h : Own w b arr) : b < w.heap.size := by
 obtain ⟨t, h⟩ := h; exact (Array.getElem?_eq_some_iff.1 h).1
theorem Own.frozen {w : World} {b : Nat} {arr : Array Value} (h : Own w b arr) (i : Nat) (s : Option Nat) : w.frozen? ⟨b, i, s⟩ = false := by
 obtain ⟨t, h⟩ := h; simp [World.frozen?, h]
theorem Own.of_same {w w' : World} {b : Nat} {arr : Array Value} (h : Own w b arr) (hs : w'.heap[b]? = w.heap[b]?) : Own w' b arr := by
 obtain ⟨t, h⟩ := h; exact ⟨t, hs.trans h⟩
def RowsAt (S : Nat → Prop) (w : World) (sz : Nat) (get : Nat → Option Value) (base : Nat) (rows : List (List D)) : Prop :=
 (∀ (i : Nat) (r : List D), rows[i]? = some r → r.length = sz) ∧
 ∀ (i : Nat) (r : List D), rows[i]? = some r → ∀ (j : Nat) (x : D), r[j]? = some x → ∃ v, get (base + i * sz + j) = some v ∧ RD S w x v
def q1t : Ob → Bool
 | .arr _ _ | .box _ | .map _ _ _ _ | .cap _ _ _ => true
 | _ => false
def RKey (ka : Bool) (k : List Value) (v : Value) : Prop := (∀ x ∈ k, q1e x = true) ∧ if ka then v = .agg k.toArray else k = [v]
def RVal (S : Nat → Prop) (w : World) (va : Bool) (ds : List D) (v : Value) : Prop :=
 if va then ∃ arr : Array Value, v = .agg arr ∧ ds.length = arr.size ∧ ∀ (i : Nat) (x : D), ds[i]? = some x → RD S w x (arr.getD i undef) else ∃ x, ds = [x] ∧ RD S w x v
theorem RVal.mono {S S' : Nat → Prop} {w w' : World} (hs : Stp S w S' w') {va : Bool} {ds : List D} {v : Value} (h : RVal S w va ds v) : RVal S' w' va ds v := by
 unfold RVal at h ⊢
 split
 ·rename_i hv; rw [if_pos hv] at h
  obtain ⟨arr, h1, h2, h3⟩ := h
  exact ⟨arr, h1, h2, fun i x hi => (h3 i x hi).mono hs⟩
 ·rename_i hv; rw [if_neg hv] at h
  obtain ⟨x, h1, h2⟩ := h
  exact ⟨x, h1, h2.mono hs⟩
inductive RO (S : Nat → Prop) (K : Nat → Prop) (w : World) (Kn : Nat → Prop) (φ : Nat → Loc) (l : Loc) : Ob → Prop
 | arr {sz : Nat} {rows : List (List D)} {arr : Array Value} (hsz : 0 < sz) (hl : l.sz = sz) (hS : ¬ S l.blk) (hK : ¬ K l.blk) (ho : Own w l.blk arr) (hext : arr.size = l.ext)
   (hfit : l.base + rows.length * sz ≤ l.ext) (hr : RowsAt S w sz (fun i => arr[i]?) l.base rows) (hv : rows.length ≤ l.cap) : RO S K w Kn φ l (.arr sz rows)
 | imm {sz : Nat} {rows : List (List D)} (hsz : 0 < sz) (hl : l.sz = sz) (hS : S l.blk)
   (hr : RowsAt S w sz (fun i => w.cell? ⟨l.blk, i, none⟩) l.base rows) : RO S K w Kn φ l (.imm sz rows)
 | box {cells : List C} {arr : Array Value} (hb : l.base = 0) (hS : ¬ S l.blk) (hK : ¬ K l.blk) (ho : Own w l.blk arr) (hlen : cells.length = arr.size)
   (hr : ∀ (i : Nat) (x : C), cells[i]? = some x → RC S w Kn φ x (arr.getD i undef)) : RO S K w Kn φ l (.box cells)
 | ibox {cells : List D} (hb : l.base = 0) (hS : S l.blk)
   (hr : ∀ (i : Nat) (x : D), cells[i]? = some x → ∃ v, w.cell? ⟨l.blk, i, none⟩ = some v ∧ RD S w x v) : RO S K w Kn φ l (.ibox cells)
 | map {ka va : Bool} {es : List (List Value × List D × Nat)} {clock : Nat} {ms : Array MapEntry} (hS : ¬ S l.blk) (hK : ¬ K l.blk) (ho : w.heap[l.blk]? = some (.map ms clock)) (hlen : es.length = ms.size)
   (hr : ∀ (i : Nat) (e : List Value × List D × Nat) (m : MapEntry), es[i]? = some e → ms[i]? = some m → RKey ka e.1 m.key ∧ RVal S w va e.2.1 m.val ∧ m.born = e.2.2) : RO S K w Kn φ l (.map ka va es clock)
 | cap {sz : Nat} {rows : List (List D)} {cp : Nat} {arr : Array Value} (hsz : 0 < sz) (hl : l.sz = sz) (hS : ¬ S l.blk) (hK : ¬ K l.blk) (ho : Own w l.blk arr) (hext : arr.size = l.ext)
   (hfit : l.base + cp * sz ≤ l.ext) (hr : RowsAt S w sz (fun i => arr[i]?) l.base rows) (hv : rows.length ≤ cp) (hc : l.cap = cp) : RO S K w Kn φ l (.cap sz rows cp)
theorem RowsAt.mono {S S' : Nat → Prop} {w w' : World} (hs : Stp S w S' w') {sz base : Nat} {get : Nat → Option Value} {rows : List (List D)} (h : RowsAt S w sz get base rows) :
  RowsAt S' w' sz get base rows :=
 ⟨h.1, fun i r hi j x hj => let ⟨v, hg, hr⟩ := h.2 i r hi j x hj; ⟨v, hg, hr.mono hs⟩⟩
theorem RO.mono {S S' K : Nat → Prop} {w w' : World} {Kn Kn' : Nat → Prop} {φ φ' : Nat → Loc} {l : Loc} (hs : Stp S w S' w') (hr : Ren Kn φ Kn' φ') {o : Ob}
  (hsame : q1t o = true → w'.heap[l.blk]? = w.heap[l.blk]? ∧ ¬ S' l.blk) (h : RO S K w Kn φ l o) : RO S' K w' Kn' φ' l o := by
 cases h with
 | arr hsz hl hS hK ho hext hfit hrr hv => exact .arr hsz hl (hsame rfl).2 hK (ho.of_same (hsame rfl).1) hext hfit (hrr.mono hs) hv
 | imm hsz hl hS hrr =>
  refine .imm hsz hl (hs.sub _ hS) ⟨hrr.1, fun i r hi j x hj => ?_⟩
  obtain ⟨v, hg, h⟩ := hrr.2 i r hi j x hj
  exact ⟨v, (cell?_same (hs.same _ hS) _).trans hg, h.mono hs⟩
 | box hb hS hK ho hlen hrr => exact .box hb (hsame rfl).2 hK (ho.of_same (hsame rfl).1) hlen fun i x hi => (hrr i x hi).mono hs hr
 | ibox hb hS hrr =>
  refine .ibox hb (hs.sub _ hS) fun i x hi => ?_
  obtain ⟨v, hg, h⟩ := hrr i x hi
  exact ⟨v, (cell?_same (hs.same _ hS) _).trans hg, h.mono hs⟩
 | map hS hK ho hlen hrr => exact .map (hsame rfl).2 hK ((hsame rfl).1.trans ho) hlen fun i e m hi hm => let ⟨h1, h2, h3⟩ := hrr i e m hi hm; ⟨h1, h2.mono hs, h3⟩
 | cap hsz hl hS hK ho hext hfit hrr hv hc => exact .cap hsz hl (hsame rfl).2 hK (ho.of_same (hsame rfl).1) hext hfit (hrr.mono hs) hv hc
def Io (w0 w : World) : Prop := w.os = w0.os ∧ w.output = w0.output ∧ w.tape = w0.tape ∧ w0.drawn ≤ w.drawn
theorem Io.trans {a b c : World} (h : Io a b) (h2 : Io b c) : Io a c := ⟨h2.1.trans h.1, h2.2.1.trans h.2.1, h2.2.2.1.trans h.2.2.1, Nat.le_trans h.2.2.2 h2.2.2.2⟩
theorem Io.refl (w : World) : Io w w := ⟨rfl, rfl, rfl, Nat.le_refl _⟩
structure Frm (K : Nat → Prop) (w0 w : World) : Prop where
 klt : ∀ b, K b → b < w0.heap.size
 keep : ∀ b, K b → w.heap[b]? = w0.heap[b]?
 grow : w0.heap.size ≤ w.heap.size
 frz : ∀ a, a.block < w0.heap.size → w.frozen? a = w0.frozen? a
 own : ∀ b arr, Own w0 b arr → ∃ arr', Own w b arr' ∧ arr'.size = arr.size
 io : Io w0 w
def Glob (S : Nat → Prop) (w : World) : Prop := ∀ g d, glb g = some d → RD S w d (.pointer (some ⟨g, 0, none⟩))
theorem Glob.mono {S S' : Nat → Prop} {w w' : World} (h : Glob S w) (hs : Stp S w S' w') : Glob S' w' := fun g d hg => (h g d hg).mono hs
structure Inv (S K : Nat → Prop) (w0 : World) (Kn : Nat → Prop) (φ : Nat → Loc) (hf : Nat → Option Ob) (w : World) : Prop where
 slt : ∀ b, S b → b < w.heap.size
 sk : ∀ b, S b → ¬ K b
 frm : Frm K w0 w
 obj : ∀ id o, hf id = some o → Kn id ∧ RO S K w Kn φ (φ id) o
 dist : ∀ i j a b, hf i = some a → hf j = some b → q1t a = true → q1t b = true → i ≠ j → (φ i).blk ≠ (φ j).blk
 glob : Glob S w
def q0z (u : Upd) (hf : Nat → Option Ob) (id : Nat) : Option Ob := match fnd u id with | some o => o | none => hf id
theorem q1w {α : Type} (a b : List (Nat × α)) (k : Nat) : fnd (a ++ b) k = match fnd a k with | some x => some x | none => fnd b k := by
 induction a with
 | nil => rfl
 | cons p r ih => obtain ⟨i, x⟩ := p; simp only [List.cons_append, fnd]; cases h : (i == k) <;> simp [ih]
theorem q1m (u : Upd) (h : q0k) : q02 (u ++ h) = q0z u (q02 h) := by
 funext id
 simp only [q02, q0z, q1w]
 cases fnd u id <;> simp
theorem q1r (hf : Nat → Option Ob) : q0z [] hf = hf := rfl
theorem q0v (i : Nat) (o : Option Ob) (u : Upd) (hf : Nat → Option Ob) (id : Nat) : q0z ((i, o) :: u) hf id = if i = id then o else q0z u hf id := by
 simp only [q0z, fnd]
 by_cases h : i = id
 ·simp [h]
 ·have e : (i == id) = false := by simpa using h
  simp [h, e]
theorem q0w (u v : Upd) (hf : Nat → Option Ob) : q0z (u ++ v) hf = q0z u (q0z v hf) := by
 funext id
 simp only [q0z, q1w]
 cases fnd u id <;> simp
theorem Inv.step {S S' K : Nat → Prop} {w0 w w' : World} {Kn Kn' : Nat → Prop} {φ φ' : Nat → Loc} {hf hf' : Nat → Option Ob} (h : Inv S K w0 Kn φ hf w)
  (hs : Stp S w S' w') (hr : Ren Kn φ Kn' φ') (hslt : ∀ b, S' b → b < w'.heap.size) (hsk : ∀ b, S' b → ¬ K b) (hfrm : Frm K w0 w')
  (hobj : ∀ id o, hf' id = some o → (hf id = some o ∧ (q1t o = true → w'.heap[(φ id).blk]? = w.heap[(φ id).blk]? ∧ ¬ S' (φ id).blk)) ∨ (Kn' id ∧ RO S' K w' Kn' φ' (φ' id) o))
  (hdist : ∀ i j a b, hf' i = some a → hf' j = some b → q1t a = true → q1t b = true → i ≠ j → (φ' i).blk ≠ (φ' j).blk) :
  Inv S' K w0 Kn' φ' hf' w' where
 slt := hslt
 sk := hsk
 frm := hfrm
 dist := hdist
 glob := h.glob.mono hs
 obj id o ho := by
  rcases hobj id o ho with ⟨h1, h2⟩ | h1
  ·obtain ⟨hk, hro⟩ := h.obj id o h1
   refine ⟨hr.sub _ hk, ?_⟩
   rw [hr.same _ hk]
   exact hro.mono hs hr h2
  ·exact h1
theorem q47 {w : World} {o : Obj} {b : Nat} (h : b < w.heap.size) : ({ w with heap := w.heap.push o } : World).heap[b]? = w.heap[b]? := by
 simp [Array.getElem?_push, Nat.ne_of_lt h]
theorem qmy (w : World) (arr : Array Value) (t : TypeId) : Own { w with heap := w.heap.push (.cells arr t) } w.heap.size arr :=
 ⟨t, by simp⟩
theorem qk8 (w : World) (arr : Array Value) (t : TypeId) (a : Addr) : ({ w with heap := w.heap.push (.cells arr t) } : World).frozen? a = w.frozen? a := by
 unfold World.frozen?
 rcases Nat.lt_trichotomy a.block w.heap.size with h | h | h
 ·rw [q47 h]
 ·simp [h]
 ·rw [Array.getElem?_eq_none (by simp; omega), Array.getElem?_eq_none (by omega)]
theorem Frm.push {K : Nat → Prop} {w0 w : World} (h : Frm K w0 w) (arr : Array Value) (t : TypeId) : Frm K w0 { w with heap := w.heap.push (.cells arr t) } where
 klt := h.klt
 keep b hb := (q47 (Nat.lt_of_lt_of_le (h.klt b hb) h.grow)).trans (h.keep b hb)
 grow := by have := h.grow; simp; omega
 frz a ha := (qk8 w arr t a).trans (h.frz a ha)
 own b a ha := let ⟨a', h1, h2⟩ := h.own b a ha; ⟨a', h1.of_same (q47 h1.lt), h2⟩
 io := h.io
theorem Frm.own_step {K : Nat → Prop} {w0 w w' : World} (h : Frm K w0 w) {c : Nat} (hother : ∀ b, b ≠ c → w'.heap[b]? = w.heap[b]?)
  (hsz : ∀ arr, Own w c arr → ∃ arr', Own w' c arr' ∧ arr'.size = arr.size) (b : Nat) (arr : Array Value) (ho : Own w0 b arr) : ∃ arr', Own w' b arr' ∧ arr'.size = arr.size := by
 obtain ⟨a, h1, h2⟩ := h.own b arr ho
 by_cases e : b = c
 ·subst e
  obtain ⟨a', h3, h4⟩ := hsz a h1
  exact ⟨a', h3, h4.trans h2⟩
 ·exact ⟨a, h1.of_same (hother b e), h2⟩
theorem Frm.drew {K : Nat → Prop} {w0 w : World} (h : Frm K w0 w) (n : Nat) (hn : w.drawn ≤ n) : Frm K w0 { w with drawn := n } :=
 ⟨h.klt, h.keep, h.grow, h.frz, h.own, h.io.1, h.io.2.1, h.io.2.2.1, Nat.le_trans h.io.2.2.2 hn⟩
theorem Stp.push {S : Nat → Prop} {w : World} (hs : ∀ b, S b → b < w.heap.size) (o : Obj) : Stp S w S { w with heap := w.heap.push o } :=
 ⟨fun _ h => h, fun b h => q47 (hs b h)⟩
theorem Stp.drew (S : Nat → Prop) (w : World) (n : Nat) : Stp S w S { w with drawn := n } := ⟨fun _ h => h, fun _ _ => rfl⟩
theorem Inv.drew {S K : Nat → Prop} {w0 w : World} {Kn : Nat → Prop} {φ : Nat → Loc} {hf : Nat → Option Ob} (h : Inv S K w0 Kn φ hf w) (n : Nat) (hn : w.drawn ≤ n) :
  Inv S K w0 Kn φ hf { w with drawn := n } :=
 h.step (Stp.drew S w n) (Ren.refl _ _) h.slt h.sk (h.frm.drew n hn) (fun id o ho => .inl ⟨ho, fun hown => ⟨rfl, by
  obtain ⟨_, hro⟩ := h.obj id o ho; cases hro <;> simp_all [q1t]⟩⟩) h.dist
theorem RO.own {S K : Nat → Prop} {w : World} {Kn : Nat → Prop} {φ : Nat → Loc} {l : Loc} {o : Ob} (h : RO S K w Kn φ l o) (ho : q1t o = true) :
  ¬ S l.blk ∧ ¬ K l.blk ∧ l.blk < w.heap.size := by
 cases h with
 | arr hsz hl hS hK hown => exact ⟨hS, hK, hown.lt⟩
 | box hb hS hK hown => exact ⟨hS, hK, hown.lt⟩
 | map hS hK hmp => exact ⟨hS, hK, (Array.getElem?_eq_some_iff.1 hmp).1⟩
 | cap hsz hl hS hK hown => exact ⟨hS, hK, hown.lt⟩
 | _ => simp [q1t] at ho
def ext (φ : Nat → Loc) (i : Nat) (l : Loc) : Nat → Loc := fun j => if j = i then l else φ j
theorem q4m {Kn : Nat → Prop} {φ : Nat → Loc} {i : Nat} (l : Loc) (hi : ¬ Kn i) : Ren Kn φ (fun j => Kn j ∨ j = i) (ext φ i l) :=
 ⟨fun _ h => .inl h, fun j h => by simp only [ext]; rw [if_neg]; rintro rfl; exact hi h⟩
theorem Inv.alloc {S K : Nat → Prop} {w0 w : World} {Kn : Nat → Prop} {φ : Nat → Loc} {hf : Nat → Option Ob} (h : Inv S K w0 Kn φ hf w) {i : Nat} (hi : ¬ Kn i)
  (arr : Array Value) (t : TypeId) (sz c : Nat) (o : Ob)
  (hro : RO S K { w with heap := w.heap.push (.cells arr t) } (fun j => Kn j ∨ j = i) (ext φ i ⟨w.heap.size, 0, sz, arr.size, c⟩) ⟨w.heap.size, 0, sz, arr.size, c⟩ o) :
  Inv S K w0 (fun j => Kn j ∨ j = i) (ext φ i ⟨w.heap.size, 0, sz, arr.size, c⟩) (q0z [(i, some o)] hf) { w with heap := w.heap.push (.cells arr t) } := by
 refine h.step (Stp.push h.slt _) (q4m _ hi) (fun b hb => by have := h.slt b hb; simp; omega) h.sk (h.frm.push arr t) ?_ ?_
 ·intro id o' ho
  rw [q0v] at ho
  by_cases e : i = id
  ·subst e
   rw [if_pos rfl] at ho
   obtain rfl : o = o' := by simpa using ho
   refine .inr ⟨.inr rfl, ?_⟩
   simpa [ext] using hro
  ·rw [if_neg e, q1r] at ho
   refine .inl ⟨ho, fun hown => ?_⟩
   obtain ⟨_, h2⟩ := h.obj id o' ho
   obtain ⟨a, b, c⟩ := h2.own hown
   exact ⟨q47 c, a⟩
 ·have key : ∀ j b, j ≠ i → hf j = some b → q1t b = true → (ext φ i ⟨w.heap.size, 0, sz, arr.size, c⟩ j).blk < w.heap.size := by
   intro j b hj hb hown
   obtain ⟨_, h2⟩ := h.obj j b hb
   simpa [ext, hj] using (h2.own hown).2.2
  intro a b oa ob ha hb hoa hob hne
  rw [q0v] at ha hb
  by_cases ea : i = a
  ·by_cases eb : i = b
   ·exact absurd (ea.symm.trans eb) hne
   ·rw [if_neg eb, q1r] at hb
    have := key b ob (fun e => eb e.symm) hb hob
    have e1 : (ext φ i ⟨w.heap.size, 0, sz, arr.size, c⟩ a).blk = w.heap.size := by simp [ext, ea]
    omega
  ·rw [if_neg ea, q1r] at ha
   have h1 := key a oa (fun e => ea e.symm) ha hoa
   by_cases eb : i = b
   ·have e1 : (ext φ i ⟨w.heap.size, 0, sz, arr.size, c⟩ b).blk = w.heap.size := by simp [ext, eb]
    omega
   ·rw [if_neg eb, q1r] at hb
    have := h.dist a b oa ob ha hb hoa hob hne
    have e1 : ¬ a = i := fun e => ea e.symm
    have e2 : ¬ b = i := fun e => eb e.symm
    simpa [ext, e1, e2] using this
theorem qiy {w : World} {o : Obj} (ho : ∀ c t r, o ≠ .cells c t r) (a : Addr) : ({ w with heap := w.heap.push o } : World).frozen? a = w.frozen? a := by
 unfold World.frozen?
 rcases Nat.lt_trichotomy a.block w.heap.size with h | h | h
 ·rw [q47 h]
 ·rw [h]
  simp only [Array.getElem?_push_size, Array.getElem?_eq_none (Nat.le_refl _)]
  cases o with
  | cells c t r => exact absurd rfl (ho c t r)
  | _ => rfl
 ·rw [Array.getElem?_eq_none (by simp; omega), Array.getElem?_eq_none (by omega)]
theorem Inv.allocM {S K : Nat → Prop} {w0 w : World} {Kn : Nat → Prop} {φ : Nat → Loc} {hf : Nat → Option Ob} (h : Inv S K w0 Kn φ hf w) {i : Nat} (hi : ¬ Kn i)
  {ob : Obj} (hob : ∀ c t r, ob ≠ .cells c t r) (l : Loc) (hl : l.blk = w.heap.size) (o : Ob)
  (hro : RO S K { w with heap := w.heap.push ob } (fun j => Kn j ∨ j = i) (ext φ i l) l o) :
  Inv S K w0 (fun j => Kn j ∨ j = i) (ext φ i l) (q0z [(i, some o)] hf) { w with heap := w.heap.push ob } := by
 have hfrm : Frm K w0 { w with heap := w.heap.push ob } :=
  ⟨h.frm.klt, fun b hb => (q47 (Nat.lt_of_lt_of_le (h.frm.klt b hb) h.frm.grow)).trans (h.frm.keep b hb), by have := h.frm.grow; simp; omega, fun a ha => (qiy hob a).trans (h.frm.frz a ha),
   fun b a ha => let ⟨a', h1, h2⟩ := h.frm.own b a ha; ⟨a', h1.of_same (q47 h1.lt), h2⟩, h.frm.io⟩
 refine h.step (Stp.push h.slt _) (q4m _ hi) (fun b hb => by have := h.slt b hb; simp; omega) h.sk hfrm ?_ ?_
 ·intro id o' ho
  rw [q0v] at ho
  by_cases e : i = id
  ·subst e
   rw [if_pos rfl] at ho
   obtain rfl : o = o' := by simpa using ho
   refine .inr ⟨.inr rfl, ?_⟩
   simpa [ext] using hro
  ·rw [if_neg e, q1r] at ho
   refine .inl ⟨ho, fun hown => ?_⟩
   obtain ⟨_, h2⟩ := h.obj id o' ho
   obtain ⟨a, b, c⟩ := h2.own hown
   exact ⟨q47 c, a⟩
 ·have key : ∀ j b, j ≠ i → hf j = some b → q1t b = true → (ext φ i l j).blk < w.heap.size := by
   intro j b hj hb hown
   obtain ⟨_, h2⟩ := h.obj j b hb
   simpa [ext, hj] using (h2.own hown).2.2
  intro a b oa ob ha hb hoa hob hne
  rw [q0v] at ha hb
  by_cases ea : i = a
  ·by_cases eb : i = b
   ·exact absurd (ea.symm.trans eb) hne
   ·rw [if_neg eb, q1r] at hb
    have := key b ob (fun e => eb e.symm) hb hob
    have e1 : (ext φ i l a).blk = w.heap.size := by simp [ext, ea, hl]
    omega
  ·rw [if_neg ea, q1r] at ha
   have h1 := key a oa (fun e => ea e.symm) ha hoa
   by_cases eb : i = b
   ·have e1 : (ext φ i l b).blk = w.heap.size := by simp [ext, eb, hl]
    omega
   ·rw [if_neg eb, q1r] at hb
    have := h.dist a b oa ob ha hb hoa hob hne
    have e1 : ¬ a = i := fun e => ea e.symm
    have e2 : ¬ b = i := fun e => eb e.symm
    simpa [ext, e1, e2] using this
theorem Inv.kill {S K : Nat → Prop} {w0 w : World} {Kn : Nat → Prop} {φ : Nat → Loc} {hf hf' : Nat → Option Ob} (h : Inv S K w0 Kn φ hf w) (hsub : ∀ id o, hf' id = some o → hf id = some o) :
  Inv S K w0 Kn φ hf' w :=
 ⟨h.slt, h.sk, h.frm, fun id o ho => h.obj id o (hsub id o ho), fun i j a b ha hb => h.dist i j a b (hsub _ _ ha) (hsub _ _ hb), h.glob⟩
theorem Inv.set {S K : Nat → Prop} {w0 w w' : World} {Kn : Nat → Prop} {φ : Nat → Loc} {hf : Nat → Option Ob} (h : Inv S K w0 Kn φ hf w) {id : Nat} {o o' : Ob}
  (ho : hf id = some o) (hown : q1t o = true) (hother : ∀ b, b ≠ (φ id).blk → w'.heap[b]? = w.heap[b]?) (hsize : w'.heap.size = w.heap.size)
  (hfrz : ∀ a, w'.frozen? a = w.frozen? a) (hsz : ∀ arr, Own w (φ id).blk arr → ∃ arr', Own w' (φ id).blk arr' ∧ arr'.size = arr.size) (hio : Io w w') (hro : Stp S w S w' → RO S K w' Kn φ (φ id) o') :
  Stp S w S w' ∧ Inv S K w0 Kn φ (q0z [(id, some o')] hf) w' := by
 obtain ⟨hk, h0⟩ := h.obj id o ho
 obtain ⟨hS, hK, hlt⟩ := h0.own hown
 have hs : Stp S w S w' := ⟨fun _ h => h, fun b hb => hother b (fun e => hS (e ▸ hb))⟩
 refine ⟨hs, h.step hs (Ren.refl _ _) (fun b hb => hsize ▸ h.slt b hb) h.sk ?_ ?_ ?_⟩
 ·exact ⟨h.frm.klt, fun b hb => (hother b (fun e => hK (e ▸ hb))).trans (h.frm.keep b hb), hsize ▸ h.frm.grow, fun a ha => (hfrz a).trans (h.frm.frz a ha), h.frm.own_step hother hsz, h.frm.io.trans hio⟩
 ·intro i x hx
  rw [q0v] at hx
  by_cases e : id = i
  ·subst e
   rw [if_pos rfl] at hx
   obtain rfl : o' = x := by simpa using hx
   exact .inr ⟨hk, hro hs⟩
  ·rw [if_neg e, q1r] at hx
   refine .inl ⟨hx, fun hox => ⟨hother _ ?_, ((h.obj i x hx).2.own hox).1⟩⟩
   exact (h.dist i id x o hx ho hox hown (fun e' => e e'.symm))
 ·intro i j a b ha hb hoa hob hne
  have fix : ∀ i a, q0z [(id, some o')] hf i = some a → q1t a = true → ∃ a', hf i = some a' ∧ q1t a' = true := by
   intro i a ha hoa
   rw [q0v] at ha
   by_cases e : id = i
   ·subst e; exact ⟨o, ho, hown⟩
   ·rw [if_neg e, q1r] at ha; exact ⟨a, ha, hoa⟩
  obtain ⟨a', ha', hoa'⟩ := fix i a ha hoa
  obtain ⟨b', hb', hob'⟩ := fix j b hb hob
  exact h.dist i j a' b' ha' hb' hoa' hob' hne
end Go.Ev

/- What the model's operations on memory do where the relation holds: loads, stores, new blocks. Conditions: the relation of XEvC. -/
namespace Go.Ev
variable {P : Program}
def q3p (P : Program) (t : TypeId) : Option Nat := (P.info? t).map (·.size)
def q27 (P : Program) (t : TypeId) : Option Bool := (P.underlying t).map fun | .struct _ | .array _ _ => true | _ => false
def q4a (P : Program) (t : TypeId) : Option (List Value) := match (P.info? t).bind (·.zero) with | some z => if z.cells.toList.all q1e then some z.cells.toList else none | none => none
theorem q8o (b off n : Nat) : (⟨b, off, none⟩ : Addr).add n = ⟨b, off + n, none⟩ := by
 unfold Addr.add; split <;> simp_all
theorem q2g {t : TypeId} {n : Nat} (h : q3p P t = some n) (w : World) : (sizeOf t).run P w = .ok n w := by
 simp only [q3p, Option.map_eq_some_iff] at h
 obtain ⟨i, hi, rfl⟩ := h
 simp [sizeOf, typeInfo, hi]
theorem q0b {t : TypeId} {d : TypeDesc} (h : P.underlying t = some d) (w : World) : (underlying t).run P w = .ok d w := by
 simp [underlying, h]
theorem qbu {t : TypeId} {g : Bool} (h : q27 P t = some g) (w : World) : (isAgg t).run P w = .ok g w := by
 simp only [q27, Option.map_eq_some_iff] at h
 obtain ⟨d, hd, rfl⟩ := h
 simp only [isAgg, Sem.run_bind, q0b hd, Result.andThen_ok]
 cases d <;> rfl
theorem q83 {t : TypeId} {z : List Value} (h : q4a P t = some z) (w : World) :
  ∃ v, (zeroValue t).run P w = .ok v w ∧ v.cells.toList = z ∧ ∀ x ∈ z, q1e x = true := by
 simp only [q4a] at h
 split at h
 ·rename_i v hv
  split at h
  ·rename_i hp
   obtain rfl := Option.some.inj h
   obtain ⟨i, hi, hz⟩ := Option.bind_eq_some_iff.1 hv
   exact ⟨v, by simp [zeroValue, typeInfo, hi, hz], rfl, fun x hx => List.all_eq_true.1 hp x hx⟩
  ·simp at h
 ·simp at h
section
variable {S K : Nat → Prop} {w0 w : World} {Kn : Nat → Prop} {φ : Nat → Loc} {hf : Nat → Option Ob}
theorem qs8 (agg : Bool) (n : Nat) (cells : List D) : ldD agg n cells = ldC agg n (cells.map .d) := by
 unfold ldD ldC
 cases agg
 ·cases cells <;> rfl
 ·simp [List.map_take]
theorem qn7 {t : TypeId} {agg : Bool} {n : Nat} (ha : q27 P t = some agg) (hn : q3p P t = some n) {cells : List C} {b o : Nat} {v : TV}
  (hc : ∀ (j : Nat) (x : C), cells[j]? = some x → ∃ u, w.cell? ⟨b, o + j, none⟩ = some u ∧ RC S w Kn φ x u) (h : ldC agg n cells = some v) :
  ∃ val, (loadVar t ⟨b, o, none⟩).run P w = .ok val w ∧ RTV S w Kn φ v val := by
 unfold ldC at h
 cases agg
 ·simp only [Bool.false_eq_true, if_false] at h
  cases cells with
  | nil => simp at h
  | cons x r =>
   obtain rfl : TV.c x = v := by simpa using h
   obtain ⟨u, hu, hr⟩ := hc 0 x rfl
   refine ⟨u, ?_, .c hr⟩
   simp only [loadVar, Sem.run_bind, qbu ha, Result.andThen_ok, Bool.false_eq_true, if_false, run_load]
   simp only [Nat.add_zero] at hu
   simp [hu]
 ·simp only [if_true] at h
  split at h
  ·rename_i hle
   obtain rfl := Option.some.inj h
   have hcell : ∀ j, j < n → w.cell? ((⟨b, o, none⟩ : Addr).add j) = some ((w.cell? ⟨b, o + j, none⟩).getD undef) := by
    intro j hj
    have hj' : j < cells.length := by omega
    obtain ⟨u, hu, _⟩ := hc j cells[j] (by simp [hj'])
    rw [q8o, hu]; rfl
   refine ⟨.agg ((List.range n).map fun j => (w.cell? ⟨b, o + j, none⟩).getD undef).toArray, ?_, .agg (by simp; omega) ?_⟩
   ·simp only [loadVar, Sem.run_bind, qbu ha, Result.andThen_ok, if_true, q2g hn, run_loadCells w _ n _ hcell, Sem.run_pure]
   ·intro i x hi
    rw [List.getElem?_take] at hi
    split at hi
    ·rename_i hin
     obtain ⟨u, hu, hr⟩ := hc i x hi
     have : ((List.range n).map fun j => (w.cell? ⟨b, o + j, none⟩).getD undef).toArray.getD i undef = u := by
      simp [Array.getD, hin, hu]
     rw [this]; exact hr
    ·simp at hi
  ·simp at h
theorem qhw {id row : Nat} {sz : Nat} {rows : List (List D)} (hI : Inv S K w0 Kn φ hf w) (ho : hf id = some (.arr sz rows) ∨ hf id = some (.imm sz rows)) {r : List D} (hr : rows[row]? = some r) (off : Nat) :
  (φ id).sz = sz ∧ r.length = sz ∧ ∀ (j : Nat) (x : C), ((r.drop off).map C.d)[j]? = some x → ∃ u, w.cell? ⟨(φ id).blk, (φ id).base + row * (φ id).sz + off + j, none⟩ = some u ∧ RC S w Kn φ x u := by
 rcases ho with ho | ho
 ·obtain ⟨hk, h0⟩ := hI.obj _ _ ho
  cases h0 with
  | arr hsz hl hS hK hown hext hfit hrr =>
   refine ⟨hl, hrr.1 _ _ hr, fun j x hj => ?_⟩
   rw [List.getElem?_map, List.getElem?_drop] at hj
   obtain ⟨d, hd, rfl⟩ := Option.map_eq_some_iff.1 hj
   obtain ⟨u, hu, hrd⟩ := hrr.2 row r hr (off + j) d hd
   refine ⟨u, ?_, .d hrd⟩
   rw [hown.cell, hl, ← hu]
   show _ = _
   congr 1; omega
 ·obtain ⟨hk, h0⟩ := hI.obj _ _ ho
  cases h0 with
  | imm hsz hl hS hrr =>
   refine ⟨hl, hrr.1 _ _ hr, fun j x hj => ?_⟩
   rw [List.getElem?_map, List.getElem?_drop] at hj
   obtain ⟨d, hd, rfl⟩ := Option.map_eq_some_iff.1 hj
   obtain ⟨u, hu, hrd⟩ := hrr.2 row r hr (off + j) d hd
   refine ⟨u, ?_, .d hrd⟩
   rw [hl, ← hu]
   simp only [Nat.add_assoc]
theorem qfq {t : TypeId} {agg : Bool} {n : Nat} (ha : q27 P t = some agg) (hn : q3p P t = some n) {p : C} {H : q0k} {v : TV} {ids : List Nat} {pv : Value}
  (hI : Inv S K w0 Kn φ (q02 H) w) (hp : RC S w Kn φ p pv) (h : q63 agg n p H = some (v, ids)) :
  ∃ val, (Instr.loadAt t pv).run P w = .ok val w ∧ RTV S w Kn φ v val := by
 unfold q63 at h
 split at h
 ·rename_i cells
  split at h
  ·rename_i v' hv
   obtain ⟨rfl, rfl⟩ : v' = v ∧ [] = ids := by simpa using h
   rw [qs8] at hv
   cases hp with
   | d hd =>
    cases hd with
    | pt f hb hcell hrd =>
     obtain ⟨val, h1, h2⟩ := qn7 (Kn := Kn) (φ := φ) (S := S) ha hn (cells := cells.map .d) (fun j x hj => by
      rw [List.getElem?_map] at hj
      obtain ⟨d, hd, rfl⟩ := Option.map_eq_some_iff.1 hj
      exact ⟨_, hcell j d hd, .d (hrd j d hd)⟩) hv
     exact ⟨val, by simp [Instr.loadAt, Instr.sureAddr, h1], h2⟩
  ·simp at h
 ·rename_i id row off
  have key : ∀ sz rows, (q02 H id = some (.arr sz rows) ∨ q02 H id = some (.imm sz rows)) →
    (match rows[row]? with | some r => (match ldD agg n (r.drop off) with | some v => some (v, [id]) | none => none) | none => none) = some (v, ids) →
    ∃ val, (Instr.loadAt t pv).run P w = .ok val w ∧ RTV S w Kn φ v val := by
   intro sz rows ho h
   split at h
   ·rename_i r hr
    split at h
    ·rename_i v' hv
     obtain ⟨rfl, rfl⟩ : v' = v ∧ [id] = ids := by simpa using h
     rw [qs8] at hv
     obtain ⟨hl, hrl, hc⟩ := qhw hI ho hr off
     cases hp with
     | ep hk =>
      obtain ⟨val, h1, h2⟩ := qn7 ha hn hc hv
      exact ⟨val, by simp [Instr.loadAt, Instr.sureAddr, h1], h2⟩
    ·simp at h
   ·simp at h
  split at h
  ·rename_i sz rows ho; exact key sz rows (.inl ho) h
  ·rename_i sz rows ho; exact key sz rows (.inr ho) h
  ·simp at h
 ·rename_i id off
  split at h
  ·rename_i cells ho
   split at h
   ·rename_i v' hv
    obtain ⟨rfl, rfl⟩ : v' = v ∧ [id] = ids := by simpa using h
    obtain ⟨hk, h0⟩ := hI.obj _ _ ho
    cases h0 with
    | box hb hS hK hown hlen hrr =>
     cases hp with
     | op hk =>
      obtain ⟨val, h1, h2⟩ := qn7 (S := S) (Kn := Kn) (φ := φ) ha hn (cells := cells.drop off) (b := (φ id).blk) (o := (φ id).base + off) (fun j x hj => by
       rw [List.getElem?_drop] at hj
       have hlt := (List.getElem?_eq_some_iff.1 hj).1
       rw [hlen] at hlt
       refine ⟨_, ?_, hrr _ _ hj⟩
       rw [hown.cell, hb]
       simp [Array.getD, hlt]) hv
      exact ⟨val, by simp [Instr.loadAt, Instr.sureAddr, h1], h2⟩
   ·simp at h
  ·rename_i cells ho
   split at h
   ·rename_i v' hv
    obtain ⟨rfl, rfl⟩ : v' = v ∧ [id] = ids := by simpa using h
    rw [qs8] at hv
    obtain ⟨hk, h0⟩ := hI.obj _ _ ho
    cases h0 with
    | ibox hb hS hrr =>
     cases hp with
     | op hk =>
      obtain ⟨val, h1, h2⟩ := qn7 (S := S) (Kn := Kn) (φ := φ) ha hn (cells := (cells.drop off).map .d) (b := (φ id).blk) (o := (φ id).base + off) (fun j x hj => by
       rw [List.getElem?_map, List.getElem?_drop] at hj
       obtain ⟨d, hd, rfl⟩ := Option.map_eq_some_iff.1 hj
       obtain ⟨u, hu, hr⟩ := hrr _ _ hd
       exact ⟨u, by rw [hb, ← hu]; simp, .d hr⟩) hv
      exact ⟨val, by simp [Instr.loadAt, Instr.sureAddr, h1], h2⟩
   ·simp at h
  ·simp at h
 ·simp at h
theorem qgn {w : World} {b : Nat} {old arr : Array Value} (h : Own w b old) (a : Addr) : (w.setRow b arr).frozen? a = w.frozen? a := by
 obtain ⟨t, h⟩ := h
 unfold World.frozen?
 by_cases e : a.block = b
 ·rw [e, setRow_heap w b old arr t _ h, h]
 ·rw [setRow_other w b _ _ e]
theorem qfu {w : World} {b : Nat} {old arr : Array Value} (h : Own w b old) : Own (w.setRow b arr) b arr := by
 obtain ⟨t, h⟩ := h
 exact ⟨t, setRow_heap w b old arr t _ h⟩
theorem q7e (v : Value) : v.oneCell' = one v := by cases v <;> rfl
theorem RTV.cells {S : Nat → Prop} {w : World} {Kn : Nat → Prop} {φ : Nat → Loc} {v : TV} {val : Value} {cs : List C} (h : RTV S w Kn φ v val) (hc : cellsOf v = some cs) :
  cs.length = val.cells.size ∧ (∀ (i : Nat) (x : C), cs[i]? = some x → RC S w Kn φ x (val.cells.getD i undef)) ∧ ∀ x ∈ val.cells.toList, one x = true := by
 cases h with
 | @c x v h =>
  obtain rfl : [x] = cs := by simpa [cellsOf] using hc
  have e := qcf h.one
  refine ⟨by rw [e]; rfl, fun i y hi => ?_, fun y hy => ?_⟩
  ·cases i with
   | zero =>
    rw [e]
    obtain rfl : x = y := by simpa using hi
    exact h
   | succ i => simp at hi
  ·rw [e] at hy
   obtain rfl : y = val := by simpa using hy
   exact h.one
 | @agg cs' arr hlen h =>
  obtain rfl : cs' = cs := by simpa [cellsOf] using hc
  refine ⟨hlen, h, fun y hy => ?_⟩
  obtain ⟨i, hi, rfl⟩ := List.getElem_of_mem hy
  have hi' : i < arr.size := by simpa [Value.cells] using hi
  have := (h i (cs'[i]'(by omega)) (by simp [hlen, hi'])).one
  simpa [Array.getD, hi', Value.cells] using this
 | tup hlen h => simp [cellsOf] at hc
theorem qy2 {t : TypeId} {n : Nat} (hn : q3p P t = some n) {b o : Nat} {arr : Array Value} {val : Value} (ho : Own w b arr) (hlen : val.cells.size = n) (hfit : o + n ≤ arr.size)
  (hone : ∀ x ∈ val.cells.toList, one x = true) :
  (storeVar t ⟨b, o, none⟩ val).run P w = .ok () (w.setRow b (arr.toList.take o ++ val.cells.toList ++ arr.toList.drop (o + n)).toArray) := by
 obtain ⟨ty, hb⟩ := ho
 have := run_storeCells_at P b o ty val.cells.toList 0 arr w hb (by simp; omega) (fun v hv => by rw [q7e]; exact hone v hv)
 have e : val.cells.toList.length = n := by simpa using hlen
 rw [e] at this
 simp only [Nat.add_zero] at this
 simp only [storeVar, Sem.run_bind, q2g hn, Result.andThen_ok, hlen, ne_eq, not_true_eq_false, if_false]
 exact this
theorem q2q {α : Type} (l : List α) (off : Nat) (p : List α) (hfit : off + p.length ≤ l.length) (i : Nat) :
  (splice l off p)[i]? = if i < off then l[i]? else if i < off + p.length then p[i - off]? else l[i]? := by
 unfold splice
 by_cases h1 : i < off
 ·rw [List.append_assoc, List.getElem?_append_left (by simp; omega)]
  simp [h1]
 ·by_cases h2 : i < off + p.length
  ·rw [List.getElem?_append_left (by simp; omega), List.getElem?_append_right (by simp; omega)]
   simp only [List.length_take, h1, h2, if_true, if_false]
   congr 1; omega
  ·rw [List.getElem?_append_right (by simp; omega)]
   simp only [List.length_append, List.length_take, List.getElem?_drop, h1, h2, if_false]
   congr 1; omega
theorem q0r {α : Type} (l : List α) (off : Nat) (p : List α) (hfit : off + p.length ≤ l.length) : (splice l off p).length = l.length := by
 unfold splice; simp; omega
theorem q12k {arr : Array Value} {vs : List Value} {o n : Nat} (hn : vs.length = n) : arr.toList.take o ++ vs ++ arr.toList.drop (o + n) = splice arr.toList o vs := by
 rw [← hn]; rfl
end
end Go.Ev

/- Handing over: owned things read as data, frozen, taken out of the heap as trees, laid into it. Conditions: the relation of XEvC. -/
namespace Go.Ev
section
variable {S K : Nat → Prop} {w0 w : World} {Kn : Nat → Prop} {φ : Nat → Loc} {hf : Nat → Option Ob}
theorem RD.sl_of {sz : Nat} {rows : List (List D)} {b off len cap : Nat} (hb : S b) (hsz : 0 < sz) (hlen : rows.length = len) (hcap : len ≤ cap)
  (h : RowsAt S w sz (fun i => w.cell? ⟨b, i, none⟩) off rows) : RD S w (.sl sz rows) (.slice (some ⟨b, off, none⟩) len cap) := by
 subst hlen
 refine .sl (fun i j => (w.cell? ⟨b, off + i * sz + j, none⟩).getD undef) hb hsz hcap h.1 (fun i r hi j x hj => ?_) (fun i r hi j x hj => ?_)
 ·obtain ⟨v, hv, _⟩ := h.2 i r hi j x hj
  simp only at hv
  rw [hv]; rfl
 ·obtain ⟨v, hv, hr⟩ := h.2 i r hi j x hj
  simp only at hv
  rw [hv]; exact hr
theorem RD.pt_of {cells : List D} {b off : Nat} (hb : S b) (h : ∀ (j : Nat) (x : D), cells[j]? = some x → ∃ v, w.cell? ⟨b, off + j, none⟩ = some v ∧ RD S w x v) :
  RD S w (.pt cells) (.pointer (some ⟨b, off, none⟩)) := by
 refine .pt (fun j => (w.cell? ⟨b, off + j, none⟩).getD undef) hb (fun j x hj => ?_) (fun j x hj => ?_)
 ·obtain ⟨v, hv, _⟩ := h j x hj
  rw [hv]; rfl
 ·obtain ⟨v, hv, hr⟩ := h j x hj
  rw [hv]; exact hr
def SB (S : Nat → Prop) (φ : Nat → Loc) (ids : List Nat) (b : Nat) : Prop := S b ∨ ∃ i ∈ ids, (φ i).blk = b
theorem SB.stp (w : World) (a b : List Nat) (h : ∀ i ∈ a, i ∈ b) : Stp (SB S φ a) w (SB S φ b) w :=
 ⟨fun _ hb => hb.imp id fun ⟨i, hi, e⟩ => ⟨i, h i hi, e⟩, fun _ _ => rfl⟩
theorem SB.stp0 (w : World) (b : List Nat) : Stp S w (SB S φ b) w := ⟨fun _ hb => .inl hb, fun _ _ => rfl⟩
theorem q67 {id sz : Nat} {rows : List (List D)} (hI : Inv S K w0 Kn φ hf w) (ho : hf id = some (.arr sz rows) ∨ hf id = some (.imm sz rows)) :
  0 < sz ∧ (φ id).sz = sz ∧ RowsAt S w sz (fun i => w.cell? ⟨(φ id).blk, i, none⟩) (φ id).base rows := by
 rcases ho with ho | ho
 ·obtain ⟨_, h0⟩ := hI.obj _ _ ho
  cases h0 with
  | arr hsz hl hS hK hown hext hfit hrr => exact ⟨hsz, hl, hrr.1, fun i r hi j x hj => let ⟨v, hv, hr⟩ := hrr.2 i r hi j x hj; ⟨v, (hown.cell _).trans hv, hr⟩⟩
 ·obtain ⟨_, h0⟩ := hI.obj _ _ ho
  cases h0 with
  | imm hsz hl hS hrr => exact ⟨hsz, hl, hrr⟩
theorem RowsAt.sub {sz base : Nat} {get : Nat → Option Value} {rows : List (List D)} (h : RowsAt S w sz get base rows) (off len : Nat) :
  RowsAt S w sz get (base + off * sz) ((rows.drop off).take len) := by
 have key : ∀ i (r : List D), ((rows.drop off).take len)[i]? = some r → rows[off + i]? = some r := by
  intro i r hi
  rw [List.getElem?_take] at hi
  split at hi
  ·rwa [List.getElem?_drop] at hi
  ·simp at hi
 refine ⟨fun i r hi => h.1 _ _ (key i r hi), fun i r hi j x hj => ?_⟩
 obtain ⟨v, hv, hr⟩ := h.2 _ _ (key i r hi) j x hj
 refine ⟨v, ?_, hr⟩
 rw [← hv]; congr 1
 rw [Nat.add_mul]; omega
theorem RowsAt.sub' {sz base addr : Nat} {get : Nat → Option Value} {rows : List (List D)} (h : RowsAt S w sz get base rows) (off len : Nat) (ha : 0 < len → addr = base + off * sz) :
  RowsAt S w sz get addr ((rows.drop off).take len) := by
 cases len with
 | zero => exact ⟨fun i r hi => by simp at hi, fun i r hi => by simp at hi⟩
 | succ n => rw [ha (Nat.succ_pos _)]; exact h.sub off _
theorem qni {sz id off len : Nat} {rows : List (List D)} {v : Value} {szo : Nat} (hI : Inv S K w0 Kn φ hf w) (hc : RC S w Kn φ (.osl sz id off len) v)
  (ho : hf id = some (.arr szo rows) ∨ hf id = some (.imm szo rows)) (hle : off + len ≤ rows.length) {T : Nat → Prop} (hT : Stp S w T w) (hb : T (φ id).blk) :
  RD T w (.sl sz ((rows.drop off).take len)) v := by
 obtain ⟨hsz, hl, hr⟩ := q67 hI ho
 subst hl
 cases hc with
 | osl hk hcap haddr hext => exact .sl_of hb hsz (by simp; omega) hcap ((hr.sub' off len fun h => haddr (by omega)).mono hT)
theorem q101 {id row off sz : Nat} {rows : List (List D)} {r : List D} {v : Value} (hI : Inv S K w0 Kn φ hf w) (hc : RC S w Kn φ (.ep id row off) v)
  (ho : hf id = some (.arr sz rows) ∨ hf id = some (.imm sz rows)) (hr : rows[row]? = some r) {T : Nat → Prop} (hT : Stp S w T w) (hb : T (φ id).blk) :
  RD T w (.pt (r.drop off)) v := by
 obtain ⟨hsz, hl, hrr⟩ := q67 hI ho
 cases hc with
 | ep hk =>
  refine .pt_of hb fun j x hj => ?_
  rw [List.getElem?_drop] at hj
  obtain ⟨u, hu, hd⟩ := hrr.2 row r hr (off + j) x hj
  refine ⟨u, ?_, hd.mono hT⟩
  rw [← hu, hl]; simp only [Nat.add_assoc]
theorem qj3 {H : q0k} (hI : Inv S K w0 Kn φ (q02 H) w) (n : Nat) (c : C) (x : D) (ids : List Nat) (v : Value) (hleaf : match c with | .op _ _ | .ofn _ _ => False | _ => True)
  (h : q1d H n c = some (x, ids)) (hc : RC S w Kn φ c v) : RD (SB S φ ids) w x v := by
 cases c with
 | d y =>
  simp only [q1d, Option.some.injEq, Prod.mk.injEq] at h
  obtain ⟨rfl, rfl⟩ := h
  cases hc with
  | d hd => exact hd.mono (SB.stp0 w _)
 | osl sz id off len =>
  simp only [q1d] at h
  have key : ∀ szo rows, (q02 H id = some (.arr szo rows) ∨ q02 H id = some (.imm szo rows)) → (if off + len ≤ rows.length then some (D.sl sz ((rows.drop off).take len), [id]) else none) = some (x, ids) → RD (SB S φ ids) w x v := by
   intro szo rows ho h
   split at h
   ·rename_i hle
    obtain ⟨rfl, rfl⟩ := Prod.mk.inj (Option.some.inj h)
    exact qni hI hc ho hle (SB.stp0 w _) (.inr ⟨_, by simp, rfl⟩)
   ·simp at h
  split at h
  ·exact key _ _ (.inl (by assumption)) h
  ·exact key _ _ (.inr (by assumption)) h
  ·simp at h
 | ep id row off =>
  simp only [q1d] at h
  have key : ∀ szo rows, (q02 H id = some (.arr szo rows) ∨ q02 H id = some (.imm szo rows)) →
    (match rows[row]? with | some r => if off ≤ r.length then some (D.pt (r.drop off), [id]) else none | none => none) = some (x, ids) → RD (SB S φ ids) w x v := by
   intro szo rows ho h
   split at h
   ·rename_i r hr
    split at h
    ·obtain ⟨rfl, rfl⟩ := Prod.mk.inj (Option.some.inj h)
     exact q101 hI hc ho hr (SB.stp0 w _) (.inr ⟨_, by simp, rfl⟩)
    ·simp at h
   ·simp at h
  split at h
  ·exact key _ _ (.inl (by assumption)) h
  ·exact key _ _ (.inr (by assumption)) h
  ·simp at h
 | op id off => exact hleaf.elim
 | ofn f caps => exact hleaf.elim
 | om id => cases n <;> simp [q1d] at h
theorem qc5 {H : q0k} (hI : Inv S K w0 Kn φ (q02 H) w) : ∀ n,
  (∀ c x ids v, q1d H n c = some (x, ids) → RC S w Kn φ c v → RD (SB S φ ids) w x v) ∧
  (∀ cs xs ids, q28 H n cs = some (xs, ids) → ∀ (get : Nat → Option Value), (∀ (i : Nat) (c : C), cs[i]? = some c → ∃ v, get i = some v ∧ RC S w Kn φ c v) →
   xs.length = cs.length ∧ ∀ (i : Nat) (x : D), xs[i]? = some x → ∃ v, get i = some v ∧ RD (SB S φ ids) w x v) := by
 intro n
 induction n with
 | zero =>
  refine ⟨fun c x ids v h hc => ?_, fun cs xs ids h get hg => ?_⟩
  ·cases c with
   | op id off => simp [q1d] at h
   | ofn f caps => simp [q1d] at h
   | _ => exact qj3 hI 0 _ x ids v trivial h hc
  ·cases cs with
   | nil =>
    obtain ⟨rfl, rfl⟩ : [] = xs ∧ [] = ids := by simpa [q28] using h
    exact ⟨rfl, fun i x hi => by simp at hi⟩
   | cons c cs => simp [q28] at h
 | succ n ih =>
  obtain ⟨ihc, ihl⟩ := ih
  refine ⟨fun c x ids v h hc => ?_, fun cs xs ids h get hg => ?_⟩
  ·cases c with
   | op id off =>
    simp only [q1d] at h
    split at h
    ·rename_i cells ho
     split at h
     ·obtain ⟨rfl, rfl⟩ := Prod.mk.inj (Option.some.inj h)
      obtain ⟨_, h0⟩ := hI.obj _ _ ho
      cases h0 with
      | ibox hb hS hr =>
       cases hc with
       | op hk =>
        refine .pt_of (.inl hS) fun j x hj => ?_
        rw [List.getElem?_drop] at hj
        obtain ⟨u, hu, hd⟩ := hr _ _ hj
        exact ⟨u, by rw [← hu, hb, Nat.zero_add], hd.mono (SB.stp0 w _)⟩
     ·simp at h
    ·rename_i cells ho
     split at h
     ·rename_i ds ids' hv
      split at h
      ·obtain ⟨rfl, rfl⟩ := Prod.mk.inj (Option.some.inj h)
       obtain ⟨_, h0⟩ := hI.obj _ _ ho
       cases h0 with
       | @box _ arr hb hS hK hown hlen hr =>
        cases hc with
        | op hk =>
         obtain ⟨h1, h2⟩ := ihl cells ds ids' hv (fun i => w.cell? ⟨(φ id).blk, i, none⟩) (fun i c hi => by
          have hlt := (List.getElem?_eq_some_iff.1 hi).1
          rw [hlen] at hlt
          exact ⟨arr.getD i undef, by rw [hown.cell]; simp [Array.getD, hlt], hr i c hi⟩)
         refine .pt_of (.inr ⟨id, by simp, rfl⟩) fun j x hj => ?_
         rw [List.getElem?_drop] at hj
         obtain ⟨u, hu, hd⟩ := h2 _ _ hj
         exact ⟨u, by rw [← hu, hb, Nat.zero_add], hd.mono (SB.stp w _ _ fun i hi => by simp [hi])⟩
      ·simp at h
     ·simp at h
    ·simp at h
   | ofn f caps =>
    simp only [q1d] at h
    split at h
    ·rename_i ds ids' hv
     obtain ⟨rfl, rfl⟩ := Prod.mk.inj (Option.some.inj h)
     cases hc with
     | @ofn _ _ vs hlen hr =>
      obtain ⟨h1, h2⟩ := ihl caps ds ids' hv (fun i => vs[i]?) (fun i c hi => by
       have hlt := (List.getElem?_eq_some_iff.1 hi).1
       rw [hlen] at hlt
       exact ⟨vs.getD i undef, by simp [Array.getD, hlt], hr i c hi⟩)
      refine .fn (h1.trans hlen) fun j x hj => ?_
      obtain ⟨u, hu, hd⟩ := h2 j x hj
      have hu' : vs[j]? = some u := hu
      have : vs.getD j undef = u := by simp [hu']
      rw [this]; exact hd
    ·simp at h
   | _ => exact qj3 hI (n + 1) _ x ids v trivial h hc
  ·cases cs with
   | nil =>
    obtain ⟨rfl, rfl⟩ : [] = xs ∧ [] = ids := by simpa [q28] using h
    exact ⟨rfl, fun i x hi => by simp at hi⟩
   | cons c cs =>
    simp only [q28] at h
    split at h
    ·rename_i x0 a xs0 b hx hxs
     obtain ⟨rfl, rfl⟩ := Prod.mk.inj (Option.some.inj h)
     obtain ⟨v0, hv0, hc0⟩ := hg 0 c rfl
     have h0 := ihc c x0 a v0 hx hc0
     obtain ⟨h1, h2⟩ := ihl cs xs0 b hxs (fun i => get (i + 1)) (fun i c hi => hg (i + 1) c (by simpa using hi))
     refine ⟨by simp [h1], fun i x hi => ?_⟩
     cases i with
     | zero =>
      obtain rfl : x0 = x := by simpa using hi
      exact ⟨v0, hv0, h0.mono (SB.stp w _ _ fun i hi => by simp [hi])⟩
     | succ i =>
      obtain ⟨u, hu, hd⟩ := h2 i x (by simpa using hi)
      exact ⟨u, hu, hd.mono (SB.stp w _ _ fun i hi => by simp [hi])⟩
    ·simp at h
theorem q8t {H : q0k} (hI : Inv S K w0 Kn φ (q02 H) w) : ∀ cs xs ids, q10 H cs = some (xs, ids) → ∀ (get : Nat → Option Value), (∀ (i : Nat) (c : C), cs[i]? = some c → ∃ v, get i = some v ∧ RC S w Kn φ c v) →
   xs.length = cs.length ∧ ∀ (i : Nat) (x : D), xs[i]? = some x → ∃ v, get i = some v ∧ RD (SB S φ ids) w x v := by
 intro cs
 induction cs with
 | nil =>
  intro xs ids h get hg
  obtain ⟨rfl, rfl⟩ : [] = xs ∧ [] = ids := by simpa [q10] using h
  exact ⟨rfl, fun i x hi => by simp at hi⟩
 | cons c cs ih =>
  intro xs ids h get hg
  simp only [q10] at h
  split at h
  ·rename_i x0 a xs0 b hx hxs
   obtain ⟨rfl, rfl⟩ := Prod.mk.inj (Option.some.inj h)
   obtain ⟨v0, hv0, hc0⟩ := hg 0 c rfl
   have h0 := (qc5 hI 300).1 c x0 a v0 hx hc0
   obtain ⟨h1, h2⟩ := ih xs0 b hxs (fun i => get (i + 1)) (fun i c hi => hg (i + 1) c (by simpa using hi))
   refine ⟨by simp [h1], fun i x hi => ?_⟩
   cases i with
   | zero =>
    obtain rfl : x0 = x := by simpa using hi
    exact ⟨v0, hv0, h0.mono (SB.stp w _ _ fun i hi => by simp [hi])⟩
   | succ i =>
    obtain ⟨u, hu, hd⟩ := h2 i x (by simpa using hi)
    exact ⟨u, hu, hd.mono (SB.stp w _ _ fun i hi => by simp [hi])⟩
  ·simp at h
theorem q3y {H : q0k} {all : List Nat} : ∀ (l : List Nat) (u : Upd), q0q H all l = some u →
  ∀ id, (id ∈ l → ∃ o, q3q H all id = some o ∧ fnd u id = some (some o)) ∧ (id ∉ l → fnd u id = none) := by
 intro l
 induction l with
 | nil =>
  intro u h id
  obtain rfl : [] = u := by simpa [q0q] using h
  exact ⟨fun h => by simp at h, fun _ => rfl⟩
 | cons a l ih =>
  intro u h id
  simp only [q0q] at h
  split at h
  ·rename_i o u' ho hu
   obtain rfl := Option.some.inj h
   by_cases e : a = id
   ·subst e
    exact ⟨fun _ => ⟨o, ho, by simp [fnd]⟩, fun hn => absurd (List.mem_cons_self ..) hn⟩
   ·obtain ⟨h1, h2⟩ := ih u' hu id
    have e' : (a == id) = false := by simpa using e
    refine ⟨fun hm => ?_, fun hn => ?_⟩
    ·obtain ⟨o', ho', hf'⟩ := h1 ((List.mem_cons.1 hm).resolve_left (fun e2 => e e2.symm))
     exact ⟨o', ho', by simp [fnd, e', hf']⟩
    ·simp only [fnd, e', cond_false]; exact h2 (fun hm => hn (List.mem_cons_of_mem _ hm))
  ·simp at h
theorem qk0 {H : q0k} {all : List Nat} {id : Nat} {o : Ob} (hI : Inv S K w0 Kn φ (q02 H) w) (hmem : id ∈ all) (h : q3q H all id = some o) :
  q1t o = false ∧ (∃ o0, q02 H id = some o0) ∧ RO (SB S φ all) K w Kn φ (φ id) o := by
 unfold q3q at h
 have hb : SB S φ all (φ id).blk := .inr ⟨id, hmem, rfl⟩
 split at h
 ·rename_i sz rows ho
  obtain rfl := Option.some.inj h
  obtain ⟨hsz, hl, hr⟩ := q67 hI (.inl ho)
  exact ⟨rfl, ⟨_, ho⟩, .imm hsz hl hb (hr.mono (SB.stp0 w _))⟩
 ·rename_i sz rows ho
  obtain rfl := Option.some.inj h
  obtain ⟨hsz, hl, hr⟩ := q67 hI (.inr ho)
  exact ⟨rfl, ⟨_, ho⟩, .imm hsz hl hb (hr.mono (SB.stp0 w _))⟩
 ·rename_i cells ho
  obtain rfl := Option.some.inj h
  obtain ⟨_, h0⟩ := hI.obj _ _ ho
  cases h0 with
  | ibox hbase hS hr => exact ⟨rfl, ⟨_, ho⟩, .ibox hbase hb fun i x hi => let ⟨v, hv, hd⟩ := hr i x hi; ⟨v, hv, hd.mono (SB.stp0 w _)⟩⟩
 ·rename_i cells ho
  split at h
  ·rename_i ds ids hv
   split at h
   ·rename_i hall
    obtain rfl := Option.some.inj h
    obtain ⟨_, h0⟩ := hI.obj _ _ ho
    cases h0 with
    | @box _ arr hbase hS hK hown hlen hr =>
     obtain ⟨h1, h2⟩ := (qc5 hI 300).2 cells ds ids hv (fun i => w.cell? ⟨(φ id).blk, i, none⟩) (fun i c hi => by
      have hlt := (List.getElem?_eq_some_iff.1 hi).1
      rw [hlen] at hlt
      exact ⟨arr.getD i undef, by rw [hown.cell]; simp [Array.getD, hlt], hr i c hi⟩)
     refine ⟨rfl, ⟨_, ho⟩, .ibox hbase hb fun i x hi => ?_⟩
     obtain ⟨u, hu, hd⟩ := h2 i x hi
     exact ⟨u, hu, hd.mono (SB.stp w _ _ fun i hi => by simpa using List.all_eq_true.1 hall i hi)⟩
   ·simp at h
  ·simp at h
 ·simp at h
 ·simp at h
 ·simp at h
theorem Inv.freeze {H : q0k} {ids : List Nat} {u : Upd} (hI : Inv S K w0 Kn φ (q02 H) w) (h : q0q H ids ids = some u) :
  Inv (SB S φ ids) K w0 Kn φ (q0z u (q02 H)) w := by
 have hfr : ∀ id ∈ ids, ∃ o, fnd u id = some (some o) ∧ q1t o = false ∧ (∃ o0, q02 H id = some o0) ∧ RO (SB S φ ids) K w Kn φ (φ id) o := by
  intro id hid
  obtain ⟨o, ho, hfn⟩ := ((q3y ids u h id).1 hid)
  exact ⟨o, hfn, qk0 hI hid ho⟩
 have hold : ∀ id o, q0z u (q02 H) id = some o → q1t o = true → id ∉ ids ∧ q02 H id = some o := by
  intro id o ho hown
  by_cases hm : id ∈ ids
  ·obtain ⟨o', hfn, hno, _⟩ := hfr id hm
   simp only [q0z, hfn] at ho
   obtain rfl := Option.some.inj ho
   rw [hno] at hown; simp at hown
  ·refine ⟨hm, ?_⟩
   simpa only [q0z, (q3y ids u h id).2 hm] using ho
 have hblk : ∀ id o, q02 H id = some o → q1t o = true → id ∉ ids → ¬ SB S φ ids (φ id).blk := by
  intro id o ho hown hm hb
  obtain ⟨_, h0⟩ := hI.obj id o ho
  rcases hb with hb | ⟨i, hi, e⟩
  ·exact (h0.own hown).1 hb
  ·obtain ⟨_, _, _, ⟨o0, ho0⟩, _⟩ := hfr i hi
   by_cases hoi : q1t o0 = true
   ·exact hI.dist i id o0 o ho0 ho hoi hown (fun e' => hm (e' ▸ hi)) e
   ·obtain ⟨_, h1⟩ := hI.obj i o0 ho0
    have : S (φ i).blk := by
     cases h1 with
     | imm hsz hl hS _ => exact hS
     | ibox hb hS _ => exact hS
     | _ => simp [q1t] at hoi
    exact (h0.own hown).1 (e ▸ this)
 refine hI.step (SB.stp0 w _) (Ren.refl _ _) ?_ ?_ hI.frm ?_ ?_
 ·intro b hb
  rcases hb with hb | ⟨i, hi, rfl⟩
  ·exact hI.slt b hb
  ·obtain ⟨_, _, _, ⟨o0, ho0⟩, _⟩ := hfr i hi
   obtain ⟨_, h1⟩ := hI.obj i o0 ho0
   cases h1 with
   | arr hsz hl hS hK hown => exact hown.lt
   | box hb hS hK hown => exact hown.lt
   | map hS hK hmp => exact (Array.getElem?_eq_some_iff.1 hmp).1
   | cap hsz hl hS hK hown => exact hown.lt
   | imm hsz hl hS => exact hI.slt _ hS
   | ibox hb hS => exact hI.slt _ hS
 ·intro b hb
  rcases hb with hb | ⟨i, hi, rfl⟩
  ·exact hI.sk b hb
  ·obtain ⟨_, _, _, ⟨o0, ho0⟩, _⟩ := hfr i hi
   obtain ⟨_, h1⟩ := hI.obj i o0 ho0
   cases h1 with
   | arr hsz hl hS hK hown => exact hK
   | box hb hS hK hown => exact hK
   | map hS hK hmp => exact hK
   | cap hsz hl hS hK hown => exact hK
   | imm hsz hl hS => exact hI.sk _ hS
   | ibox hb hS => exact hI.sk _ hS
 ·intro id o ho
  by_cases hm : id ∈ ids
  ·obtain ⟨o', hfn, hno, ⟨o0, ho0⟩, hro⟩ := hfr id hm
   simp only [q0z, hfn] at ho
   obtain rfl := Option.some.inj ho
   exact .inr ⟨(hI.obj id o0 ho0).1, hro⟩
  ·have ho' : q02 H id = some o := by simpa only [q0z, (q3y ids u h id).2 hm] using ho
   exact .inl ⟨ho', fun hown => ⟨rfl, hblk id o ho' hown hm⟩⟩
 ·intro i j a b ha hb hoa hob hne
  exact hI.dist i j a b (hold i a ha hoa).2 (hold j b hb hob).2 hoa hob hne
end
end Go.Ev

/- Trees: what a call owns, taken out of the heap and laid into it. Conditions: the relation of XEvC. -/
namespace Go.Ev
inductive RT (S : Nat → Prop) (w : World) : T → Value → List Nat → Prop
 | d {x : D} {v : Value} (h : RD S w x v) : RT S w (.d x) v []
 | sl {sz : Nat} {rows : List (List D)} {b off len cap : Nat} {arr : Array Value} (hsz : 0 < sz) (ho : Own w b arr) (hlen : rows.length = len) (hcap : len ≤ cap)
   (hext : off + cap * sz ≤ arr.size) (hr : RowsAt S w sz (fun i => arr[i]?) off rows) : RT S w (.sl sz rows) (.slice (some ⟨b, off, none⟩) len cap) [b]
 | pt {ts : List T} {b : Nat} {arr : Array Value} {fps : List (List Nat)} (ho : Own w b arr) (hlen : ts.length = arr.size) (hfl : fps.length = ts.length)
   (h : ∀ (i : Nat) (t : T) (fp : List Nat), ts[i]? = some t → fps[i]? = some fp → RT S w t (arr.getD i undef) fp) :
   RT S w (.pt ts) (.pointer (some ⟨b, 0, none⟩)) (b :: fps.flatten)
theorem RT.mono {S S' : Nat → Prop} {w w' : World} (hs : Stp S w S' w') {t : T} {v : Value} {fp : List Nat} (h : RT S w t v fp) (hb : ∀ b ∈ fp, w'.heap[b]? = w.heap[b]?) : RT S' w' t v fp := by
 induction h with
 | d h => exact .d (h.mono hs)
 | sl hsz ho hlen hcap hext hr => exact .sl hsz (ho.of_same (hb _ (by simp))) hlen hcap hext (hr.mono hs)
 | pt ho hlen hfl h ih =>
  refine .pt (ho.of_same (hb _ (by simp))) hlen hfl fun i t fp hi hf => ih i t fp hi hf fun b hbm => hb b ?_
  exact List.mem_cons_of_mem _ (List.mem_flatten.2 ⟨fp, List.mem_of_getElem? hf, hbm⟩)
theorem RT.lt {S : Nat → Prop} {w : World} {t : T} {v : Value} {fp : List Nat} (h : RT S w t v fp) : ∀ b ∈ fp, b < w.heap.size := by
 induction h with
 | d h => intro b hb; simp at hb
 | sl hsz ho =>
  intro b hb
  obtain rfl := List.mem_singleton.1 hb
  exact ho.lt
 | pt ho hlen hfl h ih =>
  intro b hb
  rcases List.mem_cons.1 hb with rfl | hb
  ·exact ho.lt
  ·obtain ⟨fp, hfp, hbf⟩ := List.mem_flatten.1 hb
   obtain ⟨i, hi, rfl⟩ := List.getElem_of_mem hfp
   exact ih i _ _ (List.getElem?_eq_getElem (by omega : i < _)) (List.getElem?_eq_getElem hi) b hbf
section
variable {S K : Nat → Prop} {w0 w : World} {Kn : Nat → Prop} {φ : Nat → Loc} {hf : Nat → Option Ob}
theorem qns {H : q0k} {sz id off len : Nat} {t : T} {own rd : List Nat} {v : Value} (hI : Inv S K w0 Kn φ (q02 H) w) (hc : RC S w Kn φ (.osl sz id off len) v)
  (h : (match q02 H id with
  | some (.arr _ rows) => if off + len ≤ rows.length then some (T.sl sz ((rows.drop off).take len), [id], [id]) else none
  | some (.imm _ rows) => if off + len ≤ rows.length then some (.d (.sl sz ((rows.drop off).take len)), [], [id]) else none
  | _ => none) = some (t, own, rd)) :
  RT S w t v (own.map fun i => (φ i).blk) ∧ ∀ i ∈ own, ∃ o, q02 H i = some o ∧ q1t o = true := by
 split at h
 ·rename_i szo rows ho
  split at h
  ·rename_i hle
   obtain ⟨rfl, rfl, rfl⟩ : T.sl sz ((rows.drop off).take len) = t ∧ [id] = own ∧ [id] = rd := by simpa using h
   obtain ⟨hk, h0⟩ := hI.obj _ _ ho
   cases h0 with
   | arr hsz hl hS hK hown hext hfit hr =>
    subst hl
    cases hc with
    | osl hk hcap haddr hx =>
     refine ⟨.sl hsz hown (by simp; omega) hcap (by omega) (hr.sub' off len fun h => haddr (by omega)), fun i hi => ?_⟩
     ·obtain rfl := List.mem_singleton.1 hi
      exact ⟨_, ho, rfl⟩
  ·simp at h
 ·rename_i szo rows ho
  split at h
  ·rename_i hle
   obtain ⟨rfl, rfl, rfl⟩ : T.d (.sl sz ((rows.drop off).take len)) = t ∧ [] = own ∧ [id] = rd := by simpa using h
   obtain ⟨hk, h0⟩ := hI.obj _ _ ho
   have hS : S (φ id).blk := by cases h0 with | imm hsz hl hS _ => exact hS
   exact ⟨.d (qni hI hc (.inr ho) hle (Stp.refl _ _) hS), fun i hi => by simp at hi⟩
  ·simp at h
 ·simp at h
theorem q9k {H : q0k} (hI : Inv S K w0 Kn φ (q02 H) w) : ∀ n,
  (∀ c t own rd v, q1h H n c = some (t, own, rd) → RC S w Kn φ c v → RT S w t v (own.map fun i => (φ i).blk) ∧ ∀ i ∈ own, ∃ o, q02 H i = some o ∧ q1t o = true) ∧
  (∀ cs ts own rd, q3l H n cs = some (ts, own, rd) → ∀ (get : Nat → Value), (∀ (i : Nat) (c : C), cs[i]? = some c → RC S w Kn φ c (get i)) →
   ts.length = cs.length ∧ (∃ fps : List (List Nat), fps.length = ts.length ∧ fps.flatten = own.map (fun i => (φ i).blk) ∧
    ∀ (i : Nat) (t : T) (fp : List Nat), ts[i]? = some t → fps[i]? = some fp → RT S w t (get i) fp) ∧ ∀ i ∈ own, ∃ o, q02 H i = some o ∧ q1t o = true) := by
 intro n
 induction n with
 | zero =>
  refine ⟨fun c t own rd v h hc => ?_, fun cs ts own rd h get hg => ?_⟩
  ·cases c with
   | d x =>
    obtain ⟨rfl, rfl, rfl⟩ : T.d x = t ∧ [] = own ∧ [] = rd := by simpa [q1h] using h
    cases hc with
    | d hd => exact ⟨.d hd, fun i hi => by simp at hi⟩
   | osl sz id off len => simp only [q1h] at h; exact qns hI hc h
   | _ => simp [q1h] at h
  ·cases cs with
   | nil =>
    obtain ⟨rfl, rfl, rfl⟩ : [] = ts ∧ [] = own ∧ [] = rd := by simpa [q3l] using h
    exact ⟨rfl, ⟨[], rfl, rfl, fun i t fp hi => by simp at hi⟩, fun i hi => by simp at hi⟩
   | cons c cs => simp [q3l] at h
 | succ n ih =>
  obtain ⟨ihc, ihl⟩ := ih
  refine ⟨fun c t own rd v h hc => ?_, fun cs ts own rd h get hg => ?_⟩
  ·cases c with
   | d x =>
    obtain ⟨rfl, rfl, rfl⟩ : T.d x = t ∧ [] = own ∧ [] = rd := by simpa [q1h] using h
    cases hc with
    | d hd => exact ⟨.d hd, fun i hi => by simp at hi⟩
   | osl sz id off len => simp only [q1h] at h; exact qns hI hc h
   | op id off =>
    cases off with
    | succ off => simp [q1h] at h
    | zero =>
     simp only [q1h] at h
     split at h
     ·rename_i cells ho
      split at h
      ·rename_i ts own' rd' hp
       obtain ⟨rfl, rfl, rfl⟩ : T.pt ts = t ∧ id :: own' = own ∧ id :: rd' = rd := by simpa using h
       obtain ⟨hk, h0⟩ := hI.obj _ _ ho
       cases h0 with
       | @box _ arr hb hS hK hown hlen hr =>
        obtain ⟨h1, ⟨fps, h2, h3, h4⟩, h5⟩ := ihl cells ts own' rd' hp (fun i => arr.getD i undef) hr
        cases hc with
        | op hk =>
         rw [hb]
         refine ⟨?_, fun i hi => ?_⟩
         ·rw [List.map_cons, ← h3]
          exact .pt hown (h1.trans hlen) h2 h4
         ·rcases List.mem_cons.1 hi with rfl | hi
          ·exact ⟨_, ho, rfl⟩
          ·exact h5 i hi
      ·simp at h
     ·rename_i cells ho
      obtain ⟨rfl, rfl, rfl⟩ : T.d (.pt cells) = t ∧ [] = own ∧ [id] = rd := by simpa using h
      obtain ⟨hk, h0⟩ := hI.obj _ _ ho
      cases h0 with
      | ibox hb hS hr =>
       cases hc with
       | op hk =>
        exact ⟨.d (.pt_of hS fun j x hj => by
         obtain ⟨u, hu, hd⟩ := hr j x hj
         exact ⟨u, by rw [← hu, hb]; simp, hd⟩), fun i hi => by simp at hi⟩
     ·simp at h
   | ep id row off => simp [q1h] at h
   | ofn f caps => simp [q1h] at h
   | om id => simp [q1h] at h
  ·cases cs with
   | nil =>
    obtain ⟨rfl, rfl, rfl⟩ : [] = ts ∧ [] = own ∧ [] = rd := by simpa [q3l] using h
    exact ⟨rfl, ⟨[], rfl, rfl, fun i t fp hi => by simp at hi⟩, fun i hi => by simp at hi⟩
   | cons c cs =>
    simp only [q3l] at h
    split at h
    ·rename_i t0 a i0 ts0 b j0 hx hxs
     obtain ⟨rfl, rfl, rfl⟩ : t0 :: ts0 = ts ∧ a ++ b = own ∧ i0 ++ j0 = rd := by simpa using h
     obtain ⟨p1, p2⟩ := ihc c t0 a i0 (get 0) hx (hg 0 c rfl)
     obtain ⟨h1, ⟨fps, h2, h3, h4⟩, h5⟩ := ihl cs ts0 b j0 hxs (fun i => get (i + 1)) (fun i c hi => hg (i + 1) c (by simpa using hi))
     refine ⟨by simp [h1], ⟨(a.map fun i => (φ i).blk) :: fps, by simp [h2], by simp [h3], fun i t fp hi hfp => ?_⟩, fun i hi => ?_⟩
     ·cases i with
      | zero =>
       obtain rfl : t0 = t := by simpa using hi
       obtain rfl : (a.map fun i => (φ i).blk) = fp := by simpa using hfp
       exact p1
      | succ i => exact h4 i t fp (by simpa using hi) (by simpa using hfp)
     ·rcases List.mem_append.1 hi with hi | hi
      ·exact p2 i hi
      ·exact h5 i hi
    ·simp at h
theorem qih {own : List Nat} (hI : Inv S K w0 Kn φ hf w) (hn : own.Nodup) (ho : ∀ i ∈ own, ∃ o, hf i = some o ∧ q1t o = true) : (own.map fun i => (φ i).blk).Nodup := by
 induction own with
 | nil => exact List.nodup_nil
 | cons a l ih =>
  rw [List.nodup_cons] at hn
  rw [List.map_cons, List.nodup_cons]
  refine ⟨fun hm => ?_, ih hn.2 fun i hi => ho i (List.mem_cons_of_mem _ hi)⟩
  obtain ⟨i, hi, e⟩ := List.mem_map.1 hm
  obtain ⟨o1, h1, h2⟩ := ho a (by simp)
  obtain ⟨o2, h3, h4⟩ := ho i (List.mem_cons_of_mem _ hi)
  exact hI.dist i a o2 o1 h3 h1 h4 h2 (fun e' => hn.1 (e' ▸ hi)) e
def KnU (Kn : Nat → Prop) (a b : Nat) (j : Nat) : Prop := Kn j ∨ (a ≤ j ∧ j < b)
theorem Inv.name (h : Inv S K w0 Kn φ hf w) {i : Nat} (hi : ¬ Kn i) (l : Loc) (o : Ob) (hfree : ∀ j b, hf j = some b → q1t b = true → q1t o = true → (φ j).blk ≠ l.blk)
  (hro : RO S K w (fun j => Kn j ∨ j = i) (ext φ i l) l o) : Inv S K w0 (fun j => Kn j ∨ j = i) (ext φ i l) (q0z [(i, some o)] hf) w := by
 refine h.step (Stp.refl _ _) (q4m _ hi) h.slt h.sk h.frm ?_ ?_
 ·intro id o' ho
  rw [q0v] at ho
  by_cases e : i = id
  ·subst e
   rw [if_pos rfl] at ho
   obtain rfl : o = o' := by simpa using ho
   refine .inr ⟨.inr rfl, ?_⟩
   simpa [ext] using hro
  ·rw [if_neg e, q1r] at ho
   exact .inl ⟨ho, fun hown => ⟨rfl, ((h.obj id o' ho).2.own hown).1⟩⟩
 ·intro a b oa ob ha hb hoa hob hne
  rw [q0v] at ha hb
  by_cases ea : i = a
  ·by_cases eb : i = b
   ·exact absurd (ea.symm.trans eb) hne
   ·rw [if_pos ea] at ha
    obtain rfl : o = oa := by simpa using ha
    rw [if_neg eb, q1r] at hb
    have := hfree b ob hb hob hoa
    have e2 : ¬ b = i := fun e => eb e.symm
    simp only [ext, ea, if_true]
    rw [if_neg (fun e => eb (ea.trans e.symm))]
    exact fun e => this e.symm
  ·rw [if_neg ea, q1r] at ha
   by_cases eb : i = b
   ·rw [if_pos eb] at hb
    obtain rfl : o = ob := by simpa using hb
    have := hfree a oa ha hoa hob
    simp only [ext, eb, if_true]
    rw [if_neg (fun e => ea (eb.trans e.symm))]
    exact this
   ·rw [if_neg eb, q1r] at hb
    have := h.dist a b oa ob ha hb hoa hob hne
    have e1 : ¬ a = i := fun e => ea e.symm
    have e2 : ¬ b = i := fun e => eb e.symm
    simpa [ext, e1, e2] using this
theorem Inv.kn {Kn' : Nat → Prop} (h : Inv S K w0 Kn φ hf w) (hs : ∀ i, Kn i → Kn' i) : Inv S K w0 Kn' φ hf w :=
 h.step (Stp.refl _ _) ⟨hs, fun _ _ => rfl⟩ h.slt h.sk h.frm (fun id o ho => .inl ⟨ho, fun hown => ⟨rfl, ((h.obj id o ho).2.own hown).1⟩⟩) h.dist
structure Laid (S K : Nat → Prop) (w0 w : World) (Kn : Nat → Prop) (φ : Nat → Loc) (hf : Nat → Option Ob) (fp : List Nat) (nxt m : Nat) (u : Upd) (φ' : Nat → Loc) : Prop where
 le : nxt ≤ m
 ren : Ren Kn φ (KnU Kn nxt m) φ'
 inv : Inv S K w0 (KnU Kn nxt m) φ' (q0z u hf) w
 fresh : ∀ p ∈ u, nxt ≤ p.1 ∧ p.1 < m
 blk : ∀ p ∈ u, (φ' p.1).blk ∈ fp
theorem qbj (a b : Nat) : Ren Kn φ (KnU Kn a b) φ := ⟨fun _ h => .inl h, fun _ _ => rfl⟩
theorem Laid.nil (h : Inv S K w0 Kn φ hf w) (fp : List Nat) (n : Nat) : Laid S K w0 w Kn φ hf fp n n [] φ :=
 ⟨Nat.le_refl _, qbj _ _, h.kn fun _ hi => .inl hi, fun p hp => by simp at hp, fun p hp => by simp at hp⟩
theorem Laid.skip (h : Inv S K w0 Kn φ hf w) (fp : List Nat) (n : Nat) : Laid S K w0 w Kn φ hf fp n (n + 1) [] φ :=
 ⟨Nat.le_succ _, qbj _ _, h.kn fun _ hi => .inl hi, fun p hp => by simp at hp, fun p hp => by simp at hp⟩
theorem q5j {α : Type} {u : List (Nat × α)} {id : Nat} (h : ∀ p ∈ u, p.1 ≠ id) : fnd u id = none := by
 induction u with
 | nil => rfl
 | cons p r ih =>
  obtain ⟨i, x⟩ := p
  have e : (i == id) = false := by simpa using h (i, x) (by simp)
  simp only [fnd, e, cond_false]
  exact ih fun q hq => h q (by simp [hq])
def Away (φ : Nat → Loc) (hf : Nat → Option Ob) (fp : List Nat) : Prop := ∀ j b, hf j = some b → q1t b = true → (φ j).blk ∉ fp
theorem qa7 {a b c : Nat} (h1 : a ≤ b) (h2 : b ≤ c) (j : Nat) : KnU (KnU Kn a b) b c j ↔ KnU Kn a c j := by
 unfold KnU; constructor
 ·rintro ((h | h) | h)
  ·exact .inl h
  ·exact .inr (by omega)
  ·exact .inr (by omega)
 ·rintro (h | h)
  ·exact .inl (.inl h)
  ·by_cases e : j < b
   ·exact .inl (.inr (by omega))
   ·exact .inr (by omega)
theorem Inv.knEq {Kn' : Nat → Prop} (h : Inv S K w0 Kn φ hf w) (hs : ∀ i, Kn i ↔ Kn' i) : Inv S K w0 Kn' φ hf w := h.kn fun i hi => (hs i).1 hi
theorem RC.kn {Kn' : Nat → Prop} {c : C} {v : Value} (h : RC S w Kn φ c v) (hs : ∀ i, Kn i → Kn' i) : RC S w Kn' φ c v := h.mono (Stp.refl _ _) ⟨hs, fun _ _ => rfl⟩
theorem Laid.comp {fa fb : List Nat} {n m k : Nat} {u v : Upd} {φ1 φ2 : Nat → Loc} (a : Laid S K w0 w Kn φ hf fa n m u φ1) (b : Laid S K w0 w (KnU Kn n m) φ1 (q0z u hf) fb m k v φ2) :
  Laid S K w0 w Kn φ hf (fa ++ fb) n k (v ++ u) φ2 where
 le := Nat.le_trans a.le b.le
 ren := ⟨fun i h => .inl h, fun i h => (b.ren.same i (.inl h)).trans (a.ren.same i h)⟩
 inv := by
  rw [q0w]
  exact b.inv.knEq fun i => qa7 a.le b.le i
 fresh p hp := by
  have := a.le
  have := b.le
  rcases List.mem_append.1 hp with h | h
  ·have := b.fresh p h; omega
  ·have := a.fresh p h; omega
 blk p hp := by
  rcases List.mem_append.1 hp with h | h
  ·exact List.mem_append_right _ (b.blk p h)
  ·rw [b.ren.same p.1 (.inr (a.fresh p h))]
   exact List.mem_append_left _ (a.blk p h)
theorem q55 {u v : Upd} (h : ∀ p ∈ u, ∀ q ∈ v, p.1 ≠ q.1) : q0z (u ++ v) hf = q0z (v ++ u) hf := by
 funext id
 simp only [q0z, q1w]
 cases hu : fnd u id with
 | none => cases fnd v id <;> simp
 | some x =>
  have : fnd v id = none := by
   refine q5j fun q hq e => ?_
   have hm : ∃ p ∈ u, p.1 = id := by
    clear h
    induction u with
    | nil => simp [fnd] at hu
    | cons p r ih =>
     obtain ⟨i, y⟩ := p
     by_cases e' : i = id
     ·exact ⟨(i, y), by simp, e'⟩
     ·have e2 : (i == id) = false := by simpa using e'
      simp only [fnd, e2, cond_false] at hu
      obtain ⟨p, hp, hpe⟩ := ih hu
      exact ⟨p, by simp [hp], hpe⟩
   obtain ⟨p, hp, hpe⟩ := hm
   exact h p hp q hq (hpe.trans e.symm)
  simp [this]
theorem qce (nxt : Nat) (ts : List T) : unC nxt (.pt ts) = (.op nxt 0, (nxt, some (.box (unL (nxt + 1) ts).1)) :: (unL (nxt + 1) ts).2.1, (unL (nxt + 1) ts).2.2) := rfl
theorem q9q (nxt : Nat) (t : T) (ts : List T) : unL nxt (t :: ts) = ((unC nxt t).1 :: (unL (unC nxt t).2.2 ts).1, (unC nxt t).2.1 ++ (unL (unC nxt t).2.2 ts).2.1, (unL (unC nxt t).2.2 ts).2.2) := rfl
mutual
theorem qwx (t : T) : ∀ nxt, nxt ≤ (unC nxt t).2.2 := by
 intro nxt
 cases t with
 | d x => exact Nat.le_succ _
 | gone => exact Nat.le_succ _
 | sl sz rows => exact Nat.le_succ _
 | pt ts => rw [qce]; exact Nat.le_of_succ_le (qfj ts (nxt + 1))
theorem qfj (ts : List T) : ∀ nxt, nxt ≤ (unL nxt ts).2.2 := by
 intro nxt
 cases ts with
 | nil => exact Nat.le_refl _
 | cons t ts => rw [q9q]; exact Nat.le_trans (qwx t nxt) (qfj ts _)
end
mutual
theorem qec (t : T) : ∀ {Kn : Nat → Prop} {φ : Nat → Loc} {hf : Nat → Option Ob} (nxt : Nat) (v : Value) (fp : List Nat), Inv S K w0 Kn φ hf w → (∀ j, nxt ≤ j → j < (unC nxt t).2.2 → ¬ Kn j) →
  RT S w t v fp → fp.Nodup → (∀ b ∈ fp, ¬ S b ∧ ¬ K b) → Away φ hf fp →
  ∃ φ', Laid S K w0 w Kn φ hf fp nxt (unC nxt t).2.2 (unC nxt t).2.1 φ' ∧ RC S w (KnU Kn nxt (unC nxt t).2.2) φ' (unC nxt t).1 v := by
 intro Kn φ hf nxt v fp hI hfr hr hnd hSK haw
 cases t with
 | gone => cases hr
 | d x =>
  cases hr with
  | d hd => exact ⟨φ, Laid.skip hI _ _, .d hd⟩
 | sl sz rows =>
  cases hr with
  | @sl _ _ b off len cap arr hsz ho hlen hcap hext hrr =>
   have hnx : ¬ Kn nxt := hfr nxt (Nat.le_refl _) (Nat.lt_succ_self _)
   refine ⟨ext φ nxt ⟨b, off, sz, arr.size, cap⟩, ?_, ?_⟩
   ·have hin := hI.name (hnx) ⟨b, off, sz, arr.size, cap⟩ (.arr sz rows) (fun j o hj hown _ e => haw j o hj hown (by simp [e]))
     (.arr hsz rfl (hSK b (by simp)).1 (hSK b (by simp)).2 ho rfl (by
      have : rows.length * sz ≤ cap * sz := Nat.mul_le_mul_right _ (by omega)
      simp only; omega) hrr (by simp only; omega))
    refine ⟨Nat.le_succ _, ⟨fun i h => .inl h, (q4m _ (hnx)).same⟩, hin.knEq fun i => ?_, fun p hp => ?_, fun p hp => ?_⟩
    ·simp only [KnU, unC]
     constructor
     ·rintro (h | rfl)
      ·exact .inl h
      ·exact .inr (by omega)
     ·rintro (h | h)
      ·exact .inl h
      ·exact .inr (by omega)
    ·obtain rfl : p = _ := by simpa [unC] using hp
     simp [unC]
    ·obtain rfl : p = _ := by simpa [unC] using hp
     simp [ext]
   ·have e : (ext φ nxt ⟨b, off, sz, arr.size, cap⟩) nxt = ⟨b, off, sz, arr.size, cap⟩ := by simp [ext]
    have := RC.osl (S := S) (w := w) (Kn := KnU Kn nxt (nxt + 1)) (φ := ext φ nxt ⟨b, off, sz, arr.size, cap⟩) (id := nxt) (off := 0) (len := rows.length) (cap := cap) (addr := off) (.inr (by omega)) (by omega) (by rw [e]; simp) (by rw [e]; simpa using hext) (by rw [e]; simp)
    rw [e] at this
    simpa [unC, hlen] using this
 | pt ts =>
  cases hr with
  | @pt _ b arr fps ho hlen hfl h =>
   rw [List.nodup_cons] at hnd
   have hnx : ¬ Kn nxt := hfr nxt (Nat.le_refl _) (by rw [qce]; exact qfj ts (nxt + 1))
   obtain ⟨φ1, hL, hrc⟩ := qaw ts (Kn := Kn) (φ := φ) (hf := hf) (nxt + 1) (fun i => arr.getD i undef) fps hI (fun j hj hj2 => hfr j (by omega) (by rw [qce]; exact hj2)) hfl h hnd.2
    (fun b' hb' => hSK b' (by simp [hb'])) (fun j o hj hown hm => haw j o hj hown (List.mem_cons_of_mem _ hm))
   have hm := hL.le
   have hnk : ¬ KnU Kn (nxt + 1) (unL (nxt + 1) ts).2.2 nxt := by
    rintro (h | h)
    ·exact hnx h
    ·omega
   refine ⟨ext φ1 nxt ⟨b, 0, 1, arr.size, 0⟩, ?_, ?_⟩
   ·have hin := hL.inv.name hnk ⟨b, 0, 1, arr.size, 0⟩ (.box (unL (nxt + 1) ts).1) (fun j o hj hown _ e => by
      by_cases hu : ∃ p ∈ (unL (nxt + 1) ts).2.1, p.1 = j
      ·obtain ⟨p, hp, rfl⟩ := hu
       obtain ⟨h1, h2⟩ := hL.fresh p hp
       have hm := hL.blk p hp
       rw [e] at hm
       exact hnd.1 hm
      ·have hfn : fnd (unL (nxt + 1) ts).2.1 j = none := q5j fun p hp e => hu ⟨p, hp, e⟩
       simp only [q0z, hfn] at hj
       have hk := (hI.obj j o hj).1
       rw [hL.ren.same j hk] at e
       exact haw j o hj hown (by simp [e]))
     (.box rfl (hSK b (by simp)).1 (hSK b (by simp)).2 ho (hrc.1.trans hlen) fun i c hi => (hrc.2 i c hi).mono (Stp.refl _ _) (q4m _ hnk))
    refine ⟨?_, ⟨fun i h => .inl h, fun i hi => ?_⟩, ?_, fun p hp => ?_, fun p hp => ?_⟩
    ·simp only [qce]; exact Nat.le_of_succ_le hm
    ·have : i ≠ nxt := fun e => hnx (e ▸ hi)
     simp only [ext, this, if_false]
     exact hL.ren.same i hi
    ·have e : q0z (unC nxt (.pt ts)).2.1 hf = q0z [(nxt, some (.box (unL (nxt + 1) ts).1))] (q0z (unL (nxt + 1) ts).2.1 hf) := by
      rw [← q0w]; rfl
     rw [e]
     refine hin.knEq fun i => ?_
     simp only [KnU, qce]
     constructor
     ·rintro ((h | h) | rfl)
      ·exact .inl h
      ·exact .inr (by omega)
      ·exact .inr (by omega)
     ·rintro (h | h)
      ·exact .inl (.inl h)
      ·by_cases e : i = nxt
       ·exact .inr e
       ·exact .inl (.inr (by omega))
    ·simp only [qce] at hp ⊢
     rcases List.mem_cons.1 hp with rfl | hp
     ·simp only; omega
     ·have := hL.fresh p hp; omega
    ·simp only [qce] at hp
     rcases List.mem_cons.1 hp with rfl | hp
     ·simp [ext]
     ·have hne : ¬ p.1 = nxt := by have := hL.fresh p hp; omega
      simp only [ext, hne, if_false]
      exact List.mem_cons_of_mem _ (hL.blk p hp)
   ·have := RC.op (S := S) (w := w) (Kn := KnU Kn nxt (unL (nxt + 1) ts).2.2) (φ := ext φ1 nxt ⟨b, 0, 1, arr.size, 0⟩) (id := nxt) (off := 0) (.inr (by omega))
    simpa [qce, ext] using this
theorem qaw (ts : List T) : ∀ {Kn : Nat → Prop} {φ : Nat → Loc} {hf : Nat → Option Ob} (nxt : Nat) (get : Nat → Value) (fps : List (List Nat)), Inv S K w0 Kn φ hf w → (∀ j, nxt ≤ j → j < (unL nxt ts).2.2 → ¬ Kn j) →
  fps.length = ts.length → (∀ (i : Nat) (t : T) (fp : List Nat), ts[i]? = some t → fps[i]? = some fp → RT S w t (get i) fp) → fps.flatten.Nodup → (∀ b ∈ fps.flatten, ¬ S b ∧ ¬ K b) → Away φ hf fps.flatten →
  ∃ φ', Laid S K w0 w Kn φ hf fps.flatten nxt (unL nxt ts).2.2 (unL nxt ts).2.1 φ' ∧ (unL nxt ts).1.length = ts.length ∧
   ∀ (i : Nat) (c : C), (unL nxt ts).1[i]? = some c → RC S w (KnU Kn nxt (unL nxt ts).2.2) φ' c (get i) := by
 intro Kn φ hf nxt get fps hI hfr hfl hr hnd hSK haw
 cases ts with
 | nil => exact ⟨φ, Laid.nil hI _ _, rfl, fun i c hi => by simp [unL] at hi⟩
 | cons t ts =>
  cases fps with
  | nil => simp at hfl
  | cons fp fps =>
   rw [List.flatten_cons, List.nodup_append] at hnd
   obtain ⟨hn1, hn2, hn3⟩ := hnd
   simp only [List.flatten_cons, List.mem_append] at hSK
   obtain ⟨φ1, hL1, hc1⟩ := qec t (Kn := Kn) (φ := φ) (hf := hf) nxt (get 0) fp hI (fun j hj hj2 => hfr j hj (by rw [q9q]; exact Nat.lt_of_lt_of_le hj2 (qfj ts _))) (hr 0 t fp rfl rfl) hn1 (fun b hb => hSK b (.inl hb))
    (fun j o hj hown hm => haw j o hj hown (by simp [hm]))
   obtain ⟨φ2, hL2, hlen, hc2⟩ := qaw ts (Kn := KnU Kn nxt (unC nxt t).2.2) (φ := φ1) (hf := q0z (unC nxt t).2.1 hf) (unC nxt t).2.2 (fun i => get (i + 1)) fps hL1.inv
    (fun j hj hj2 hk => by
     rcases hk with hk | hk
     ·have := hL1.le; exact hfr j (by omega) (by rw [q9q]; exact hj2) hk
     ·omega) (by simpa using hfl) (fun i t fp hi hfp => hr (i + 1) t fp (by simpa using hi) (by simpa using hfp)) hn2 (fun b hb => hSK b (.inr hb))
    (fun j o hj hown hm => by
     by_cases hu : ∃ p ∈ (unC nxt t).2.1, p.1 = j
     ·obtain ⟨p, hp, rfl⟩ := hu
      obtain ⟨h1, h2⟩ := hL1.fresh p hp
      exact hn3 _ (hL1.blk p hp) _ hm rfl
     ·have hfn : fnd (unC nxt t).2.1 j = none := q5j fun p hp e => hu ⟨p, hp, e⟩
      simp only [q0z, hfn] at hj
      have hk := (hI.obj j o hj).1
      rw [hL1.ren.same j hk] at hm
      exact haw j o hj hown (by simp [hm]))
   have hcomp := hL1.comp hL2
   have hcm : q0z ((unL (unC nxt t).2.2 ts).2.1 ++ (unC nxt t).2.1) hf = q0z ((unC nxt t).2.1 ++ (unL (unC nxt t).2.2 ts).2.1) hf :=
    q55 fun p hp q hq e => by
     have h1 := hL2.fresh p hp
     have h2 := hL1.fresh q hq
     omega
   refine ⟨φ2, ?_, by simp [q9q, hlen], fun i c hi => ?_⟩
   ·simp only [q9q, List.flatten_cons]
    have hsw : ∀ {p : Nat × Option Ob} {a b : Upd}, p ∈ a ++ b → p ∈ b ++ a := fun hp => List.mem_append.2 (List.mem_append.1 hp).symm
    exact ⟨hcomp.le, hcomp.ren, hcm ▸ hcomp.inv, fun p hp => hcomp.fresh p (hsw hp), fun p hp => hcomp.blk p (hsw hp)⟩
   ·have hsub : ∀ i, KnU (KnU Kn nxt (unC nxt t).2.2) (unC nxt t).2.2 (unL (unC nxt t).2.2 ts).2.2 i → KnU Kn nxt (unL (unC nxt t).2.2 ts).2.2 i := fun i => (qa7 hL1.le hL2.le i).1
    cases i with
    | zero =>
     obtain rfl : (unC nxt t).1 = c := by simpa [unL] using hi
     exact (hc1.mono (Stp.refl _ _) hL2.ren).kn hsub
    | succ i => exact (hc2 i c (by simpa [q9q] using hi)).kn hsub
end
end
end Go.Ev
