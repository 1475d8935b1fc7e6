/- The abstract machine: one operation, a region, code, a function. Conditions: none, these are definitions. -/
import Derived.Test.YtjfhiochcdjkhaaEvA
namespace Go.Ev

abbrev Call := FuncId → List A → Option (List R × List T)
abbrev Res1 := Option (TV × Upd × List Nat × Nat)

def lv (v : Value) : TV := .c (.d (.lit v))

def binV (op : BinOp) : Value → Value → Option Value
  | .int k a, .int k' b =>
    match op with
    | .shl => if b < 0 then none else some (.int k (k.wrap (a * 2 ^ (min b.toNat k.bits))))
    | .shr => if b < 0 then none else some (.int k (a.fdiv (2 ^ (min b.toNat k.bits))))
    | op => if k = k' then
      (match op with
      | .add => some (.int k (k.wrap (a + b)))
      | .sub => some (.int k (k.wrap (a - b)))
      | .mul => some (.int k (k.wrap (a * b)))
      | .quo => if b = 0 then none else some (.int k (k.wrap (a.tdiv b)))
      | .rem => if b = 0 then none else some (.int k (a.tmod b))
      | .and => some (.int k (k.wrap (BitVec.ofInt k.bits a &&& BitVec.ofInt k.bits b).toNat))
      | .or => some (.int k (k.wrap (BitVec.ofInt k.bits a ||| BitVec.ofInt k.bits b).toNat))
      | .xor => some (.int k (k.wrap (BitVec.ofInt k.bits a ^^^ BitVec.ofInt k.bits b).toNat))
      | .andNot => some (.int k (k.wrap (BitVec.ofInt k.bits a &&& ~~~BitVec.ofInt k.bits b).toNat))
      | .eql => some (.bool (a == b))
      | .neq => some (.bool (a != b))
      | .lss => some (.bool (a < b))
      | .leq => some (.bool (a ≤ b))
      | .gtr => some (.bool (a > b))
      | .geq => some (.bool (a ≥ b))
      | _ => none) else none
  | .float k a, .float k' b =>
    if k = k' then
      match op with
      | .add => (k.format.add a b).map (.float k)
      | .sub => (k.format.sub a b).map (.float k)
      | .mul => (k.format.mul a b).map (.float k)
      | .quo => (k.format.div a b).map (.float k)
      | .eql => some (.bool (k.format.order a b == some .eq))
      | .neq => some (.bool (k.format.order a b != some .eq))
      | .lss => some (.bool (k.format.order a b == some .lt))
      | .leq => some (.bool (k.format.order a b == some .lt || k.format.order a b == some .eq))
      | .gtr => some (.bool (k.format.order a b == some .gt))
      | .geq => some (.bool (k.format.order a b == some .gt || k.format.order a b == some .eq))
      | _ => none
    else none
  | .string x, .string y =>
    match op with
    | .add => if ((x.size + y.size : Nat) : Int) > IntKind.i64.max then none else some (.string (x ++ y))
    | .eql => some (.bool (x.toList == y.toList))
    | .neq => some (.bool !(x.toList == y.toList))
    | .lss => some (.bool (Op.bytesLess x.toList y.toList))
    | .leq => some (.bool (Op.bytesLess x.toList y.toList || x.toList == y.toList))
    | .gtr => some (.bool !(Op.bytesLess x.toList y.toList || x.toList == y.toList))
    | .geq => some (.bool !(Op.bytesLess x.toList y.toList))
    | _ => none
  | _, _ => none

def unV (op : UnOp) : Value → Option Value
  | .bool b => match op with | .not => some (.bool !b) | _ => none
  | .int k n => match op with
    | .neg => some (.int k (k.wrap (0 - n)))
    | .xor => some (.int k (k.wrap (BitVec.ofInt k.bits (if k.signed then -1 else k.max) ^^^ BitVec.ofInt k.bits n).toNat))
    | _ => none
  | .float k b => match op with | .neg => some (.float k (Op.negFloat k b)) | _ => none
  | _ => none

def eqK : Kd → Value → Value → Option Bool
  | .i q, .int k a, .int k' b => if k = q ∧ k' = q then some (a == b) else none
  | .b, .bool a, .bool b => some (a == b)
  | .s, .string a, .string b => some (a == b)
  | _, _, _ => none

def eqVs : List Kd → List Value → List Value → Option Bool
  | [], [], [] => some true
  | k :: ks, x :: xs, y :: ys => match eqK k x y, eqVs ks xs ys with | some a, some b => some (a && b) | _, _ => none
  | _, _, _ => none

/-- cells that are plain values -/
def litsOf : List C → Option (List Value)
  | [] => some []
  | .d (.lit v) :: r => match litsOf r with | some l => some (v :: l) | none => none
  | _ => none

def mm2 (isMax : Bool) : Value → Value → Option Value
  | .int k x, .int k' y => if k = k' then some (.int k (if isMax then (if y > x then y else x) else (if y < x then y else x))) else none
  | .float k x, .float k' y =>
    if k = k' then match k.format.order x y with
    | none => none
    | some .lt => some (.float k (if isMax then y else x))
    | some .gt => some (.float k (if isMax then x else y))
    | some .eq => some (.float k (if isMax then (if (k.decode x).neg then y else x) else (if (k.decode x).neg then x else y)))
    else none
  | _, _ => none

def mmL (isMax : Bool) : Value → List (Option TV) → Option Value
  | x, [] => some x
  | x, some (.c (.d (.lit y))) :: r => match mm2 isMax x y with | some z => mmL isMax z r | none => none
  | _, _ => none

/-- the cells that a pointer leads to -/
def ldC (agg : Bool) (n : Nat) (cells : List C) : Option TV :=
  if agg then (if n ≤ cells.length then some (.agg (cells.take n)) else none) else match cells with | x :: _ => some (.c x) | [] => none

def ldD (agg : Bool) (n : Nat) (cells : List D) : Option TV :=
  if agg then (if n ≤ cells.length then some (.agg ((cells.take n).map .d)) else none) else match cells with | x :: _ => some (.c (.d x)) | [] => none

def evLoad (agg : Bool) (n : Nat) (p : C) (h : Heap) : Option (TV × List Nat) :=
  match p with
  | .d (.pt cells) => match ldD agg n cells with | some v => some (v, []) | none => none
  | .ep id row off =>
    match look h id with
    | some (.arr _ rows) | some (.imm _ rows) =>
      match rows[row]? with
      | some r => match ldD agg n (r.drop off) with | some v => some (v, [id]) | none => none
      | none => none
    | _ => none
  | .op id off =>
    match look h id with
    | some (.box cells) => match ldC agg n (cells.drop off) with | some v => some (v, [id]) | none => none
    | some (.ibox cells) => match ldD agg n (cells.drop off) with | some v => some (v, [id]) | none => none
    | _ => none
  | _ => none

def evStore (n : Nat) (p : C) (v : TV) (h : Heap) : Option (Upd × List Nat) :=
  match cellsOf v with
  | none => none
  | some cs =>
    if cs.length = n then
      match p with
      | .ep id row off =>
        match look h id with
        | some (.arr sz rows) =>
          match rows[row]?, viewCs h cs with
          | some r, some (ds, ids) =>
            match freezeIds h ids ids with
            | some u => if off + n ≤ r.length ∧ ids.contains id = false then some ((id, some (.arr sz (rows.set row (splice r off ds)))) :: u, id :: ids) else none
            | none => none
          | _, _ => none
        | _ => none
      | .op id off =>
        match look h id with
        | some (.box cells) => if off + n ≤ cells.length then some ([(id, some (.box (splice cells off cs)))], [id]) else none
        | _ => none
      | _ => none
    else none

def intOf? : Option TV → Option Int
  | some (.c (.d (.lit (.int _ n)))) => some n
  | _ => none

def kInt? : Option TV → Option (IntKind × Int)
  | some (.c (.d (.lit (.int k n)))) => some (k, n)
  | _ => none

def evSlice (str : Bool) (sz : Nat) (x : C) (lo hi : Option Int) : Option C :=
  if str then match x with
  | .d (.lit (.string s)) =>
    let h := hi.getD s.size
    let l := lo.getD 0
    if 0 ≤ l ∧ l ≤ h ∧ h ≤ s.size then some (.d (.lit (.string (s.extract l.toNat h.toNat)))) else none
  | _ => none
  else match x with
  | .d (.lit (.slice none 0 0)) =>
    if 0 ≤ lo.getD 0 ∧ lo.getD 0 ≤ hi.getD 0 ∧ hi.getD 0 ≤ 0 then some x else none
  | .osl sz' id off len =>
    let h := hi.getD len
    let l := lo.getD 0
    if sz' = sz ∧ 0 ≤ l ∧ l ≤ h ∧ h ≤ len then some (.osl sz id (off + l.toNat) (h.toNat - l.toNat)) else none
  | .d (.sl sz' rows) =>
    let h := hi.getD rows.length
    let l := lo.getD 0
    if sz' = sz ∧ 0 ≤ l ∧ l ≤ h ∧ h ≤ rows.length then some (.d (.sl sz ((rows.drop l.toNat).take (h.toNat - l.toNat)))) else none
  | _ => none

def evFieldAddr (off : Nat) : C → Option C
  | .op id o => some (.op id (o + off))
  | .ep id r o => some (.ep id r (o + off))
  | .d (.pt cells) => if off < cells.length then some (.d (.pt (cells.drop off))) else none
  | _ => none

def evIndexAddr (arr : Option Nat) (sz : Nat) (x : C) (i : Int) : Option C :=
  match arr with
  | none =>
    match x with
    | .osl sz' id off len => if 0 ≤ i ∧ i < len ∧ sz' = sz then some (.ep id (off + i.toNat) 0) else none
    | .d (.sl sz' rows) => if 0 ≤ i ∧ sz' = sz then (match rows[i.toNat]? with | some r => some (.d (.pt r)) | none => none) else none
    | _ => none
  | some n =>
    if 0 ≤ i ∧ i < n then
      match x with
      | .op id o => some (.op id (o + i.toNat * sz))
      | .ep id r o => some (.ep id r (o + i.toNat * sz))
      | .d (.pt cells) => if i.toNat * sz < cells.length then some (.d (.pt (cells.drop (i.toNat * sz)))) else none
      | _ => none
    else none

def evLen : Bool → C → Option Int
  | true, .d (.lit (.string s)) => some s.size
  | false, .d (.lit (.slice none 0 0)) => some 0
  | false, .osl _ _ _ len => some len
  | false, .d (.sl _ rows) => some rows.length
  | _, _ => none

/-- the elements of a slice, as data -/
def rowsOf (sz : Nat) (h : Heap) : C → Option (List (List D) × List Nat)
  | .d (.lit (.slice none 0 0)) => some ([], [])
  | .d (.sl sz' rows) => if sz' = sz then some (rows, []) else none
  | .osl sz' id off len =>
    match look h id with
    | some (.arr _ rows) | some (.imm _ rows) => if sz' = sz ∧ off + len ≤ rows.length then some ((rows.drop off).take len, [id]) else none
    | _ => none
  | _ => none

def evAppend (sz : Nat) (s x : C) (h : Heap) (nxt : Nat) : Res1 :=
  match rowsOf sz h x with
  | none => none
  | some (new, ids) =>
    match s with
    | .d (.lit (.slice none 0 0)) =>
      if new.length ≤ lim then
        match new with
        | [] => some (.c s, [], ids, nxt)
        | new => some (.c (.osl sz nxt 0 new.length), [(nxt, some (.arr sz new))], ids, nxt + 1)
      else none
    | .osl sz' id off len =>
      match look h id with
      | some (.arr _ rows) =>
        if sz' = sz ∧ off + len ≤ rows.length ∧ len + new.length ≤ lim then
          some (.c (.osl sz nxt 0 (len + new.length)), [(id, none), (nxt, some (.arr sz ((rows.drop off).take len ++ new)))], id :: ids, nxt + 1)
        else none
      | _ => none
    | _ => none

def evCopy (sz : Nat) (dst src : C) (h : Heap) : Option (Int × Upd × List Nat) :=
  match rowsOf sz h src, dst with
  | some (_, ids), .d (.lit (.slice none 0 0)) => some (0, [], ids)
  | some (new, ids), .osl sz' id off len =>
    match look h id with
    | some (.arr _ rows) =>
      if sz' = sz ∧ off + len ≤ rows.length then
        some ((min new.length len : Nat), [(id, some (.arr sz (splice rows off (new.take len))))], id :: ids)
      else none
    | _ => none
  | _, _ => none

/-- the arguments of a call: data, trees with what they own; the numbers that are looked at, the handles that are lent -/
def evArgs (h : Heap) : List TV → List Bool → Option (List A × List Nat × List (C × List Nat × List Nat))
  | [], _ => some ([], [], [])
  | v :: vs, ms =>
    match evArgs h vs ms.tail with
    | none => none
    | some (as, ids, lent) =>
      if ms.headD false then
        match v with
        | .c c => match packC h 60 c with | some (t, own, rd) => some (.mt t :: as, ids, (c, own, rd) :: lent) | none => none
        | _ => none
      else match v with
        | .c c => match viewC h 60 c with | some (x, i) => some (.d x :: as, i ++ ids, lent) | none => none
        | .agg cs => match viewCs h cs with | some (xs, i) => some (.agg xs :: as, i ++ ids, lent) | none => none
        | .tup _ => none

/-- what was lent is laid back, at its old number -/
def evBack (nxt : Nat) : List (C × List Nat × List Nat) → List T → Option (Upd × Nat)
  | [], [] => some ([], nxt)
  | (_, [], _) :: r, .d _ :: ts => evBack nxt r ts
  | (.op id 0, own, _) :: r, .pt ts' :: ts =>
    match evBack (unL nxt ts').2.2 r ts with
    | some (w, k) => if own.contains id then some ((id, some (.box (unL nxt ts').1)) :: (unL nxt ts').2.1 ++ own.map (fun i => (i, none)) ++ w, k) else none
    | none => none
  | (.osl sz id 0 len, own, _) :: r, .sl sz' rows :: ts =>
    if rows.length = len ∧ sz' = sz ∧ own = [id] then
      match evBack nxt r ts with
      | some (w, k) => some ((id, some (.arr sz rows)) :: w, k)
      | none => none
    else none
  | _, _ => none

def litR : R → Bool
  | .c (.d (.lit _)) => true
  | .agg ts => ts.all fun | .d (.lit _) => true | _ => false
  | _ => false

def retV : List TV → TV
  | [v] => v
  | vs => .tup vs

def allSome {α : Type} : List (Option α) → Option (List α)
  | [] => some []
  | some x :: r => match allSome r with | some xs => some (x :: xs) | none => none
  | none :: _ => none

/-- lent slices are whole -/
def wholeLent (h : Heap) : List (C × List Nat × List Nat) → Bool
  | [] => true
  | (.osl _ id off len, _) :: r => (match look h id with | some (.arr _ rows) => off == 0 && len == rows.length | _ => false) && wholeLent h r
  | _ :: r => wholeLent h r

def evCall (call : Call) (ro : Bool) (muts : List Bool) (f : Option TV) (vs : List (Option TV)) (h : Heap) (nxt : Nat) : Res1 :=
  match (match f with | some (.c (.d (.fn f caps))) => some (f, caps.map C.d) | some (.c (.ofn f caps)) => some (f, caps) | _ => none), allSome vs with
  | some (f, caps), some vs =>
    match evArgs h (vs ++ caps.map TV.c) muts with
    | none => none
    | some (as, ids, lent) =>
      if wholeLent h lent ∧ (lent.flatMap (·.2.1)).Nodup ∧ (lent.flatMap (·.2.1)).all (fun i => !ids.contains i) then
        match call f as with
        | none => none
        | some (rs, outs) =>
          if ro then
            if rs.all litR ∧ lent.isEmpty ∧ outs.isEmpty then
              let (vs, u, m) := unRs nxt rs
              some (retV vs, u, ids, m)
            else none
          else
            match freezeIds h ids ids with
            | none => none
            | some fu =>
              match evBack nxt lent outs with
              | none => none
              | some (bu, m) =>
                let (vs, u, k) := unRs m rs
                some (retV vs, u ++ bu ++ fu, ids ++ lent.flatMap (·.2.2), k)
      else none
  | _, _ => none

/-- is it nil: a slice, a pointer, a function -/
def evNil : Nat → C → Option Bool
  | 0, .d (.lit (.slice none 0 0)) => some true
  | 0, .d (.sl _ _) | 0, .osl _ _ _ _ => some false
  | 1, .d (.lit (.pointer none)) => some true
  | 1, .d (.pt _) | 1, .ep _ _ _ | 1, .op _ _ => some false
  | 2, .d (.lit .nilFunc) => some true
  | 2, .d (.fn _ _) | 2, .ofn _ _ => some false
  | _, _ => none

/-! ### maps -/

/-- cells that are data -/
def dsOf : List C → Option (List D)
  | [] => some []
  | .d x :: r => match dsOf r with | some l => some (x :: l) | none => none
  | _ => none

abbrev MEnt := List Value × List D × Nat

/-- where a key stands -/
def findE (ks : List Kd) (key : List Value) : List MEnt → Nat → Option (Option Nat)
  | [], _ => some none
  | e :: r, i => match eqVs ks key e.1 with | some true => some (some i) | some false => findE ks key r (i + 1) | none => none

def valTV (va : Bool) (ds : List D) : Option TV := if va then some (.agg (ds.map .d)) else match ds with | [x] => some (.c (.d x)) | _ => none

def kOk1 : Kd → Value → Bool
  | .i q, .int k _ => decide (k = q)
  | .b, .bool _ => true
  | .s, .string _ => true
  | _, _ => false

def kOk : List Kd → List Value → Bool
  | [], [] => true
  | k :: ks, x :: xs => kOk1 k x && kOk ks xs
  | _, _ => false

def keyTV (ka : Bool) (ks : List Kd) : TV → Option (List Value)
  | .agg cs => if ka = true ∧ cs.length = ks.length then (match litsOf cs with | some l => if kOk ks l = true then some l else none | none => none) else none
  | .c x => if ka = false ∧ ks.length = 1 then (match litsOf [x] with | some l => if kOk ks l = true then some l else none | none => none) else none
  | .tup _ => none

def evLookup (ka : Bool) (ks : List Kd) (va : Bool) (zero : List Value) (ok : Bool) (m : C) (k : TV) (h : Heap) : Option (TV × List Nat) :=
  match m, keyTV ka ks k with
  | .d (.lit (.map none)), some _ => match valTV va (litsD zero) with | some v => some (if ok then .tup [v, lv (.bool false)] else v, []) | none => none
  | .om id, some key =>
    match look h id with
    | some (.map ka' va' es _) =>
      if ka' = ka ∧ va' = va then
        match findE ks key es 0 with
        | some (some i) => match valTV va (es.getD i default).2.1 with | some v => some (if ok then .tup [v, lv (.bool true)] else v, [id]) | none => none
        | some none => match valTV va (litsD zero) with | some v => some (if ok then .tup [v, lv (.bool false)] else v, [id]) | none => none
        | none => none
      else none
    | _ => none
  | _, _ => none

def evEntry (ka : Bool) (ks : List Kd) (va : Bool) (zero : List Value) (m : C) (k : TV) (h : Heap) : Option (TV × Upd × List Nat) :=
  match m, keyTV ka ks k with
  | .om id, some key =>
    match look h id with
    | some (.map ka' va' es clock) =>
      if ka' = ka ∧ va' = va then
        match findE ks key es 0 with
        | some (some i) => match valTV va (es.getD i default).2.1 with | some v => some (.tup [v, lv (.int .i64 (es.getD i default).2.2)], [(id, some (.map ka va es clock))], [id]) | none => none
        | some none => match valTV va (litsD zero) with | some v => some (.tup [v, lv (.int .i64 clock)], [(id, some (.map ka va (es ++ [(key, litsD zero, clock)]) (clock + 1)))], [id]) | none => none
        | none => none
      else none
    | _ => none
  | _, _ => none

def isAggTV : TV → Bool
  | .agg _ => true
  | _ => false

def evEStore (va : Bool) (n : Nat) (m : C) (st : Option TV) (x : TV) (h : Heap) : Option (Upd × List Nat) :=
  match m, intOf? st, (cellsOf x).bind dsOf with
  | .om id, some s, some ds =>
    match look h id with
    | some (.map ka va' es clock) =>
      if va' = va ∧ ds.length = n ∧ isAggTV x = va then
        match es.findIdx? (fun e => decide ((e.2.2 : Int) = s)) with
        | some i => some ([(id, some (.map ka va (es.set i ((es.getD i default).1, ds, (es.getD i default).2.2)) clock))], [id])
        | none => none
      else none
    | _ => none
  | _, _, _ => none

def ev1 (call : Call) (k : K) (vs : List (Option TV)) (h : Heap) (nxt : Nat) : Res1 :=
  match k, vs with
  | .mv, [some x] => some (x, [], [], nxt)
  | .pick, [some (.c (.d (.lit (.bool c)))), a, b] => match (if c then a else b) with | some v => some (v, [], [], nxt) | none => none
  | .alloc zero, [] => some (.c (.op nxt 0), [(nxt, some (.box (lits zero)))], [], nxt + 1)
  | .box, [some x] => match cellsOf x with | some cs => some (.c (.op nxt 0), [(nxt, some (.box cs))], [], nxt + 1) | none => none
  | .build zero places, vs =>
    match allSome vs with
    | some xs => match fillC (lits zero) (places.zip xs) with | some cs => some (.agg cs, [], [], nxt) | none => none
    | none => none
  | .buildSlice sz len zero places, vs =>
    match allSome vs with
    | some xs =>
      match fillC (lits zero) ((places.map fun i => (i * sz, sz)).zip xs) with
      | some cs =>
        match viewCs h cs with
        | some (ds, ids) =>
          match freezeIds h ids ids with
          | some u => some (.c (.osl sz nxt 0 len), (nxt, some (.arr sz (chunks sz len ds))) :: u, ids, nxt + 1)
          | none => none
        | none => none
      | none => none
    | none => none
  | .load agg n, [some (.c p)] => match evLoad agg n p h with | some (v, ids) => some (v, [], ids, nxt) | none => none
  | .store n, [some (.c p), some v] => match evStore n p v h with | some (u, ids) => some (.tup [], u, ids, nxt) | none => none
  | .nilCheck, [some (.c x)] =>
    match x with
    | .d (.pt _) | .d (.fn _ _) | .ep _ _ _ | .op _ _ | .ofn _ _ => some (.c x, [], [], nxt)
    | _ => none
  | .bin op, [some (.c (.d (.lit x))), some (.c (.d (.lit y)))] => match binV op x y with | some v => some (lv v, [], [], nxt) | none => none
  | .eqBool neg, [some (.c (.d (.lit (.bool x)))), some (.c (.d (.lit (.bool y))))] => some (lv (.bool (if neg then !(x == y) else x == y)), [], [], nxt)
  | .eqNil kind neg, [some (.c x)] => match evNil kind x with | some b => some (lv (.bool (if neg then !b else b)), [], [], nxt) | none => none
  | .eqAgg neg ks, [some (.agg xs), some (.agg ys)] =>
    match litsOf xs, litsOf ys with
    | some xs, some ys => match eqVs ks xs ys with | some b => some (lv (.bool (if neg then !b else b)), [], [], nxt) | none => none
    | _, _ => none
  | .un op, [some (.c (.d (.lit x)))] => match unV op x with | some v => some (lv v, [], [], nxt) | none => none
  | .convInt k, [some (.c (.d (.lit (.int _ n))))] => some (lv (.int k (k.wrap n)), [], [], nxt)
  | .convSame, [some (.c (.d (.lit (.string s))))] => some (lv (.string s), [], [], nxt)
  | .mkFn f, vs =>
    match allSome vs with
    | some xs => match allSome (xs.map fun | .c c => some c | _ => none) with | some cs => some (.c (.ofn f cs), [], [], nxt) | none => none
    | none => none
  | .makeSlice zero, [l, c] =>
    match intOf? l, intOf? c with
    | some l, some c =>
      if 0 ≤ l ∧ l ≤ c ∧ c ≤ lim then
        some (.c (.osl zero.length nxt 0 l.toNat), [(nxt, some (.arr zero.length (List.replicate l.toNat (litsD zero))))], [], nxt + 1)
      else none
    | _, _ => none
  | .slice str sz lo hi, some (.c x) :: r =>
    match lo, hi, r with
    | false, false, [] => match evSlice str sz x none none with | some y => some (.c y, [], [], nxt) | none => none
    | true, false, [l] => match intOf? l with | some l => (match evSlice str sz x (some l) none with | some y => some (.c y, [], [], nxt) | none => none) | none => none
    | false, true, [u] => match intOf? u with | some u => (match evSlice str sz x none (some u) with | some y => some (.c y, [], [], nxt) | none => none) | none => none
    | true, true, [l, u] =>
      match intOf? l, intOf? u with
      | some l, some u => match evSlice str sz x (some l) (some u) with | some y => some (.c y, [], [], nxt) | none => none
      | _, _ => none
    | _, _, _ => none
  | .fieldAddr off, [some (.c x)] => match evFieldAddr off x with | some y => some (.c y, [], [], nxt) | none => none
  | .field agg off n, [some (.agg cs)] => match ldC agg n (cs.drop off) with | some v => some (v, [], [], nxt) | none => none
  | .indexAddr arr sz, [some (.c x), i] =>
    match intOf? i with
    | some i => match evIndexAddr arr sz x i with | some y => some (.c y, [], [], nxt) | none => none
    | none => none
  | .indexStr, [some (.c (.d (.lit (.string s)))), i] =>
    match intOf? i with
    | some i => match (if 0 ≤ i then s[i.toNat]? else none) with | some b => some (lv (.int .u8 b.toNat), [], [], nxt) | none => none
    | none => none
  | .index agg len sz, [some (.agg cs), i] =>
    match intOf? i with
    | some i => if 0 ≤ i ∧ i < len then match ldC agg sz (cs.drop (i.toNat * sz)) with | some v => some (v, [], [], nxt) | none => none else none
    | none => none
  | .extract i, [some (.tup xs)] => match xs[i]? with | some v => some (v, [], [], nxt) | none => none
  | .len str, [some (.c x)] => match evLen str x with | some n => some (lv (.int .i64 n), [], [], nxt) | none => none
  | .minmax m, some (.c (.d (.lit x))) :: r => match mmL m x r with | some v => some (lv v, [], [], nxt) | none => none
  | .append sz, [some (.c s), some (.c x)] => evAppend sz s x h nxt
  | .copy sz, [some (.c d), some (.c s)] => match evCopy sz d s h with | some (i, u, ids) => some (lv (.int .i64 i), u, ids, nxt) | none => none
  | .call ro muts, f :: vs => evCall call ro muts f vs h nxt
  | .makeMap ka va, [] => some (.c (.om nxt), [(nxt, some (.map ka va [] 0))], [], nxt + 1)
  | .lookup ka ks va zero ok, [some (.c m), some k] => match evLookup ka ks va zero ok m k h with | some (v, ids) => some (v, [], ids, nxt) | none => none
  | .mapEntry ka ks va zero, [some (.c m), some k] => match evEntry ka ks va zero m k h with | some (v, u, ids) => some (v, u, ids, nxt) | none => none
  | .entryStore va n, [some (.c m), s, some x] => match evEStore va n m s x h with | some (u, ids) => some (.tup [], u, ids, nxt) | none => none
  | _, _ => none

/-! ### a region -/

def wants (e : Env) : Option (Nat × Bool) → Option Bool
  | none => some true
  | some (t, b) => match fnd e t with | some (.c (.d (.lit (.bool x)))) => some (x == b) | some (.tup []) => some false | _ => none

def put (e : Env) (dst : Option Nat) (v : TV) : Env := match dst with | some d => (d, v) :: e | none => e

/-- an operation that is left out leaves a mark -/
def drop (e : Env) (dst : Option Nat) : Env := put e dst (.tup [])

def evOps (call : Call) : List COp → St → Option St
  | [], s => some s
  | o :: r, s =>
    match wants s.env o.guard with
    | some true =>
      match ev1 call o.k (o.args.map (opv s.env)) s.heap s.next with
      | some (v, u, _, n) => evOps call r ⟨put s.env o.dst v, u ++ s.heap, n, s.gh⟩
      | none => none
    | some false => evOps call r ⟨drop s.env o.dst, s.heap, s.next, s.gh⟩
    | none => none

/-- numbers for what the operations of a drawn region make -/
def room : Nat := 64

def evDrawn (calls : Nat → Call) (base : Nat) : List COp → Nat → Env → Heap → Option (Env × Heap × List (List Nat × List Nat))
  | [], _, e, h => some (e, h, [])
  | o :: r, i, e, h =>
    match wants e o.guard with
    | some true =>
      match ev1 (calls i) o.k (o.args.map (opv e)) h (base + room * i) with
      | some (v, u, ids, n) =>
        if n ≤ base + room * (i + 1) then
          match evDrawn calls base r (i + 1) (put e o.dst v) (u ++ h) with
          | some (e, h, tr) => some (e, h, (ids, u.map (·.1)) :: tr)
          | none => none
        else none
      | none => none
    | some false =>
      match evDrawn calls base r (i + 1) (drop e o.dst) h with
      | some (e, h, tr) => some (e, h, ([], []) :: tr)
      | none => none
    | none => none

def apart (a b : List Nat × List Nat) : Bool :=
  a.2.all (fun i => !b.1.contains i && !b.2.contains i) && b.2.all (fun i => !a.1.contains i)

/-- the second may come ahead of the first: it adds an entry that the first does not tell from none -/
def softTr (tr : List (List Nat × List Nat)) (i j : Nat) : Bool :=
  match tr[i]?, tr[j]? with
  | some a, some b => apart a b || (match a with | ([id], []) => ((tr.take j).drop (i + 1)).all (fun x => !x.2.contains id) | _ => false)
  | _, _ => true

def dynOk (tr : List (List Nat × List Nat)) (dyn : List (Nat × Nat)) : Bool :=
  dyn.all fun (i, j) => if 1000 ≤ j then softTr tr i (j - 1000) else match tr[i]?, tr[j]? with | some a, some b => apart a b | _, _ => true

def keepEnv (e : Env) : List Nat → Env
  | [] => []
  | t :: r => match fnd e t with | some v => (t, v) :: keepEnv e r | none => keepEnv e r

/-! ### numbers made small again -/

def idsC : C → List Nat
  | .d _ => []
  | .osl _ id _ _ | .ep id _ _ | .op id _ | .om id => [id]
  | .ofn _ caps => idsL caps
where idsL : List C → List Nat
  | [] => []
  | c :: r => idsC c ++ idsL r

def idsTV : TV → List Nat
  | .c x => idsC x
  | .agg cs => idsC.idsL cs
  | .tup xs => idsT xs
where idsT : List TV → List Nat
  | [] => []
  | x :: r => idsTV x ++ idsT r

def idsEnv : Env → List Nat
  | [] => []
  | (_, v) :: r => idsTV v ++ idsEnv r

def reach (h : Heap) : Nat → List Nat → List Nat → List Nat
  | 0, _, seen => seen
  | _ + 1, [], seen => seen
  | n + 1, id :: r, seen =>
    if seen.contains id then reach h n r seen else
    match look h id with
    | some (.box cells) => reach h n (r ++ idsC.idsL cells) (seen ++ [id])
    | some _ => reach h n r (seen ++ [id])
    | none => reach h n r seen

def renC (ids : List Nat) : C → Option C
  | .d x => some (.d x)
  | .osl sz id o l => match ids.idxOf? id with | some i => some (.osl sz i o l) | none => none
  | .ep id r o => match ids.idxOf? id with | some i => some (.ep i r o) | none => none
  | .op id o => match ids.idxOf? id with | some i => some (.op i o) | none => none
  | .ofn f caps => match renL ids caps with | some cs => some (.ofn f cs) | none => none
  | .om id => match ids.idxOf? id with | some i => some (.om i) | none => none
where renL (ids : List Nat) : List C → Option (List C)
  | [] => some []
  | c :: r => match renC ids c, renL ids r with | some a, some b => some (a :: b) | _, _ => none

def renTV (ids : List Nat) : TV → Option TV
  | .c x => match renC ids x with | some y => some (.c y) | none => none
  | .agg cs => match renC.renL ids cs with | some ys => some (.agg ys) | none => none
  | .tup xs => match renT ids xs with | some ys => some (.tup ys) | none => none
where renT (ids : List Nat) : List TV → Option (List TV)
  | [] => some []
  | c :: r => match renTV ids c, renT ids r with | some a, some b => some (a :: b) | _, _ => none

/-- what cannot be renamed is forgotten -/
def renEnv (ids : List Nat) : Env → Env
  | [] => []
  | (t, v) :: r => match renTV ids v with | some v' => (t, v') :: renEnv ids r | none => renEnv ids r

def renOb (ids : List Nat) : Ob → Option Ob
  | .box cells => match renC.renL ids cells with | some cs => some (.box cs) | none => none
  | o => some o

def renHeap (all : List Nat) (h : Heap) : List Nat → Nat → Heap
  | [], _ => []
  | id :: r, i =>
    match look h id with
    | some o => match renOb all o with | some o' => (i, some o') :: renHeap all h r (i + 1) | none => renHeap all h r (i + 1)
    | none => renHeap all h r (i + 1)

def canonWith (ids : List Nat) (e : Env) (s : St) : St := ⟨renEnv ids e, renHeap ids s.heap ids 0, ids.length, (renC.renL ids s.gh).getD []⟩

def canon (keep : List Nat) (s : St) : St :=
  canonWith (reach s.heap 200 (idsC.idsL s.gh ++ idsEnv (keepEnv s.env keep)) []) (keepEnv s.env keep) s

/-! ### a function -/

inductive RV where
  | tmp (t : Nat)
  | cell (t : Nat) (agg : Bool) (n : Nat)
  deriving Inhabited

/-- the arguments laid into the frame -/
def enter : List A → Nat → Nat → Env × Heap × Nat × List C
  | [], _, n => ([], [], n, [])
  | .d x :: r, i, n => let (e, h, m, l) := enter r (i + 1) n; ((i, .c (.d x)) :: e, h, m, l)
  | .agg xs :: r, i, n => let (e, h, m, l) := enter r (i + 1) n; ((i, .agg (xs.map .d)) :: e, h, m, l)
  | .mt t :: r, i, n => let (c, u, k) := unC n t; let (e, h, m, l) := enter r (i + 1) k; ((i, .c c) :: e, u ++ h, m, c :: l)

def resTV (s : St) : RV → Option TV
  | .tmp t => fnd s.env t
  | .cell t agg n => match fnd s.env t with | some (.c p) => (match evLoad agg n p s.heap with | some (v, _) => some v | none => none) | _ => none

def packR (h : Heap) : TV → Option (R × List Nat)
  | .c c => match packC h 60 c with | some (t, ids, _) => some (.c t, ids) | none => none
  | .agg cs => match packL h 60 cs with | some (ts, ids, _) => some (.agg ts, ids) | none => none
  | .tup _ => none

def packRs (h : Heap) : List TV → Option (List R × List Nat)
  | [] => some ([], [])
  | v :: vs => match packR h v, packRs h vs with | some (r, a), some (rs, b) => some (r :: rs, a ++ b) | _, _ => none

def packCs (h : Heap) : List C → Option (List T × List Nat)
  | [] => some ([], [])
  | c :: cs => match packC h 60 c, packCs h cs with | some (r, a, _), some (rs, b) => some (r :: rs, a ++ b) | _, _ => none

def leave (rvs : List RV) (s : St) : Option (List R × List T) :=
  match allSome (rvs.map (resTV s)) with
  | none => none
  | some vs =>
    match packRs s.heap vs, packCs s.heap s.gh with
    | some (rs, a), some (ts, b) => if (a ++ b).Nodup then some (rs, ts) else none
    | _, _ => none

structure Fn where
  np : Nat
  ntmps : Nat
  rvs : List RV
  body : CC
  deriving Inhabited

end Go.Ev
