/- The abstract machine: deep data, cells, owned objects, operations and code, and their evaluation. Conditions: none, these are definitions. -/
import Derived.Orders
import Derived.Laws.CopyRow
namespace Go.Ev
inductive D where
 | lit (v:Value)
 | sl (sz:Nat) (rows:List (List D))
 | pt (cells:List D)
 | fn (f:FuncId) (caps:List D)
 deriving Inhabited
inductive C where
 | d (x:D)
 | osl (sz id off len:Nat)
 | ep (id row off:Nat)
 | op (id off:Nat)
 | ofn (f:FuncId) (caps:List C)
 | om (id:Nat)
 deriving Inhabited
inductive TV where
 | c (x:C)
 | agg (cells:List C)
 | tup (xs:List TV)
 deriving Inhabited
inductive Slot where
 | nil
 | own (rows:List (List D))
 | out (id len:Nat)
 deriving Inhabited
inductive Ob where
 | arr (sz:Nat) (rows:List (List D))
 | imm (sz:Nat) (rows:List (List D))
 | box (cells:List C)
 | ibox (cells:List D)
 | map (ka va:Bool) (es:List (List Value×List D×Nat)) (clock:Nat)
 | cap (sz:Nat) (rows:List (List D)) (cp:Nat)
 | nst (sz:Nat) (slots:List Slot)
 deriving Inhabited
inductive T where
 | d (x:D)
 | sl (sz:Nat) (rows:List (List D))
 | pt (cells:List T)
 | sls (sz:Nat) (rows:List (Option (List (List D))))
 | gone
 deriving Inhabited
inductive A where
 | d (x:D)
 | agg (cells:List D)
 | mt (t:T)
 deriving Inhabited
inductive R where
 | c (t:T)
 | agg (cells:List T)
 deriving Inhabited
def plain:Value->Bool
 | .bool _ | .int _ _ | .float _ _ | .string _ | .pointer none | .slice none 0 0 | .map none | .nilFunc | .nilIface=>true
 | _=>false
def lim:Nat:=2147483648
def fnd{α:Type}:List (Nat×α)->Nat->Option α
 | [],_=>none
 | (a,x) :: r,k=>bif a == k then some x else fnd r k
abbrev Env:=List (Nat×TV)
abbrev Heap:=List (Nat×Option Ob)
abbrev Upd:=List (Nat×Option Ob)
def look(h:Heap)(id:Nat):Option Ob:=(fnd h id).join
inductive Kd where
 | b
 | i (k:IntKind)
 | s
 deriving Inhabited,DecidableEq
inductive K where
 | mv
 | pick
 | alloc (zero:List Value)
 | box
 | build (zero:List Value) (places:List (Nat×Nat))
 | buildSlice (sz len:Nat) (zero:List Value) (places:List Nat)
 | load (agg:Bool) (n:Nat)
 | store (n:Nat)
 | nilCheck
 | bin (op:BinOp)
 | eqBool (neg:Bool)
 | eqNil (kind:Nat) (neg:Bool)
 | eqAgg (neg:Bool) (ks:List Kd)
 | un (op:UnOp)
 | convInt (k:IntKind)
 | convSame
 | mkFn (f:FuncId)
 | makeSlice (zero:List Value)
 | slice (str:Bool) (sz:Nat) (lo hi:Bool)
 | fieldAddr (off n:Nat)
 | field (agg:Bool) (off n:Nat)
 | indexAddr (arr:Option Nat) (sz:Nat)
 | indexStr
 | index (agg:Bool) (len sz:Nat)
 | extract (i:Nat)
 | len (str:Bool)
 | minmax (isMax:Bool)
 | append (sz:Nat)
 | copy (sz:Nat)
 | clear (zero:List Value)
 | slice3 (sz:Nat)
 | capK
 | apm (zero:List Value)
 | ovl
 | call (ro:Bool) (muts:List Bool)
 | makeMap (ka va:Bool)
 | lookup (ka:Bool) (ks:List Kd) (va:Bool) (zero:List Value) (ok:Bool)
 | mapEntry (ka:Bool) (ks:List Kd) (va:Bool) (zero:List Value)
 | entryStore (va:Bool) (m:Nat)
 | mkNst (szi:Nat)
 | loadN
 | bad
 deriving Inhabited
structure COp where
 dst:Option Nat
 k:K
 args:List Operand
 guard:Option (Nat×Bool)
 deriving Inhabited
inductive CC where
 | skip
 | region (ops:List COp) (keep:List Nat)
 | drawn (ops:List COp) (dyn:List (Nat×Nat)) (keep:List Nat)
 | seq (a b:CC)
 | cond (c:Operand) (a b:CC)
 | block (id:Nat) (a:CC)
 | loop (keep:List Nat) (a:CC)
 | exit (id:Nat)
 | ret
 | bad
 deriving Inhabited
structure St where
 env:Env
 heap:Heap
 next:Nat
 gh:List C
 deriving Inhabited
inductive Out where
 | normal
 | exit (id:Nat)
 | ret
 deriving Inhabited,DecidableEq
def glb:Nat->Option D:= fun _ => none
def cv:Value->Option TV
 | .agg cs=>if cs.toList.all plain then some (.agg (cs.toList.map λv=> .d (.lit v)))else none
 | v=>if plain v then some (.c (.d (.lit v)))else none
def opv(e:Env):Operand->Option TV
 | .tmp t=>fnd e t
 | .const v=>cv v
 | .global g=>(glb g).map λd=> .c (.d d)
 | .func f=>some (.c (.d (.fn f [])))
def cellsOf:TV->Option (List C)
 | .c x=>some [x]
 | .agg cs=>some cs
 | .tup _=>none
def lits:List Value->List C:=List.map λv=> .d (.lit v)
def litsD:List Value->List D:=List.map D.lit
def splice{α:Type}(l:List α)(off:Nat)(p:List α):List α:=l.take off++p++l.drop (off+p.length)
def fillC(cells:List C):List ((Nat×Nat)×TV)->Option (List C)
 | []=>some cells
 | ((off,n),v) :: r=>
  match cellsOf v with
  | some cs=>if cs.length=n/\off+n<=cells.length then fillC (splice cells off cs) r else none
  | none=>none
def q4u{α:Type}(sz:Nat):Nat->List α->List (List α)
 | 0,_=> []
 | n+1,l=>l.take sz :: q4u sz n (l.drop sz)
def slotD(sz:Nat):Slot->Option D
 | .nil=>some (.lit (.slice none 0 0))
 | .own rows=>some (.sl sz rows)
 | .out _ _=>none
def q7t(sz:Nat):List Slot->Option (List (List D))
 | []=>some []
 | s :: r=>match slotD sz s,q7t sz r with | some x,some l=>some ([x] :: l) | _,_=>none
def slotO:Slot->Option (Option (List (List D)))
 | .nil=>some none
 | .own rows=>some (some rows)
 | .out _ _=>none
def qbm:List Slot->Option (List (Option (List (List D))))
 | []=>some []
 | s :: r=>match slotO s,qbm r with | some x,some l=>some (x :: l) | _,_=>none
def q51:Option (List (List D))->Slot
 | none=> .nil
 | some rows=> .own rows
mutual
def viewC(h:Heap):Nat->C->Option (D×List Nat)
 | _, .d x=>some (x, [])
 | _, .osl sz id off len=>
  match look h id with
  | some (.arr _ rows) | some (.imm _ rows)=>if off+len<=rows.length then some (.sl sz ((rows.drop off).take len), [id])else none
  | some (.nst szi slots)=>if off=0/\len=slots.length then (match q7t szi slots with | some rows=>some (.sl sz rows, [id]) | none=>none)else none
  | _=>none
 | _, .ep id row off=>
  match look h id with
  | some (.arr _ rows) | some (.imm _ rows)=>match rows[row]? with | some r=>if off<=r.length then some (.pt (r.drop off), [id])else none | none=>none
  | _=>none
 | 0,_=>none
 | n+1, .op id off=>
  match look h id with
  | some (.ibox cells)=>if off<=cells.length then some (.pt (cells.drop off), [id])else none
  | some (.box cells)=>
   match viewL h n cells with
   | some (ds,ids)=>if off<=ds.length then some (.pt (ds.drop off),id :: ids)else none
   | none=>none
  | _=>none
 | n+1, .ofn f caps=>
  match viewL h n caps with
  | some (ds,ids)=>some (.fn f ds,ids)
  | none=>none
 | _+1, .om _=>none
def viewL(h:Heap):Nat->List C->Option (List D×List Nat)
 | _, []=>some ([], [])
 | 0,_=>none
 | n+1,c :: cs=>
  match viewC h n c,viewL h n cs with
  | some (x,a),some (xs,b)=>some (x :: xs,a++b)
  | _,_=>none
end
def q2s(h:Heap)(all:List Nat)(id:Nat):Option Ob:=
 match look h id with
 | some (.arr sz rows)=>some (.imm sz rows)
 | some (.imm sz rows)=>some (.imm sz rows)
 | some (.ibox cells)=>some (.ibox cells)
 | some (.box cells)=>match viewL h 300 cells with | some (ds,ids)=>if ids.all (λi=>all.contains i)then some (.ibox ds)else none | none=>none
 | some (.map _ _ _ _)=>none
 | some (.cap _ _ _)=>none
 | some (.nst szi slots)=>match q7t szi slots with | some rows=>some (.imm 1 rows) | none=>none
 | none=>none
def q0o(h:Heap)(all:List Nat):List Nat->Option Upd
 | []=>some []
 | id :: r=>match q2s h all id,q0o h all r with | some o,some u=>some ((id,some o) :: u) | _,_=>none
def q0r(h:Heap):List C->Option (List D×List Nat)
 | []=>some ([], [])
 | c :: cs=>
  match viewC h 300 c,q0r h cs with
  | some (x,a),some (xs,b)=>some (x :: xs,a++b)
  | _,_=>none
mutual
def packC(h:Heap):Nat->C->Option (T×List Nat×List Nat)
 | _, .d x=>some (.d x, [], [])
 | _, .osl sz id off len=>
  match look h id with
  | some (.arr _ rows)=>if off+len<=rows.length then some (.sl sz ((rows.drop off).take len), [id], [id])else none
  | some (.imm _ rows)=>if off+len<=rows.length then some (.d (.sl sz ((rows.drop off).take len)), [], [id])else none
  | some (.nst szi slots)=>if off=0/\len=slots.length then (match qbm slots with | some rows=>some (.sls szi rows, [id], [id]) | none=>none)else none
  | _=>none
 | 0,_=>none
 | n+1, .op id 0=>
  match look h id with
  | some (.box cells)=>match packL h n cells with | some (ts,own,ids)=>some (.pt ts,id :: own,id :: ids) | none=>none
  | some (.ibox cells)=>some (.d (.pt cells), [], [id])
  | _=>none
 | _+1,_=>none
def packL(h:Heap):Nat->List C->Option (List T×List Nat×List Nat)
 | _, []=>some ([], [], [])
 | 0,_=>none
 | n+1,c :: cs=>
  match packC h n c,packL h n cs with
  | some (x,a,i),some (xs,b,j)=>some (x :: xs,a++b,i++j)
  | _,_=>none
end
mutual
def unC(nxt:Nat):T->C×Upd×Nat
 | .d x=>(.d x, [],nxt+1)
 | .gone=>(.d (.lit .nilFunc), [],nxt+1)
 | .sl sz rows=>(.osl sz nxt 0 rows.length, [(nxt,some (.arr sz rows))],nxt+1)
 | .sls sz rows=>(.osl 1 nxt 0 rows.length, [(nxt,some (.nst sz (rows.map q51)))],nxt+1)
 | .pt ts=>let (cs,u,m):=unL (nxt+1) ts; (.op nxt 0,(nxt,some (.box cs)) :: u,m)
def unL(nxt:Nat):List T->List C×Upd×Nat
 | []=>([], [],nxt)
 | t :: ts=>let (c,u,m):=unC nxt t; let (cs,v,k):=unL m ts; (c :: cs,u++v,k)
end
def unR(nxt:Nat):R->TV×Upd×Nat
 | .c t=>let (c,u,m):=unC nxt t; (.c c,u,m)
 | .agg ts=>let (cs,u,m):=unL nxt ts; (.agg cs,u,m)
def unRs(nxt:Nat):List R->List TV×Upd×Nat
 | []=>([], [],nxt)
 | r :: rs=>let (v,u,m):=unR nxt r; let (vs,w,k):=unRs m rs; (v :: vs,u++w,k)
end Go.Ev

namespace Go.Ev
abbrev Call:=FuncId->List A->Option (List R×List T)
abbrev Res1:=Option (TV×Upd×List Nat×Nat)
def lv(v:Value):TV:= .c (.d (.lit v))
def binV(op:BinOp):Value->Value->Option Value
 | .int k a, .int k' b=>
  match op with
  | .shl=>if b < 0 then none else some (.int k (k.wrap (a * 2 ^ (min b.toNat k.bits))))
  | .shr=>if b < 0 then none else some (.int k (a.fdiv (2 ^ (min b.toNat k.bits))))
  | op=>if k=k' then
   (match op with
   | .add=>some (.int k (k.wrap (a+b)))
   | .sub=>some (.int k (k.wrap (a - b)))
   | .mul=>some (.int k (k.wrap (a * b)))
   | .quo=>if b=0 then none else some (.int k (k.wrap (a.tdiv b)))
   | .rem=>if b=0 then none else some (.int k (a.tmod b))
   | .and=>some (.int k (k.wrap (BitVec.ofInt k.bits a &&& BitVec.ofInt k.bits b).toNat))
   | .or=>some (.int k (k.wrap (BitVec.ofInt k.bits a ||| BitVec.ofInt k.bits b).toNat))
   | .xor=>some (.int k (k.wrap (BitVec.ofInt k.bits a ^^^ BitVec.ofInt k.bits b).toNat))
   | .andNot=>some (.int k (k.wrap (BitVec.ofInt k.bits a &&& ~~~BitVec.ofInt k.bits b).toNat))
   | .eql=>some (.bool (a == b))
   | .neq=>some (.bool (a != b))
   | .lss=>some (.bool (a < b))
   | .leq=>some (.bool (a<=b))
   | .gtr=>some (.bool (a > b))
   | .geq=>some (.bool (a >= b))
   | _=>none)else none
 | .float k a, .float k' b=>
  if k=k' then
   match op with
   | .add=>(k.format.add a b).map (.float k)
   | .sub=>(k.format.sub a b).map (.float k)
   | .mul=>(k.format.mul a b).map (.float k)
   | .quo=>(k.format.div a b).map (.float k)
   | .eql=>some (.bool (k.format.order a b == some .eq))
   | .neq=>some (.bool (k.format.order a b != some .eq))
   | .lss=>some (.bool (k.format.order a b == some .lt))
   | .leq=>some (.bool (k.format.order a b == some .lt || k.format.order a b == some .eq))
   | .gtr=>some (.bool (k.format.order a b == some .gt))
   | .geq=>some (.bool (k.format.order a b == some .gt || k.format.order a b == some .eq))
   | _=>none
  else none
 | .string x, .string y=>
  match op with
  | .add=>if ((x.size+y.size:Nat):Int) > IntKind.i64.max then none else some (.string (x++y))
  | .eql=>some (.bool (x.toList == y.toList))
  | .neq=>some (.bool !(x.toList == y.toList))
  | .lss=>some (.bool (Op.bytesLess x.toList y.toList))
  | .leq=>some (.bool (Op.bytesLess x.toList y.toList || x.toList == y.toList))
  | .gtr=>some (.bool !(Op.bytesLess x.toList y.toList || x.toList == y.toList))
  | .geq=>some (.bool !(Op.bytesLess x.toList y.toList))
  | _=>none
 | _,_=>none
def unV(op:UnOp):Value->Option Value
 | .bool b=>match op with | .not=>some (.bool !b) | _=>none
 | .int k n=>match op with
  | .neg=>some (.int k (k.wrap (0 - n)))
  | .xor=>some (.int k (k.wrap (BitVec.ofInt k.bits (if k.signed then -1 else k.max) ^^^ BitVec.ofInt k.bits n).toNat))
  | _=>none
 | .float k b=>match op with | .neg=>some (.float k (Op.negFloat k b)) | _=>none
 | _=>none
def eqK:Kd->Value->Value->Option Bool
 | .i q, .int k a, .int k' b=>if k=q/\k'=q then some (a == b)else none
 | .b, .bool a, .bool b=>some (a == b)
 | .s, .string a, .string b=>some (a == b)
 | _,_,_=>none
def eqVs:List Kd->List Value->List Value->Option Bool
 | [], [], []=>some true
 | k :: ks,x :: xs,y :: ys=>match eqK k x y,eqVs ks xs ys with | some a,some b=>some (a && b) | _,_=>none
 | _,_,_=>none
def q47:List C->Option (List Value)
 | []=>some []
 | .d (.lit v) :: r=>match q47 r with | some l=>some (v :: l) | none=>none
 | _=>none
def mm2(isMax:Bool):Value->Value->Option Value
 | .int k x, .int k' y=>if k=k' then some (.int k (if isMax then (if y > x then y else x)else (if y < x then y else x)))else none
 | .float k x, .float k' y=>
  if k=k' then match k.format.order x y with
  | none=>none
  | some .lt=>some (.float k (if isMax then y else x))
  | some .gt=>some (.float k (if isMax then x else y))
  | some .eq=>some (.float k (if isMax then (if (k.decode x).neg then y else x)else (if (k.decode x).neg then x else y)))
  else none
 | _,_=>none
def mmL(isMax:Bool):Value->List (Option TV)->Option Value
 | x, []=>some x
 | x,some (.c (.d (.lit y))) :: r=>match mm2 isMax x y with | some z=>mmL isMax z r | none=>none
 | _,_=>none
def ldC(agg:Bool)(n:Nat)(cells:List C):Option TV:=
 if agg then (if n<=cells.length then some (.agg (cells.take n))else none)else match cells with | x :: _=>some (.c x) | []=>none
def ldD(agg:Bool)(n:Nat)(cells:List D):Option TV:=
 if agg then (if n<=cells.length then some (.agg ((cells.take n).map .d))else none)else match cells with | x :: _=>some (.c (.d x)) | []=>none
def q20(agg:Bool)(n:Nat)(p:C)(h:Heap):Option (TV×List Nat):=
 match p with
 | .d (.pt cells)=>match ldD agg n cells with | some v=>some (v, []) | none=>none
 | .ep id row off=>
  match look h id with
  | some (.arr _ rows) | some (.imm _ rows)=>
   match rows[row]? with
   | some r=>match ldD agg n (r.drop off)with | some v=>some (v, [id]) | none=>none
   | none=>none
  | _=>none
 | .op id off=>
  match look h id with
  | some (.box cells)=>match ldC agg n (cells.drop off)with | some v=>some (v, [id]) | none=>none
  | some (.ibox cells)=>match ldD agg n (cells.drop off)with | some v=>some (v, [id]) | none=>none
  | _=>none
 | _=>none
def q8p(id row sz:Nat)(slots:List Slot)(cs:List C)(h:Heap):Option (Upd×List Nat):=
 match cs with
 | [.d (.lit (.slice none 0 0))]=>some ([(id,some (.nst sz (slots.set row .nil)))], [id])
 | [.osl sz' id2 0 len]=>
  match look h id2 with
  | some (.arr _ rows)=>if sz'=sz/\len=rows.length/\id2≠id then some ([(id,some (.nst sz (slots.set row (.own rows)))),(id2,none)], [id,id2])else none
  | _=>none
 | _=>none
def q3o(agg:Bool)(n:Nat)(p:C)(h:Heap)(nxt:Nat):Res1:=
 match p with
 | .ep id row 0=>
  match look h id with
  | some (.nst sz slots)=>if agg=false/\n=1 then
   (match slots[row]? with
   | some .nil=>some (.c (.d (.lit (.slice none 0 0))), [], [id],nxt)
   | some (.own rows)=>some (.c (.osl sz nxt 0 rows.length), [(nxt,some (.arr sz rows)),(id,some (.nst sz (slots.set row (.out nxt rows.length))))], [id],nxt+1)
   | _=>none)else none
  | _=>none
 | _=>none
def q44(n:Nat)(p:C)(v:TV)(h:Heap):Option (Upd×List Nat):=
 match cellsOf v with
 | none=>none
 | some cs=>
  if cs.length=n then
   match p with
   | .ep id row off=>
    match look h id with
    | some (.arr sz rows)=>
     match rows[row]?,q0r h cs with
     | some r,some (ds,ids)=>
      match q0o h ids ids with
      | some u=>if off+n<=r.length/\ids.contains id=false then some ((id,some (.arr sz (rows.set row (splice r off ds)))) :: u,id :: ids)else none
      | none=>none
     | _,_=>none
    | some (.nst sz slots)=>if off=0/\n=1/\row < slots.length then q8p id row sz slots cs h else none
    | _=>none
   | .op id off=>
    match look h id with
    | some (.box cells)=>if off+n<=cells.length then some ([(id,some (.box (splice cells off cs)))], [id])else none
    | _=>none
   | _=>none
  else none
def intOf? :Option TV->Option Int
 | some (.c (.d (.lit (.int _ n))))=>some n
 | _=>none
def q13(str:Bool)(sz:Nat)(x:C)(lo hi:Option Int):Option C:=
 if str then match x with
 | .d (.lit (.string s))=>
  let h:=hi.getD s.size
  let l:=lo.getD 0
  if 0<=l/\l<=h/\h<=s.size then some (.d (.lit (.string (s.extract l.toNat h.toNat))))else none
 | _=>none
 else match x with
 | .d (.lit (.slice none 0 0))=>
  if 0<=lo.getD 0/\lo.getD 0<=hi.getD 0/\hi.getD 0<=0 then some x else none
 | .osl sz' id off len=>
  let h:=hi.getD len
  let l:=lo.getD 0
  if sz'=sz/\0<=l/\l<=h/\h<=len then some (.osl sz id (off+l.toNat) (h.toNat - l.toNat))else none
 | .d (.sl sz' rows)=>
  let h:=hi.getD rows.length
  let l:=lo.getD 0
  if sz'=sz/\0<=l/\l<=h/\h<=rows.length then some (.d (.sl sz ((rows.drop l.toNat).take (h.toNat - l.toNat))))else none
 | _=>none
def q5s(str:Bool)(sz:Nat)(x:C)(l u:Int)(h:Heap):Option (C×List Nat):=
 match str,x with
 | false, .osl sz' id off _=>
  match look h id with
  | some (.arr _ rows)=>if sz'=sz/\0<=l/\l<=u/\off+u.toNat<=rows.length then some (.osl sz id (off+l.toNat) (u.toNat - l.toNat), [id])else none
  | some (.cap _ _ cp)=>if sz'=sz/\0<=l/\l<=u/\off+u.toNat<=cp then some (.osl sz id (off+l.toNat) (u.toNat - l.toNat), [id])else none
  | _=>none
 | _,_=>none
def evSl3(sz:Nat)(x:C)(l u m:Int)(nxt:Nat):Option C:=
 match x with
 | .osl sz' _ _ len=>if sz'=sz/\0<=l/\l<=u/\u<=m/\m<=len then some (.osl sz nxt 0 (u.toNat - l.toNat))else none
 | _=>none
def q64(zero:List Value)(x:C)(h:Heap):Option (Upd×List Nat):=
 match x with
 | .osl sz id off len=>
  match look h id with
  | some (.arr _ rows)=>if sz=zero.length/\off+len<=rows.length then some ([(id,some (.arr sz (splice rows off (List.replicate len (litsD zero)))))], [id])else none
  | _=>none
 | _=>none
def q2l(off n:Nat):C->Option C
 | .op id o=>some (.op id (o+off))
 | .ep id r o=>some (.ep id r (o+off))
 | .d (.pt cells)=>if off+n<=cells.length then some (.d (.pt ((cells.drop off).take n)))else none
 | _=>none
def q1r(arr:Option Nat)(sz:Nat)(x:C)(i:Int):Option C:=
 match arr with
 | none=>
  match x with
  | .osl sz' id off len=>if 0<=i/\i < len/\sz'=sz then some (.ep id (off+i.toNat) 0)else none
  | .d (.sl sz' rows)=>if 0<=i/\sz'=sz then (match rows[i.toNat]? with | some r=>some (.d (.pt r)) | none=>none)else none
  | _=>none
 | some n=>
  if 0<=i/\i < n then
   match x with
   | .op id o=>some (.op id (o+i.toNat * sz))
   | .ep id r o=>some (.ep id r (o+i.toNat * sz))
   | .d (.pt cells)=>if i.toNat * sz+sz<=cells.length then some (.d (.pt ((cells.drop (i.toNat * sz)).take sz)))else none
   | _=>none
  else none
def evLen:Bool->C->Option Int
 | true, .d (.lit (.string s))=>some s.size
 | false, .d (.lit (.slice none 0 0))=>some 0
 | false, .osl _ _ _ len=>some len
 | false, .d (.sl _ rows)=>some rows.length
 | _,_=>none
def q2u(sz:Nat)(h:Heap):C->Option (List (List D)×List Nat)
 | .d (.lit (.slice none 0 0))=>some ([], [])
 | .d (.sl sz' rows)=>if sz'=sz then some (rows, [])else none
 | .osl sz' id off len=>
  match look h id with
  | some (.arr _ rows) | some (.imm _ rows)=>if sz'=sz/\off+len<=rows.length then some ((rows.drop off).take len, [id])else none
  | _=>none
 | _=>none
def q52(sz:Nat)(s x:C)(h:Heap)(nxt:Nat):Res1:=
 match q2u sz h x with
 | none=>none
 | some (new,ids)=>
  match s with
  | .d (.lit (.slice none 0 0))=>
   if new.length<=lim then
    match new with
    | []=>some (.c s, [],ids,nxt)
    | new=>some (.c (.osl sz nxt 0 new.length), [(nxt,some (.arr sz new))],ids,nxt+1)
   else none
  | .osl sz' id off len=>
   match look h id with
   | some (.arr _ rows)=>
    if sz'=sz/\off+len<=rows.length/\len+new.length<=lim then
     some (.c (.osl sz nxt 0 (len+new.length)), [(id,none),(nxt,some (.arr sz ((rows.drop off).take len++new++rows.drop (off+len+new.length))))],id :: ids,nxt+1)
    else none
   | _=>none
  | _=>none
def q6g(sz:Nat)(dst src:C)(h:Heap):Option (Int×Upd×List Nat):=
 match dst,src with
 | .osl sz' id off len, .osl sz2 id2 off2 len2=>
  match look h id,look h id2 with
  | some (.cap _ rows cp),some (.arr _ rows2)=>
   if sz'=sz/\sz2=sz/\off<=rows.length/\off2+min len2 len<=rows2.length then
    some ((min len2 len:Nat), [(id,some (.cap sz (splice rows off ((rows2.drop off2).take (min len2 len))) cp))], [id,id2])
   else none
  | some (.cap _ rows cp),some (.cap _ rows2 _)=>
   if sz'=sz/\sz2=sz/\off<=rows.length/\off2+min len2 len<=rows2.length then
    some ((min len2 len:Nat), [(id,some (.cap sz (splice rows off ((rows2.drop off2).take (min len2 len))) cp))], [id,id2])
   else none
  | _,_=>none
 | _,_=>none
def evApm(zero:List Value)(x:C)(k:Int)(h:Heap)(nxt:Nat):Res1:=
 match x with
 | .osl sz' id off len=>
  match look h id with
  | some (.cap _ rows cp)=>
   if sz'=zero.length/\0<=k/\len+k.toNat<=lim/\off+len<=rows.length/\cp < off+len+k.toNat then
    some (.c (.osl zero.length nxt 0 (len+k.toNat)), [(nxt,some (.arr zero.length ((rows.drop off).take len++List.replicate k.toNat (litsD zero))))], [id],nxt+1)
   else none
  | _=>none
 | _=>none
def evCap(x:C)(h:Heap):Option (Nat×List Nat):=
 match x with
 | .osl _ id off _=>match look h id with | some (.cap _ _ cp)=>some (cp - off, [id]) | _=>none
 | _=>none
def evOvl(x y:C)(h:Heap):Option (List Nat):=
 match x,y with
 | .osl _ a _ _, .osl _ b _ _=>
  match look h a,look h b with
  | some (.arr _ _),some (.cap _ _ cp)=>if a≠b/\0 < cp then some [a,b]else none
  | _,_=>none
 | _,_=>none
def q4z(sz:Nat)(dst src:C)(h:Heap):Option (Int×Upd×List Nat):=
 match q2u sz h src,dst with
 | some (_,ids), .d (.lit (.slice none 0 0))=>some (0, [],ids)
 | some (new,ids), .osl sz' id off len=>
  match look h id with
  | some (.arr _ rows)=>
   if sz'=sz/\off+len<=rows.length then
    some ((min new.length len:Nat), [(id,some (.arr sz (splice rows off (new.take len))))],id :: ids)
   else none
  | _=>none
 | _,_=>none
def q1p(h:Heap):List TV->List Bool->Option (List A×List Nat×List (C×List Nat×List Nat))
 | [],_=>some ([], [], [])
 | v :: vs,ms=>
  match q1p h vs ms.tail with
  | none=>none
  | some (as,ids,lent)=>
   if ms.headD false then
    match v with
    | .c c=>match packC h 300 c with | some (t,own,rd)=>some (.mt t :: as,ids,(c,own,rd) :: lent) | none=>none
    | _=>none
   else match v with
    | .c c=>match viewC h 300 c with | some (x,i)=>some (.d x :: as,i++ids,lent) | none=>none
    | .agg cs=>match q0r h cs with | some (xs,i)=>some (.agg xs :: as,i++ids,lent) | none=>none
    | .tup _=>none
def q12(nxt:Nat):List (C×List Nat×List Nat)->List T->Option (Upd×Nat)
 | [], []=>some ([],nxt)
 | (_, [],_) :: r, .d _ :: ts=>q12 nxt r ts
 | (.op id 0,own,_) :: r, .pt ts' :: ts=>
  match q12 (unL nxt ts').2.2 r ts with
  | some (w,k)=>if own.contains id then some ((id,some (.box (unL nxt ts').1)) :: (unL nxt ts').2.1++own.map (λi=>(i,none))++w,k)else none
  | none=>none
 | (.osl sz id 0 len,own,_) :: r, .sl sz' rows :: ts=>
  if rows.length=len/\sz'=sz/\own= [id]then
   match q12 nxt r ts with
   | some (w,k)=>some ((id,some (.arr sz rows)) :: w,k)
   | none=>none
  else none
 | (.osl sz id 0 len,own,_) :: r, .sls szi rows :: ts=>
  if rows.length=len/\sz=1/\own= [id]then
   match q12 nxt r ts with
   | some (w,k)=>some ((id,some (.nst szi (rows.map q51))) :: w,k)
   | none=>none
  else none
 | (_,own,_) :: r, .gone :: ts=>
  match q12 nxt r ts with
  | some (w,k)=>some (own.map (λi=>(i,none))++w,k)
  | none=>none
 | _,_=>none
def litR:R->Bool
 | .c (.d (.lit _))=>true
 | .agg ts=>ts.all λ| .d (.lit _)=>true | _=>false
 | _=>false
def retV:List TV->TV
 | [v]=>v
 | vs=> .tup vs
def q0t{α:Type}:List (Option α)->Option (List α)
 | []=>some []
 | some x :: r=>match q0t r with | some xs=>some (x :: xs) | none=>none
 | none :: _=>none
def q0s(h:Heap):List (C×List Nat×List Nat)->Bool
 | []=>true
 | (.osl _ id off len,_) :: r=>(match look h id with | some (.arr _ rows)=>off == 0 && len == rows.length | some (.nst _ slots)=>off == 0 && len == slots.length | _=>false) && q0s h r
 | _ :: r=>q0s h r
def qap(call:Call)(ro:Bool)(muts:List Bool)(f:Option TV)(vs:List (Option TV))(h:Heap)(nxt:Nat):Res1:=
 match (match f with | some (.c (.d (.fn f caps)))=>some (f,caps.map C.d) | some (.c (.ofn f caps))=>some (f,caps) | _=>none),q0t vs with
 | some (f,caps),some vs=>
  match q1p h (vs++caps.map TV.c) muts with
  | none=>none
  | some (as,ids,lent)=>
   if q0s h lent/\(lent.flatMap (·.2.1)).Nodup/\(lent.flatMap (·.2.1)).all (λi=> !ids.contains i)then
    match call f as with
    | none=>none
    | some (rs,outs)=>
     if ro then
      if rs.all litR/\lent.isEmpty/\outs.isEmpty then
       let (vs,u,m):=unRs nxt rs
       some (retV vs,u,ids,m)
      else none
     else
      match q0o h ids ids with
      | none=>none
      | some fu=>
       match q12 nxt lent outs with
       | none=>none
       | some (bu,m)=>
        let (vs,u,k):=unRs m rs
        some (retV vs,u++bu++fu,ids++lent.flatMap (·.2.2),k)
   else none
 | _,_=>none
def evNil:Nat->C->Option Bool
 | 0, .d (.lit (.slice none 0 0))=>some true
 | 0, .d (.sl _ _) | 0, .osl _ _ _ _=>some false
 | 1, .d (.lit (.pointer none))=>some true
 | 1, .d (.pt _) | 1, .ep _ _ _ | 1, .op _ _=>some false
 | 2, .d (.lit .nilFunc)=>some true
 | 2, .d (.fn _ _) | 2, .ofn _ _=>some false
 | _,_=>none
def dsOf:List C->Option (List D)
 | []=>some []
 | .d x :: r=>match dsOf r with | some l=>some (x :: l) | none=>none
 | _=>none
abbrev MEnt:=List Value×List D×Nat
def findE(ks:List Kd)(key:List Value):List MEnt->Nat->Option (Option Nat)
 | [],_=>some none
 | e :: r,i=>match eqVs ks key e.1 with | some true=>some (some i) | some false=>findE ks key r (i+1) | none=>none
def valTV(va:Bool)(ds:List D):Option TV:=if va then some (.agg (ds.map .d))else match ds with | [x]=>some (.c (.d x)) | _=>none
def kOk1:Kd->Value->Bool
 | .i q, .int k _=>decide (k=q)
 | .b, .bool _=>true
 | .s, .string _=>true
 | _,_=>false
def kOk:List Kd->List Value->Bool
 | [], []=>true
 | k :: ks,x :: xs=>kOk1 k x && kOk ks xs
 | _,_=>false
def keyTV(ka:Bool)(ks:List Kd):TV->Option (List Value)
 | .agg cs=>if ka=true/\cs.length=ks.length then (match q47 cs with | some l=>if kOk ks l=true then some l else none | none=>none)else none
 | .c x=>if ka=false/\ks.length=1 then (match q47 [x]with | some l=>if kOk ks l=true then some l else none | none=>none)else none
 | .tup _=>none
def q1u(ka:Bool)(ks:List Kd)(va:Bool)(zero:List Value)(ok:Bool)(m:C)(k:TV)(h:Heap):Option (TV×List Nat):=
 match m,keyTV ka ks k with
 | .d (.lit (.map none)),some _=>match valTV va (litsD zero)with | some v=>some (if ok then .tup [v,lv (.bool false)]else v, []) | none=>none
 | .om id,some key=>
  match look h id with
  | some (.map ka' va' es _)=>
   if ka'=ka/\va'=va then
    match findE ks key es 0 with
    | some (some i)=>match valTV va (es.getD i default).2.1 with | some v=>some (if ok then .tup [v,lv (.bool true)]else v, [id]) | none=>none
    | some none=>match valTV va (litsD zero)with | some v=>some (if ok then .tup [v,lv (.bool false)]else v, [id]) | none=>none
    | none=>none
   else none
  | _=>none
 | _,_=>none
def q4s(ka:Bool)(ks:List Kd)(va:Bool)(zero:List Value)(m:C)(k:TV)(h:Heap):Option (TV×Upd×List Nat):=
 match m,keyTV ka ks k with
 | .om id,some key=>
  match look h id with
  | some (.map ka' va' es clock)=>
   if ka'=ka/\va'=va then
    match findE ks key es 0 with
    | some (some i)=>match valTV va (es.getD i default).2.1 with | some v=>some (.tup [v,lv (.int .i64 (es.getD i default).2.2)], [(id,some (.map ka va es clock))], [id]) | none=>none
    | some none=>match valTV va (litsD zero)with | some v=>some (.tup [v,lv (.int .i64 clock)], [(id,some (.map ka va (es++ [(key,litsD zero,clock)]) (clock+1)))], [id]) | none=>none
    | none=>none
   else none
  | _=>none
 | _,_=>none
def qd7:TV->Bool
 | .agg _=>true
 | _=>false
def q4a(va:Bool)(n:Nat)(m:C)(st:Option TV)(x:TV)(h:Heap):Option (Upd×List Nat):=
 match m,intOf? st,(cellsOf x).bind dsOf with
 | .om id,some s,some ds=>
  match look h id with
  | some (.map ka va' es clock)=>
   if va'=va/\ds.length=n/\qd7 x=va then
    match es.findIdx? (λe=>decide ((e.2.2:Int)=s))with
    | some i=>some ([(id,some (.map ka va (es.set i ((es.getD i default).1,ds,(es.getD i default).2.2)) clock))], [id])
    | none=>none
   else none
  | _=>none
 | _,_,_=>none
def ev1(call:Call)(k:K)(vs:List (Option TV))(h:Heap)(nxt:Nat):Res1:=
 match k,vs with
 | .mv, [some x]=>some (x, [], [],nxt)
 | .pick, [some (.c (.d (.lit (.bool c)))),a,b]=>match (if c then a else b)with | some v=>some (v, [], [],nxt) | none=>none
 | .alloc zero, []=>some (.c (.op nxt 0), [(nxt,some (.box (lits zero)))], [],nxt+1)
 | .box, [some x]=>match cellsOf x with | some cs=>some (.c (.op nxt 0), [(nxt,some (.box cs))], [],nxt+1) | none=>none
 | .build zero places,vs=>
  match q0t vs with
  | some xs=>match fillC (lits zero) (places.zip xs)with | some cs=>some (.agg cs, [], [],nxt) | none=>none
  | none=>none
 | .buildSlice sz len zero places,vs=>
  match q0t vs with
  | some xs=>
   match fillC (lits zero) ((places.map λi=>(i * sz,sz)).zip xs)with
   | some cs=>
    match q0r h cs with
    | some (ds,ids)=>
     match q0o h ids ids with
     | some u=>some (.c (.osl sz nxt 0 len),(nxt,some (.arr sz (q4u sz len ds))) :: u,ids,nxt+1)
     | none=>none
    | none=>none
   | none=>none
  | none=>none
 | .load agg n, [some (.c p)]=>match q20 agg n p h with | some (v,ids)=>some (v, [],ids,nxt) | none=>none
 | .loadN, [some (.c p)]=>match q20 false 1 p h with | some (v,ids)=>some (v, [],ids,nxt) | none=>q3o false 1 p h nxt
 | .store n, [some (.c p),some v]=>match q44 n p v h with | some (u,ids)=>some (.tup [],u,ids,nxt) | none=>none
 | .nilCheck, [some (.c x)]=>
  match x with
  | .d (.pt _) | .d (.fn _ _) | .ep _ _ _ | .op _ _ | .ofn _ _=>some (.c x, [], [],nxt)
  | _=>none
 | .bin op, [some (.c (.d (.lit x))),some (.c (.d (.lit y)))]=>match binV op x y with | some v=>some (lv v, [], [],nxt) | none=>none
 | .eqBool neg, [some (.c (.d (.lit (.bool x)))),some (.c (.d (.lit (.bool y))))]=>some (lv (.bool (if neg then !(x == y)else x == y)), [], [],nxt)
 | .eqNil kind neg, [some (.c x)]=>match evNil kind x with | some b=>some (lv (.bool (if neg then !b else b)), [], [],nxt) | none=>none
 | .eqAgg neg ks, [some (.agg xs),some (.agg ys)]=>
  match q47 xs,q47 ys with
  | some xs,some ys=>match eqVs ks xs ys with | some b=>some (lv (.bool (if neg then !b else b)), [], [],nxt) | none=>none
  | _,_=>none
 | .un op, [some (.c (.d (.lit x)))]=>match unV op x with | some v=>some (lv v, [], [],nxt) | none=>none
 | .convInt k, [some (.c (.d (.lit (.int _ n))))]=>some (lv (.int k (k.wrap n)), [], [],nxt)
 | .convSame, [some (.c (.d (.lit (.string s))))]=>some (lv (.string s), [], [],nxt)
 | .mkFn f,vs=>
  match q0t vs with
  | some xs=>match q0t (xs.map λ| .c c=>some c | _=>none)with | some cs=>some (.c (.ofn f cs), [], [],nxt) | none=>none
  | none=>none
 | .makeSlice zero, [l,c]=>
  match intOf? l,intOf? c with
  | some l,some c=>
   if 0<=l/\l<=c/\c<=lim then
    some (.c (.osl zero.length nxt 0 l.toNat), [(nxt,some (.arr zero.length (List.replicate l.toNat (litsD zero))))], [],nxt+1)
   else none
  | _,_=>none
 | .mkNst szi, [l,c]=>
  match intOf? l,intOf? c with
  | some l,some c=>if 0<=l/\l<=c/\c<=lim then some (.c (.osl 1 nxt 0 l.toNat), [(nxt,some (.nst szi (List.replicate l.toNat .nil)))], [],nxt+1)else none
  | _,_=>none
 | .slice str sz lo hi,some (.c x) :: r=>
  match lo,hi,r with
  | false,false, []=>match q13 str sz x none none with | some y=>some (.c y, [], [],nxt) | none=>none
  | true,false, [l]=>match intOf? l with | some l=>(match q13 str sz x (some l) none with | some y=>some (.c y, [], [],nxt) | none=>none) | none=>none
  | false,true, [u]=>match intOf? u with | some u=>(match q13 str sz x none (some u)with | some y=>some (.c y, [], [],nxt) | none=>(match q5s str sz x 0 u h with | some (y,ids)=>some (.c y, [],ids,nxt) | none=>none)) | none=>none
  | true,true, [l,u]=>
   match intOf? l,intOf? u with
   | some l,some u=>match q13 str sz x (some l) (some u)with
    | some y=>some (.c y, [], [],nxt)
    | none=>(match q5s str sz x l u h with | some (y,ids)=>some (.c y, [],ids,nxt) | none=>none)
   | _,_=>none
  | _,_,_=>none
 | .slice3 sz, [some (.c x),l,u,m]=>
  match intOf? l,intOf? u,intOf? m with
  | some l,some u,some m=>match evSl3 sz x l u m nxt with | some y=>some (.c y, [], [],nxt+1) | none=>none
  | _,_,_=>none
 | .clear zero, [some (.c x)]=>match q64 zero x h with | some (u,ids)=>some (.tup [],u,ids,nxt) | none=>none
 | .fieldAddr off n, [some (.c x)]=>match q2l off n x with | some y=>some (.c y, [], [],nxt) | none=>none
 | .field agg off n, [some (.agg cs)]=>match ldC agg n (cs.drop off)with | some v=>some (v, [], [],nxt) | none=>none
 | .indexAddr arr sz, [some (.c x),i]=>
  match intOf? i with
  | some i=>match q1r arr sz x i with | some y=>some (.c y, [], [],nxt) | none=>none
  | none=>none
 | .indexStr, [some (.c (.d (.lit (.string s)))),i]=>
  match intOf? i with
  | some i=>match (if 0<=i then s[i.toNat]? else none)with | some b=>some (lv (.int .u8 b.toNat), [], [],nxt) | none=>none
  | none=>none
 | .index agg len sz, [some (.agg cs),i]=>
  match intOf? i with
  | some i=>if 0<=i/\i < len then match ldC agg sz (cs.drop (i.toNat * sz))with | some v=>some (v, [], [],nxt) | none=>none else none
  | none=>none
 | .extract i, [some (.tup xs)]=>match xs[i]? with | some v=>some (v, [], [],nxt) | none=>none
 | .len str, [some (.c x)]=>match evLen str x with | some n=>some (lv (.int .i64 n), [], [],nxt) | none=>none
 | .minmax m,some (.c (.d (.lit x))) :: r=>match mmL m x r with | some v=>some (lv v, [], [],nxt) | none=>none
 | .append sz, [some (.c s),some (.c x)]=>q52 sz s x h nxt
 | .copy sz, [some (.c d),some (.c s)]=>match q4z sz d s h with | some (i,u,ids)=>some (lv (.int .i64 i),u,ids,nxt) | none=>(match q6g sz d s h with | some (i,u,ids)=>some (lv (.int .i64 i),u,ids,nxt) | none=>none)
 | .capK, [some (.c x)]=>match evCap x h with | some (n,ids)=>some (lv (.int .i64 n), [],ids,nxt) | none=>none
 | .apm zero, [some (.c x),some (.c (.d (.lit (.int _ k))))]=>evApm zero x k h nxt
 | .ovl, [some (.c x),some (.c y)]=>match evOvl x y h with | some ids=>some (lv (.bool false), [],ids,nxt) | none=>none
 | .call ro muts,f :: vs=>qap call ro muts f vs h nxt
 | .makeMap ka va, []=>some (.c (.om nxt), [(nxt,some (.map ka va [] 0))], [],nxt+1)
 | .lookup ka ks va zero ok, [some (.c m),some k]=>match q1u ka ks va zero ok m k h with | some (v,ids)=>some (v, [],ids,nxt) | none=>none
 | .mapEntry ka ks va zero, [some (.c m),some k]=>match q4s ka ks va zero m k h with | some (v,u,ids)=>some (v,u,ids,nxt) | none=>none
 | .entryStore va n, [some (.c m),s,some x]=>match q4a va n m s x h with | some (u,ids)=>some (.tup [],u,ids,nxt) | none=>none
 | _,_=>none
def wants(e:Env):Option (Nat×Bool)->Option Bool
 | none=>some true
 | some (t,b)=>match fnd e t with | some (.c (.d (.lit (.bool x))))=>some (x == b) | some (.tup [])=>some false | _=>none
def put(e:Env)(dst:Option Nat)(v:TV):Env:=match dst with | some d=>(d,v) :: e | none=>e
def drop(e:Env)(dst:Option Nat):Env:=put e dst (.tup [])
def room:Nat:=1000000
def q4n(calls:Nat->Call)(base:Nat):List COp->Nat->Env->Heap->Option (Env×Heap×List (List Nat×List Nat))
 | [],_,e,h=>some (e,h, [])
 | o :: r,i,e,h=>
  match wants e o.guard with
  | some true=>
   match ev1 (calls i) o.k (o.args.map (opv e)) h (base+room * i)with
   | some (v,u,ids,n)=>
    if n<=base+room * (i+1)then
     match q4n calls base r (i+1) (put e o.dst v) (u++h)with
     | some (e,h,tr)=>some (e,h,(ids,u.map (·.1)) :: tr)
     | none=>none
    else none
   | none=>none
  | some false=>
   match q4n calls base r (i+1) (drop e o.dst) h with
   | some (e,h,tr)=>some (e,h,([], []) :: tr)
   | none=>none
  | none=>none
def apart(a b:List Nat×List Nat):Bool:=
 a.2.all (λi=> !b.1.contains i && !b.2.contains i) && b.2.all (λi=> !a.1.contains i)
def qn5(tr:List (List Nat×List Nat))(i j:Nat):Bool:=
 match tr[i]?,tr[j]? with
 | some a,some b=>apart a b || (match a with | ([id], [])=>((tr.take j).drop (i+1)).all (λx=> !x.2.contains id) | _=>false)
 | _,_=>true
def dynOk(tr:List (List Nat×List Nat))(dyn:List (Nat×Nat)):Bool:=
 dyn.all λ(i,j)=>if 1000<=j then qn5 tr i (j - 1000)else match tr[i]?,tr[j]? with | some a,some b=>apart a b | _,_=>true
def idsC:C->List Nat
 | .d _=> []
 | .osl _ id _ _ | .ep id _ _ | .op id _ | .om id=> [id]
 | .ofn _ caps=>idsL caps
where idsL:List C->List Nat
 | []=> []
 | c :: r=>idsC c++idsL r
def idsTV:TV->List Nat
 | .c x=>idsC x
 | .agg cs=>idsC.idsL cs
 | .tup xs=>idsT xs
where idsT:List TV->List Nat
 | []=> []
 | x :: r=>idsTV x++idsT r
inductive RV where
 | tmp (t:Nat)
 | cell (t:Nat) (agg:Bool) (n:Nat)
 deriving Inhabited
def enter:List A->Nat->Nat->Env×Heap×Nat×List C
 | [],_,n=>([], [],n, [])
 | .d x :: r,i,n=>let (e,h,m,l):=enter r (i+1) n; ((i, .c (.d x)) :: e,h,m,l)
 | .agg xs :: r,i,n=>let (e,h,m,l):=enter r (i+1) n; ((i, .agg (xs.map .d)) :: e,h,m,l)
 | .mt t :: r,i,n=>let (c,u,k):=unC n t; let (e,h,m,l):=enter r (i+1) k; ((i, .c c) :: e,u++h,m,c :: l)
def resTV(s:St):RV->Option TV
 | .tmp t=>fnd s.env t
 | .cell t agg n=>match fnd s.env t with | some (.c p)=>(match q20 agg n p s.heap with | some (v,_)=>some v | none=>none) | _=>none
def packR(h:Heap):TV->Option (R×List Nat)
 | .c c=>match packC h 300 c with | some (t,ids,_)=>some (.c t,ids) | none=>none
 | .agg cs=>match packL h 300 cs with | some (ts,ids,_)=>some (.agg ts,ids) | none=>none
 | .tup _=>none
def qbi(h:Heap):List TV->Option (List R×List Nat)
 | []=>some ([], [])
 | v :: vs=>match packR h v,qbi h vs with | some (r,a),some (rs,b)=>some (r :: rs,a++b) | _,_=>none
structure Fn where
 np:Nat
 ntmps:Nat
 rvs:List RV
 body:CC
 deriving Inhabited
end Go.Ev

namespace Go.Ev
inductive RD (S:Nat->Prop) (w:World):D->Value->Prop
 | lit {v:Value} (h:plain v=true):RD S w (.lit v) v
 | sl {sz:Nat} {rows:List (List D)} {b off cap:Nat} (f:Nat->Nat->Value) (hb:S b) (hsz:0 < sz) (hcap:rows.length<=cap)
   (hrow:∀(i:Nat) (r:List D),rows[i]? =some r->r.length=sz)
   (hcell:∀(i:Nat) (r:List D),rows[i]? =some r->∀(j:Nat) (x:D),r[j]? =some x->w.cell? ⟨b,off+i * sz+j,none⟩=some (f i j))
   (hrd:∀(i:Nat) (r:List D),rows[i]? =some r->∀(j:Nat) (x:D),r[j]? =some x->RD S w x (f i j)):
   RD S w (.sl sz rows) (.slice (some ⟨b,off,none⟩) rows.length cap)
 | sl0 {sz:Nat} {a:Addr} (hsz:0 < sz):RD S w (.sl sz []) (.slice (some a) 0 0)
 | pt {cells:List D} {b off:Nat} (f:Nat->Value) (hb:S b)
   (hcell:∀(j:Nat) (x:D),cells[j]? =some x->w.cell? ⟨b,off+j,none⟩=some (f j))
   (hrd:∀(j:Nat) (x:D),cells[j]? =some x->RD S w x (f j)):
   RD S w (.pt cells) (.pointer (some ⟨b,off,none⟩))
 | fn {g:FuncId} {caps:List D} {vs:Array Value} (hlen:caps.length=vs.size)
   (hrd:∀(j:Nat) (x:D),caps[j]? =some x->RD S w x (vs.getD j undef)):
   RD S w (.fn g caps) (.func (.func g) #[] vs)
structure Stp (S:Nat->Prop) (w:World) (S':Nat->Prop) (w':World):Prop where
 sub:∀b,S b->S' b
 same:∀b,S b->w'.heap[b]? =w.heap[b]?
theorem Stp.refl(S:Nat->Prop)(w:World):Stp S w S w:=⟨λ_ h=>h,λ_ _=>rfl⟩
theorem Stp.trans{S S' S'':Nat->Prop}{w w' w'':World}(a:Stp S w S' w')(b:Stp S' w' S'' w''):Stp S w S'' w'':=
 ⟨λx h=>b.sub x (a.sub x h),λx h=>(b.same x (a.sub x h)).trans (a.same x h)⟩
theorem cell?_same{w w':World}{b:Nat}(h:w'.heap[b]? =w.heap[b]?)(off:Nat):w'.cell? ⟨b,off,none⟩=w.cell? ⟨b,off,none⟩:=by
 simp [World.cell?,h]
theorem RD.mono{S S':Nat->Prop}{w w':World}(hs:Stp S w S' w'){x:D}{v:Value}(h:RD S w x v):RD S' w' x v:=by
 induction h with
 | lit h=>exact .lit h
 | sl f hb hsz hcap hrow hcell hrd ih=>exact .sl f (hs.sub _ hb) hsz hcap hrow (λi r hi j x hj=>(cell?_same (hs.same _ hb) _).trans (hcell i r hi j x hj)) ih
 | sl0 h=>exact .sl0 h
 | pt f hb hcell hrd ih=>exact .pt f (hs.sub _ hb) (λj x hj=>(cell?_same (hs.same _ hb) _).trans (hcell j x hj)) ih
 | fn hlen hrd ih=>exact .fn hlen ih
structure Loc where
 blk:Nat
 base:Nat
 sz:Nat
 ext:Nat
 cap:Nat
 deriving Inhabited
inductive RC (S:Nat->Prop) (w:World) (Kn:Nat->Prop) (φ:Nat->Loc):C->Value->Prop
 | d {x:D} {v:Value} (h:RD S w x v):RC S w Kn φ (.d x) v
 | osl {id off len cap addr:Nat} (hk:Kn id) (hcap:len<=cap) (haddr:0 < cap->addr=(φ id).base+off * (φ id).sz) (hext:addr+cap * (φ id).sz<=(φ id).ext) (hc:off+cap=(φ id).cap):
   RC S w Kn φ (.osl (φ id).sz id off len) (.slice (some ⟨(φ id).blk,addr,none⟩) len cap)
 | ep {id row off:Nat} (hk:Kn id):RC S w Kn φ (.ep id row off) (.pointer (some ⟨(φ id).blk,(φ id).base+row * (φ id).sz+off,none⟩))
 | op {id off:Nat} (hk:Kn id):RC S w Kn φ (.op id off) (.pointer (some ⟨(φ id).blk,(φ id).base+off,none⟩))
 | ofn {g:FuncId} {caps:List C} {vs:Array Value} (hlen:caps.length=vs.size)
   (hrc:∀(j:Nat) (x:C),caps[j]? =some x->RC S w Kn φ x (vs.getD j undef)):
   RC S w Kn φ (.ofn g caps) (.func (.func g) #[] vs)
 | om {id:Nat} (hk:Kn id):RC S w Kn φ (.om id) (.map (some (φ id).blk))
structure Ren (Kn : Nat → Prop) (φ : Nat → Loc) (Kn' : Nat → Prop) (φ' : Nat → Loc) : Prop where
 sub:∀i,Kn i->Kn' i
 same : ∀ i, Kn i → φ' i = φ i
theorem Ren.refl(Kn:Nat->Prop)(φ:Nat->Loc):Ren Kn φ Kn φ:=⟨λ_ h=>h,λ_ _=>rfl⟩
theorem RC.mono {S S' : Nat → Prop} {w w' : World} {Kn Kn' : Nat → Prop} {φ φ' : Nat → Loc} (hs : Stp S w S' w') (hr : Ren Kn φ Kn' φ') {x : C} {v : Value}
  (h : RC S w Kn φ x v) : RC S' w' Kn' φ' x v := by
 induction h with
 | d h=>exact .d (h.mono hs)
 | osl hk hcap haddr hext hc=>rw [<- hr.same _ hk]at hext haddr hc ⊢; exact .osl (hr.sub _ hk) hcap haddr hext hc
 | ep hk=>rw [<- hr.same _ hk]; exact .ep (hr.sub _ hk)
 | op hk=>rw [<- hr.same _ hk]; exact .op (hr.sub _ hk)
 | ofn hlen hrc ih=>exact .ofn hlen ih
 | om hk=>rw [<- hr.same _ hk]; exact .om (hr.sub _ hk)
inductive RTV (S:Nat->Prop) (w:World) (Kn:Nat->Prop) (φ:Nat->Loc):TV->Value->Prop
 | c {x:C} {v:Value} (h:RC S w Kn φ x v):RTV S w Kn φ (.c x) v
 | agg {cs:List C} {arr:Array Value} (hlen:cs.length=arr.size) (h:∀(i:Nat) (x:C),cs[i]? =some x->RC S w Kn φ x (arr.getD i undef)):RTV S w Kn φ (.agg cs) (.agg arr)
 | tup {xs:List TV} {arr:Array Value} (hlen:xs.length=arr.size) (h:∀(i:Nat) (x:TV),xs[i]? =some x->RTV S w Kn φ x (arr.getD i undef)):RTV S w Kn φ (.tup xs) (.tuple arr)
theorem RTV.mono {S S' : Nat → Prop} {w w' : World} {Kn Kn' : Nat → Prop} {φ φ' : Nat → Loc} (hs : Stp S w S' w') (hr : Ren Kn φ Kn' φ') {x : TV} {v : Value}
  (h : RTV S w Kn φ x v) : RTV S' w' Kn' φ' x v := by
 induction h with
 | c h=>exact .c (h.mono hs hr)
 | agg hlen h=>exact .agg hlen λi x hi=>(h i x hi).mono hs hr
 | tup hlen h ih=>exact .tup hlen ih
def one:Value->Bool
 | .agg _ | .tuple _=>false
 | _=>true
theorem q9p{v:Value}(h:plain v=true):one v=true:=by
 cases v <;> simp_all [plain,one]
theorem RD.one{S:Nat->Prop}{w:World}{x:D}{v:Value}(h:RD S w x v):one v=true:=by
 cases h with
 | lit h=>exact q9p h
 | _=>rfl
theorem RC.one{S:Nat->Prop}{w:World}{Kn:Nat->Prop}{φ:Nat->Loc}{x:C}{v:Value}(h:RC S w Kn φ x v):one v=true:=by
 cases h with
 | d h=>exact h.one
 | _=>rfl
theorem q9t{v:Value}(h:one v=true):v.cells=#[v]:=by
 cases v <;> simp_all [Ev.one,Value.cells]
def Own(w:World)(b:Nat)(arr:Array Value):Prop:=∃t,w.heap[b]? =some (.cells arr t (0,0))
theorem Own.cell{w:World}{b:Nat}{arr:Array Value}(h:Own w b arr)(i:Nat):w.cell? ⟨b,i,none⟩=arr[i]? :=by
 obtain ⟨t,h⟩:=h; simp [World.cell?,h]
theorem Own.lt{w:World}{b:Nat}{arr:Array Value}(h:Own w b arr):b < w.heap.size:=by
 obtain ⟨t,h⟩:=h; exact (Array.getElem?_eq_some_iff.1 h).1
theorem Own.frozen{w:World}{b:Nat}{arr:Array Value}(h:Own w b arr)(i:Nat)(s:Option Nat):w.frozen? ⟨b,i,s⟩=false:=by
 obtain ⟨t,h⟩:=h; simp [World.frozen?,h]
theorem Own.of_same{w w':World}{b:Nat}{arr:Array Value}(h:Own w b arr)(hs:w'.heap[b]? =w.heap[b]?):Own w' b arr:=by
 obtain ⟨t,h⟩:=h; exact ⟨t,hs.trans h⟩
def RowsAt(S:Nat->Prop)(w:World)(sz:Nat)(get:Nat->Option Value)(base:Nat)(rows:List (List D)):Prop:=
 (∀ (i:Nat) (r:List D),rows[i]? =some r->r.length=sz)/\
 ∀(i:Nat) (r:List D),rows[i]? =some r->∀(j:Nat) (x:D),r[j]? =some x->∃v,get (base+i * sz+j)=some v/\RD S w x v
def isOwn:Ob->Bool
 | .arr _ _ | .box _ | .map _ _ _ _ | .cap _ _ _ | .nst _ _=>true
 | _=>false
def RwF(S:Nat->Prop)(w:World)(sz:Nat)(rows:List (List D))(v:Value)(b:Nat):Prop:=
 ∃(addr cap:Nat) (arr:Array Value),v= .slice (some ⟨b,addr,none⟩) rows.length cap/\0 < sz/\Own w b arr/\rows.length<=cap/\addr+cap * sz<=arr.size/\RowsAt S w sz (λi=>arr[i]?) addr rows
inductive RSlot (S K:Nat->Prop) (w:World) (Kn:Nat->Prop) (φ:Nat->Loc) (sz:Nat):Slot->Value->Prop
 | nil:RSlot S K w Kn φ sz .nil (.slice none 0 0)
 | own {rows:List (List D)} {v:Value} {b:Nat} (h:RwF S w sz rows v b) (hS:¬S b) (hK:¬K b):RSlot S K w Kn φ sz (.own rows) v
 | out {id len:Nat} {v:Value} (h:RC S w Kn φ (.osl sz id 0 len) v):RSlot S K w Kn φ sz (.out id len) v
def blkV:Value->Option Nat
 | .slice (some a) _ _=>some a.block
 | _=>none
def PAt(w:World)(l:Loc)(slots:List Slot)(k x:Nat):Prop:=∃rows v,slots[k]? =some (.own rows)/\w.cell? ⟨l.blk,l.base+k,none⟩=some v/\blkV v=some x
def RKey(ka:Bool)(k:List Value)(v:Value):Prop:=(∀ x∈k,plain x=true)/\if ka then v= .agg k.toArray else k= [v]
def RVal(S:Nat->Prop)(w:World)(va:Bool)(ds:List D)(v:Value):Prop:=
 if va then ∃arr:Array Value,v= .agg arr/\ds.length=arr.size/\∀(i:Nat) (x:D),ds[i]? =some x->RD S w x (arr.getD i undef)else ∃x,ds= [x]/\RD S w x v
theorem RVal.mono{S S':Nat->Prop}{w w':World}(hs:Stp S w S' w'){va:Bool}{ds:List D}{v:Value}(h:RVal S w va ds v):RVal S' w' va ds v:=by
 unfold RVal at h ⊢
 split
 ·rename_i hv; rw [if_pos hv]at h
  obtain ⟨arr,h1,h2,h3⟩:=h
  exact ⟨arr,h1,h2,λi x hi=>(h3 i x hi).mono hs⟩
 ·rename_i hv; rw [if_neg hv]at h
  obtain ⟨x,h1,h2⟩:=h
  exact ⟨x,h1,h2.mono hs⟩
inductive RO (S:Nat->Prop) (K:Nat->Prop) (w:World) (Kn:Nat->Prop) (φ:Nat->Loc) (l:Loc):Ob->Prop
 | arr {sz:Nat} {rows:List (List D)} {arr:Array Value} (hsz:0 < sz) (hl:l.sz=sz) (hS:¬S l.blk) (hK:¬K l.blk) (ho:Own w l.blk arr) (hext:arr.size=l.ext)
   (hfit:l.base+rows.length * sz<=l.ext) (hr:RowsAt S w sz (λi=>arr[i]?) l.base rows) (hv:rows.length<=l.cap):RO S K w Kn φ l (.arr sz rows)
 | imm {sz:Nat} {rows:List (List D)} (hsz:0 < sz) (hl:l.sz=sz) (hS:S l.blk)
   (hr:RowsAt S w sz (λi=>w.cell? ⟨l.blk,i,none⟩) l.base rows):RO S K w Kn φ l (.imm sz rows)
 | box {cells:List C} {arr:Array Value} (hb:l.base=0) (hS:¬S l.blk) (hK:¬K l.blk) (ho:Own w l.blk arr) (hlen:cells.length=arr.size)
   (hr:∀(i:Nat) (x:C),cells[i]? =some x->RC S w Kn φ x (arr.getD i undef)):RO S K w Kn φ l (.box cells)
 | ibox {cells:List D} (hb:l.base=0) (hS:S l.blk)
   (hr:∀(i:Nat) (x:D),cells[i]? =some x->∃v,w.cell? ⟨l.blk,i,none⟩=some v/\RD S w x v):RO S K w Kn φ l (.ibox cells)
 | map {ka va:Bool} {es:List (List Value×List D×Nat)} {clock:Nat} {ms:Array MapEntry} (hS:¬S l.blk) (hK:¬K l.blk) (ho:w.heap[l.blk]? =some (.map ms clock)) (hlen:es.length=ms.size)
   (hr:∀(i:Nat) (e:List Value×List D×Nat) (m:MapEntry),es[i]? =some e->ms[i]? =some m->RKey ka e.1 m.key/\RVal S w va e.2.1 m.val/\m.born=e.2.2):RO S K w Kn φ l (.map ka va es clock)
 | cap {sz:Nat} {rows:List (List D)} {cp:Nat} {arr:Array Value} (hsz:0 < sz) (hl:l.sz=sz) (hS:¬S l.blk) (hK:¬K l.blk) (ho:Own w l.blk arr) (hext:arr.size=l.ext)
   (hfit:l.base+cp * sz<=l.ext) (hr:RowsAt S w sz (λi=>arr[i]?) l.base rows) (hv:rows.length<=cp) (hc:l.cap=cp):RO S K w Kn φ l (.cap sz rows cp)
 | nst {sz:Nat} {slots:List Slot} {arr:Array Value} (hsz:0 < sz) (hl:l.sz=1) (hS:¬S l.blk) (hK:¬K l.blk) (ho:Own w l.blk arr) (hext:arr.size=l.ext)
   (hfit:l.base+slots.length<=l.ext) (hr:∀(i:Nat) (s:Slot),slots[i]? =some s->∃v,arr[l.base+i]? =some v/\RSlot S K w Kn φ sz s v) (hv:slots.length<=l.cap):RO S K w Kn φ l (.nst sz slots)
theorem RowsAt.mono{S S':Nat->Prop}{w w':World}(hs:Stp S w S' w'){sz base:Nat}{get:Nat->Option Value}{rows:List (List D)}(h:RowsAt S w sz get base rows):
  RowsAt S' w' sz get base rows:=
 ⟨h.1,λi r hi j x hj=>let ⟨v,hg,hr⟩:=h.2 i r hi j x hj; ⟨v,hg,hr.mono hs⟩⟩
def Kept(S':Nat->Prop)(w w':World)(l:Loc)(o:Ob):Prop:=∀sz slots,o= .nst sz slots->∀k x,PAt w l slots k x->w'.heap[x]? =w.heap[x]? /\¬S' x
theorem RwF.mono{S S':Nat->Prop}{w w':World}(hs:Stp S w S' w'){sz b:Nat}{rows:List (List D)}{v:Value}(hb:w'.heap[b]? =w.heap[b]?)(h:RwF S w sz rows v b):RwF S' w' sz rows v b:=by
 obtain ⟨a,c,arr,h1,h2,h3,h4,h5,h6⟩:=h
 exact ⟨a,c,arr,h1,h2,h3.of_same hb,h4,h5,h6.mono hs⟩
theorem RwF.blk{S:Nat->Prop}{w:World}{sz b:Nat}{rows:List (List D)}{v:Value}(h:RwF S w sz rows v b):blkV v=some b:=by
 obtain ⟨a,c,arr,rfl,_⟩:=h; rfl
theorem RwF.own{S:Nat->Prop}{w:World}{sz b:Nat}{rows:List (List D)}{v:Value}(h:RwF S w sz rows v b):∃arr,Own w b arr:=by
 obtain ⟨a,c,arr,_,_,h,_⟩:=h; exact ⟨arr,h⟩
theorem RO.mono {S S' K : Nat → Prop} {w w' : World} {Kn Kn' : Nat → Prop} {φ φ' : Nat → Loc} {l : Loc} (hs : Stp S w S' w') (hr : Ren Kn φ Kn' φ') {o : Ob}
  (hsame : isOwn o = true → w'.heap[l.blk]? = w.heap[l.blk]? ∧ ¬ S' l.blk) (hkp : Kept S' w w' l o) (h : RO S K w Kn φ l o) : RO S' K w' Kn' φ' l o := by
 cases h with
 | arr hsz hl hS hK ho hext hfit hrr hv=>exact .arr hsz hl (hsame rfl).2 hK (ho.of_same (hsame rfl).1) hext hfit (hrr.mono hs) hv
 | imm hsz hl hS hrr=>
  refine .imm hsz hl (hs.sub _ hS) ⟨hrr.1,λi r hi j x hj=> ?_⟩
  obtain ⟨v,hg,h⟩:=hrr.2 i r hi j x hj
  exact ⟨v,(cell?_same (hs.same _ hS) _).trans hg,h.mono hs⟩
 | box hb hS hK ho hlen hrr=>exact .box hb (hsame rfl).2 hK (ho.of_same (hsame rfl).1) hlen λi x hi=>(hrr i x hi).mono hs hr
 | ibox hb hS hrr=>
  refine .ibox hb (hs.sub _ hS) λi x hi=> ?_
  obtain ⟨v,hg,h⟩:=hrr i x hi
  exact ⟨v,(cell?_same (hs.same _ hS) _).trans hg,h.mono hs⟩
 | map hS hK ho hlen hrr=>exact .map (hsame rfl).2 hK ((hsame rfl).1.trans ho) hlen λi e m hi hm=>let ⟨h1,h2,h3⟩:=hrr i e m hi hm; ⟨h1,h2.mono hs,h3⟩
 | cap hsz hl hS hK ho hext hfit hrr hv hc=>exact .cap hsz hl (hsame rfl).2 hK (ho.of_same (hsame rfl).1) hext hfit (hrr.mono hs) hv hc
 | nst hsz hl hS hK ho hext hfit hrr hv=>
  refine .nst hsz hl (hsame rfl).2 hK (ho.of_same (hsame rfl).1) hext hfit (λi s hi=> ?_) hv
  obtain ⟨v,h1,h2⟩:=hrr i s hi
  refine ⟨v,h1, ?_⟩
  cases h2 with
  | nil=>exact .nil
  | @own rows _ b h hS hK=>
   obtain ⟨k1,k2⟩:=hkp _ _ rfl i b ⟨rows,v,hi,(ho.cell _).trans h1,h.blk⟩
   exact .own (h.mono hs k1) k2 hK
  | out h=>exact .out (h.mono hs hr)
def Io(w0 w:World):Prop:=w.os=w0.os/\w.output=w0.output/\w.tape=w0.tape/\w0.drawn<=w.drawn
theorem Io.trans{a b c:World}(h:Io a b)(h2:Io b c):Io a c:=⟨h2.1.trans h.1,h2.2.1.trans h.2.1,h2.2.2.1.trans h.2.2.1,Nat.le_trans h.2.2.2 h2.2.2.2⟩
theorem Io.refl(w:World):Io w w:=⟨rfl,rfl,rfl,Nat.le_refl _⟩
structure Frm (K:Nat->Prop) (w0 w:World):Prop where
 klt:∀b,K b->b < w0.heap.size
 keep:∀b,K b->w.heap[b]? =w0.heap[b]?
 grow:w0.heap.size<=w.heap.size
 frz:∀a,a.block < w0.heap.size->w.frozen? a=w0.frozen? a
 own:∀b arr,Own w0 b arr->∃arr',Own w b arr'/\arr'.size=arr.size
 io:Io w0 w
def Glob(S:Nat->Prop)(w:World):Prop:=∀g d,glb g=some d->RD S w d (.pointer (some ⟨g,0,none⟩))
theorem Glob.mono{S S':Nat->Prop}{w w':World}(h:Glob S w)(hs:Stp S w S' w'):Glob S' w':=λg d hg=>(h g d hg).mono hs
def Prv(w:World)(φ:Nat->Loc)(hf:Nat->Option Ob):Prop:=∀i sz sl k x,hf i=some (.nst sz sl)->PAt w (φ i) sl k x->
 (∀ j b,hf j=some b->isOwn b=true->(φ j).blk≠x)/\∀j sz' sl' k',hf j=some (.nst sz' sl')->PAt w (φ j) sl' k' x->j=i/\k'=k
structure Inv (S K:Nat->Prop) (w0:World) (Kn:Nat->Prop) (φ:Nat->Loc) (hf:Nat->Option Ob) (w:World):Prop where
 slt:∀b,S b->b < w.heap.size
 sk:∀b,S b->¬K b
 frm:Frm K w0 w
 obj:∀id o,hf id=some o->Kn id/\RO S K w Kn φ (φ id) o
 dist:∀i j a b,hf i=some a->hf j=some b->isOwn a=true->isOwn b=true->i≠j->(φ i).blk≠(φ j).blk
 glob:Glob S w
 prv:Prv w φ hf
def updF(u:Upd)(hf:Nat->Option Ob)(id:Nat):Option Ob:=match fnd u id with | some o=>o | none=>hf id
theorem q1d{α:Type}(a b:List (Nat×α))(k:Nat):fnd (a++b) k=match fnd a k with | some x=>some x | none=>fnd b k:=by
 induction a with
 | nil=>rfl
 | cons p r ih=>obtain ⟨i,x⟩:=p; simp only [List.cons_append,fnd]; cases h:(i == k) <;> simp [ih]
theorem q18(u:Upd)(h:Heap):look (u++h)=updF u (look h):=by
 funext id
 simp only [look,updF,q1d]
 cases fnd u id <;> simp
theorem q0x(hf:Nat->Option Ob):updF [] hf=hf:=rfl
theorem q06(i:Nat)(o:Option Ob)(u:Upd)(hf:Nat->Option Ob)(id:Nat):updF ((i,o) :: u) hf id=if i=id then o else updF u hf id:=by
 simp only [updF,fnd]
 by_cases h:i=id
 ·simp [h]
 ·have e:(i == id)=false:=by simpa using h
  simp [h,e]
theorem q0n(u v:Upd)(hf:Nat->Option Ob):updF (u++v) hf=updF u (updF v hf):=by
 funext id
 simp only [updF,q1d]
 cases fnd u id <;> simp
theorem Inv.stepG {S S' K : Nat → Prop} {w0 w w' : World} {Kn Kn' : Nat → Prop} {φ φ' : Nat → Loc} {hf hf' : Nat → Option Ob} (h : Inv S K w0 Kn φ hf w)
  (hs : Stp S w S' w') (hr : Ren Kn φ Kn' φ') (hslt : ∀ b, S' b → b < w'.heap.size) (hsk : ∀ b, S' b → ¬ K b) (hfrm : Frm K w0 w')
  (hobj : ∀ id o, hf' id = some o → (hf id = some o ∧ (isOwn o = true → w'.heap[(φ id).blk]? = w.heap[(φ id).blk]? ∧ ¬ S' (φ id).blk) ∧ Kept S' w w' (φ id) o) ∨ (Kn' id ∧ RO S' K w' Kn' φ' (φ' id) o))
  (hdist : ∀ i j a b, hf' i = some a → hf' j = some b → isOwn a = true → isOwn b = true → i ≠ j → (φ' i).blk ≠ (φ' j).blk) (hprv : Prv w' φ' hf') :
  Inv S' K w0 Kn' φ' hf' w' where
 slt:=hslt
 sk:=hsk
 frm:=hfrm
 dist:=hdist
 glob:=h.glob.mono hs
 prv:=hprv
 obj id o ho:=by
  rcases hobj id o ho with ⟨h1,h2,h3⟩ | h1
  ·obtain ⟨hk,hro⟩:=h.obj id o h1
   refine ⟨hr.sub _ hk, ?_⟩
   rw [hr.same _ hk]
   exact hro.mono hs hr h2 h3
  ·exact h1
theorem PAt.same{w w':World}{l:Loc}{sl:List Slot}{k x:Nat}(h:w'.heap[l.blk]? =w.heap[l.blk]?):PAt w' l sl k x↔PAt w l sl k x:=by
 unfold PAt
 rw [show ∀i,w'.cell? ⟨l.blk,i,none⟩=w.cell? ⟨l.blk,i,none⟩ from λi=>cell?_same h i]
theorem RO.pat{S K:Nat->Prop}{w:World}{Kn:Nat->Prop}{φ:Nat->Loc}{l:Loc}{sz:Nat}{sl:List Slot}{k x:Nat}(h:RO S K w Kn φ l (.nst sz sl))(hp:PAt w l sl k x):
  ¬S x/\¬K x/\x < w.heap.size/\∃rows v,sl[k]? =some (.own rows)/\w.cell? ⟨l.blk,l.base+k,none⟩=some v/\RwF S w sz rows v x:=by
 cases h with
 | nst hsz hl hS hK ho hext hfit hr hv=>
  obtain ⟨rows,v,h1,h2,h3⟩:=hp
  obtain ⟨v',h4,h5⟩:=hr k _ h1
  obtain rfl:v'=v:=by rw [ho.cell,h4]at h2; exact Option.some.inj h2
  cases h5 with
  | @own _ _ b h6 hS hK=>
   obtain rfl:b=x:=by rw [h6.blk]at h3; exact Option.some.inj h3
   obtain ⟨arr,h7⟩:=h6.own
   exact ⟨hS,hK,h7.lt,rows,v',h1,h2,h6⟩
theorem Inv.pat{S K:Nat->Prop}{w0 w:World}{Kn:Nat->Prop}{φ:Nat->Loc}{hf:Nat->Option Ob}(h:Inv S K w0 Kn φ hf w){i sz k x:Nat}{sl:List Slot}(hi:hf i=some (.nst sz sl))(hp:PAt w (φ i) sl k x):
  ¬S x/\¬K x/\x < w.heap.size/\∃rows v,sl[k]? =some (.own rows)/\w.cell? ⟨(φ i).blk,(φ i).base+k,none⟩=some v/\RwF S w sz rows v x:=(h.obj i _ hi).2.pat hp
def Rest (S' : Nat → Prop) (w w' : World) (φ φ' : Nat → Loc) (hf hf' : Nat → Option Ob) : Prop := ∀ id sz sl, hf' id = some (.nst sz sl) → hf id = some (.nst sz sl) ∧ w'.heap[(φ id).blk]? = w.heap[(φ id).blk]? ∧
 ∀ k x, PAt w (φ id) sl k x → w'.heap[x]? = w.heap[x]? ∧ ¬ S' x ∧ ∀ j b, hf' j = some b → isOwn b = true → (φ' j).blk ≠ x
theorem Inv.step {S S' K : Nat → Prop} {w0 w w' : World} {Kn Kn' : Nat → Prop} {φ φ' : Nat → Loc} {hf hf' : Nat → Option Ob} (h : Inv S K w0 Kn φ hf w)
  (hs : Stp S w S' w') (hr : Ren Kn φ Kn' φ') (hslt : ∀ b, S' b → b < w'.heap.size) (hsk : ∀ b, S' b → ¬ K b) (hfrm : Frm K w0 w')
  (hobj : ∀ id o, hf' id = some o → (hf id = some o ∧ (isOwn o = true → w'.heap[(φ id).blk]? = w.heap[(φ id).blk]? ∧ ¬ S' (φ id).blk)) ∨ (Kn' id ∧ RO S' K w' Kn' φ' (φ' id) o))
  (hdist : ∀ i j a b, hf' i = some a → hf' j = some b → isOwn a = true → isOwn b = true → i ≠ j → (φ' i).blk ≠ (φ' j).blk) (hrest : Rest S' w w' φ φ' hf hf') :
  Inv S' K w0 Kn' φ' hf' w' := by
 have e : ∀ id sz sl, hf' id = some (.nst sz sl) → φ' id = φ id := fun id sz sl hi => hr.same _ (h.obj id _ (hrest id sz sl hi).1).1
 have hpat : ∀ id sz sl k x, hf' id = some (.nst sz sl) → PAt w' (φ' id) sl k x → PAt w (φ id) sl k x := fun id sz sl k x hi hp => by
  rw [e id sz sl hi]at hp
  exact (PAt.same (hrest id sz sl hi).2.1).1 hp
 refine h.stepG hs hr hslt hsk hfrm (λid o ho=> ?_) hdist λi sz sl k x hi hp=> ?_
 ·rcases hobj id o ho with ⟨h1,h2⟩ | h1
  ·exact .inl ⟨h1,h2,λsz sl eo k x hp=>by subst eo; obtain ⟨a,b,_⟩:=(hrest id sz sl ho).2.2 k x hp; exact ⟨a,b⟩⟩
  ·exact .inr h1
 ·have hp':=hpat i sz sl k x hi hp
  refine ⟨((hrest i sz sl hi).2.2 k x hp').2.2,λj sz' sl' k' hj hpj=> ?_⟩
  exact (h.prv i sz sl k x (hrest i sz sl hi).1 hp').2 j sz' sl' k' (hrest j sz' sl' hj).1 (hpat j sz' sl' k' x hj hpj)
theorem q1x{w:World}{o:Obj}{b:Nat}(h:b < w.heap.size):({ w with heap:=w.heap.push o }:World).heap[b]? =w.heap[b]? :=by
 simp [Array.getElem?_push,Nat.ne_of_lt h]
theorem qik(w:World)(arr:Array Value)(t:TypeId):Own { w with heap:=w.heap.push (.cells arr t) } w.heap.size arr:=
 ⟨t,by simp⟩
theorem qh7(w:World)(arr:Array Value)(t:TypeId)(a:Addr):({ w with heap:=w.heap.push (.cells arr t) }:World).frozen? a=w.frozen? a:=by
 unfold World.frozen?
 rcases Nat.lt_trichotomy a.block w.heap.size with h | h | h
 ·rw [q1x h]
 ·simp [h]
 ·rw [Array.getElem?_eq_none (by simp; omega),Array.getElem?_eq_none (by omega)]
theorem Frm.push{K:Nat->Prop}{w0 w:World}(h:Frm K w0 w)(arr:Array Value)(t:TypeId):Frm K w0 { w with heap:=w.heap.push (.cells arr t) } where
 klt:=h.klt
 keep b hb:=(q1x (Nat.lt_of_lt_of_le (h.klt b hb) h.grow)).trans (h.keep b hb)
 grow:=by have:=h.grow; simp; omega
 frz a ha:=(qh7 w arr t a).trans (h.frz a ha)
 own b a ha:=let ⟨a',h1,h2⟩:=h.own b a ha; ⟨a',h1.of_same (q1x h1.lt),h2⟩
 io:=h.io
theorem Frm.own_step{K:Nat->Prop}{w0 w w':World}(h:Frm K w0 w){c:Nat}(hother:∀b,b≠c->w'.heap[b]? =w.heap[b]?)
  (hsz:∀arr,Own w c arr->∃arr',Own w' c arr'/\arr'.size=arr.size) (b:Nat) (arr:Array Value) (ho:Own w0 b arr):∃arr',Own w' b arr'/\arr'.size=arr.size:=by
 obtain ⟨a,h1,h2⟩:=h.own b arr ho
 by_cases e:b=c
 ·subst e
  obtain ⟨a',h3,h4⟩:=hsz a h1
  exact ⟨a',h3,h4.trans h2⟩
 ·exact ⟨a,h1.of_same (hother b e),h2⟩
theorem Frm.drew{K:Nat->Prop}{w0 w:World}(h:Frm K w0 w)(n:Nat)(hn:w.drawn<=n):Frm K w0 { w with drawn:=n }:=
 ⟨h.klt,h.keep,h.grow,h.frz,h.own,h.io.1,h.io.2.1,h.io.2.2.1,Nat.le_trans h.io.2.2.2 hn⟩
theorem Stp.push{S:Nat->Prop}{w:World}(hs:∀b,S b->b < w.heap.size)(o:Obj):Stp S w S { w with heap:=w.heap.push o }:=
 ⟨λ_ h=>h,λb h=>q1x (hs b h)⟩
theorem Stp.drew(S:Nat->Prop)(w:World)(n:Nat):Stp S w S { w with drawn:=n }:=⟨λ_ h=>h,λ_ _=>rfl⟩
theorem Inv.rest_ren {S K : Nat → Prop} {w0 w w' : World} {Kn Kn' : Nat → Prop} {φ φ' : Nat → Loc} {hf : Nat → Option Ob} (h : Inv S K w0 Kn φ hf w) (hr : Ren Kn φ Kn' φ') (hs : ∀ b, b < w.heap.size → w'.heap[b]? = w.heap[b]?) : Rest S w w' φ φ' hf hf := fun id sz sl hi => by
 obtain ⟨_,h1⟩:=h.obj id _ hi
 have hlt:(φ id).blk < w.heap.size:=by cases h1 with | nst _ _ _ _ ho=>exact ho.lt
 refine ⟨hi,hs _ hlt,λk x hp=> ?_⟩
 obtain ⟨h2,_,h3,_⟩:=h.pat hi hp
 refine ⟨hs x h3,h2,λj b hj hb=> ?_⟩
 rw [hr.same j (h.obj j b hj).1]
 exact (h.prv id sz sl k x hi hp).1 j b hj hb
theorem Inv.rest_refl{S K:Nat->Prop}{w0 w w':World}{Kn:Nat->Prop}{φ:Nat->Loc}{hf:Nat->Option Ob}(h:Inv S K w0 Kn φ hf w)(hs:∀b,b < w.heap.size->w'.heap[b]? =w.heap[b]?):Rest S w w' φ φ hf hf:=h.rest_ren (Ren.refl _ _) hs
theorem Inv.drew{S K:Nat->Prop}{w0 w:World}{Kn:Nat->Prop}{φ:Nat->Loc}{hf:Nat->Option Ob}(h:Inv S K w0 Kn φ hf w)(n:Nat)(hn:w.drawn<=n):
  Inv S K w0 Kn φ hf { w with drawn:=n }:=
 h.step (Stp.drew S w n) (Ren.refl _ _) h.slt h.sk (h.frm.drew n hn) (λid o ho=> .inl ⟨ho,λhown=>⟨rfl,by
  obtain ⟨_,hro⟩:=h.obj id o ho; cases hro <;> simp_all [isOwn]⟩⟩) h.dist (h.rest_refl λ_ _=>rfl)
theorem RO.own{S K:Nat->Prop}{w:World}{Kn:Nat->Prop}{φ:Nat->Loc}{l:Loc}{o:Ob}(h:RO S K w Kn φ l o)(ho:isOwn o=true):
  ¬S l.blk/\¬K l.blk/\l.blk < w.heap.size:=by
 cases h with
 | arr hsz hl hS hK hown=>exact ⟨hS,hK,hown.lt⟩
 | box hb hS hK hown=>exact ⟨hS,hK,hown.lt⟩
 | map hS hK hmp=>exact ⟨hS,hK,(Array.getElem?_eq_some_iff.1 hmp).1⟩
 | cap hsz hl hS hK hown=>exact ⟨hS,hK,hown.lt⟩
 | nst hsz hl hS hK hown=>exact ⟨hS,hK,hown.lt⟩
 | _=>simp [isOwn]at ho
def ext(φ:Nat->Loc)(i:Nat)(l:Loc):Nat->Loc:=λj=>if j=i then l else φ j
theorem q2v{Kn:Nat->Prop}{φ:Nat->Loc}{i:Nat}(l:Loc)(hi:¬Kn i):Ren Kn φ (λj=>Kn j\/j=i) (ext φ i l):=
 ⟨λ_ h=> .inl h,λj h=>by simp only [ext]; rw [if_neg]; rintro rfl; exact hi h⟩
abbrev NoOwn(o:Ob):Prop:=∀sz sl (k:Nat) rows,o= .nst sz sl->sl[k]? ≠some (Slot.own rows)
theorem Inv.new_prv{S K:Nat->Prop}{w0 w w':World}{Kn:Nat->Prop}{φ:Nat->Loc}{hf:Nat->Option Ob}(h:Inv S K w0 Kn φ hf w){i:Nat}{l:Loc}{o:Ob}(hno:NoOwn o)
  (hsame:∀b,b < w.heap.size->w'.heap[b]? =w.heap[b]?) (hl:isOwn o=true->∀id sz sl k x,hf id=some (.nst sz sl)->PAt w (φ id) sl k x->l.blk≠x):Prv w' (ext φ i l) (updF [(i,some o)] hf):=by
 have key:∀a sz sl k x,updF [(i,some o)] hf a=some (.nst sz sl)->PAt w' (ext φ i l a) sl k x->hf a=some (.nst sz sl)/\PAt w (φ a) sl k x:=by
  intro a sz sl k x ha hp
  rw [q06]at ha
  by_cases e:i=a
  ·rw [if_pos e]at ha
   obtain rfl:=Option.some.inj ha
   obtain ⟨rows,v,h1,_⟩:=hp
   exact absurd h1 (hno _ _ _ _ rfl)
  ·rw [if_neg e,q0x]at ha
   refine ⟨ha, ?_⟩
   have e1:ext φ i l a=φ a:=by simp only [ext]; rw [if_neg (λq=>e q.symm)]
   rw [e1]at hp
   obtain ⟨_,h1⟩:=h.obj a _ ha
   exact (PAt.same (hsame _ (by cases h1 with | nst _ _ _ _ ho=>exact ho.lt))).1 hp
 intro a sz sl k x ha hp
 obtain ⟨h1,h2⟩:=key a sz sl k x ha hp
 obtain ⟨p1,p2⟩:=h.prv a sz sl k x h1 h2
 refine ⟨λj b hj hown=> ?_,λj sz' sl' k' hj hpj=> ?_⟩
 ·rw [q06]at hj
  by_cases e:i=j
  ·rw [if_pos e]at hj
   obtain rfl:=Option.some.inj hj
   simp only [ext]
   rw [if_pos e.symm]
   exact hl hown a sz sl k x h1 h2
  ·rw [if_neg e,q0x]at hj
   simp only [ext]
   rw [if_neg (λq=>e q.symm)]
   exact p1 j b hj hown
 ·obtain ⟨h3,h4⟩:=key j sz' sl' k' x hj hpj
  exact p2 j sz' sl' k' h3 h4
theorem Inv.kept{S K:Nat->Prop}{w0 w w':World}{Kn:Nat->Prop}{φ:Nat->Loc}{hf:Nat->Option Ob}(h:Inv S K w0 Kn φ hf w){id:Nat}{o:Ob}(ho:hf id=some o)(hsame:∀b,b < w.heap.size->w'.heap[b]? =w.heap[b]?):Kept S w w' (φ id) o:=by
 intro sz sl e k x hp
 subst e
 obtain ⟨h1,_,h2,_⟩:=h.pat ho hp
 exact ⟨hsame x h2,h1⟩
theorem Inv.alloc{S K:Nat->Prop}{w0 w:World}{Kn:Nat->Prop}{φ:Nat->Loc}{hf:Nat->Option Ob}(h:Inv S K w0 Kn φ hf w){i:Nat}(hi:¬Kn i)
  (arr:Array Value) (t:TypeId) (sz c:Nat) (o:Ob)
  (hro:RO S K { w with heap:=w.heap.push (.cells arr t) } (λj=>Kn j\/j=i) (ext φ i ⟨w.heap.size,0,sz,arr.size,c⟩) ⟨w.heap.size,0,sz,arr.size,c⟩ o) (hno:NoOwn o:=by intro _ _ _ _ e; cases e):
  Inv S K w0 (λj=>Kn j\/j=i) (ext φ i ⟨w.heap.size,0,sz,arr.size,c⟩) (updF [(i,some o)] hf) { w with heap:=w.heap.push (.cells arr t) }:=by
 refine h.stepG (Stp.push h.slt _) (q2v _ hi) (λb hb=>by have:=h.slt b hb; simp; omega) h.sk (h.frm.push arr t) ?_ ?_ (h.new_prv hno (λb hb=>q1x hb) λ_ id sz sl k x ha hp e=>by
  have:=(h.pat ha hp).2.2.1
  simp only at e; omega)
 ·intro id o' ho
  rw [q06]at ho
  by_cases e:i=id
  ·subst e
   rw [if_pos rfl]at ho
   obtain rfl:o=o':=by simpa using ho
   refine .inr ⟨.inr rfl, ?_⟩
   simpa [ext]using hro
  ·rw [if_neg e,q0x]at ho
   refine .inl ⟨ho,λhown=> ?_,h.kept ho λb hb=>q1x hb⟩
   obtain ⟨_,h2⟩:=h.obj id o' ho
   obtain ⟨a,b,c⟩:=h2.own hown
   exact ⟨q1x c,a⟩
 ·have key:∀j b,j≠i->hf j=some b->isOwn b=true->(ext φ i ⟨w.heap.size,0,sz,arr.size,c⟩ j).blk < w.heap.size:=by
   intro j b hj hb hown
   obtain ⟨_,h2⟩:=h.obj j b hb
   simpa [ext,hj]using (h2.own hown).2.2
  intro a b oa ob ha hb hoa hob hne
  rw [q06]at ha hb
  by_cases ea:i=a
  ·by_cases eb:i=b
   ·exact absurd (ea.symm.trans eb) hne
   ·rw [if_neg eb,q0x]at hb
    have:=key b ob (λe=>eb e.symm) hb hob
    have e1:(ext φ i ⟨w.heap.size,0,sz,arr.size,c⟩ a).blk=w.heap.size:=by simp [ext,ea]
    omega
  ·rw [if_neg ea,q0x]at ha
   have h1:=key a oa (λe=>ea e.symm) ha hoa
   by_cases eb:i=b
   ·have e1:(ext φ i ⟨w.heap.size,0,sz,arr.size,c⟩ b).blk=w.heap.size:=by simp [ext,eb]
    omega
   ·rw [if_neg eb,q0x]at hb
    have:=h.dist a b oa ob ha hb hoa hob hne
    have e1:¬a=i:=λe=>ea e.symm
    have e2:¬b=i:=λe=>eb e.symm
    simpa [ext,e1,e2]using this
theorem qfo{w:World}{o:Obj}(ho:∀c t r,o≠ .cells c t r)(a:Addr):({ w with heap:=w.heap.push o }:World).frozen? a=w.frozen? a:=by
 unfold World.frozen?
 rcases Nat.lt_trichotomy a.block w.heap.size with h | h | h
 ·rw [q1x h]
 ·rw [h]
  simp only [Array.getElem?_push_size,Array.getElem?_eq_none (Nat.le_refl _)]
  cases o with
  | cells c t r=>exact absurd rfl (ho c t r)
  | _=>rfl
 ·rw [Array.getElem?_eq_none (by simp; omega),Array.getElem?_eq_none (by omega)]
theorem Inv.allocM{S K:Nat->Prop}{w0 w:World}{Kn:Nat->Prop}{φ:Nat->Loc}{hf:Nat->Option Ob}(h:Inv S K w0 Kn φ hf w){i:Nat}(hi:¬Kn i)
  {ob:Obj} (hob:∀c t r,ob≠ .cells c t r) (l:Loc) (hl:l.blk=w.heap.size) (o:Ob)
  (hro:RO S K { w with heap:=w.heap.push ob } (λj=>Kn j\/j=i) (ext φ i l) l o) (hno:NoOwn o:=by intro _ _ _ _ e; cases e):
  Inv S K w0 (λj=>Kn j\/j=i) (ext φ i l) (updF [(i,some o)] hf) { w with heap:=w.heap.push ob }:=by
 have hfrm:Frm K w0 { w with heap:=w.heap.push ob }:=
  ⟨h.frm.klt,λb hb=>(q1x (Nat.lt_of_lt_of_le (h.frm.klt b hb) h.frm.grow)).trans (h.frm.keep b hb),by have:=h.frm.grow; simp; omega,λa ha=>(qfo hob a).trans (h.frm.frz a ha),
   λb a ha=>let ⟨a',h1,h2⟩:=h.frm.own b a ha; ⟨a',h1.of_same (q1x h1.lt),h2⟩,h.frm.io⟩
 refine h.stepG (Stp.push h.slt _) (q2v _ hi) (λb hb=>by have:=h.slt b hb; simp; omega) h.sk hfrm ?_ ?_ (h.new_prv hno (λb hb=>q1x hb) λ_ id sz sl k x ha hp e=>by
  have:=(h.pat ha hp).2.2.1
  omega)
 ·intro id o' ho
  rw [q06]at ho
  by_cases e:i=id
  ·subst e
   rw [if_pos rfl]at ho
   obtain rfl:o=o':=by simpa using ho
   refine .inr ⟨.inr rfl, ?_⟩
   simpa [ext]using hro
  ·rw [if_neg e,q0x]at ho
   refine .inl ⟨ho,λhown=> ?_,h.kept ho λb hb=>q1x hb⟩
   obtain ⟨_,h2⟩:=h.obj id o' ho
   obtain ⟨a,b,c⟩:=h2.own hown
   exact ⟨q1x c,a⟩
 ·have key:∀j b,j≠i->hf j=some b->isOwn b=true->(ext φ i l j).blk < w.heap.size:=by
   intro j b hj hb hown
   obtain ⟨_,h2⟩:=h.obj j b hb
   simpa [ext,hj]using (h2.own hown).2.2
  intro a b oa ob ha hb hoa hob hne
  rw [q06]at ha hb
  by_cases ea:i=a
  ·by_cases eb:i=b
   ·exact absurd (ea.symm.trans eb) hne
   ·rw [if_neg eb,q0x]at hb
    have:=key b ob (λe=>eb e.symm) hb hob
    have e1:(ext φ i l a).blk=w.heap.size:=by simp [ext,ea,hl]
    omega
  ·rw [if_neg ea,q0x]at ha
   have h1:=key a oa (λe=>ea e.symm) ha hoa
   by_cases eb:i=b
   ·have e1:(ext φ i l b).blk=w.heap.size:=by simp [ext,eb,hl]
    omega
   ·rw [if_neg eb,q0x]at hb
    have:=h.dist a b oa ob ha hb hoa hob hne
    have e1:¬a=i:=λe=>ea e.symm
    have e2:¬b=i:=λe=>eb e.symm
    simpa [ext,e1,e2]using this
theorem Inv.kill{S K:Nat->Prop}{w0 w:World}{Kn:Nat->Prop}{φ:Nat->Loc}{hf hf':Nat->Option Ob}(h:Inv S K w0 Kn φ hf w)(hsub:∀id o,hf' id=some o->hf id=some o):
  Inv S K w0 Kn φ hf' w:=
 ⟨h.slt,h.sk,h.frm,λid o ho=>h.obj id o (hsub id o ho),λi j a b ha hb=>h.dist i j a b (hsub _ _ ha) (hsub _ _ hb),h.glob,
  λi sz sl k x hi hp=>let ⟨a,b⟩:=h.prv i sz sl k x (hsub _ _ hi) hp; ⟨λj b hj=>a j b (hsub _ _ hj),λj sz' sl' k' hj=>b j sz' sl' k' (hsub _ _ hj)⟩⟩
theorem Inv.set{S K:Nat->Prop}{w0 w w':World}{Kn:Nat->Prop}{φ:Nat->Loc}{hf:Nat->Option Ob}(h:Inv S K w0 Kn φ hf w){id:Nat}{o o':Ob}
  (ho:hf id=some o) (hown:isOwn o=true) (hother:∀b,b≠(φ id).blk->w'.heap[b]? =w.heap[b]?) (hsize:w'.heap.size=w.heap.size)
  (hfrz:∀a,w'.frozen? a=w.frozen? a) (hsz:∀arr,Own w (φ id).blk arr->∃arr',Own w' (φ id).blk arr'/\arr'.size=arr.size) (hio:Io w w') (hro:Stp S w S w'->RO S K w' Kn φ (φ id) o') (hn:∀sz sl,o'≠ .nst sz sl:=by intro _ _ e; cases e):
  Stp S w S w'/\Inv S K w0 Kn φ (updF [(id,some o')] hf) w':=by
 obtain ⟨hk,h0⟩:=h.obj id o ho
 obtain ⟨hS,hK,hlt⟩:=h0.own hown
 have hs:Stp S w S w':=⟨λ_ h=>h,λb hb=>hother b (λe=>hS (e▸hb))⟩
 have fix:∀i a,updF [(id,some o')] hf i=some a->isOwn a=true->∃a',hf i=some a'/\isOwn a'=true:=by
  intro i a ha hoa
  rw [q06]at ha
  by_cases e:id=i
  ·subst e; exact ⟨o,ho,hown⟩
  ·rw [if_neg e,q0x]at ha; exact ⟨a,ha,hoa⟩
 refine ⟨hs,h.step hs (Ren.refl _ _) (λb hb=>hsize▸h.slt b hb) h.sk ?_ ?_ ?_ ?_⟩
 ·exact ⟨h.frm.klt,λb hb=>(hother b (λe=>hK (e▸hb))).trans (h.frm.keep b hb),hsize▸h.frm.grow,λa ha=>(hfrz a).trans (h.frm.frz a ha),h.frm.own_step hother hsz,h.frm.io.trans hio⟩
 ·intro i x hx
  rw [q06]at hx
  by_cases e:id=i
  ·subst e
   rw [if_pos rfl]at hx
   obtain rfl:o'=x:=by simpa using hx
   exact .inr ⟨hk,hro hs⟩
  ·rw [if_neg e,q0x]at hx
   refine .inl ⟨hx,λhox=>⟨hother _ ?_,((h.obj i x hx).2.own hox).1⟩⟩
   exact (h.dist i id x o hx ho hox hown (λe'=>e e'.symm))
 ·intro i j a b ha hb hoa hob hne
  obtain ⟨a',ha',hoa'⟩:=fix i a ha hoa
  obtain ⟨b',hb',hob'⟩:=fix j b hb hob
  exact h.dist i j a' b' ha' hb' hoa' hob' hne
 ·intro a sz sl ha
  rw [q06]at ha
  by_cases e:id=a
  ·rw [if_pos e]at ha
   exact absurd (Option.some.inj ha) (hn _ _)
  ·rw [if_neg e,q0x]at ha
   refine ⟨ha,hother _ (h.dist a id _ o ha ho rfl hown λq=>e q.symm),λk x hp=> ?_⟩
   obtain ⟨p1,_⟩:=h.prv a sz sl k x ha hp
   refine ⟨hother x λq=>p1 id o ho hown q.symm,(h.pat ha hp).1,λj b hj hb=> ?_⟩
   obtain ⟨b',hb',hob'⟩:=fix j b hj hb
   exact p1 j b' hb' hob'
end Go.Ev

namespace Go.Ev
variable {P:Program}
def szOf(P:Program)(t:TypeId):Option Nat:=(P.info? t).map (·.size)
def aggOf(P:Program)(t:TypeId):Option Bool:=(P.underlying t).map λ| .struct _ | .array _ _=>true | _=>false
def q37(P:Program)(t:TypeId):Option (List Value):=match (P.info? t).bind (·.zero)with | some z=>if z.cells.toList.all plain then some z.cells.toList else none | none=>none
theorem q6p(b off n:Nat):(⟨b,off,none⟩:Addr).add n=⟨b,off+n,none⟩:=by
 unfold Addr.add; split <;> simp_all
theorem q21{t:TypeId}{n:Nat}(h:szOf P t=some n)(w:World):(sizeOf t).run P w= .ok n w:=by
 simp only [szOf,Option.map_eq_some_iff]at h
 obtain ⟨i,hi,rfl⟩:=h
 simp [sizeOf,typeInfo,hi]
theorem q0a{t:TypeId}{d:TypeDesc}(h:P.underlying t=some d)(w:World):(underlying t).run P w= .ok d w:=by
 simp [underlying,h]
theorem q95{t:TypeId}{g:Bool}(h:aggOf P t=some g)(w:World):(isAgg t).run P w= .ok g w:=by
 simp only [aggOf,Option.map_eq_some_iff]at h
 obtain ⟨d,hd,rfl⟩:=h
 simp only [isAgg,Sem.run_bind,q0a hd,Result.andThen_ok]
 cases d <;> rfl
theorem q6l{t:TypeId}{z:List Value}(h:q37 P t=some z)(w:World):
  ∃v,(zeroValue t).run P w= .ok v w/\v.cells.toList=z/\∀x∈z,plain x=true:=by
 simp only [q37]at h
 split at h
 ·rename_i v hv
  split at h
  ·rename_i hp
   obtain rfl:=Option.some.inj h
   obtain ⟨i,hi,hz⟩:=Option.bind_eq_some_iff.1 hv
   exact ⟨v,by simp [zeroValue,typeInfo,hi,hz],rfl,λx hx=>List.all_eq_true.1 hp x hx⟩
  ·simp at h
 ·simp at h
section
variable {S K:Nat->Prop}{w0 w:World}{Kn:Nat->Prop}{φ:Nat->Loc}{hf:Nat->Option Ob}
theorem qnf(agg:Bool)(n:Nat)(cells:List D):ldD agg n cells=ldC agg n (cells.map .d):=by
 unfold ldD ldC
 cases agg
 ·cases cells <;> rfl
 ·simp [List.map_take]
theorem qcs{t:TypeId}{agg:Bool}{n:Nat}(ha:aggOf P t=some agg)(hn:szOf P t=some n){cells:List C}{b o:Nat}{v:TV}
  (hc:∀(j:Nat) (x:C),cells[j]? =some x->∃u,w.cell? ⟨b,o+j,none⟩=some u/\RC S w Kn φ x u) (h:ldC agg n cells=some v):
  ∃val,(loadVar t ⟨b,o,none⟩).run P w= .ok val w/\RTV S w Kn φ v val:=by
 unfold ldC at h
 cases agg
 ·simp only [Bool.false_eq_true,if_false]at h
  cases cells with
  | nil=>simp at h
  | cons x r=>
   obtain rfl:TV.c x=v:=by simpa using h
   obtain ⟨u,hu,hr⟩:=hc 0 x rfl
   refine ⟨u, ?_, .c hr⟩
   simp only [loadVar,Sem.run_bind,q95 ha,Result.andThen_ok,Bool.false_eq_true,if_false,run_load]
   simp only [Nat.add_zero]at hu
   simp [hu]
 ·simp only [if_true]at h
  split at h
  ·rename_i hle
   obtain rfl:=Option.some.inj h
   have hcell:∀j,j < n->w.cell? ((⟨b,o,none⟩:Addr).add j)=some ((w.cell? ⟨b,o+j,none⟩).getD undef):=by
    intro j hj
    have hj':j < cells.length:=by omega
    obtain ⟨u,hu,_⟩:=hc j cells[j] (by simp [hj'])
    rw [q6p,hu]; rfl
   refine ⟨.agg ((List.range n).map λj=>(w.cell? ⟨b,o+j,none⟩).getD undef).toArray, ?_, .agg (by simp; omega) ?_⟩
   ·simp only [loadVar,Sem.run_bind,q95 ha,Result.andThen_ok,if_true,q21 hn,run_loadCells w _ n _ hcell,Sem.run_pure]
   ·intro i x hi
    rw [List.getElem?_take]at hi
    split at hi
    ·rename_i hin
     obtain ⟨u,hu,hr⟩:=hc i x hi
     have:((List.range n).map λj=>(w.cell? ⟨b,o+j,none⟩).getD undef).toArray.getD i undef=u:=by
      simp [Array.getD,hin,hu]
     rw [this]; exact hr
    ·simp at hi
  ·simp at h
theorem qfu{id row:Nat}{sz:Nat}{rows:List (List D)}(hI:Inv S K w0 Kn φ hf w)(ho:hf id=some (.arr sz rows)\/hf id=some (.imm sz rows)){r:List D}(hr:rows[row]? =some r)(off:Nat):
  (φ id).sz=sz/\r.length=sz/\∀(j:Nat) (x:C),((r.drop off).map C.d)[j]? =some x->∃u,w.cell? ⟨(φ id).blk,(φ id).base+row * (φ id).sz+off+j,none⟩=some u/\RC S w Kn φ x u:=by
 rcases ho with ho | ho
 ·obtain ⟨hk,h0⟩:=hI.obj _ _ ho
  cases h0 with
  | arr hsz hl hS hK hown hext hfit hrr=>
   refine ⟨hl,hrr.1 _ _ hr,λj x hj=> ?_⟩
   rw [List.getElem?_map,List.getElem?_drop]at hj
   obtain ⟨d,hd,rfl⟩:=Option.map_eq_some_iff.1 hj
   obtain ⟨u,hu,hrd⟩:=hrr.2 row r hr (off+j) d hd
   refine ⟨u, ?_, .d hrd⟩
   rw [hown.cell,hl,<- hu]
   show _=_
   congr 1; omega
 ·obtain ⟨hk,h0⟩:=hI.obj _ _ ho
  cases h0 with
  | imm hsz hl hS hrr=>
   refine ⟨hl,hrr.1 _ _ hr,λj x hj=> ?_⟩
   rw [List.getElem?_map,List.getElem?_drop]at hj
   obtain ⟨d,hd,rfl⟩:=Option.map_eq_some_iff.1 hj
   obtain ⟨u,hu,hrd⟩:=hrr.2 row r hr (off+j) d hd
   refine ⟨u, ?_, .d hrd⟩
   rw [hl,<- hu]
   simp only [Nat.add_assoc]
theorem qc5{t:TypeId}{agg:Bool}{n:Nat}(ha:aggOf P t=some agg)(hn:szOf P t=some n){p:C}{H:Heap}{v:TV}{ids:List Nat}{pv:Value}
  (hI:Inv S K w0 Kn φ (look H) w) (hp:RC S w Kn φ p pv) (h:q20 agg n p H=some (v,ids)):
  ∃val,(Instr.loadAt t pv).run P w= .ok val w/\RTV S w Kn φ v val:=by
 unfold q20 at h
 split at h
 ·rename_i cells
  split at h
  ·rename_i v' hv
   obtain ⟨rfl,rfl⟩:v'=v/\ []=ids:=by simpa using h
   rw [qnf]at hv
   cases hp with
   | d hd=>
    cases hd with
    | pt f hb hcell hrd=>
     obtain ⟨val,h1,h2⟩:=qcs (Kn:=Kn) (φ:=φ) (S:=S) ha hn (cells:=cells.map .d) (λj x hj=>by
      rw [List.getElem?_map]at hj
      obtain ⟨d,hd,rfl⟩:=Option.map_eq_some_iff.1 hj
      exact ⟨_,hcell j d hd, .d (hrd j d hd)⟩) hv
     exact ⟨val,by simp [Instr.loadAt,Instr.sureAddr,h1],h2⟩
  ·simp at h
 ·rename_i id row off
  have key:∀sz rows,(look H id=some (.arr sz rows)\/look H id=some (.imm sz rows))->
    (match rows[row]? with | some r=>(match ldD agg n (r.drop off)with | some v=>some (v, [id]) | none=>none) | none=>none)=some (v,ids)->
    ∃val,(Instr.loadAt t pv).run P w= .ok val w/\RTV S w Kn φ v val:=by
   intro sz rows ho h
   split at h
   ·rename_i r hr
    split at h
    ·rename_i v' hv
     obtain ⟨rfl,rfl⟩:v'=v/\ [id]=ids:=by simpa using h
     rw [qnf]at hv
     obtain ⟨hl,hrl,hc⟩:=qfu hI ho hr off
     cases hp with
     | ep hk=>
      obtain ⟨val,h1,h2⟩:=qcs ha hn hc hv
      exact ⟨val,by simp [Instr.loadAt,Instr.sureAddr,h1],h2⟩
    ·simp at h
   ·simp at h
  split at h
  ·rename_i sz rows ho; exact key sz rows (.inl ho) h
  ·rename_i sz rows ho; exact key sz rows (.inr ho) h
  ·simp at h
 ·rename_i id off
  split at h
  ·rename_i cells ho
   split at h
   ·rename_i v' hv
    obtain ⟨rfl,rfl⟩:v'=v/\ [id]=ids:=by simpa using h
    obtain ⟨hk,h0⟩:=hI.obj _ _ ho
    cases h0 with
    | box hb hS hK hown hlen hrr=>
     cases hp with
     | op hk=>
      obtain ⟨val,h1,h2⟩:=qcs (S:=S) (Kn:=Kn) (φ:=φ) ha hn (cells:=cells.drop off) (b:=(φ id).blk) (o:=(φ id).base+off) (λj x hj=>by
       rw [List.getElem?_drop]at hj
       have hlt:=(List.getElem?_eq_some_iff.1 hj).1
       rw [hlen]at hlt
       refine ⟨_, ?_,hrr _ _ hj⟩
       rw [hown.cell,hb]
       simp [Array.getD,hlt]) hv
      exact ⟨val,by simp [Instr.loadAt,Instr.sureAddr,h1],h2⟩
   ·simp at h
  ·rename_i cells ho
   split at h
   ·rename_i v' hv
    obtain ⟨rfl,rfl⟩:v'=v/\ [id]=ids:=by simpa using h
    rw [qnf]at hv
    obtain ⟨hk,h0⟩:=hI.obj _ _ ho
    cases h0 with
    | ibox hb hS hrr=>
     cases hp with
     | op hk=>
      obtain ⟨val,h1,h2⟩:=qcs (S:=S) (Kn:=Kn) (φ:=φ) ha hn (cells:=(cells.drop off).map .d) (b:=(φ id).blk) (o:=(φ id).base+off) (λj x hj=>by
       rw [List.getElem?_map,List.getElem?_drop]at hj
       obtain ⟨d,hd,rfl⟩:=Option.map_eq_some_iff.1 hj
       obtain ⟨u,hu,hr⟩:=hrr _ _ hd
       exact ⟨u,by rw [hb,<- hu]; simp, .d hr⟩) hv
      exact ⟨val,by simp [Instr.loadAt,Instr.sureAddr,h1],h2⟩
   ·simp at h
  ·simp at h
 ·simp at h
theorem qe5{w:World}{b:Nat}{old arr:Array Value}(h:Own w b old)(a:Addr):(w.setRow b arr).frozen? a=w.frozen? a:=by
 obtain ⟨t,h⟩:=h
 unfold World.frozen?
 by_cases e:a.block=b
 ·rw [e,setRow_heap w b old arr t _ h,h]
 ·rw [setRow_other w b _ _ e]
theorem qd4{w:World}{b:Nat}{old arr:Array Value}(h:Own w b old):Own (w.setRow b arr) b arr:=by
 obtain ⟨t,h⟩:=h
 exact ⟨t,setRow_heap w b old arr t _ h⟩
theorem q5p(v:Value):v.oneCell'=one v:=by cases v <;> rfl
theorem RTV.cells{S:Nat->Prop}{w:World}{Kn:Nat->Prop}{φ:Nat->Loc}{v:TV}{val:Value}{cs:List C}(h:RTV S w Kn φ v val)(hc:cellsOf v=some cs):
  cs.length=val.cells.size/\(∀ (i:Nat) (x:C),cs[i]? =some x->RC S w Kn φ x (val.cells.getD i undef))/\∀x∈val.cells.toList,one x=true:=by
 cases h with
 | @c x v h=>
  obtain rfl: [x]=cs:=by simpa [cellsOf]using hc
  have e:=q9t h.one
  refine ⟨by rw [e]; rfl,λi y hi=> ?_,λy hy=> ?_⟩
  ·cases i with
   | zero=>
    rw [e]
    obtain rfl:x=y:=by simpa using hi
    exact h
   | succ i=>simp at hi
  ·rw [e]at hy
   obtain rfl:y=val:=by simpa using hy
   exact h.one
 | @agg cs' arr hlen h=>
  obtain rfl:cs'=cs:=by simpa [cellsOf]using hc
  refine ⟨hlen,h,λy hy=> ?_⟩
  obtain ⟨i,hi,rfl⟩:=List.getElem_of_mem hy
  have hi':i < arr.size:=by simpa [Value.cells]using hi
  have := (h i (cs'[i]'(by omega)) (by simp [hlen, hi'])).one
  simpa [Array.getD,hi',Value.cells]using this
 | tup hlen h=>simp [cellsOf]at hc
theorem qt5{t:TypeId}{n:Nat}(hn:szOf P t=some n){b o:Nat}{arr:Array Value}{val:Value}(ho:Own w b arr)(hlen:val.cells.size=n)(hfit:o+n<=arr.size)
  (hone:∀x∈val.cells.toList,one x=true):
  (storeVar t ⟨b,o,none⟩ val).run P w= .ok () (w.setRow b (arr.toList.take o++val.cells.toList++arr.toList.drop (o+n)).toArray):=by
 obtain ⟨ty,hb⟩:=ho
 have:=run_storeCells_at P b o ty val.cells.toList 0 arr w hb (by simp; omega) (λv hv=>by rw [q5p]; exact hone v hv)
 have e:val.cells.toList.length=n:=by simpa using hlen
 rw [e]at this
 simp only [Nat.add_zero]at this
 simp only [storeVar,Sem.run_bind,q21 hn,Result.andThen_ok,hlen,ne_eq,not_true_eq_false,if_false]
 exact this
theorem q2b{α:Type}(l:List α)(off:Nat)(p:List α)(hfit:off+p.length<=l.length)(i:Nat):
  (splice l off p)[i]? =if i < off then l[i]? else if i < off+p.length then p[i - off]? else l[i]? :=by
 unfold splice
 by_cases h1:i < off
 ·rw [List.append_assoc,List.getElem?_append_left (by simp; omega)]
  simp [h1]
 ·by_cases h2:i < off+p.length
  ·rw [List.getElem?_append_left (by simp; omega),List.getElem?_append_right (by simp; omega)]
   simp only [List.length_take,h1,h2,if_true,if_false]
   congr 1; omega
  ·rw [List.getElem?_append_right (by simp; omega)]
   simp only [List.length_append,List.length_take,List.getElem?_drop,h1,h2,if_false]
   congr 1; omega
theorem q0p{α:Type}(l:List α)(off:Nat)(p:List α)(hfit:off+p.length<=l.length):(splice l off p).length=l.length:=by
 unfold splice; simp; omega
theorem qw0{arr:Array Value}{vs:List Value}{o n:Nat}(hn:vs.length=n):arr.toList.take o++vs++arr.toList.drop (o+n)=splice arr.toList o vs:=by
 rw [<- hn]; rfl
end
end Go.Ev

namespace Go.Ev
section
variable {S K:Nat->Prop}{w0 w:World}{Kn:Nat->Prop}{φ:Nat->Loc}{hf:Nat->Option Ob}
theorem RD.sl_of{sz:Nat}{rows:List (List D)}{b off len cap:Nat}(hb:S b)(hsz:0 < sz)(hlen:rows.length=len)(hcap:len<=cap)
  (h:RowsAt S w sz (λi=>w.cell? ⟨b,i,none⟩) off rows):RD S w (.sl sz rows) (.slice (some ⟨b,off,none⟩) len cap):=by
 subst hlen
 refine .sl (λi j=>(w.cell? ⟨b,off+i * sz+j,none⟩).getD undef) hb hsz hcap h.1 (λi r hi j x hj=> ?_) (λi r hi j x hj=> ?_)
 ·obtain ⟨v,hv,_⟩:=h.2 i r hi j x hj
  simp only at hv
  rw [hv]; rfl
 ·obtain ⟨v,hv,hr⟩:=h.2 i r hi j x hj
  simp only at hv
  rw [hv]; exact hr
theorem RD.pt_of{cells:List D}{b off:Nat}(hb:S b)(h:∀(j:Nat) (x:D),cells[j]? =some x->∃v,w.cell? ⟨b,off+j,none⟩=some v/\RD S w x v):
  RD S w (.pt cells) (.pointer (some ⟨b,off,none⟩)):=by
 refine .pt (λj=>(w.cell? ⟨b,off+j,none⟩).getD undef) hb (λj x hj=> ?_) (λj x hj=> ?_)
 ·obtain ⟨v,hv,_⟩:=h j x hj
  rw [hv]; rfl
 ·obtain ⟨v,hv,hr⟩:=h j x hj
  rw [hv]; exact hr
def prvL(w:World)(l:Loc):List Slot->Nat->List Nat
 | [],_=> []
 | .own _ :: r,k=>(match (w.cell? ⟨l.blk,l.base+k,none⟩).bind blkV with | some b=>b :: prvL w l r (k+1) | none=>prvL w l r (k+1))
 | _ :: r,k=>prvL w l r (k+1)
def blks(w:World)(φ:Nat->Loc)(hf:Nat->Option Ob)(i:Nat):List Nat:=(φ i).blk :: (match hf i with | some (.nst _ sl)=>prvL w (φ i) sl 0 | _=> [])
theorem qi5{l:Loc}{x:Nat}:∀ {sl:List Slot} {k0:Nat},x∈prvL w l sl k0↔∃k rows v,sl[k]? =some (.own rows)/\w.cell? ⟨l.blk,l.base+(k0+k),none⟩=some v/\blkV v=some x:=by
 intro sl
 induction sl with
 | nil=>intro k0; simp [prvL]
 | cons s sl ih=>
  intro k0
  have tl:(∃ k rows v,sl[k]? =some (.own rows)/\w.cell? ⟨l.blk,l.base+(k0+1+k),none⟩=some v/\blkV v=some x)->∃k rows v,(s :: sl)[k]? =some (.own rows)/\w.cell? ⟨l.blk,l.base+(k0+k),none⟩=some v/\blkV v=some x:=by
   rintro ⟨k,rows,v,h1,h2,h3⟩
   exact ⟨k+1,rows,v,by simpa using h1,by rw [<- h2,show k0+(k+1)=k0+1+k by omega],h3⟩
  have key:(∀ rows,s≠ .own rows)->((∃ k rows v,(s :: sl)[k]? =some (.own rows)/\w.cell? ⟨l.blk,l.base+(k0+k),none⟩=some v/\blkV v=some x)->∃k rows v,sl[k]? =some (.own rows)/\w.cell? ⟨l.blk,l.base+(k0+1+k),none⟩=some v/\blkV v=some x):=by
   rintro hs ⟨k,rows,v,h1,h2,h3⟩
   cases k with
   | zero=>exact absurd (by simpa using h1) (hs rows)
   | succ k=>exact ⟨k,rows,v,by simpa using h1,by rw [<- h2,show k0+(k+1)=k0+1+k by omega],h3⟩
  cases s with
  | nil=>exact ih.trans ⟨tl,key λ_ e=>by cases e⟩
  | out id len=>exact ih.trans ⟨tl,key λ_ e=>by cases e⟩
  | own rows0=>
   simp only [prvL]
   constructor
   ·intro hx
    split at hx
    ·rename_i b hb
     rcases List.mem_cons.1 hx with rfl | hx
     ·obtain ⟨v,h1,h2⟩:=Option.bind_eq_some_iff.1 hb
      exact ⟨0,rows0,v,rfl,h1,h2⟩
     ·exact tl (ih.1 hx)
    ·exact tl (ih.1 hx)
   ·rintro ⟨k,rows,v,h1,h2,h3⟩
    cases k with
    | zero=>
     have e:(w.cell? ⟨l.blk,l.base+k0,none⟩).bind blkV=some x:=by rw [show l.base+k0=l.base+(k0+0) from rfl,h2]; exact h3
     rw [e]; simp
    | succ k=>
     have hm:=ih.2 ⟨k,rows,v,by simpa using h1,by rw [<- h2,show k0+(k+1)=k0+1+k by omega],h3⟩
     split
     ·exact List.mem_cons_of_mem _ hm
     ·exact hm
theorem qml{l:Loc}{x:Nat}{sl:List Slot}:x∈prvL w l sl 0↔∃k,PAt w l sl k x:=by
 rw [qi5]
 simp only [Nat.zero_add]
 exact Iff.rfl
theorem qka{l:Loc}:∀ {sl:List Slot} {k0:Nat},(∀ k k' x rows rows' v v',sl[k]? =some (.own rows)->w.cell? ⟨l.blk,l.base+(k0+k),none⟩=some v->blkV v=some x->sl[k']? =some (.own rows')->w.cell? ⟨l.blk,l.base+(k0+k'),none⟩=some v'->blkV v'=some x->k=k')->(prvL w l sl k0).Nodup:=by
 intro sl
 induction sl with
 | nil=>intro k0 _; exact List.nodup_nil
 | cons s sl ih=>
  intro k0 h
  have h':(prvL w l sl (k0+1)).Nodup:=ih λk k' x rows rows' v v' h1 h2 h3 h4 h5 h6=>by
   have:=h (k+1) (k'+1) x rows rows' v v' (by simpa using h1) (by rw [<- h2,show k0+(k+1)=k0+1+k by omega]) h3 (by simpa using h4) (by rw [<- h5,show k0+(k'+1)=k0+1+k' by omega]) h6
   omega
  cases s with
  | nil=>exact h'
  | out id len=>exact h'
  | own rows0=>
   simp only [prvL]
   split
   ·rename_i b hb
    refine List.nodup_cons.2 ⟨λhm=> ?_,h'⟩
    obtain ⟨v0,h1,h2⟩:=Option.bind_eq_some_iff.1 hb
    obtain ⟨k,rows,v,h3,h4,h5⟩:=qi5.1 hm
    have:=h 0 (k+1) b rows0 rows v0 v rfl h1 h2 (by simpa using h3) (by rw [<- h4,show k0+(k+1)=k0+1+k by omega]) h5
    omega
   ·exact h'
theorem q0m{i x:Nat}:x∈blks w φ hf i↔x=(φ i).blk\/∃sz sl k,hf i=some (.nst sz sl)/\PAt w (φ i) sl k x:=by
 unfold blks
 rw [List.mem_cons]
 refine or_congr_right ?_
 split
 ·rename_i sz sl h
  rw [qml]
  exact ⟨λ⟨k,hk⟩=>⟨sz,sl,k,h,hk⟩,λ⟨_,_,k,h1,hk⟩=>by rw [h]at h1; cases h1; exact ⟨k,hk⟩⟩
 ·rename_i h
  exact ⟨λhx=>by simp at hx,λ⟨sz,sl,k,h1,_⟩=>(h sz sl h1).elim⟩
theorem q54(hI:Inv S K w0 Kn φ hf w){i:Nat}{o:Ob}(ho:hf i=some o)(hown:isOwn o=true){x:Nat}(hx:x∈blks w φ hf i):¬S x/\¬K x/\x < w.heap.size:=by
 rcases q0m.1 hx with rfl | ⟨sz,sl,k,h1,h2⟩
 ·exact (hI.obj i o ho).2.own hown
 ·obtain ⟨a,b,c,_⟩:=hI.pat h1 h2; exact ⟨a,b,c⟩
theorem q4e(hI:Inv S K w0 Kn φ hf w){i j:Nat}{a b:Ob}(hi:hf i=some a)(hj:hf j=some b)(ha:isOwn a=true)(hb:isOwn b=true)(hne:i≠j){x:Nat}(hx:x∈blks w φ hf i):x∉blks w φ hf j:=by
 intro hy
 rcases q0m.1 hx with rfl | ⟨sz,sl,k,h1,h2⟩ <;> rcases q0m.1 hy with e | ⟨sz',sl',k',h3,h4⟩
 ·exact hI.dist i j a b hi hj ha hb hne e
 ·exact (hI.prv j sz' sl' k' _ h3 h4).1 i a hi ha rfl
 ·subst e; exact (hI.prv i sz sl k _ h1 h2).1 j b hj hb rfl
 ·exact hne (((hI.prv i sz sl k x h1 h2).2 j sz' sl' k' h3 h4).1).symm
theorem qjr(hI:Inv S K w0 Kn φ hf w){i:Nat}{o:Ob}(ho:hf i=some o)(hown:isOwn o=true):(blks w φ hf i).Nodup:=by
 unfold blks
 refine List.nodup_cons.2 ⟨λhm=> ?_, ?_⟩
 ·split at hm
  ·rename_i sz sl h
   obtain ⟨k,hk⟩:=qml.1 hm
   exact (hI.prv i sz sl k _ h hk).1 i o ho hown rfl
  ·simp at hm
 ·split
  ·rename_i sz sl h
   refine qka λk k' x rows rows' v v' h1 h2 h3 h4 h5 h6=> ?_
   rw [Nat.zero_add]at h2 h5
   exact (((hI.prv i sz sl k x h ⟨rows,v,h1,h2,h3⟩).2 i sz sl k' h ⟨rows',v',h4,h5,h6⟩).2).symm
  ·exact List.nodup_nil
theorem q3f(i:Nat):(φ i).blk∈blks w φ hf i:=q0m.2 (.inl rfl)
def SB(S:Nat->Prop)(w:World)(φ:Nat->Loc)(hf:Nat->Option Ob)(ids:List Nat)(b:Nat):Prop:=S b\/∃i∈ids,b∈blks w φ hf i
theorem SB.stp(a b:List Nat)(h:∀i∈a,i∈b):Stp (SB S w φ hf a) w (SB S w φ hf b) w:=
 ⟨λ_ hb=>hb.imp id λ⟨i,hi,e⟩=>⟨i,h i hi,e⟩,λ_ _=>rfl⟩
theorem SB.stp0(b:List Nat):Stp S w (SB S w φ hf b) w:=⟨λ_ hb=> .inl hb,λ_ _=>rfl⟩
theorem RwF.rd{sz b:Nat}{rows:List (List D)}{v:Value}(h:RwF S w sz rows v b){T:Nat->Prop}(hT:Stp S w T w)(hb:T b):RD T w (.sl sz rows) v:=by
 obtain ⟨addr,cap,arr,rfl,h2,h3,h4,_,h6⟩:=h
 exact .sl_of hb h2 rfl h4 ⟨h6.1,λi r hi j x hj=>let ⟨v,hv,hr⟩:=h6.2 i r hi j x hj; ⟨v,(h3.cell _).trans hv,hr.mono hT⟩⟩
theorem qi8{l:Loc}{szi:Nat}{slots:List Slot}(h:RO S K w Kn φ l (.nst szi slots)){rows:List (List D)}(hd:q7t szi slots=some rows){T:Nat->Prop}(hT:Stp S w T w)(hp:∀k x,PAt w l slots k x->T x):
  rows.length=slots.length/\RowsAt T w 1 (λi=>w.cell? ⟨l.blk,i,none⟩) l.base rows:=by
 have key:∀(slots:List Slot) (rows:List (List D)),q7t szi slots=some rows->rows.length=slots.length/\∀(i:Nat) (r:List D),rows[i]? =some r->∃s x,slots[i]? =some s/\slotD szi s=some x/\r= [x]:=by
  intro slots
  induction slots with
  | nil=>intro rows h; obtain rfl:=Option.some.inj h; exact ⟨rfl,λi r hi=>by simp at hi⟩
  | cons s slots ih=>
   intro rows h
   simp only [q7t]at h
   split at h
   ·rename_i x l hx hl
    obtain rfl:=Option.some.inj h
    obtain ⟨h1,h2⟩:=ih l hl
    refine ⟨by simp [h1],λi r hi=> ?_⟩
    cases i with
    | zero=>exact ⟨s,x,rfl,hx,(by simpa using hi: [x]=r).symm⟩
    | succ i=>obtain ⟨s',x',e1,e2,e3⟩:=h2 i r (by simpa using hi); exact ⟨s',x',by simpa using e1,e2,e3⟩
   ·simp at h
 obtain ⟨k1,k2⟩:=key slots rows hd
 cases h with
 | nst hsz hl hS hK ho hext hfit hr hv=>
  refine ⟨k1,λi r hi=>by obtain ⟨_,_,_,_,rfl⟩:=k2 i r hi; rfl,λi r hi j x hj=> ?_⟩
  obtain ⟨s,y,e1,e2,rfl⟩:=k2 i r hi
  cases j with
  | succ j=>simp at hj
  | zero=>
   obtain rfl:y=x:=by simpa using hj
   obtain ⟨v,h1,h2⟩:=hr i s e1
   refine ⟨v,by rw [Nat.mul_one,Nat.add_zero]; exact (ho.cell _).trans h1, ?_⟩
   cases h2 with
   | nil=>obtain rfl:=Option.some.inj e2; exact .lit rfl
   | @own rows' _ b h3 _ _=>
    obtain rfl:=Option.some.inj e2
    exact h3.rd hT (hp i b ⟨rows',v,e1,(ho.cell _).trans h1,h3.blk⟩)
   | out _=>simp [slotD]at e2
theorem q4i{id sz:Nat}{rows:List (List D)}(hI:Inv S K w0 Kn φ hf w)(ho:hf id=some (.arr sz rows)\/hf id=some (.imm sz rows)):
  0 < sz/\(φ id).sz=sz/\RowsAt S w sz (λi=>w.cell? ⟨(φ id).blk,i,none⟩) (φ id).base rows:=by
 rcases ho with ho | ho
 ·obtain ⟨_,h0⟩:=hI.obj _ _ ho
  cases h0 with
  | arr hsz hl hS hK hown hext hfit hrr=>exact ⟨hsz,hl,hrr.1,λi r hi j x hj=>let ⟨v,hv,hr⟩:=hrr.2 i r hi j x hj; ⟨v,(hown.cell _).trans hv,hr⟩⟩
 ·obtain ⟨_,h0⟩:=hI.obj _ _ ho
  cases h0 with
  | imm hsz hl hS hrr=>exact ⟨hsz,hl,hrr⟩
theorem RowsAt.sub{sz base:Nat}{get:Nat->Option Value}{rows:List (List D)}(h:RowsAt S w sz get base rows)(off len:Nat):
  RowsAt S w sz get (base+off * sz) ((rows.drop off).take len):=by
 have key:∀i (r:List D),((rows.drop off).take len)[i]? =some r->rows[off+i]? =some r:=by
  intro i r hi
  rw [List.getElem?_take]at hi
  split at hi
  ·rwa [List.getElem?_drop]at hi
  ·simp at hi
 refine ⟨λi r hi=>h.1 _ _ (key i r hi),λi r hi j x hj=> ?_⟩
 obtain ⟨v,hv,hr⟩:=h.2 _ _ (key i r hi) j x hj
 refine ⟨v, ?_,hr⟩
 rw [<- hv]; congr 1
 rw [Nat.add_mul]; omega
theorem RowsAt.sub'{sz base addr:Nat}{get:Nat->Option Value}{rows:List (List D)}(h:RowsAt S w sz get base rows)(off len:Nat)(ha:0 < len->addr=base+off * sz):
  RowsAt S w sz get addr ((rows.drop off).take len):=by
 cases len with
 | zero=>exact ⟨λi r hi=>by simp at hi,λi r hi=>by simp at hi⟩
 | succ n=>rw [ha (Nat.succ_pos _)]; exact h.sub off _
theorem qim{sz id off len:Nat}{rows:List (List D)}{v:Value}{szo:Nat}(hI:Inv S K w0 Kn φ hf w)(hc:RC S w Kn φ (.osl sz id off len) v)
  (ho:hf id=some (.arr szo rows)\/hf id=some (.imm szo rows)) (hle:off+len<=rows.length) {T:Nat->Prop} (hT:Stp S w T w) (hb:T (φ id).blk):
  RD T w (.sl sz ((rows.drop off).take len)) v:=by
 obtain ⟨hsz,hl,hr⟩:=q4i hI ho
 subst hl
 cases hc with
 | osl hk hcap haddr hext=>exact .sl_of hb hsz (by simp; omega) hcap ((hr.sub' off len λh=>haddr (by omega)).mono hT)
theorem qte{id row off sz:Nat}{rows:List (List D)}{r:List D}{v:Value}(hI:Inv S K w0 Kn φ hf w)(hc:RC S w Kn φ (.ep id row off) v)
  (ho:hf id=some (.arr sz rows)\/hf id=some (.imm sz rows)) (hr:rows[row]? =some r) {T:Nat->Prop} (hT:Stp S w T w) (hb:T (φ id).blk):
  RD T w (.pt (r.drop off)) v:=by
 obtain ⟨hsz,hl,hrr⟩:=q4i hI ho
 cases hc with
 | ep hk=>
  refine .pt_of hb λj x hj=> ?_
  rw [List.getElem?_drop]at hj
  obtain ⟨u,hu,hd⟩:=hrr.2 row r hr (off+j) x hj
  refine ⟨u, ?_,hd.mono hT⟩
  rw [<- hu,hl]; simp only [Nat.add_assoc]
theorem qf4{H:Heap}(hI:Inv S K w0 Kn φ (look H) w)(n:Nat)(c:C)(x:D)(ids:List Nat)(v:Value)(hleaf:match c with | .op _ _ | .ofn _ _=>False | _=>True)
  (h:viewC H n c=some (x,ids)) (hc:RC S w Kn φ c v):RD (SB S w φ (look H) ids) w x v:=by
 cases c with
 | d y=>
  simp only [viewC,Option.some.injEq,Prod.mk.injEq]at h
  obtain ⟨rfl,rfl⟩:=h
  cases hc with
  | d hd=>exact hd.mono (SB.stp0 _)
 | osl sz id off len=>
  simp only [viewC]at h
  have key:∀szo rows,(look H id=some (.arr szo rows)\/look H id=some (.imm szo rows))->(if off+len<=rows.length then some (D.sl sz ((rows.drop off).take len), [id])else none)=some (x,ids)->RD (SB S w φ (look H) ids) w x v:=by
   intro szo rows ho h
   split at h
   ·rename_i hle
    obtain ⟨rfl,rfl⟩:=Prod.mk.inj (Option.some.inj h)
    exact qim hI hc ho hle (SB.stp0 _) (.inr ⟨_,by simp,q3f _⟩)
   ·simp at h
  split at h
  ·exact key _ _ (.inl (by assumption)) h
  ·exact key _ _ (.inr (by assumption)) h
  ·rename_i szi slots ho
   split at h
   ·rename_i he
    obtain ⟨rfl,rfl⟩:=he
    split at h
    ·rename_i rows hd
     obtain ⟨rfl,rfl⟩:=Prod.mk.inj (Option.some.inj h)
     obtain ⟨_,hro⟩:=hI.obj _ _ ho
     obtain ⟨h1,h2⟩:=qi8 hro hd (SB.stp0 (hf:=look H) (φ:=φ) [id]) λk x hp=> .inr ⟨id,by simp,q0m.2 (.inr ⟨szi,slots,k,ho,hp⟩)⟩
     cases hro with
     | nst hsz hl=>
      cases hc with
      | osl hk hcap haddr hext=>
       rw [hl]
       refine .sl_of (.inr ⟨id,by simp,q3f id⟩) Nat.one_pos h1 hcap ?_
       cases hs:slots with
       | nil=>
        have:rows= []:=List.length_eq_zero_iff.1 (by rw [h1,hs]; rfl)
        rw [this]; exact ⟨λi r hi=>by simp at hi,λi r hi=>by simp at hi⟩
       | cons s r=>
        rw [hs]at hcap
        have:=haddr (by simp at hcap; omega)
        rw [this,hl,Nat.zero_mul,Nat.add_zero]; exact h2
    ·simp at h
   ·simp at h
  ·simp at h
 | ep id row off=>
  simp only [viewC]at h
  have key:∀szo rows,(look H id=some (.arr szo rows)\/look H id=some (.imm szo rows))->
    (match rows[row]? with | some r=>if off<=r.length then some (D.pt (r.drop off), [id])else none | none=>none)=some (x,ids)->RD (SB S w φ (look H) ids) w x v:=by
   intro szo rows ho h
   split at h
   ·rename_i r hr
    split at h
    ·obtain ⟨rfl,rfl⟩:=Prod.mk.inj (Option.some.inj h)
     exact qte hI hc ho hr (SB.stp0 _) (.inr ⟨_,by simp,q3f _⟩)
    ·simp at h
   ·simp at h
  split at h
  ·exact key _ _ (.inl (by assumption)) h
  ·exact key _ _ (.inr (by assumption)) h
  ·simp at h
 | op id off=>exact hleaf.elim
 | ofn f caps=>exact hleaf.elim
 | om id=>cases n <;> simp [viewC]at h
theorem q9o{H:Heap}(hI:Inv S K w0 Kn φ (look H) w):∀n,
  (∀ c x ids v,viewC H n c=some (x,ids)->RC S w Kn φ c v->RD (SB S w φ (look H) ids) w x v)/\
  (∀ cs xs ids,viewL H n cs=some (xs,ids)->∀(get:Nat->Option Value),(∀ (i:Nat) (c:C),cs[i]? =some c->∃v,get i=some v/\RC S w Kn φ c v)->
   xs.length=cs.length/\∀(i:Nat) (x:D),xs[i]? =some x->∃v,get i=some v/\RD (SB S w φ (look H) ids) w x v):=by
 intro n
 induction n with
 | zero=>
  refine ⟨λc x ids v h hc=> ?_,λcs xs ids h get hg=> ?_⟩
  ·cases c with
   | op id off=>simp [viewC]at h
   | ofn f caps=>simp [viewC]at h
   | _=>exact qf4 hI 0 _ x ids v trivial h hc
  ·cases cs with
   | nil=>
    obtain ⟨rfl,rfl⟩: []=xs/\ []=ids:=by simpa [viewL]using h
    exact ⟨rfl,λi x hi=>by simp at hi⟩
   | cons c cs=>simp [viewL]at h
 | succ n ih=>
  obtain ⟨ihc,ihl⟩:=ih
  refine ⟨λc x ids v h hc=> ?_,λcs xs ids h get hg=> ?_⟩
  ·cases c with
   | op id off=>
    simp only [viewC]at h
    split at h
    ·rename_i cells ho
     split at h
     ·obtain ⟨rfl,rfl⟩:=Prod.mk.inj (Option.some.inj h)
      obtain ⟨_,h0⟩:=hI.obj _ _ ho
      cases h0 with
      | ibox hb hS hr=>
       cases hc with
       | op hk=>
        refine .pt_of (.inl hS) λj x hj=> ?_
        rw [List.getElem?_drop]at hj
        obtain ⟨u,hu,hd⟩:=hr _ _ hj
        exact ⟨u,by rw [<- hu,hb,Nat.zero_add],hd.mono (SB.stp0 _)⟩
     ·simp at h
    ·rename_i cells ho
     split at h
     ·rename_i ds ids' hv
      split at h
      ·obtain ⟨rfl,rfl⟩:=Prod.mk.inj (Option.some.inj h)
       obtain ⟨_,h0⟩:=hI.obj _ _ ho
       cases h0 with
       | @box _ arr hb hS hK hown hlen hr=>
        cases hc with
        | op hk=>
         obtain ⟨h1,h2⟩:=ihl cells ds ids' hv (λi=>w.cell? ⟨(φ id).blk,i,none⟩) (λi c hi=>by
          have hlt:=(List.getElem?_eq_some_iff.1 hi).1
          rw [hlen]at hlt
          exact ⟨arr.getD i undef,by rw [hown.cell]; simp [Array.getD,hlt],hr i c hi⟩)
         refine .pt_of (.inr ⟨id,by simp,q3f _⟩) λj x hj=> ?_
         rw [List.getElem?_drop]at hj
         obtain ⟨u,hu,hd⟩:=h2 _ _ hj
         exact ⟨u,by rw [<- hu,hb,Nat.zero_add],hd.mono (SB.stp _ _ λi hi=>by simp [hi])⟩
      ·simp at h
     ·simp at h
    ·simp at h
   | ofn f caps=>
    simp only [viewC]at h
    split at h
    ·rename_i ds ids' hv
     obtain ⟨rfl,rfl⟩:=Prod.mk.inj (Option.some.inj h)
     cases hc with
     | @ofn _ _ vs hlen hr=>
      obtain ⟨h1,h2⟩:=ihl caps ds ids' hv (λi=>vs[i]?) (λi c hi=>by
       have hlt:=(List.getElem?_eq_some_iff.1 hi).1
       rw [hlen]at hlt
       exact ⟨vs.getD i undef,by simp [Array.getD,hlt],hr i c hi⟩)
      refine .fn (h1.trans hlen) λj x hj=> ?_
      obtain ⟨u,hu,hd⟩:=h2 j x hj
      have hu':vs[j]? =some u:=hu
      have:vs.getD j undef=u:=by simp [hu']
      rw [this]; exact hd
    ·simp at h
   | _=>exact qf4 hI (n+1) _ x ids v trivial h hc
  ·cases cs with
   | nil=>
    obtain ⟨rfl,rfl⟩: []=xs/\ []=ids:=by simpa [viewL]using h
    exact ⟨rfl,λi x hi=>by simp at hi⟩
   | cons c cs=>
    simp only [viewL]at h
    split at h
    ·rename_i x0 a xs0 b hx hxs
     obtain ⟨rfl,rfl⟩:=Prod.mk.inj (Option.some.inj h)
     obtain ⟨v0,hv0,hc0⟩:=hg 0 c rfl
     have h0:=ihc c x0 a v0 hx hc0
     obtain ⟨h1,h2⟩:=ihl cs xs0 b hxs (λi=>get (i+1)) (λi c hi=>hg (i+1) c (by simpa using hi))
     refine ⟨by simp [h1],λi x hi=> ?_⟩
     cases i with
     | zero=>
      obtain rfl:x0=x:=by simpa using hi
      exact ⟨v0,hv0,h0.mono (SB.stp _ _ λi hi=>by simp [hi])⟩
     | succ i=>
      obtain ⟨u,hu,hd⟩:=h2 i x (by simpa using hi)
      exact ⟨u,hu,hd.mono (SB.stp _ _ λi hi=>by simp [hi])⟩
    ·simp at h
theorem q6w{H:Heap}(hI:Inv S K w0 Kn φ (look H) w):∀cs xs ids,q0r H cs=some (xs,ids)->∀(get:Nat->Option Value),(∀ (i:Nat) (c:C),cs[i]? =some c->∃v,get i=some v/\RC S w Kn φ c v)->
   xs.length=cs.length/\∀(i:Nat) (x:D),xs[i]? =some x->∃v,get i=some v/\RD (SB S w φ (look H) ids) w x v:=by
 intro cs
 induction cs with
 | nil=>
  intro xs ids h get hg
  obtain ⟨rfl,rfl⟩: []=xs/\ []=ids:=by simpa [q0r]using h
  exact ⟨rfl,λi x hi=>by simp at hi⟩
 | cons c cs ih=>
  intro xs ids h get hg
  simp only [q0r]at h
  split at h
  ·rename_i x0 a xs0 b hx hxs
   obtain ⟨rfl,rfl⟩:=Prod.mk.inj (Option.some.inj h)
   obtain ⟨v0,hv0,hc0⟩:=hg 0 c rfl
   have h0:=(q9o hI 300).1 c x0 a v0 hx hc0
   obtain ⟨h1,h2⟩:=ih xs0 b hxs (λi=>get (i+1)) (λi c hi=>hg (i+1) c (by simpa using hi))
   refine ⟨by simp [h1],λi x hi=> ?_⟩
   cases i with
   | zero=>
    obtain rfl:x0=x:=by simpa using hi
    exact ⟨v0,hv0,h0.mono (SB.stp _ _ λi hi=>by simp [hi])⟩
   | succ i=>
    obtain ⟨u,hu,hd⟩:=h2 i x (by simpa using hi)
    exact ⟨u,hu,hd.mono (SB.stp _ _ λi hi=>by simp [hi])⟩
  ·simp at h
theorem q39{H:Heap}{all:List Nat}:∀(l:List Nat) (u:Upd),q0o H all l=some u->
  ∀id,(id∈l->∃o,q2s H all id=some o/\fnd u id=some (some o))/\(id∉l->fnd u id=none):=by
 intro l
 induction l with
 | nil=>
  intro u h id
  obtain rfl: []=u:=by simpa [q0o]using h
  exact ⟨λh=>by simp at h,λ_=>rfl⟩
 | cons a l ih=>
  intro u h id
  simp only [q0o]at h
  split at h
  ·rename_i o u' ho hu
   obtain rfl:=Option.some.inj h
   by_cases e:a=id
   ·subst e
    exact ⟨λ_=>⟨o,ho,by simp [fnd]⟩,λhn=>absurd (List.mem_cons_self ..) hn⟩
   ·obtain ⟨h1,h2⟩:=ih u' hu id
    have e':(a == id)=false:=by simpa using e
    refine ⟨λhm=> ?_,λhn=> ?_⟩
    ·obtain ⟨o',ho',hf'⟩:=h1 ((List.mem_cons.1 hm).resolve_left (λe2=>e e2.symm))
     exact ⟨o',ho',by simp [fnd,e',hf']⟩
    ·simp only [fnd,e',cond_false]; exact h2 (λhm=>hn (List.mem_cons_of_mem _ hm))
  ·simp at h
theorem qfc{H:Heap}{all:List Nat}{id:Nat}{o:Ob}(hI:Inv S K w0 Kn φ (look H) w)(hmem:id∈all)(h:q2s H all id=some o):
  isOwn o=false/\(∃ o0,look H id=some o0)/\RO (SB S w φ (look H) all) K w Kn φ (φ id) o:=by
 unfold q2s at h
 have hb:SB S w φ (look H) all (φ id).blk:= .inr ⟨id,hmem,q3f _⟩
 split at h
 ·rename_i sz rows ho
  obtain rfl:=Option.some.inj h
  obtain ⟨hsz,hl,hr⟩:=q4i hI (.inl ho)
  exact ⟨rfl,⟨_,ho⟩, .imm hsz hl hb (hr.mono (SB.stp0 _))⟩
 ·rename_i sz rows ho
  obtain rfl:=Option.some.inj h
  obtain ⟨hsz,hl,hr⟩:=q4i hI (.inr ho)
  exact ⟨rfl,⟨_,ho⟩, .imm hsz hl hb (hr.mono (SB.stp0 _))⟩
 ·rename_i cells ho
  obtain rfl:=Option.some.inj h
  obtain ⟨_,h0⟩:=hI.obj _ _ ho
  cases h0 with
  | ibox hbase hS hr=>exact ⟨rfl,⟨_,ho⟩, .ibox hbase hb λi x hi=>let ⟨v,hv,hd⟩:=hr i x hi; ⟨v,hv,hd.mono (SB.stp0 _)⟩⟩
 ·rename_i cells ho
  split at h
  ·rename_i ds ids hv
   split at h
   ·rename_i hall
    obtain rfl:=Option.some.inj h
    obtain ⟨_,h0⟩:=hI.obj _ _ ho
    cases h0 with
    | @box _ arr hbase hS hK hown hlen hr=>
     obtain ⟨h1,h2⟩:=(q9o hI 300).2 cells ds ids hv (λi=>w.cell? ⟨(φ id).blk,i,none⟩) (λi c hi=>by
      have hlt:=(List.getElem?_eq_some_iff.1 hi).1
      rw [hlen]at hlt
      exact ⟨arr.getD i undef,by rw [hown.cell]; simp [Array.getD,hlt],hr i c hi⟩)
     refine ⟨rfl,⟨_,ho⟩, .ibox hbase hb λi x hi=> ?_⟩
     obtain ⟨u,hu,hd⟩:=h2 i x hi
     exact ⟨u,hu,hd.mono (SB.stp _ _ λi hi=>by simpa using List.all_eq_true.1 hall i hi)⟩
   ·simp at h
  ·simp at h
 ·simp at h
 ·simp at h
 ·rename_i szi slots ho
  split at h
  ·rename_i rows hd
   obtain rfl:=Option.some.inj h
   obtain ⟨_,hro⟩:=hI.obj _ _ ho
   obtain ⟨_,h2⟩:=qi8 hro hd (SB.stp0 (hf:=look H) (φ:=φ) all) λk x hp=> .inr ⟨id,hmem,q0m.2 (.inr ⟨szi,slots,k,ho,hp⟩)⟩
   cases hro with
   | nst hsz hl=>exact ⟨rfl,⟨_,ho⟩, .imm Nat.one_pos hl hb h2⟩
  ·simp at h
 ·simp at h
theorem Inv.freeze{H:Heap}{ids:List Nat}{u:Upd}(hI:Inv S K w0 Kn φ (look H) w)(h:q0o H ids ids=some u):
  Inv (SB S w φ (look H) ids) K w0 Kn φ (updF u (look H)) w:=by
 have hfr:∀id∈ids,∃o,fnd u id=some (some o)/\isOwn o=false/\(∃ o0,look H id=some o0)/\RO (SB S w φ (look H) ids) K w Kn φ (φ id) o:=by
  intro id hid
  obtain ⟨o,ho,hfn⟩:=((q39 ids u h id).1 hid)
  exact ⟨o,hfn,qfc hI hid ho⟩
 have hold:∀id o,updF u (look H) id=some o->isOwn o=true->id∉ids/\look H id=some o:=by
  intro id o ho hown
  by_cases hm:id∈ids
  ·obtain ⟨o',hfn,hno,_⟩:=hfr id hm
   simp only [updF,hfn]at ho
   obtain rfl:=Option.some.inj ho
   rw [hno]at hown; simp at hown
  ·refine ⟨hm, ?_⟩
   simpa only [updF,(q39 ids u h id).2 hm]using ho
 have hnb:∀id o,look H id=some o->isOwn o=true->id∉ids->∀x∈blks w φ (look H) id,¬SB S w φ (look H) ids x:=by
  intro id o ho hown hm x hx hb
  have hx1:=(q54 hI ho hown hx).1
  rcases hb with hb | ⟨i,hi,e⟩
  ·exact hx1 hb
  ·obtain ⟨_,_,_,⟨o0,ho0⟩,_⟩:=hfr i hi
   by_cases hoi:isOwn o0=true
   ·exact q4e hI ho ho0 hown hoi (λe'=>hm (e'▸hi)) hx e
   ·obtain ⟨_,h1⟩:=hI.obj i o0 ho0
    rcases q0m.1 e with rfl | ⟨sz,sl,k,h2,_⟩
    ·exact hx1 (by
      cases h1 with
      | imm hsz hl hS _=>exact hS
      | ibox hb hS _=>exact hS
      | _=>simp [isOwn]at hoi)
    ·rw [ho0]at h2
     obtain rfl:=Option.some.inj h2
     simp [isOwn]at hoi
 refine hI.step (SB.stp0 _) (Ren.refl _ _) ?_ ?_ hI.frm ?_ ?_ ?_
 ·intro b hb
  rcases hb with hb | ⟨i,hi,hb⟩
  ·exact hI.slt b hb
  ·obtain ⟨_,_,_,⟨o0,ho0⟩,_⟩:=hfr i hi
   by_cases hoi:isOwn o0=true
   ·exact (q54 hI ho0 hoi hb).2.2
   ·obtain ⟨_,h1⟩:=hI.obj i o0 ho0
    rcases q0m.1 hb with rfl | ⟨sz,sl,k,h2,h3⟩
    ·cases h1 with
     | imm hsz hl hS=>exact hI.slt _ hS
     | ibox hb hS=>exact hI.slt _ hS
     | _=>simp [isOwn]at hoi
    ·exact (hI.pat h2 h3).2.2.1
 ·intro b hb
  rcases hb with hb | ⟨i,hi,hb⟩
  ·exact hI.sk b hb
  ·obtain ⟨_,_,_,⟨o0,ho0⟩,_⟩:=hfr i hi
   by_cases hoi:isOwn o0=true
   ·exact (q54 hI ho0 hoi hb).2.1
   ·obtain ⟨_,h1⟩:=hI.obj i o0 ho0
    rcases q0m.1 hb with rfl | ⟨sz,sl,k,h2,h3⟩
    ·cases h1 with
     | imm hsz hl hS=>exact hI.sk _ hS
     | ibox hb hS=>exact hI.sk _ hS
     | _=>simp [isOwn]at hoi
    ·exact (hI.pat h2 h3).2.1
 ·intro id o ho
  by_cases hm:id∈ids
  ·obtain ⟨o',hfn,hno,⟨o0,ho0⟩,hro⟩:=hfr id hm
   simp only [updF,hfn]at ho
   obtain rfl:=Option.some.inj ho
   exact .inr ⟨(hI.obj id o0 ho0).1,hro⟩
  ·have ho':look H id=some o:=by simpa only [updF,(q39 ids u h id).2 hm]using ho
   exact .inl ⟨ho',λhown=>⟨rfl,hnb id o ho' hown hm _ (q3f _)⟩⟩
 ·intro i j a b ha hb hoa hob hne
  exact hI.dist i j a b (hold i a ha hoa).2 (hold j b hb hob).2 hoa hob hne
 ·intro id sz sl hi
  obtain ⟨h1,h2⟩:=hold id _ hi rfl
  refine ⟨h2,rfl,λk x hp=>⟨rfl,hnb id _ h2 rfl h1 x (q0m.2 (.inr ⟨sz,sl,k,h2,hp⟩)),λj b hj hb=> ?_⟩⟩
  exact (hI.prv id sz sl k x h2 hp).1 j b (hold j b hj hb).2 hb
end
end Go.Ev

namespace Go.Ev
def RowT(S:Nat->Prop)(w:World)(sz:Nat):Option (List (List D))->Value->List Nat->Prop
 | none,v,fp=>v= .slice none 0 0/\fp= []
 | some rows,v,fp=>∃b,fp= [b]/\RwF S w sz rows v b
inductive RT (S:Nat->Prop) (w:World):T->Value->List Nat->Prop
 | d {x:D} {v:Value} (h:RD S w x v):RT S w (.d x) v []
 | sl {sz:Nat} {rows:List (List D)} {b off len cap:Nat} {arr:Array Value} (hsz:0 < sz) (ho:Own w b arr) (hlen:rows.length=len) (hcap:len<=cap)
   (hext:off+cap * sz<=arr.size) (hr:RowsAt S w sz (λi=>arr[i]?) off rows):RT S w (.sl sz rows) (.slice (some ⟨b,off,none⟩) len cap) [b]
 | pt {ts:List T} {b:Nat} {arr:Array Value} {fps:List (List Nat)} (ho:Own w b arr) (hlen:ts.length=arr.size) (hfl:fps.length=ts.length)
   (h:∀(i:Nat) (t:T) (fp:List Nat),ts[i]? =some t->fps[i]? =some fp->RT S w t (arr.getD i undef) fp):
   RT S w (.pt ts) (.pointer (some ⟨b,0,none⟩)) (b :: fps.flatten)
 | sls {sz:Nat} {rows:List (Option (List (List D)))} {b off cap:Nat} {arr:Array Value} {fps:List (List Nat)} (hsz:0 < sz) (ho:Own w b arr) (hcap:rows.length<=cap) (hext:off+cap<=arr.size) (hfl:fps.length=rows.length)
   (h:∀(i:Nat) (r:Option (List (List D))) (fp:List Nat),rows[i]? =some r->fps[i]? =some fp->∃v,arr[off+i]? =some v/\RowT S w sz r v fp):
   RT S w (.sls sz rows) (.slice (some ⟨b,off,none⟩) rows.length cap) (b :: fps.flatten)
theorem RowT.mono{S S':Nat->Prop}{w w':World}(hs:Stp S w S' w'){sz:Nat}{r:Option (List (List D))}{v:Value}{fp:List Nat}(h:RowT S w sz r v fp)(hb:∀b∈fp,w'.heap[b]? =w.heap[b]?):RowT S' w' sz r v fp:=by
 cases r with
 | none=>exact h
 | some rows=>
  obtain ⟨b,rfl,h⟩:=h
  exact ⟨b,rfl,h.mono hs (hb b (by simp))⟩
theorem RowT.lt{S:Nat->Prop}{w:World}{sz:Nat}{r:Option (List (List D))}{v:Value}{fp:List Nat}(h:RowT S w sz r v fp):∀b∈fp,b < w.heap.size:=by
 cases r with
 | none=>obtain ⟨_,rfl⟩:=h; intro b hb; simp at hb
 | some rows=>
  obtain ⟨b,rfl,h⟩:=h
  intro b' hb
  obtain rfl:=List.mem_singleton.1 hb
  obtain ⟨arr,h⟩:=h.own
  exact h.lt
theorem RT.mono{S S':Nat->Prop}{w w':World}(hs:Stp S w S' w'){t:T}{v:Value}{fp:List Nat}(h:RT S w t v fp)(hb:∀b∈fp,w'.heap[b]? =w.heap[b]?):RT S' w' t v fp:=by
 induction h with
 | d h=>exact .d (h.mono hs)
 | sl hsz ho hlen hcap hext hr=>exact .sl hsz (ho.of_same (hb _ (by simp))) hlen hcap hext (hr.mono hs)
 | pt ho hlen hfl h ih=>
  refine .pt (ho.of_same (hb _ (by simp))) hlen hfl λi t fp hi hf=>ih i t fp hi hf λb hbm=>hb b ?_
  exact List.mem_cons_of_mem _ (List.mem_flatten.2 ⟨fp,List.mem_of_getElem? hf,hbm⟩)
 | sls hsz ho hcap hext hfl h=>
  refine .sls hsz (ho.of_same (hb _ (by simp))) hcap hext hfl λi r fp hi hf=> ?_
  obtain ⟨v,h1,h2⟩:=h i r fp hi hf
  exact ⟨v,h1,h2.mono hs λb hbm=>hb b (List.mem_cons_of_mem _ (List.mem_flatten.2 ⟨fp,List.mem_of_getElem? hf,hbm⟩))⟩
theorem RT.lt{S:Nat->Prop}{w:World}{t:T}{v:Value}{fp:List Nat}(h:RT S w t v fp):∀b∈fp,b < w.heap.size:=by
 induction h with
 | d h=>intro b hb; simp at hb
 | sl hsz ho=>
  intro b hb
  obtain rfl:=List.mem_singleton.1 hb
  exact ho.lt
 | pt ho hlen hfl h ih=>
  intro b hb
  rcases List.mem_cons.1 hb with rfl | hb
  ·exact ho.lt
  ·obtain ⟨fp,hfp,hbf⟩:=List.mem_flatten.1 hb
   obtain ⟨i,hi,rfl⟩:=List.getElem_of_mem hfp
   exact ih i _ _ (List.getElem?_eq_getElem (by omega:i < _)) (List.getElem?_eq_getElem hi) b hbf
 | sls hsz ho hcap hext hfl h=>
  intro b hb
  rcases List.mem_cons.1 hb with rfl | hb
  ·exact ho.lt
  ·obtain ⟨fp,hfp,hbf⟩:=List.mem_flatten.1 hb
   obtain ⟨i,hi,rfl⟩:=List.getElem_of_mem hfp
   obtain ⟨v,_,h2⟩:=h i _ _ (List.getElem?_eq_getElem (by omega:i < _)) (List.getElem?_eq_getElem hi)
   exact h2.lt b hbf
section
variable {S K:Nat->Prop}{w0 w:World}{Kn:Nat->Prop}{φ:Nat->Loc}{hf:Nat->Option Ob}
theorem q60{id:Nat}(h:∀sz sl,hf id≠some (.nst sz sl)):blks w φ hf id= [(φ id).blk]:=by
 unfold blks
 split
 ·rename_i sz sl e; exact absurd e (h sz sl)
 ·rfl
theorem qmg{l:Loc}{sz:Nat}{get:Nat->Option Value}(hget:∀i,w.cell? ⟨l.blk,i,none⟩=get i):∀(slots:List Slot) (k0:Nat) (rows:List (Option (List (List D)))),(∀ (i:Nat) (s:Slot),slots[i]? =some s->∃v,get (l.base+(k0+i))=some v/\RSlot S K w Kn φ sz s v)->qbm slots=some rows->
  rows.length=slots.length/\∃fps:List (List Nat),fps.length=rows.length/\fps.flatten=prvL w l slots k0/\∀(i:Nat) (r:Option (List (List D))) (fp:List Nat),rows[i]? =some r->fps[i]? =some fp->∃v,get (l.base+(k0+i))=some v/\RowT S w sz r v fp:=by
 intro slots
 induction slots with
 | nil=>
  intro k0 rows _ h
  obtain rfl:=Option.some.inj h
  exact ⟨rfl, [],rfl,rfl,λi r fp hi=>by simp at hi⟩
 | cons s slots ih=>
  intro k0 rows hr h
  simp only [qbm]at h
  split at h
  ·rename_i x rs hx hrs
   obtain rfl:=Option.some.inj h
   obtain ⟨h1,fps,h2,h3,h4⟩:=ih (k0+1) rs (λi s hi=>by
    obtain ⟨v,e1,e2⟩:=hr (i+1) s (by simpa using hi)
    exact ⟨v,by rw [<- e1,show k0+(i+1)=k0+1+i by omega],e2⟩) hrs
   obtain ⟨v,e1,e2⟩:=hr 0 s rfl
   have fin:∀fp0,RowT S w sz x v fp0->fp0++prvL w l slots (k0+1)=prvL w l (s :: slots) k0->(x :: rs).length=(s :: slots).length/\∃fps:List (List Nat),fps.length=(x :: rs).length/\fps.flatten=prvL w l (s :: slots) k0/\∀(i:Nat) (r:Option (List (List D))) (fp:List Nat),(x :: rs)[i]? =some r->fps[i]? =some fp->∃v,get (l.base+(k0+i))=some v/\RowT S w sz r v fp:=by
    intro fp0 h5 h6
    refine ⟨by simp [h1],fp0 :: fps,by simp [h2],by rw [List.flatten_cons,h3,h6],λi r fp hi hf=> ?_⟩
    cases i with
    | zero=>
     obtain rfl:x=r:=by simpa using hi
     obtain rfl:fp0=fp:=by simpa using hf
     exact ⟨v,e1,h5⟩
    | succ i=>
     obtain ⟨v',q1,q2⟩:=h4 i r fp (by simpa using hi) (by simpa using hf)
     exact ⟨v',by rw [<- q1,show k0+(i+1)=k0+1+i by omega],q2⟩
   cases e2 with
   | nil=>
    obtain rfl:=Option.some.inj hx
    exact fin [] ⟨rfl,rfl⟩ rfl
   | @own rows0 _ b q1 _ _=>
    obtain rfl:=Option.some.inj hx
    refine fin [b] ⟨b,rfl,q1⟩ ?_
    simp only [prvL]
    rw [show l.base+k0=l.base+(k0+0) from rfl,hget,e1]
    simp only [Option.bind_some,q1.blk,List.singleton_append]
   | out _=>simp [slotO]at hx
  ·simp at h
theorem qj2{H:Heap}{sz id off len:Nat}{t:T}{own rd:List Nat}{v:Value}(hI:Inv S K w0 Kn φ (look H) w)(hc:RC S w Kn φ (.osl sz id off len) v)
  (h:(match look H id with
  | some (.arr _ rows)=>if off+len<=rows.length then some (T.sl sz ((rows.drop off).take len), [id], [id])else none
  | some (.imm _ rows)=>if off+len<=rows.length then some (.d (.sl sz ((rows.drop off).take len)), [], [id])else none
  | some (.nst szi slots)=>if off=0/\len=slots.length then (match qbm slots with | some rows=>some (.sls szi rows, [id], [id]) | none=>none)else none
  | _=>none)=some (t,own,rd)):
  RT S w t v (own.flatMap (blks w φ (look H)))/\∀i∈own,∃o,look H i=some o/\isOwn o=true:=by
 split at h
 ·rename_i szo rows ho
  split at h
  ·rename_i hle
   obtain ⟨rfl,rfl,rfl⟩:T.sl sz ((rows.drop off).take len)=t/\ [id]=own/\ [id]=rd:=by simpa using h
   obtain ⟨hk,h0⟩:=hI.obj _ _ ho
   cases h0 with
   | arr hsz hl hS hK hown hext hfit hr=>
    subst hl
    cases hc with
    | osl hk hcap haddr hx=>
     rw [List.flatMap_cons,List.flatMap_nil,List.append_nil,q60 λ_ _ e=>by rw [ho]at e; cases e]
     refine ⟨.sl hsz hown (by simp; omega) hcap (by omega) (hr.sub' off len λh=>haddr (by omega)),λi hi=> ?_⟩
     ·obtain rfl:=List.mem_singleton.1 hi
      exact ⟨_,ho,rfl⟩
  ·simp at h
 ·rename_i szo rows ho
  split at h
  ·rename_i hle
   obtain ⟨rfl,rfl,rfl⟩:T.d (.sl sz ((rows.drop off).take len))=t/\ []=own/\ [id]=rd:=by simpa using h
   obtain ⟨hk,h0⟩:=hI.obj _ _ ho
   have hS:S (φ id).blk:=by cases h0 with | imm hsz hl hS _=>exact hS
   exact ⟨.d (qim hI hc (.inr ho) hle (Stp.refl _ _) hS),λi hi=>by simp at hi⟩
  ·simp at h
 ·rename_i szi slots ho
  split at h
  ·rename_i he
   obtain ⟨rfl,rfl⟩:=he
   split at h
   ·rename_i rows hrows
    obtain ⟨rfl,rfl,rfl⟩:T.sls szi rows=t/\ [id]=own/\ [id]=rd:=by simpa using h
    obtain ⟨hk,h0⟩:=hI.obj _ _ ho
    cases h0 with
    | @nst _ _ arr hsz hl hS hK hown hext hfit hr hv=>
     obtain ⟨h1,fps,h2,h3,h4⟩:=qmg (get:=λi=>arr[i]?) hown.cell slots 0 rows (λi s hi=>by rw [Nat.zero_add]; exact hr i s hi) hrows
     cases hc with
     | @osl _ _ _ cap addr hk hcap haddr hx hcc=>
      rw [List.flatMap_cons,List.flatMap_nil,List.append_nil]
      have e:blks w φ (look H) id=(φ id).blk :: fps.flatten:=by
       unfold blks
       rw [ho,h3]
      rw [e,<- h1]
      refine ⟨.sls (sz:=szi) (rows:=rows) hsz hown (by omega) (by rw [hl,Nat.mul_one]at hx; omega) h2 λi r fp hi hf=> ?_,λi hi=> ?_⟩
      ·obtain ⟨v,q1,q2⟩:=h4 i r fp hi hf
       have hlt:=(List.getElem?_eq_some_iff.1 hi).1
       rw [Nat.zero_add]at q1
       exact ⟨v,by rw [haddr (by omega),Nat.zero_mul,Nat.add_zero]; exact q1,q2⟩
      ·obtain rfl:=List.mem_singleton.1 hi
       exact ⟨_,ho,rfl⟩
   ·simp at h
  ·simp at h
 ·simp at h
theorem q7p{H:Heap}(hI:Inv S K w0 Kn φ (look H) w):∀n,
  (∀ c t own rd v,packC H n c=some (t,own,rd)->RC S w Kn φ c v->RT S w t v (own.flatMap (blks w φ (look H)))/\∀i∈own,∃o,look H i=some o/\isOwn o=true)/\
  (∀ cs ts own rd,packL H n cs=some (ts,own,rd)->∀(get:Nat->Value),(∀ (i:Nat) (c:C),cs[i]? =some c->RC S w Kn φ c (get i))->
   ts.length=cs.length/\(∃ fps:List (List Nat),fps.length=ts.length/\fps.flatten=own.flatMap (blks w φ (look H))/\
    ∀(i:Nat) (t:T) (fp:List Nat),ts[i]? =some t->fps[i]? =some fp->RT S w t (get i) fp)/\∀i∈own,∃o,look H i=some o/\isOwn o=true):=by
 intro n
 induction n with
 | zero=>
  refine ⟨λc t own rd v h hc=> ?_,λcs ts own rd h get hg=> ?_⟩
  ·cases c with
   | d x=>
    obtain ⟨rfl,rfl,rfl⟩:T.d x=t/\ []=own/\ []=rd:=by simpa [packC]using h
    cases hc with
    | d hd=>exact ⟨.d hd,λi hi=>by simp at hi⟩
   | osl sz id off len=>simp only [packC]at h; exact qj2 hI hc h
   | _=>simp [packC]at h
  ·cases cs with
   | nil=>
    obtain ⟨rfl,rfl,rfl⟩: []=ts/\ []=own/\ []=rd:=by simpa [packL]using h
    exact ⟨rfl,⟨[],rfl,rfl,λi t fp hi=>by simp at hi⟩,λi hi=>by simp at hi⟩
   | cons c cs=>simp [packL]at h
 | succ n ih=>
  obtain ⟨ihc,ihl⟩:=ih
  refine ⟨λc t own rd v h hc=> ?_,λcs ts own rd h get hg=> ?_⟩
  ·cases c with
   | d x=>
    obtain ⟨rfl,rfl,rfl⟩:T.d x=t/\ []=own/\ []=rd:=by simpa [packC]using h
    cases hc with
    | d hd=>exact ⟨.d hd,λi hi=>by simp at hi⟩
   | osl sz id off len=>simp only [packC]at h; exact qj2 hI hc h
   | op id off=>
    cases off with
    | succ off=>simp [packC]at h
    | zero=>
     simp only [packC]at h
     split at h
     ·rename_i cells ho
      split at h
      ·rename_i ts own' rd' hp
       obtain ⟨rfl,rfl,rfl⟩:T.pt ts=t/\id :: own'=own/\id :: rd'=rd:=by simpa using h
       obtain ⟨hk,h0⟩:=hI.obj _ _ ho
       cases h0 with
       | @box _ arr hb hS hK hown hlen hr=>
        obtain ⟨h1,⟨fps,h2,h3,h4⟩,h5⟩:=ihl cells ts own' rd' hp (λi=>arr.getD i undef) hr
        cases hc with
        | op hk=>
         rw [hb]
         refine ⟨?_,λi hi=> ?_⟩
         ·rw [List.flatMap_cons,<- h3,q60 λ_ _ e=>by rw [ho]at e; cases e]
          exact .pt hown (h1.trans hlen) h2 h4
         ·rcases List.mem_cons.1 hi with rfl | hi
          ·exact ⟨_,ho,rfl⟩
          ·exact h5 i hi
      ·simp at h
     ·rename_i cells ho
      obtain ⟨rfl,rfl,rfl⟩:T.d (.pt cells)=t/\ []=own/\ [id]=rd:=by simpa using h
      obtain ⟨hk,h0⟩:=hI.obj _ _ ho
      cases h0 with
      | ibox hb hS hr=>
       cases hc with
       | op hk=>
        exact ⟨.d (.pt_of hS λj x hj=>by
         obtain ⟨u,hu,hd⟩:=hr j x hj
         exact ⟨u,by rw [<- hu,hb]; simp,hd⟩),λi hi=>by simp at hi⟩
     ·simp at h
   | ep id row off=>simp [packC]at h
   | ofn f caps=>simp [packC]at h
   | om id=>simp [packC]at h
  ·cases cs with
   | nil=>
    obtain ⟨rfl,rfl,rfl⟩: []=ts/\ []=own/\ []=rd:=by simpa [packL]using h
    exact ⟨rfl,⟨[],rfl,rfl,λi t fp hi=>by simp at hi⟩,λi hi=>by simp at hi⟩
   | cons c cs=>
    simp only [packL]at h
    split at h
    ·rename_i t0 a i0 ts0 b j0 hx hxs
     obtain ⟨rfl,rfl,rfl⟩:t0 :: ts0=ts/\a++b=own/\i0++j0=rd:=by simpa using h
     obtain ⟨p1,p2⟩:=ihc c t0 a i0 (get 0) hx (hg 0 c rfl)
     obtain ⟨h1,⟨fps,h2,h3,h4⟩,h5⟩:=ihl cs ts0 b j0 hxs (λi=>get (i+1)) (λi c hi=>hg (i+1) c (by simpa using hi))
     refine ⟨by simp [h1],⟨(a.flatMap (blks w φ (look H))) :: fps,by simp [h2],by simp [h3],λi t fp hi hfp=> ?_⟩,λi hi=> ?_⟩
     ·cases i with
      | zero=>
       obtain rfl:t0=t:=by simpa using hi
       obtain rfl:(a.flatMap (blks w φ (look H)))=fp:=by simpa using hfp
       exact p1
      | succ i=>exact h4 i t fp (by simpa using hi) (by simpa using hfp)
     ·rcases List.mem_append.1 hi with hi | hi
      ·exact p2 i hi
      ·exact h5 i hi
    ·simp at h
theorem qg4{own:List Nat}(hI:Inv S K w0 Kn φ hf w)(hn:own.Nodup)(ho:∀i∈own,∃o,hf i=some o/\isOwn o=true):(own.flatMap (blks w φ hf)).Nodup:=by
 induction own with
 | nil=>exact List.nodup_nil
 | cons a l ih=>
  rw [List.nodup_cons]at hn
  obtain ⟨o1,h1,h2⟩:=ho a (by simp)
  rw [List.flatMap_cons,List.nodup_append]
  refine ⟨qjr hI h1 h2,ih hn.2 λi hi=>ho i (List.mem_cons_of_mem _ hi),λx hx y hy e=> ?_⟩
  subst e
  obtain ⟨i,hi,hy⟩:=List.mem_flatMap.1 hy
  obtain ⟨o2,h3,h4⟩:=ho i (List.mem_cons_of_mem _ hi)
  exact q4e hI h1 h3 h2 h4 (λe'=>hn.1 (e'▸hi)) hx hy
def KnU(Kn:Nat->Prop)(a b:Nat)(j:Nat):Prop:=Kn j\/(a<=j/\j < b)
theorem Inv.name(h:Inv S K w0 Kn φ hf w){i:Nat}(hi:¬Kn i)(l:Loc)(o:Ob)(hfree:isOwn o=true->∀j b,hf j=some b->isOwn b=true->l.blk∉blks w φ hf j)
  (hro:RO S K w (λj=>Kn j\/j=i) (ext φ i l) l o)
  (hp:∀sz sl k x,o= .nst sz sl->PAt w l sl k x->x≠l.blk/\(∀ j b,hf j=some b->isOwn b=true->x∉blks w φ hf j)/\∀k',PAt w l sl k' x->k'=k:=by intro _ _ _ _ e; cases e):
  Inv S K w0 (λj=>Kn j\/j=i) (ext φ i l) (updF [(i,some o)] hf) w:=by
 have hold:∀j b,updF [(i,some o)] hf j=some b->(j=i/\b=o/\ext φ i l j=l)\/(j≠i/\hf j=some b/\ext φ i l j=φ j):=by
  intro j b hj
  rw [q06]at hj
  by_cases e:i=j
  ·rw [if_pos e]at hj
   exact .inl ⟨e.symm,(Option.some.inj hj).symm,by simp [ext,e]⟩
  ·rw [if_neg e,q0x]at hj
   have e1:¬j=i:=λq=>e q.symm
   exact .inr ⟨e1,hj,by simp [ext,e1]⟩
 refine h.stepG (Stp.refl _ _) (q2v _ hi) h.slt h.sk h.frm ?_ ?_ ?_
 ·intro id o' ho
  rcases hold id o' ho with ⟨rfl,rfl,e⟩ | ⟨_,ho,_⟩
  ·exact .inr ⟨.inr rfl,by rw [e]; exact hro⟩
  ·exact .inl ⟨ho,λhown=>⟨rfl,((h.obj id o' ho).2.own hown).1⟩,h.kept ho λ_ _=>rfl⟩
 ·intro a b oa ob ha hb hoa hob hne
  rcases hold a oa ha with ⟨h1,h2,e1⟩ | ⟨_,ha',e1⟩ <;> rcases hold b ob hb with ⟨h3,h4,e2⟩ | ⟨_,hb',e2⟩
  ·exact absurd (h1.trans h3.symm) hne
  ·rw [e1,e2]; exact λe=>hfree (h2▸hoa) b ob hb' hob (q0m.2 (.inl e))
  ·rw [e1,e2]; exact λe=>hfree (h4▸hob) a oa ha' hoa (q0m.2 (.inl e.symm))
  ·rw [e1,e2]; exact h.dist a b oa ob ha' hb' hoa hob hne
 ·intro a sz sl k x ha hpa
  rcases hold a _ ha with ⟨ea,eo,e1⟩ | ⟨hne,ha',e1⟩ <;> rw [e1]at hpa
  ·obtain ⟨p1,p2,p3⟩:=hp sz sl k x eo.symm hpa
   refine ⟨λj b hj hown=> ?_,λj sz' sl' k' hj hpj=> ?_⟩
   ·rcases hold j b hj with ⟨_,_,e2⟩ | ⟨_,hj',e2⟩ <;> rw [e2]
    ·exact λe=>p1 e.symm
    ·exact λe=>p2 j b hj' hown (q0m.2 (.inl e.symm))
   ·rcases hold j _ hj with ⟨ej,eo2,e2⟩ | ⟨_,hj',e2⟩ <;> rw [e2]at hpj
    ·rw [<- eo]at eo2; cases eo2; exact ⟨ej.trans ea.symm,p3 k' hpj⟩
    ·exact absurd (q0m.2 (.inr ⟨sz',sl',k',hj',hpj⟩)) (p2 j _ hj' rfl)
  ·obtain ⟨p1,p2⟩:=h.prv a sz sl k x ha' hpa
   refine ⟨λj b hj hown=> ?_,λj sz' sl' k' hj hpj=> ?_⟩
   ·rcases hold j b hj with ⟨_,eo,e2⟩ | ⟨_,hj',e2⟩ <;> rw [e2]
    ·exact λe=>hfree (eo▸hown) a _ ha' rfl (q0m.2 (.inr ⟨sz,sl,k,ha',e▸hpa⟩))
    ·exact p1 j b hj' hown
   ·rcases hold j _ hj with ⟨_,eo,e2⟩ | ⟨_,hj',e2⟩ <;> rw [e2]at hpj
    ·exact absurd (q0m.2 (.inr ⟨sz,sl,k,ha',hpa⟩)) ((hp sz' sl' k' x eo.symm hpj).2.1 a _ ha' rfl)
    ·exact p2 j sz' sl' k' hj' hpj
theorem Inv.kn{Kn':Nat->Prop}(h:Inv S K w0 Kn φ hf w)(hs:∀i,Kn i->Kn' i):Inv S K w0 Kn' φ hf w:=
 h.step (Stp.refl _ _) ⟨hs,λ_ _=>rfl⟩ h.slt h.sk h.frm (λid o ho=> .inl ⟨ho,λhown=>⟨rfl,((h.obj id o ho).2.own hown).1⟩⟩) h.dist (h.rest_refl λ_ _=>rfl)
structure Laid (S K : Nat → Prop) (w0 w : World) (Kn : Nat → Prop) (φ : Nat → Loc) (hf : Nat → Option Ob) (fp : List Nat) (nxt m : Nat) (u : Upd) (φ' : Nat → Loc) : Prop where
 le:nxt<=m
 ren : Ren Kn φ (KnU Kn nxt m) φ'
 inv : Inv S K w0 (KnU Kn nxt m) φ' (updF u hf) w
 fresh:∀p∈u,nxt<=p.1/\p.1 < m
 blk : ∀ p ∈ u, ∀ x ∈ blks w φ' (updF u hf) p.1, x ∈ fp
theorem q9a(a b:Nat):Ren Kn φ (KnU Kn a b) φ:=⟨λ_ h=> .inl h,λ_ _=>rfl⟩
theorem Laid.nil(h:Inv S K w0 Kn φ hf w)(fp:List Nat)(n:Nat):Laid S K w0 w Kn φ hf fp n n [] φ:=
 ⟨Nat.le_refl _,q9a _ _,h.kn λ_ hi=> .inl hi,λp hp=>by simp at hp,λp hp=>by simp at hp⟩
theorem Laid.skip(h:Inv S K w0 Kn φ hf w)(fp:List Nat)(n:Nat):Laid S K w0 w Kn φ hf fp n (n+1) [] φ:=
 ⟨Nat.le_succ _,q9a _ _,h.kn λ_ hi=> .inl hi,λp hp=>by simp at hp,λp hp=>by simp at hp⟩
theorem q3k{α:Type}{u:List (Nat×α)}{id:Nat}(h:∀p∈u,p.1≠id):fnd u id=none:=by
 induction u with
 | nil=>rfl
 | cons p r ih=>
  obtain ⟨i,x⟩:=p
  have e:(i == id)=false:=by simpa using h (i,x) (by simp)
  simp only [fnd,e,cond_false]
  exact ih λq hq=>h q (by simp [hq])
def Away(w:World)(φ:Nat->Loc)(hf:Nat->Option Ob)(fp:List Nat):Prop:=∀j b,hf j=some b->isOwn b=true->∀x∈blks w φ hf j,x∉fp
theorem q8b{a b c:Nat}(h1:a<=b)(h2:b<=c)(j:Nat):KnU (KnU Kn a b) b c j↔KnU Kn a c j:=by
 unfold KnU; constructor
 ·rintro ((h | h) | h)
  ·exact .inl h
  ·exact .inr (by omega)
  ·exact .inr (by omega)
 ·rintro (h | h)
  ·exact .inl (.inl h)
  ·by_cases e:j < b
   ·exact .inl (.inr (by omega))
   ·exact .inr (by omega)
theorem Inv.knEq{Kn':Nat->Prop}(h:Inv S K w0 Kn φ hf w)(hs:∀i,Kn i↔Kn' i):Inv S K w0 Kn' φ hf w:=h.kn λi hi=>(hs i).1 hi
theorem RC.kn{Kn':Nat->Prop}{c:C}{v:Value}(h:RC S w Kn φ c v)(hs:∀i,Kn i->Kn' i):RC S w Kn' φ c v:=h.mono (Stp.refl _ _) ⟨hs,λ_ _=>rfl⟩
theorem q16 {φ' : Nat → Loc} {hf' : Nat → Option Ob} {i : Nat} (h1 : φ i = φ' i) (h2 : hf i = hf' i) : blks w φ hf i = blks w φ' hf' i := by
 unfold blks; rw [h1,h2]
theorem Laid.comp{fa fb:List Nat}{n m k:Nat}{u v:Upd}{φ1 φ2:Nat->Loc}(a:Laid S K w0 w Kn φ hf fa n m u φ1)(b:Laid S K w0 w (KnU Kn n m) φ1 (updF u hf) fb m k v φ2):
  Laid S K w0 w Kn φ hf (fa++fb) n k (v++u) φ2 where
 le:=Nat.le_trans a.le b.le
 ren:=⟨λi h=> .inl h,λi h=>(b.ren.same i (.inl h)).trans (a.ren.same i h)⟩
 inv:=by
  rw [q0n]
  exact b.inv.knEq λi=>q8b a.le b.le i
 fresh p hp:=by
  have:=a.le
  have:=b.le
  rcases List.mem_append.1 hp with h | h
  ·have:=b.fresh p h; omega
  ·have:=a.fresh p h; omega
 blk p hp:=by
  intro x hx
  rcases List.mem_append.1 hp with h | h
  ·rw [q0n]at hx
   exact List.mem_append_right _ (b.blk p h x hx)
  ·have hn:fnd v p.1=none:=q3k λq hq e=>by have:=a.fresh p h; have:=b.fresh q hq; omega
   have e:updF (v++u) hf p.1=updF u hf p.1:=by simp only [updF,q1d,hn]
   have e2:=q16 (w:=w) (b.ren.same p.1 (.inr (a.fresh p h))) e
   rw [e2]at hx
   exact List.mem_append_left _ (a.blk p h x hx)
theorem q3z{u v:Upd}(h:∀p∈u,∀q∈v,p.1≠q.1):updF (u++v) hf=updF (v++u) hf:=by
 funext id
 simp only [updF,q1d]
 cases hu:fnd u id with
 | none=>cases fnd v id <;> simp
 | some x=>
  have:fnd v id=none:=by
   refine q3k λq hq e=> ?_
   have hm:∃p∈u,p.1=id:=by
    clear h
    induction u with
    | nil=>simp [fnd]at hu
    | cons p r ih=>
     obtain ⟨i,y⟩:=p
     by_cases e':i=id
     ·exact ⟨(i,y),by simp,e'⟩
     ·have e2:(i == id)=false:=by simpa using e'
      simp only [fnd,e2,cond_false]at hu
      obtain ⟨p,hp,hpe⟩:=ih hu
      exact ⟨p,by simp [hp],hpe⟩
   obtain ⟨p,hp,hpe⟩:=hm
   exact h p hp q hq (hpe.trans e.symm)
  simp [this]
theorem q7u(nxt:Nat)(ts:List T):unC nxt (.pt ts)=(.op nxt 0,(nxt,some (.box (unL (nxt+1) ts).1)) :: (unL (nxt+1) ts).2.1,(unL (nxt+1) ts).2.2):=rfl
theorem q7m(nxt:Nat)(t:T)(ts:List T):unL nxt (t :: ts)=((unC nxt t).1 :: (unL (unC nxt t).2.2 ts).1,(unC nxt t).2.1++(unL (unC nxt t).2.2 ts).2.1,(unL (unC nxt t).2.2 ts).2.2):=rfl
theorem qj5{x:Nat}:∀ {fps:List (List Nat)} {k k':Nat},fps.flatten.Nodup->fps[k]? =some [x]->fps[k']? =some [x]->k=k':=by
 intro fps
 induction fps with
 | nil=>intro k k' _ h; simp at h
 | cons fp fps ih=>
  intro k k' hn h1 h2
  rw [List.flatten_cons,List.nodup_append]at hn
  have hm:∀k,fps[k]? =some [x]->x∈fps.flatten:=λk h=>List.mem_flatten.2 ⟨[x],List.mem_of_getElem? h,by simp⟩
  cases k with
  | zero=>
   obtain rfl:fp= [x]:=by simpa using h1
   cases k' with
   | zero=>rfl
   | succ k'=>exact absurd rfl (hn.2.2 x (by simp) x (hm k' (by simpa using h2)))
  | succ k=>
   cases k' with
   | zero=>
    obtain rfl:fp= [x]:=by simpa using h2
    exact absurd rfl (hn.2.2 x (by simp) x (hm k (by simpa using h1)))
   | succ k'=>exact congrArg Nat.succ (ih hn.2.1 (by simpa using h1) (by simpa using h2))
mutual
theorem qsq(t:T):∀nxt,nxt<=(unC nxt t).2.2:=by
 intro nxt
 cases t with
 | d x=>exact Nat.le_succ _
 | gone=>exact Nat.le_succ _
 | sl sz rows=>exact Nat.le_succ _
 | sls sz rows=>exact Nat.le_succ _
 | pt ts=>rw [q7u]; exact Nat.le_of_succ_le (qd2 ts (nxt+1))
theorem qd2(ts:List T):∀nxt,nxt<=(unL nxt ts).2.2:=by
 intro nxt
 cases ts with
 | nil=>exact Nat.le_refl _
 | cons t ts=>rw [q7m]; exact Nat.le_trans (qsq t nxt) (qd2 ts _)
end
mutual
theorem qbv(t:T):∀ {Kn:Nat->Prop} {φ:Nat->Loc} {hf:Nat->Option Ob} (nxt:Nat) (v:Value) (fp:List Nat),Inv S K w0 Kn φ hf w->(∀ j,nxt<=j->j < (unC nxt t).2.2->¬Kn j)->
  RT S w t v fp->fp.Nodup->(∀ b∈fp,¬S b/\¬K b)->Away w φ hf fp->
  ∃ φ', Laid S K w0 w Kn φ hf fp nxt (unC nxt t).2.2 (unC nxt t).2.1 φ' ∧ RC S w (KnU Kn nxt (unC nxt t).2.2) φ' (unC nxt t).1 v := by
 intro Kn φ hf nxt v fp hI hfr hr hnd hSK haw
 cases t with
 | gone=>cases hr
 | d x=>
  cases hr with
  | d hd=>exact ⟨φ,Laid.skip hI _ _, .d hd⟩
 | sl sz rows=>
  cases hr with
  | @sl _ _ b off len cap arr hsz ho hlen hcap hext hrr=>
   have hnx:¬Kn nxt:=hfr nxt (Nat.le_refl _) (Nat.lt_succ_self _)
   refine ⟨ext φ nxt ⟨b,off,sz,arr.size,cap⟩, ?_, ?_⟩
   ·have hin:=hI.name (hnx) ⟨b,off,sz,arr.size,cap⟩ (.arr sz rows) (λ_ j o hj hown hm=>haw j o hj hown _ hm (by simp))
     (.arr hsz rfl (hSK b (by simp)).1 (hSK b (by simp)).2 ho rfl (by
      have:rows.length * sz<=cap * sz:=Nat.mul_le_mul_right _ (by omega)
      simp only; omega) hrr (by simp only; omega))
    refine ⟨Nat.le_succ _,⟨λi h=> .inl h,(q2v _ (hnx)).same⟩,hin.knEq λi=> ?_,λp hp=> ?_,λp hp=> ?_⟩
    ·simp only [KnU,unC]
     constructor
     ·rintro (h | rfl)
      ·exact .inl h
      ·exact .inr (by omega)
     ·rintro (h | h)
      ·exact .inl h
      ·exact .inr (by omega)
    ·obtain rfl:p=_:=by simpa [unC]using hp
     simp [unC]
    ·obtain rfl:p=_:=by simpa [unC]using hp
     rw [q60 λ_ _ e=>by simp [unC,updF,fnd]at e]
     simp [ext]
   ·have e:(ext φ nxt ⟨b,off,sz,arr.size,cap⟩) nxt=⟨b,off,sz,arr.size,cap⟩:=by simp [ext]
    have:=RC.osl (S:=S) (w:=w) (Kn:=KnU Kn nxt (nxt+1)) (φ:=ext φ nxt ⟨b,off,sz,arr.size,cap⟩) (id:=nxt) (off:=0) (len:=rows.length) (cap:=cap) (addr:=off) (.inr (by omega)) (by omega) (by rw [e]; simp) (by rw [e]; simpa using hext) (by rw [e]; simp)
    rw [e]at this
    simpa [unC,hlen]using this
 | sls sz rows=>
  cases hr with
  | @sls _ _ b off cap arr fps hsz ho hcap hext hfl hrr=>
   have hnx:¬Kn nxt:=hfr nxt (Nat.le_refl _) (Nat.lt_succ_self _)
   rw [List.nodup_cons]at hnd
   have hget:∀i,w.cell? ⟨b,i,none⟩=arr[i]? :=ho.cell
   have hpat:∀k x,PAt w ⟨b,off,1,arr.size,cap⟩ (rows.map q51) k x->∃fp,fps[k]? =some fp/\fp= [x]:=by
    rintro k x ⟨rs,v,h1,h2,h3⟩
    rw [List.getElem?_map]at h1
    obtain ⟨r,hr1,hr2⟩:=Option.map_eq_some_iff.1 h1
    have hlt:=(List.getElem?_eq_some_iff.1 hr1).1
    have hf:fps[k]? =some fps[k]:=List.getElem?_eq_getElem (by omega)
    obtain ⟨v',q1,q2⟩:=hrr k r fps[k] hr1 hf
    simp only [hget,q1,Option.some.injEq]at h2
    subst h2
    cases r with
    | none=>cases hr2
    | some rows'=>
     obtain ⟨b',q3,q4⟩:=q2
     rw [q4.blk]at h3
     obtain rfl:=Option.some.inj h3
     exact ⟨_,hf,q3⟩
   have hmem:∀k x,PAt w ⟨b,off,1,arr.size,cap⟩ (rows.map q51) k x->x∈fps.flatten:=λk x hp=>by
    obtain ⟨fp,h1,rfl⟩:=hpat k x hp
    exact List.mem_flatten.2 ⟨[x],List.mem_of_getElem? h1,by simp⟩
   have hin:=hI.name (hnx) ⟨b,off,1,arr.size,cap⟩ (.nst sz (rows.map q51)) (λ_ j o hj hown hm=>haw j o hj hown _ hm (by simp))
    (.nst hsz rfl (hSK b (by simp)).1 (hSK b (by simp)).2 ho rfl (by simp only [List.length_map]; omega) (λi s hi=>by
     rw [List.getElem?_map]at hi
     obtain ⟨r,hr1,rfl⟩:=Option.map_eq_some_iff.1 hi
     have hlt:=(List.getElem?_eq_some_iff.1 hr1).1
     have hf:fps[i]? =some fps[i]:=List.getElem?_eq_getElem (by omega)
     obtain ⟨v,q1,q2⟩:=hrr i r fps[i] hr1 hf
     refine ⟨v,q1, ?_⟩
     cases r with
     | none=>obtain ⟨rfl,_⟩:=q2; exact .nil
     | some rows'=>
      obtain ⟨b',q3,q4⟩:=q2
      have hm:b'∈fps.flatten:=List.mem_flatten.2 ⟨fps[i],List.getElem_mem _,by rw [q3]; simp⟩
      exact .own q4 (hSK b' (List.mem_cons_of_mem _ hm)).1 (hSK b' (List.mem_cons_of_mem _ hm)).2) (by simp only [List.length_map]; omega))
    (λsz' sl' k x eo hp=>by
     cases eo
     have hm:=hmem k x hp
     refine ⟨λe=>hnd.1 (by have e:x=b:=e; rw [<- e]; exact hm),λj b' hj hown hx=>haw j b' hj hown x hx (List.mem_cons_of_mem _ hm),λk' hp'=> ?_⟩
     obtain ⟨fp,h1,rfl⟩:=hpat k x hp
     obtain ⟨fp',h2,rfl⟩:=hpat k' x hp'
     exact qj5 hnd.2 h2 h1)
   refine ⟨ext φ nxt ⟨b,off,1,arr.size,cap⟩, ?_, ?_⟩
   ·refine ⟨Nat.le_succ _,⟨λi h=> .inl h,(q2v _ (hnx)).same⟩,hin.knEq λi=> ?_,λp hp=> ?_,λp hp x hx=> ?_⟩
    ·simp only [KnU,unC]
     constructor
     ·rintro (h | rfl)
      ·exact .inl h
      ·exact .inr (by omega)
     ·rintro (h | h)
      ·exact .inl h
      ·exact .inr (by omega)
    ·obtain rfl:p=_:=by simpa [unC]using hp
     simp [unC]
    ·obtain rfl:p=_:=by simpa [unC]using hp
     have e:updF (unC nxt (T.sls sz rows)).2.1 hf nxt=some (.nst sz (rows.map q51)):=by simp [unC,updF,fnd]
     rcases q0m.1 hx with rfl | ⟨sz',sl',k,h1,h2⟩
     ·simp [ext]
     ·rw [e]at h1
      cases h1
      simp only [ext,if_true]at h2
      exact List.mem_cons_of_mem _ (hmem k x h2)
   ·have e:(ext φ nxt ⟨b,off,1,arr.size,cap⟩) nxt=⟨b,off,1,arr.size,cap⟩:=by simp [ext]
    have:=RC.osl (S:=S) (w:=w) (Kn:=KnU Kn nxt (nxt+1)) (φ:=ext φ nxt ⟨b,off,1,arr.size,cap⟩) (id:=nxt) (off:=0) (len:=rows.length) (cap:=cap) (addr:=off) (.inr (by omega)) (by omega) (by rw [e]; simp) (by rw [e]; simpa using hext) (by rw [e]; simp)
    rw [e]at this
    simpa [unC]using this
 | pt ts=>
  cases hr with
  | @pt _ b arr fps ho hlen hfl h=>
   rw [List.nodup_cons]at hnd
   have hnx:¬Kn nxt:=hfr nxt (Nat.le_refl _) (by rw [q7u]; exact qd2 ts (nxt+1))
   obtain ⟨φ1,hL,hrc⟩:=q8m ts (Kn:=Kn) (φ:=φ) (hf:=hf) (nxt+1) (λi=>arr.getD i undef) fps hI (λj hj hj2=>hfr j (by omega) (by rw [q7u]; exact hj2)) hfl h hnd.2
    (λb' hb'=>hSK b' (by simp [hb'])) (λj o hj hown x hx hm=>haw j o hj hown x hx (List.mem_cons_of_mem _ hm))
   have hm:=hL.le
   have hnk:¬KnU Kn (nxt+1) (unL (nxt+1) ts).2.2 nxt:=by
    rintro (h | h)
    ·exact hnx h
    ·omega
   refine ⟨ext φ1 nxt ⟨b,0,1,arr.size,0⟩, ?_, ?_⟩
   ·have hin:=hL.inv.name hnk ⟨b,0,1,arr.size,0⟩ (.box (unL (nxt+1) ts).1) (λ_ j o hj hown hm=>by
      by_cases hu:∃p∈(unL (nxt+1) ts).2.1,p.1=j
      ·obtain ⟨p,hp,rfl⟩:=hu
       exact hnd.1 (hL.blk p hp _ hm)
      ·have hfn:fnd (unL (nxt+1) ts).2.1 j=none:=q3k λp hp e=>hu ⟨p,hp,e⟩
       have hj':=hj
       simp only [updF,hfn]at hj'
       have hk:=(hI.obj j o hj').1
       rw [q16 (hL.ren.same j hk) (hj.trans hj'.symm)]at hm
       exact haw j o hj' hown _ hm (by simp))
     (.box rfl (hSK b (by simp)).1 (hSK b (by simp)).2 ho (hrc.1.trans hlen) λi c hi=>(hrc.2 i c hi).mono (Stp.refl _ _) (q2v _ hnk))
    refine ⟨?_,⟨λi h=> .inl h,λi hi=> ?_⟩, ?_,λp hp=> ?_,λp hp=> ?_⟩
    ·simp only [q7u]; exact Nat.le_of_succ_le hm
    ·have:i≠nxt:=λe=>hnx (e▸hi)
     simp only [ext,this,if_false]
     exact hL.ren.same i hi
    ·have e:updF (unC nxt (.pt ts)).2.1 hf=updF [(nxt,some (.box (unL (nxt+1) ts).1))] (updF (unL (nxt+1) ts).2.1 hf):=by
      rw [<- q0n]; rfl
     rw [e]
     refine hin.knEq λi=> ?_
     simp only [KnU,q7u]
     constructor
     ·rintro ((h | h) | rfl)
      ·exact .inl h
      ·exact .inr (by omega)
      ·exact .inr (by omega)
     ·rintro (h | h)
      ·exact .inl (.inl h)
      ·by_cases e:i=nxt
       ·exact .inr e
       ·exact .inl (.inr (by omega))
    ·simp only [q7u]at hp ⊢
     rcases List.mem_cons.1 hp with rfl | hp
     ·simp only; omega
     ·have:=hL.fresh p hp; omega
    ·simp only [q7u]at hp
     rcases List.mem_cons.1 hp with rfl | hp
     ·rw [q60 λ_ _ e=>by simp [q7u,updF,fnd]at e]
      simp [ext]
     ·have hne:¬p.1=nxt:=by have:=hL.fresh p hp; omega
      have hne':(nxt == p.1)=false:=by simpa using λe=>hne e.symm
      intro x hx
      rw [q16 (φ' := φ1) (hf' := updF (unL (nxt + 1) ts).2.1 hf) (by simp only [ext, hne, if_false]) (by simp only [q7u, updF, fnd, hne', cond_false])] at hx
      exact List.mem_cons_of_mem _ (hL.blk p hp x hx)
   ·have:=RC.op (S:=S) (w:=w) (Kn:=KnU Kn nxt (unL (nxt+1) ts).2.2) (φ:=ext φ1 nxt ⟨b,0,1,arr.size,0⟩) (id:=nxt) (off:=0) (.inr (by omega))
    simpa [q7u,ext]using this
theorem q8m(ts:List T):∀ {Kn:Nat->Prop} {φ:Nat->Loc} {hf:Nat->Option Ob} (nxt:Nat) (get:Nat->Value) (fps:List (List Nat)),Inv S K w0 Kn φ hf w->(∀ j,nxt<=j->j < (unL nxt ts).2.2->¬Kn j)->
  fps.length=ts.length->(∀ (i:Nat) (t:T) (fp:List Nat),ts[i]? =some t->fps[i]? =some fp->RT S w t (get i) fp)->fps.flatten.Nodup->(∀ b∈fps.flatten,¬S b/\¬K b)->Away w φ hf fps.flatten->
  ∃ φ', Laid S K w0 w Kn φ hf fps.flatten nxt (unL nxt ts).2.2 (unL nxt ts).2.1 φ' ∧ (unL nxt ts).1.length = ts.length ∧
   ∀ (i : Nat) (c : C), (unL nxt ts).1[i]? = some c → RC S w (KnU Kn nxt (unL nxt ts).2.2) φ' c (get i) := by
 intro Kn φ hf nxt get fps hI hfr hfl hr hnd hSK haw
 cases ts with
 | nil=>exact ⟨φ,Laid.nil hI _ _,rfl,λi c hi=>by simp [unL]at hi⟩
 | cons t ts=>
  cases fps with
  | nil=>simp at hfl
  | cons fp fps=>
   rw [List.flatten_cons,List.nodup_append]at hnd
   obtain ⟨hn1,hn2,hn3⟩:=hnd
   simp only [List.flatten_cons,List.mem_append]at hSK
   obtain ⟨φ1,hL1,hc1⟩:=qbv t (Kn:=Kn) (φ:=φ) (hf:=hf) nxt (get 0) fp hI (λj hj hj2=>hfr j hj (by rw [q7m]; exact Nat.lt_of_lt_of_le hj2 (qd2 ts _))) (hr 0 t fp rfl rfl) hn1 (λb hb=>hSK b (.inl hb))
    (λj o hj hown x hx hm=>haw j o hj hown x hx (by simp [hm]))
   obtain ⟨φ2,hL2,hlen,hc2⟩:=q8m ts (Kn:=KnU Kn nxt (unC nxt t).2.2) (φ:=φ1) (hf:=updF (unC nxt t).2.1 hf) (unC nxt t).2.2 (λi=>get (i+1)) fps hL1.inv
    (λj hj hj2 hk=>by
     rcases hk with hk | hk
     ·have:=hL1.le; exact hfr j (by omega) (by rw [q7m]; exact hj2) hk
     ·omega) (by simpa using hfl) (λi t fp hi hfp=>hr (i+1) t fp (by simpa using hi) (by simpa using hfp)) hn2 (λb hb=>hSK b (.inr hb))
    (λj o hj hown x hx hm=>by
     by_cases hu:∃p∈(unC nxt t).2.1,p.1=j
     ·obtain ⟨p,hp,rfl⟩:=hu
      exact hn3 _ (hL1.blk p hp x hx) _ hm rfl
     ·have hfn:fnd (unC nxt t).2.1 j=none:=q3k λp hp e=>hu ⟨p,hp,e⟩
      have hj':=hj
      simp only [updF,hfn]at hj'
      have hk:=(hI.obj j o hj').1
      rw [q16 (hL1.ren.same j hk) (hj.trans hj'.symm)]at hx
      exact haw j o hj' hown x hx (by simp [hm]))
   have hcomp:=hL1.comp hL2
   have hcm:updF ((unL (unC nxt t).2.2 ts).2.1++(unC nxt t).2.1) hf=updF ((unC nxt t).2.1++(unL (unC nxt t).2.2 ts).2.1) hf:=
    q3z λp hp q hq e=>by
     have h1:=hL2.fresh p hp
     have h2:=hL1.fresh q hq
     omega
   refine ⟨φ2, ?_,by simp [q7m,hlen],λi c hi=> ?_⟩
   ·simp only [q7m,List.flatten_cons]
    have hsw:∀ {p:Nat×Option Ob} {a b:Upd},p∈a++b->p∈b++a:=λhp=>List.mem_append.2 (List.mem_append.1 hp).symm
    exact ⟨hcomp.le,hcomp.ren,hcm▸hcomp.inv,λp hp=>hcomp.fresh p (hsw hp),λp hp x hx=>hcomp.blk p (hsw hp) x (hcm.symm▸hx)⟩
   ·have hsub:∀i,KnU (KnU Kn nxt (unC nxt t).2.2) (unC nxt t).2.2 (unL (unC nxt t).2.2 ts).2.2 i->KnU Kn nxt (unL (unC nxt t).2.2 ts).2.2 i:=λi=>(q8b hL1.le hL2.le i).1
    cases i with
    | zero=>
     obtain rfl:(unC nxt t).1=c:=by simpa [unL]using hi
     exact (hc1.mono (Stp.refl _ _) hL2.ren).kn hsub
    | succ i=>exact (hc2 i c (by simpa [q7m]using hi)).kn hsub
end
theorem q90{α:Type}{l:List α}{k i:Nat}{x y:α}(h:(l.set k x)[i]? =some y):(k=i/\y=x/\i < l.length)\/(k≠i/\l[i]? =some y):=by
 rw [List.getElem?_set]at h
 split at h
 ·rename_i e
  split at h
  ·rename_i hlt; exact .inl ⟨e,(Option.some.inj h).symm,e▸hlt⟩
  ·simp at h
 ·rename_i e; exact .inr ⟨e,h⟩
theorem Inv.turn(h:Inv S K w0 Kn φ hf w){id:Nat}{o o':Ob}(ho:hf id=some o)(hown:isOwn o=true)(hno:NoOwn o')(hro:RO S K w Kn φ (φ id) o'):Inv S K w0 Kn φ (updF [(id,some o')] hf) w:=by
 have hold:∀j b,updF [(id,some o')] hf j=some b->(j=id/\b=o')\/(j≠id/\hf j=some b):=by
  intro j b hj
  rw [q06]at hj
  by_cases e:id=j
  ·rw [if_pos e]at hj; exact .inl ⟨e.symm,(Option.some.inj hj).symm⟩
  ·rw [if_neg e,q0x]at hj; exact .inr ⟨λq=>e q.symm,hj⟩
 have was:∀j b,updF [(id,some o')] hf j=some b->isOwn b=true->∃b',hf j=some b'/\isOwn b'=true:=by
  intro j b hj hb
  rcases hold j b hj with ⟨rfl,rfl⟩ | ⟨_,hj'⟩
  ·exact ⟨o,ho,hown⟩
  ·exact ⟨b,hj',hb⟩
 refine h.stepG (Stp.refl _ _) (Ren.refl _ _) h.slt h.sk h.frm ?_ ?_ ?_
 ·intro i x hx
  rcases hold i x hx with ⟨rfl,rfl⟩ | ⟨_,hx'⟩
  ·exact .inr ⟨(h.obj i o ho).1,hro⟩
  ·exact .inl ⟨hx',λhown=>⟨rfl,((h.obj i x hx').2.own hown).1⟩,h.kept hx' λ_ _=>rfl⟩
 ·intro i j a b ha hb hoa hob hne
  obtain ⟨a',h1,h2⟩:=was i a ha hoa
  obtain ⟨b',h3,h4⟩:=was j b hb hob
  exact h.dist i j a' b' h1 h3 h2 h4 hne
 ·intro i sz sl k x hi hp
  rcases hold i _ hi with ⟨rfl,e⟩ | ⟨_,hi'⟩
  ·obtain ⟨rows,v,h1,_⟩:=hp
   exact absurd h1 (hno sz sl k rows e.symm)
  ·obtain ⟨p1,p2⟩:=h.prv i sz sl k x hi' hp
   refine ⟨λj b hj hb=> ?_,λj sz' sl' k' hj hpj=> ?_⟩
   ·obtain ⟨b',h1,h2⟩:=was j b hj hb
    exact p1 j b' h1 h2
   ·rcases hold j _ hj with ⟨rfl,e⟩ | ⟨_,hj'⟩
    ·obtain ⟨rows,v,h1,_⟩:=hpj
     exact absurd h1 (hno sz' sl' k' rows e.symm)
    ·exact p2 j sz' sl' k' hj' hpj
theorem Inv.split(h:Inv S K w0 Kn φ hf w){id nxt sz row:Nat}{slots:List Slot}{rows:List (List D)}(ho:hf id=some (.nst sz slots))(hs:slots[row]? =some (.own rows))(hn:¬Kn nxt):
  ∃l v,w.cell? ⟨(φ id).blk,(φ id).base+row,none⟩=some v/\RC S w (λj=>Kn j\/j=nxt) (ext φ nxt l) (.osl sz nxt 0 rows.length) v/\
   Inv S K w0 (λj=>Kn j\/j=nxt) (ext φ nxt l) (updF [(nxt,some (.arr sz rows)),(id,some (.nst sz (slots.set row (.out nxt rows.length))))] hf) w:=by
 obtain ⟨hk,hro⟩:=h.obj id _ ho
 have hne:id≠nxt:=λe=>hn (e▸hk)
 cases hro with
 | @nst _ _ arr hsz hl hS hK hown hext hfit hr hv=>
  obtain ⟨v,h1,h2⟩:=hr row _ hs
  cases h2 with
  | @own _ _ b hrw hbS hbK=>
   obtain ⟨addr,cap,ba,rfl,_,hbo,hcap,hfx,hrr⟩:=hrw
   have hcell:w.cell? ⟨(φ id).blk,(φ id).base+row,none⟩=some (.slice (some ⟨b,addr,none⟩) rows.length cap):=(hown.cell _).trans h1
   have hpat:PAt w (φ id) slots row b:=⟨rows,_,hs,hcell,rfl⟩
   obtain ⟨p1,p2⟩:=h.prv id sz slots row b ho hpat
   have he:ext φ nxt ⟨b,addr,sz,ba.size,cap⟩ nxt=⟨b,addr,sz,ba.size,cap⟩:=by simp [ext]
   have heo:∀j,j≠nxt->ext φ nxt ⟨b,addr,sz,ba.size,cap⟩ j=φ j:=λj hj=>by simp [ext,hj]
   have hren:=q2v (φ:=φ) (⟨b,addr,sz,ba.size,cap⟩:Loc) hn
   have hrc:RC S w (λj=>Kn j\/j=nxt) (ext φ nxt ⟨b,addr,sz,ba.size,cap⟩) (.osl sz nxt 0 rows.length) (.slice (some ⟨b,addr,none⟩) rows.length cap):=by
    have:=RC.osl (S:=S) (w:=w) (Kn:=λj=>Kn j\/j=nxt) (φ:=ext φ nxt ⟨b,addr,sz,ba.size,cap⟩) (id:=nxt) (off:=0) (len:=rows.length) (cap:=cap) (addr:=addr) (.inr rfl) (by omega) (by rw [he]; simp) (by rw [he]; simpa using hfx) (by rw [he]; simp)
    rw [he]at this
    exact this
   refine ⟨⟨b,addr,sz,ba.size,cap⟩,_,hcell,hrc, ?_⟩
   have hold:∀j c,updF [(nxt,some (.arr sz rows)),(id,some (.nst sz (slots.set row (.out nxt rows.length))))] hf j=some c->(j=nxt/\c= .arr sz rows)\/(j=id/\c= .nst sz (slots.set row (.out nxt rows.length)))\/(j≠nxt/\j≠id/\hf j=some c):=by
    intro j c hj
    rw [q06]at hj
    by_cases e:nxt=j
    ·rw [if_pos e]at hj; exact .inl ⟨e.symm,(Option.some.inj hj).symm⟩
    ·rw [if_neg e,q06]at hj
     by_cases e2:id=j
     ·rw [if_pos e2]at hj; exact .inr (.inl ⟨e2.symm,(Option.some.inj hj).symm⟩)
     ·rw [if_neg e2,q0x]at hj; exact .inr (.inr ⟨λq=>e q.symm,λq=>e2 q.symm,hj⟩)
   have hpat2:∀j sz' sl' k x,updF [(nxt,some (.arr sz rows)),(id,some (.nst sz (slots.set row (.out nxt rows.length))))] hf j=some (.nst sz' sl')->PAt w (ext φ nxt ⟨b,addr,sz,ba.size,cap⟩ j) sl' k x->∃sl0,hf j=some (.nst sz' sl0)/\PAt w (φ j) sl0 k x/\x≠b:=by
    intro j sz' sl' k x hj hp
    rcases hold j _ hj with ⟨_,e⟩ | ⟨rfl,e⟩ | ⟨e1,e2,hj'⟩
    ·cases e
    ·cases e
     rw [heo _ hne]at hp
     obtain ⟨rows',v',q1,q2,q3⟩:=hp
     rcases q90 q1 with ⟨_,e,_⟩ | ⟨hk',q1'⟩
     ·cases e
     ·have hp':PAt w (φ j) slots k x:=⟨rows',v',q1',q2,q3⟩
      exact ⟨slots,ho,hp',λe=>hk' (by rw [((p2 j sz slots k ho (e▸hp')).2)])⟩
    ·rw [heo _ e1]at hp
     exact ⟨sl',hj',hp,λe=>e2 ((p2 j sz' sl' k hj' (e▸hp)).1)⟩
   refine h.stepG (Stp.refl _ _) hren h.slt h.sk h.frm ?_ ?_ ?_
   ·intro j c hj
    rcases hold j c hj with ⟨rfl,rfl⟩ | ⟨rfl,rfl⟩ | ⟨e1,_,hj'⟩
    ·refine .inr ⟨.inr rfl, ?_⟩
     rw [he]
     exact .arr (by assumption) rfl hbS hbK hbo rfl (by
      have:=Nat.mul_le_mul_right sz hcap
      simp only; omega) hrr hcap
    ·refine .inr ⟨.inl hk, ?_⟩
     rw [heo _ hne]
     refine .nst hsz hl hS hK hown hext (by rw [List.length_set]; exact hfit) (λi s hi=> ?_) (by rw [List.length_set]; exact hv)
     rcases q90 hi with ⟨rfl,rfl,_⟩ | ⟨_,hi'⟩
     ·exact ⟨_,h1, .out hrc⟩
     ·obtain ⟨v',q1,q2⟩:=hr i s hi'
      refine ⟨v',q1, ?_⟩
      cases q2 with
      | nil=>exact .nil
      | own h hS hK=>exact .own h hS hK
      | out h=>exact .out (h.mono (Stp.refl _ _) hren)
    ·exact .inl ⟨hj',λhown=>⟨rfl,((h.obj j c hj').2.own hown).1⟩,h.kept hj' λ_ _=>rfl⟩
   ·intro i j a c ha hc hoa hoc hij
    have key:∀j c,updF [(nxt,some (.arr sz rows)),(id,some (.nst sz (slots.set row (.out nxt rows.length))))] hf j=some c->isOwn c=true->j≠nxt->(∃ c',hf j=some c'/\isOwn c'=true)/\ext φ nxt ⟨b,addr,sz,ba.size,cap⟩ j=φ j:=by
     intro j c hj hc hjn
     rcases hold j c hj with ⟨e,_⟩ | ⟨rfl,rfl⟩ | ⟨_,_,hj'⟩
     ·exact absurd e hjn
     ·exact ⟨⟨_,ho,rfl⟩,heo _ hjn⟩
     ·exact ⟨⟨c,hj',hc⟩,heo _ hjn⟩
    by_cases hi:i=nxt
    ·subst hi
     obtain ⟨⟨c',q1,q2⟩,q3⟩:=key j c hc hoc λe=>hij e.symm
     rw [he,q3]
     exact λe=>p1 j c' q1 q2 e.symm
    ·obtain ⟨⟨a',q1,q2⟩,q3⟩:=key i a ha hoa hi
     by_cases hj:j=nxt
     ·subst hj
      rw [he,q3]
      exact p1 i a' q1 q2
     ·obtain ⟨⟨c',q4,q5⟩,q6⟩:=key j c hc hoc hj
      rw [q3,q6]
      exact h.dist i j a' c' q1 q4 q2 q5 hij
   ·intro j sz' sl' k x hj hp
    obtain ⟨sl0,q1,q2,q3⟩:=hpat2 j sz' sl' k x hj hp
    obtain ⟨r1,r2⟩:=h.prv j sz' sl0 k x q1 q2
    refine ⟨λi c hi hc=> ?_,λi sz2 sl2 k' hi hpi=> ?_⟩
    ·rcases hold i c hi with ⟨rfl,rfl⟩ | ⟨rfl,rfl⟩ | ⟨e1,_,hi'⟩
     ·rw [he]; exact λe=>q3 e.symm
     ·rw [heo _ hne]; exact r1 i _ ho rfl
     ·rw [heo _ e1]; exact r1 i c hi' hc
    ·obtain ⟨sl3,q4,q5,_⟩:=hpat2 i sz2 sl2 k' x hi hpi
     exact r2 i sz2 sl3 k' q4 q5
theorem Inv.absorb(h:Inv S K w0 Kn φ hf w){id id2 sz sz2 row:Nat}{slots:List Slot}{rows:List (List D)}(ho:hf id=some (.nst sz slots))(hs:slots[row]? =some (.out id2 rows.length))(h2:hf id2=some (.arr sz2 rows)):
  Inv S K w0 Kn φ (updF [(id,some (.nst sz (slots.set row (.own rows)))),(id2,none)] hf) w:=by
 obtain ⟨hk,hro⟩:=h.obj id _ ho
 obtain ⟨hk2,hro2⟩:=h.obj id2 _ h2
 have hne:id2≠id:=λe=>by rw [e,ho]at h2; cases h2
 have hold:∀j c,updF [(id,some (.nst sz (slots.set row (.own rows)))),(id2,none)] hf j=some c->(j=id/\c= .nst sz (slots.set row (.own rows)))\/(j≠id/\j≠id2/\hf j=some c):=by
  intro j c hj
  rw [q06]at hj
  by_cases e:id=j
  ·rw [if_pos e]at hj; exact .inl ⟨e.symm,(Option.some.inj hj).symm⟩
  ·rw [if_neg e,q06]at hj
   by_cases e2:id2=j
   ·rw [if_pos e2]at hj; cases hj
   ·rw [if_neg e2,q0x]at hj; exact .inr ⟨λq=>e q.symm,λq=>e2 q.symm,hj⟩
 have was:∀j c,updF [(id,some (.nst sz (slots.set row (.own rows)))),(id2,none)] hf j=some c->isOwn c=true->j≠id2/\∃c',hf j=some c'/\isOwn c'=true:=by
  intro j c hj hc
  rcases hold j c hj with ⟨rfl,rfl⟩ | ⟨_,e,hj'⟩
  ·exact ⟨hne.symm,_,ho,rfl⟩
  ·exact ⟨e,c,hj',hc⟩
 cases hro with
 | @nst _ _ arr hsz hl hS hK hown hext hfit hr hv=>
  obtain ⟨v,h1,hsl⟩:=hr row _ hs
  have hcell:w.cell? ⟨(φ id).blk,(φ id).base+row,none⟩=some v:=(hown.cell _).trans h1
  obtain ⟨hvb,hrw⟩:blkV v=some (φ id2).blk/\RwF S w sz rows v (φ id2).blk:=by
   cases hsl with
   | out hrc=>
    cases hro2 with
    | @arr _ _ ba hsz2 hl2 hS2 hK2 hown2 hext2 hfit2 hr2 hv2=>
     cases hrc with
     | @osl _ _ _ cap addr hk' hcap haddr hx hcc=>
      refine ⟨rfl,addr,cap,ba,rfl,by rw [hl2]; exact hsz2,hown2,hcap,by omega, ?_⟩
      have:=hr2.sub' (addr:=addr) 0 rows.length (λhlt=>by rw [haddr (by omega),hl2])
      rw [hl2]
      simpa using this
  obtain ⟨hS2,hK2,_⟩:=hro2.own rfl
  have hpat2:∀j sz' sl' k x,updF [(id,some (.nst sz (slots.set row (.own rows)))),(id2,none)] hf j=some (.nst sz' sl')->PAt w (φ j) sl' k x->(j=id/\k=row/\x=(φ id2).blk)\/∃sl0,hf j=some (.nst sz' sl0)/\PAt w (φ j) sl0 k x:=by
   intro j sz' sl' k x hj hp
   rcases hold j _ hj with ⟨rfl,e⟩ | ⟨e1,e2,hj'⟩
   ·cases e
    obtain ⟨rows',v',q1,q2,q3⟩:=hp
    rcases q90 q1 with ⟨rfl,_,_⟩ | ⟨hk',q1'⟩
    ·refine .inl ⟨rfl,rfl, ?_⟩
     rw [hcell]at q2
     obtain rfl:=Option.some.inj q2
     rw [hvb]at q3; exact (Option.some.inj q3).symm
    ·exact .inr ⟨slots,ho,rows',v',q1',q2,q3⟩
   ·exact .inr ⟨sl',hj',hp⟩
  refine h.stepG (Stp.refl _ _) (Ren.refl _ _) h.slt h.sk h.frm ?_ ?_ ?_
  ·intro j c hj
   rcases hold j c hj with ⟨rfl,rfl⟩ | ⟨_,_,hj'⟩
   ·refine .inr ⟨hk, .nst hsz hl hS hK hown hext (by rw [List.length_set]; exact hfit) (λi s hi=> ?_) (by rw [List.length_set]; exact hv)⟩
    rcases q90 hi with ⟨rfl,rfl,_⟩ | ⟨_,hi'⟩
    ·exact ⟨v,h1, .own hrw hS2 hK2⟩
    ·exact hr i s hi'
   ·exact .inl ⟨hj',λhown=>⟨rfl,((h.obj j c hj').2.own hown).1⟩,h.kept hj' λ_ _=>rfl⟩
  ·intro i j a c ha hc hoa hoc hij
   obtain ⟨_,a',q1,q2⟩:=was i a ha hoa
   obtain ⟨_,c',q3,q4⟩:=was j c hc hoc
   exact h.dist i j a' c' q1 q3 q2 q4 hij
  ·intro j sz' sl' k x hj hp
   refine ⟨λi c hi hc=> ?_,λi sz3 sl3 k' hi hpi=> ?_⟩
   ·obtain ⟨hi2,c',q1,q2⟩:=was i c hi hc
    rcases hpat2 j sz' sl' k x hj hp with ⟨_,_,rfl⟩ | ⟨sl0,q3,q4⟩
    ·exact h.dist i id2 c' _ q1 h2 q2 rfl hi2
    ·exact (h.prv j sz' sl0 k x q3 q4).1 i c' q1 q2
   ·rcases hpat2 j sz' sl' k x hj hp with ⟨e1,e2,e3⟩ | ⟨sl0,q3,q4⟩ <;> rcases hpat2 i sz3 sl3 k' x hi hpi with ⟨e4,e5,e6⟩ | ⟨sl4,q5,q6⟩
    ·exact ⟨e4.trans e1.symm,e5.trans e2.symm⟩
    ·exact absurd e3.symm ((h.prv i sz3 sl4 k' x q5 q6).1 id2 _ h2 rfl)
    ·exact absurd e6.symm ((h.prv j sz' sl0 k x q3 q4).1 id2 _ h2 rfl)
    ·exact (h.prv j sz' sl0 k x q3 q4).2 i sz3 sl4 k' q5 q6
theorem Inv.setN{w':World}(h:Inv S K w0 Kn φ hf w){id sz row:Nat}{slots:List Slot}{s':Slot}{v:Value}{arr arr':Array Value}(ho:hf id=some (.nst sz slots))(hown:Own w (φ id).blk arr)(hown':Own w' (φ id).blk arr')(hsize':arr'.size=arr.size)
  (hother:∀b,b≠(φ id).blk->w'.heap[b]? =w.heap[b]?) (hsize:w'.heap.size=w.heap.size) (hfrz:∀a,w'.frozen? a=w.frozen? a) (hio:Io w w')
  (hget:∀i,i≠(φ id).base+row->arr'[i]? =arr[i]?) (hv:row < slots.length->arr'[(φ id).base+row]? =some v) (hslot:Stp S w S w'->RSlot S K w' Kn φ sz s' v) (hs':∀rows,s'≠ .own rows):
  Stp S w S w'/\Inv S K w0 Kn φ (updF [(id,some (.nst sz (slots.set row s')))] hf) w':=by
 obtain ⟨hk,h0⟩:=h.obj id _ ho
 obtain ⟨hS,hK,hlt⟩:=h0.own rfl
 have hs:Stp S w S w':=⟨λ_ h=>h,λb hb=>hother b (λe=>hS (e▸hb))⟩
 have hold:∀j c,updF [(id,some (.nst sz (slots.set row s')))] hf j=some c->(j=id/\c= .nst sz (slots.set row s'))\/(j≠id/\hf j=some c):=by
  intro j c hj
  rw [q06]at hj
  by_cases e:id=j
  ·rw [if_pos e]at hj; exact .inl ⟨e.symm,(Option.some.inj hj).symm⟩
  ·rw [if_neg e,q0x]at hj; exact .inr ⟨λq=>e q.symm,hj⟩
 have was:∀j c,updF [(id,some (.nst sz (slots.set row s')))] hf j=some c->isOwn c=true->∃c',hf j=some c'/\isOwn c'=true:=by
  intro j c hj hc
  rcases hold j c hj with ⟨rfl,rfl⟩ | ⟨_,hj'⟩
  ·exact ⟨_,ho,rfl⟩
  ·exact ⟨c,hj',hc⟩
 have hpat2:∀j sz' sl' k x,updF [(id,some (.nst sz (slots.set row s')))] hf j=some (.nst sz' sl')->PAt w' (φ j) sl' k x->∃sl0,hf j=some (.nst sz' sl0)/\PAt w (φ j) sl0 k x:=by
  intro j sz' sl' k x hj hp
  rcases hold j _ hj with ⟨rfl,e⟩ | ⟨e1,hj'⟩
  ·cases e
   obtain ⟨rows',v',q1,q2,q3⟩:=hp
   rcases q90 q1 with ⟨_,e,_⟩ | ⟨hk',q1'⟩
   ·exact absurd e.symm (hs' rows')
   ·refine ⟨slots,ho,rows',v',q1', ?_,q3⟩
    rw [hown.cell,<- hget _ (by omega),<- hown'.cell]; exact q2
  ·exact ⟨sl',hj',(PAt.same (hother _ (h.dist j id _ _ hj' ho rfl rfl e1))).1 hp⟩
 have hkeep:∀j sz' sl' k x,hf j=some (.nst sz' sl')->PAt w (φ j) sl' k x->w'.heap[x]? =w.heap[x]? /\¬S x:=λj sz' sl' k x hj hp=>
  ⟨hother x λe=>(h.prv j sz' sl' k x hj hp).1 id _ ho rfl e.symm,(h.pat hj hp).1⟩
 refine ⟨hs,h.stepG hs (Ren.refl _ _) (λb hb=>hsize▸h.slt b hb) h.sk ?_ ?_ ?_ ?_⟩
 ·exact ⟨h.frm.klt,λb hb=>(hother b (λe=>hK (e▸hb))).trans (h.frm.keep b hb),hsize▸h.frm.grow,λa ha=>(hfrz a).trans (h.frm.frz a ha),h.frm.own_step hother (λa ha=>⟨arr',hown',by
   obtain ⟨t1,e1⟩:=ha
   obtain ⟨t2,e2⟩:=hown
   rw [e1]at e2
   rw [hsize']
   cases e2; rfl⟩),h.frm.io.trans hio⟩
 ·intro j c hj
  rcases hold j c hj with ⟨rfl,rfl⟩ | ⟨e1,hj'⟩
  ·refine .inr ⟨hk, ?_⟩
   cases h0 with
   | @nst _ _ arr0 hsz hl hS hK hown0 hext hfit hr hv0=>
    have ea:arr0=arr:=by
     obtain ⟨t1,e1⟩:=hown0
     obtain ⟨t2,e2⟩:=hown
     rw [e1]at e2
     cases e2; rfl
    subst ea
    refine .nst hsz hl hS hK hown' (hsize'.trans hext) (by rw [List.length_set]; exact hfit) (λi s hi=> ?_) (by rw [List.length_set]; exact hv0)
    rcases q90 hi with ⟨rfl,rfl,hlt⟩ | ⟨hne,hi'⟩
    ·exact ⟨v,hv hlt,hslot hs⟩
    ·obtain ⟨v',q1,q2⟩:=hr i s hi'
     refine ⟨v',(hget _ (by omega)).trans q1, ?_⟩
     cases q2 with
     | nil=>exact .nil
     | @own rows _ b q3 q4 q5=>exact .own (q3.mono hs (hkeep j sz slots i b ho ⟨rows,v',hi',(hown.cell _).trans q1,q3.blk⟩).1) q4 q5
     | out q3=>exact .out (q3.mono hs (Ren.refl _ _))
  ·exact .inl ⟨hj',λhox=>⟨hother _ (h.dist j id c _ hj' ho hox rfl e1),((h.obj j c hj').2.own hox).1⟩,λsz' sl' eo k x hp=>by subst eo; exact hkeep j sz' sl' k x hj' hp⟩
 ·intro i j a c ha hc hoa hoc hij
  obtain ⟨a',q1,q2⟩:=was i a ha hoa
  obtain ⟨c',q3,q4⟩:=was j c hc hoc
  exact h.dist i j a' c' q1 q3 q2 q4 hij
 ·intro j sz' sl' k x hj hp
  obtain ⟨sl0,q1,q2⟩:=hpat2 j sz' sl' k x hj hp
  obtain ⟨r1,r2⟩:=h.prv j sz' sl0 k x q1 q2
  refine ⟨λi c hi hc=> ?_,λi sz3 sl3 k' hi hpi=> ?_⟩
  ·obtain ⟨c',q3,q4⟩:=was i c hi hc
   exact r1 i c' q3 q4
  ·obtain ⟨sl4,q5,q6⟩:=hpat2 i sz3 sl3 k' x hi hpi
   exact r2 i sz3 sl4 k' q5 q6
end
end Go.Ev
