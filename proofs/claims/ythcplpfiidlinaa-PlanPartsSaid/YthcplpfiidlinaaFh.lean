/- Typed data by codes: the types, the values that a frame holds, its objects, and how they are laid into the abstract machine's. Conditions: none, these are definitions. -/
import Derived.Test.YthcplpfiidlinaaEvY
namespace Go.Ev
inductive Ty where
 | i (k:IntKind)
 | b
 | s
 | f (k:FloatKind)
 | sl (t:Ty)
 | mp (k v:Ty)
 | un
 | pr (a c:Ty)
 | st (t:Ty)
 | ar (n:Nat) (t:Ty)
 | o (k:Nat)
 deriving Inhabited,DecidableEq
def Arr(n:Nat)(α:Type):Type:= { l:List α // l.length=n }
def Arr.set{n:Nat}{α:Type}(v:Arr n α)(k:Nat)(x:α):Arr n α:=⟨v.1.set k x,by rw [List.length_set]; exact v.2⟩
instance {n:Nat} {α:Type} [Inhabited α]:Inhabited (Arr n α):=⟨⟨List.replicate n default,List.length_replicate⟩⟩
instance {n:Nat} {α:Type} [DecidableEq α]:DecidableEq (Arr n α):=inferInstanceAs (DecidableEq { l:List α // l.length=n })
@[reducible] def El:Ty->Type
 | .i _=>Int
 | .b=>Bool
 | .s=>ByteArray
 | .f _=>Nat
 | .sl t=>Sl (El t)
 | .mp k v=>Mp (El k) (El v)
 | .un=>Unit
 | .pr a c=>El a×El c
 | .st t=>El t
 | .ar n t=>Arr n (El t)
 | .o _=>Unit
instance elInh:(t:Ty)->Inhabited (El t)
 | .i _=>⟨(0:Int)⟩
 | .b=>⟨false⟩
 | .s=>⟨(default:ByteArray)⟩
 | .f _=>⟨(0:Nat)⟩
 | .sl _=>⟨Sl.nil⟩
 | .mp _ _=>⟨Mp.none⟩
 | .un=>⟨()⟩
 | .pr a c=>⟨((elInh a).default,(elInh c).default)⟩
 | .st t=>elInh t
 | .ar n t=>⟨⟨List.replicate n (elInh t).default,List.length_replicate⟩⟩
 | .o _=>⟨()⟩
def zeE:(t:Ty)->El t
 | .i _=>(0:Int)
 | .b=>false
 | .s=>(ByteArray.empty)
 | .f _=>(0:Nat)
 | .sl _=>Sl.nil
 | .mp _ _=>Mp.none
 | .un=>()
 | .pr a c=>(zeE a,zeE c)
 | .st t=>zeE t
 | .ar n t=>⟨List.replicate n (zeE t),List.length_replicate⟩
 | .o _=>()
def castE(t u:Ty)(v:El t):Option (El u):=if h:t=u then some (h▸v)else none
def szT:Ty->Nat
 | .un=>0
 | .pr a c=>szT a+szT c
 | .st t=>szT t
 | .ar n t=>n * szT t
 | _=>1
def dat:Ty->Bool
 | .o _ | .mp _ _=>false
 | .pr a c=>dat a && dat c
 | .st t | .ar _ t | .sl t=>dat t
 | _=>true
def agT:Ty->Bool
 | .st _ | .ar _ _=>true
 | _=>false
def encE:(t:Ty)->El t->List D
 | .i k,x=> [.lit (.int k x)]
 | .b,x=> [.lit (.bool x)]
 | .s,x=> [.lit (.string x)]
 | .f k,x=> [.lit (.float k x)]
 | .sl t,x=> [slD (szT t) (encE t) x]
 | .mp _ _,_=> [.lit .nilFunc]
 | .un,_=> []
 | .pr a c,x=>encE a x.1++encE c x.2
 | .st t,x=>encE t x
 | .ar _ t,x=>x.1.flatMap (encE t)
 | .o _,_=> [.lit .nilFunc]
inductive Pe where
 | fd (i:Nat)
 | ix (n:Nat)
abbrev Path:=List Pe
inductive V where
 | x (t:Ty) (v:El t)
 | kb (c:Bool)
 | nl (k:Nat)
 | so (id:Nat)
 | sr (id:Nat)
 | sb (id ver lo:Nat) (t:Ty) (r:Sl (El t))
 | op (id:Nat) (t:Ty) (p:Path)
 | ep (id n:Nat) (t:Ty) (p:Path)
 | pt (t:Ty) (v:El t)
 | fn (z:Bool) (f:Nat) (caps:V)
 | om (id:Nat)
 | rc (l:V)
 | tp (l:V)
 | ni
 | co (a r:V)
 | fl (l:List Value)
 | no
 | gn
inductive O where
 | ar (t:Ty) (s:Sl (El t)) (ver:Nat)
 | im (t:Ty) (s:Sl (El t)) (ver:Nat)
 | bx (t:Ty) (c:V)
 | ib (t:Ty) (v:El t)
 | mp (k v:Ty) (m:Mp (El k) (El v))
 | rw (t:Ty) (s:Sl (Sl (El t))) (ln:Option (Nat×Nat))
abbrev H2:=List (Nat×Option O)
def fO(h:H2)(id:Nat):Option O:=(fnd h id).join
def getF:(t:Ty)->El t->Nat->Option V
 | .pr a _,v,0=>some (.x a v.1)
 | .pr _ c,v,n+1=>getF c v.2 n
 | t,v,0=>some (.x t v)
 | _,_,_=>none
def fdT:Ty->Nat->Option Ty
 | .pr a _,0=>some a
 | .pr _ c,n+1=>fdT c n
 | t,0=>some t
 | _,_=>none
def foT:Ty->Nat->Nat
 | .pr _ _,0=>0
 | .pr a c,n+1=>szT a+foT c n
 | _,_=>0
def toL:(t:Ty)->El t->V
 | .pr a c,v=> .co (.x a v.1) (toL c v.2)
 | t,v=> .co (.x t v) .ni
def decI(k:IntKind):List Value->Option (Int×List Value)
 | .int k' n :: r=>if k'=k then some (n,r)else none
 | _=>none
def decB:List Value->Option (Bool×List Value)
 | .bool c :: r=>some (c,r)
 | _=>none
def decS:List Value->Option (ByteArray×List Value)
 | .string c :: r=>some (c,r)
 | _=>none
def decFl(k:FloatKind):List Value->Option (Nat×List Value)
 | .float k' n :: r=>if k'=k then some (n,r)else none
 | _=>none
def decN{α:Type}:List Value->Option (Sl α×List Value)
 | .slice none 0 0 :: r=>some (Sl.nil,r)
 | _=>none
def decA{α:Type}(f:List Value->Option (α×List Value)):(m:Nat)->List Value->Option (Arr m α×List Value)
 | 0,l=>some (⟨[],rfl⟩,l)
 | m+1,l=>match f l with | some (x,l)=>(match decA f m l with | some (v,l)=>some (⟨x :: v.1,by rw [List.length_cons,v.2]⟩,l) | none=>none) | none=>none
def decE:(t:Ty)->List Value->Option (El t×List Value)
 | .i k=>decI k
 | .b=>decB
 | .s=>decS
 | .f k=>decFl k
 | .sl _=>decN
 | .pr a c=>λl=>match decE a l with | some (x,l)=>(match decE c l with | some (y,l)=>some ((x,y),l) | none=>none) | none=>none
 | .st t=>decE t
 | .ar n t=>decA (decE t) n
 | .mp _ _ | .un | .o _=>λ_=>none
def castV(u:Ty):V->Option (El u)
 | .x t v=>castE t u v
 | .kb c=>castE .b u c
 | .nl 0=>(match u with | .sl _=>some Sl.nil | _=>none)
 | .fl l=>bif agT u then (match decE u l with | some (x, [])=>some x | _=>none)else none
 | _=>none
def setF:(t:Ty)->El t->Nat->V->Option (El t)
 | .pr a _,v,0,w=>match castV a w with | some y=>some (y,v.2) | none=>none
 | .pr _ c,v,n+1,w=>match setF c v.2 n w with | some y=>some (v.1,y) | none=>none
 | t,_,0,w=>castV t w
 | _,_,_,_=>none
def nthV:V->Nat->Option V
 | .co a _,0=>some a
 | .co _ r,n+1=>nthV r n
 | _,_=>none
def putV:V->Nat->V->V
 | .co _ r,0,w=> .co w r
 | .co a r,n+1,w=> .co a (putV r n w)
 | l,_,_=>l
def getP:V->Path->Option V
 | v, []=>some v
 | .x (.st t) v, .fd i :: p=>match getF t v i with | some w=>getP w p | none=>none
 | .x (.ar _ t) v, .ix k :: p=>getP (.x t (gt v.1 k)) p
 | .rc l, .fd i :: p=>match nthV l i with | some w=>getP w p | none=>none
 | _,_=>none
def setP:V->Path->V->Option V
 | _, [],w=>some w
 | .x (.st t) v, .fd i :: p,w=>
  match getF t v i with
  | some y=>
   match setP y p w with
   | some y'=>(match setF t v i y' with | some v'=>some (.x (.st t) v') | none=>some (.rc (putV (toL t v) i y')))
   | none=>none
  | none=>none
 | .x (.ar n t) v, .ix k :: p,w=>
  match setP (.x t (gt v.1 k)) p w with
  | some y=>(match castV t y with | some y'=>some (.x (.ar n t) (v.set k y')) | none=>none)
  | none=>none
 | .rc l, .fd i :: p,w=>
  match nthV l i with
  | some y=>(match setP y p w with | some y'=>some (.rc (putV l i y')) | none=>none)
  | none=>none
 | _,_,_=>none
def tyP:Ty->Path->Option Ty
 | t, []=>some t
 | .st t, .fd i :: p=>match fdT t i with | some u=>tyP u p | none=>none
 | .ar _ t, .ix _ :: p=>tyP t p
 | _,_=>none
def ofP:Ty->Path->Nat
 | .st t, .fd i :: p=>foT t i+(match fdT t i with | some u=>ofP u p | none=>0)
 | .ar _ t, .ix k :: p=>k * szT t+ofP t p
 | _,_=>0
def okP:Ty->Path->Prop
 | .st t, .fd i :: p=>∃u,fdT t i=some u/\okP u p
 | .ar n t, .ix k :: p=>k < n/\okP t p
 | _, []=>True
 | _,_=>False
def zeG:Ty->V×V
 | .pr a c=>(.no, .co (zeG a).1 (zeG c).2)
 | .st t=>(bif dat t then .x (.st t) (zeE t)else .rc (zeG t).2, .co (bif dat t then .x (.st t) (zeE t)else .rc (zeG t).2) .ni)
 | .o k=>(.nl k, .co (.nl k) .ni)
 | .mp _ _=>(.nl 3, .co (.nl 3) .ni)
 | .sl t=>(bif dat t then .x (.sl t) Sl.nil else .nl 0, .co (bif dat t then .x (.sl t) Sl.nil else .nl 0) .ni)
 | .ar n t=>(bif dat t then .x (.ar n t) (zeE (.ar n t))else .no, .co (bif dat t then .x (.ar n t) (zeE (.ar n t))else .no) .ni)
 | .un=>(.x .un (), .co (.x .un ()) .ni)
 | .i k=>(.x (.i k) (0:Int), .co (.x (.i k) (0:Int)) .ni)
 | .b=>(.x .b false, .co (.x .b false) .ni)
 | .s=>(.x .s ByteArray.empty, .co (.x .s ByteArray.empty) .ni)
 | .f k=>(.x (.f k) (0:Nat), .co (.x (.f k) (0:Nat)) .ni)
abbrev zeV(t:Ty):V:=(zeG t).1
def nlC(k:Nat):C:= .d (.lit (match k with | 0=> .slice none 0 0 | 1=> .pointer none | 2=> .nilFunc | 3=> .map none | _=> .nilIface))
def soC(id:Nat):Option O->Option C
 | some (.ar t s _)=>some (slC (szT t) (encE t) id s)
 | some (.im t s _)=>some (slC (szT t) (encE t) id s)
 | _=>none
def slotV(t:Ty):Sl (El t)->Slot
 | .nil=> .nil
 | .mk l=> .own (l.map (encE t))
def outV{α:Type}(id:Nat):Sl α->Slot
 | .nil=> .nil
 | .mk l=> .out id l.length
def q0z(t:Ty)(l:List (Sl (El t))):Option (Nat×Nat)->List Slot
 | none=>l.map (slotV t)
 | some (m,id)=>(l.map (slotV t)).set m (outV id (gt l m))
def srC(id:Nat):Option O->Option C
 | some (.rw t s _)=>some (slC 1 (encE (.sl t)) id (s:Sl (Sl (El t))))
 | _=>none
def sbC(id lo:Nat)(t:Ty):Sl (El t)->C
 | .nil=> .d (.lit (.slice none 0 0))
 | .mk l=> .osl (szT t) id lo (l.map (encE t)).length
def celD:V->Option (List D)
 | .pt t v=>if dat t then some [.pt (encE t v)]else none
 | .ni=>some []
 | .co a r=>match celD a,celD r with | some x,some y=>some (x++y) | _,_=>none
 | _=>none
def agV:V->Bool
 | .x t _=>agT t
 | .rc _ | .fl _=>true
 | _=>false
end Go.Ev

namespace Go.Ev
deriving instance DecidableEq for Mp
instance elDec:(t:Ty)->DecidableEq (El t)
 | .i _=>inferInstanceAs (DecidableEq Int)
 | .b=>inferInstanceAs (DecidableEq Bool)
 | .s=>inferInstanceAs (DecidableEq ByteArray)
 | .f _=>inferInstanceAs (DecidableEq Nat)
 | .sl t=> @instDecidableEqSl (El t) (elDec t)
 | .mp k v=> @instDecidableEqMp (El k) (El v) (elDec k) (elDec v)
 | .un=>inferInstanceAs (DecidableEq Unit)
 | .pr a c=> @instDecidableEqProd (El a) (El c) (elDec a) (elDec c)
 | .st t=>elDec t
 | .ar n t=> @instDecidableEqArr n (El t) (elDec t)
 | .o _=>inferInstanceAs (DecidableEq Unit)
structure S2 where
 env:List (Nat×V)
 heap:H2
 next:Nat
 wo:List Nat
 gh:V
structure OP where
 o:COp
 t:Ty
 fi:List Nat
def alvD:V->Bool
 | .pt t _=>dat t
 | .ni=>true
 | .co a r=>alvD a && alvD r
 | _=>false
def alv(h:H2):V->Bool
 | .x t _=>dat t
 | .pt t _=>dat t
 | .kb _ | .nl _=>true
 | .op id _ _ | .ep id _ _ _ | .om id=>(match fO h id with | some _=>true | none=>false)
 | .so id=>(match fO h id with | some (.ar _ _ _) | some (.im _ _ _)=>true | _=>false)
 | .sr id=>(match fO h id with | some (.rw _ _ _)=>true | _=>false)
 | .sb id ver _ t _=>dat t && (match fO h id with | some (.ar _ _ v) | some (.im _ _ v)=>v == ver | _=>false)
 | .fn true _ l=>alvD l
 | .fn false _ l=>alv h l
 | .rc l | .tp l=>alv h l
 | .fl l=>l.all plain
 | .ni=>true
 | .co a r=>alv h a && alv h r
 | .no | .gn=>false
def cvV:Value->Option V
 | .bool c=>some (.kb c)
 | .int k n=>some (.x (.i k) n)
 | .float k n=>some (.x (.f k) n)
 | .string s=>some (.x .s s)
 | .pointer none=>some (.nl 1)
 | .slice none 0 0=>some (.nl 0)
 | .nilFunc=>some (.nl 2)
 | .map none=>some (.nl 3)
 | .nilIface=>some (.nl 4)
 | .agg cs=>if cs.toList.all plain then some (.fl cs.toList)else none
 | _=>none
def glbV:Nat->Option V:= fun _ => none
def opV(e:List (Nat×V))(h:H2):Operand->Option V
 | .tmp t=>match fnd e t with | some v=>bif alv h v then some v else none | none=>none
 | .const c=>cvV c
 | .global g=>glbV g
 | .func f=>some (.fn true f .ni)
def szV:V->Nat
 | .x t _=>szT t
 | .rc l=>szV l
 | .co a r=>szV a+szV r
 | .ni=>0
 | .fl l=>l.length
 | _=>1
def foV:V->Nat->Nat
 | .co a r,n+1=>szV a+foV r n
 | _,_=>0
def row:List V->V
 | []=> .ni
 | v :: r=> .co v (row r)
def unrow:V->List V
 | .co a r=>a :: unrow r
 | _=> []
def castG:V->Bool->(u:Ty)->Option (El u)
 | .rc l,false, .st u=>castG l true u
 | .co a r,true, .pr t u=>match castG a false t,castG r true u with | some x,some y=>some (x,y) | _,_=>none
 | .co a .ni,true,u=>castG a false u
 | .ni,_,_=>none
 | v,false,u=>castV u v
 | _,_,_=>none
abbrev cst(u:Ty)(v:V):Option (El u):=castG v false u
def fitV:V->Bool->Ty->Bool
 | .x u _,false,t=>decide (u=t)
 | .rc l,false, .st t=>fitV l true t
 | .co a r,true, .pr t u=>fitV a false t && fitV r true u
 | .co a .ni,true,t=>fitV a false t
 | .kb _,false, .b=>true
 | .nl 0,false, .sl _ | .so _,false, .sl _ | .sr _,false, .sl _ | .sb _ _ _ _ _,false, .sl _=>true
 | .nl 3,false, .mp _ _ | .om _,false, .mp _ _=>true
 | .nl _,false, .o _ | .op _ _ _,false, .o _ | .ep _ _ _ _,false, .o _ | .pt _ _,false, .o _ | .fn _ _ _,false, .o _=>true
 | _,_,_=>false
def nrm(t:Ty)(v:V):Option V:=
 match (bif dat t then castV t v else none)with
 | some y=>some (.x t y)
 | none=>bif fitV v false t then some v else none
def slV(h:H2):V->Option ((t:Ty)×Sl (El t)×List Nat)
 | .x (.sl t) s=>some ⟨t,s, []⟩
 | .so id=>(match fO h id with | some (.ar t s _) | some (.im t s _)=>some ⟨t,s, [id]⟩ | _=>none)
 | .sb id _ _ t r=>some ⟨t,r, [id]⟩
 | _=>none
def slX(t:Ty)(h:H2):V->Option ((t:Ty)×Sl (El t)×List Nat)
 | .nl 0=>some ⟨t,Sl.nil, []⟩
 | v=>slV h v
def frzV(h:H2):V->Option (V×List Nat)
 | .so id=>match slV h (.so id)with | some ⟨t,s,l⟩=>some (.x (.sl t) s,l) | none=>none
 | .sr id=>match fO h id with | some (.rw t s none)=>some (.x (.sl (.sl t)) s, [id]) | _=>none
 | .sb id ver lo t r=>match slV h (.sb id ver lo t r)with | some ⟨t,s,l⟩=>some (.x (.sl t) s,l) | none=>none
 | .rc l=>match frzV h l with | some (w,l)=>some (.rc w,l) | none=>none
 | .co a r=>match frzV h a,frzV h r with | some (x,l),some (y,m)=>some (.co x y,l++m) | _,_=>none
 | .x t v=>some (.x t v, [])
 | .kb c=>some (.kb c, [])
 | .nl k=>some (.nl k, [])
 | .fl l=>some (.fl l, [])
 | .ni=>some (.ni, [])
 | .fn true f l=>some (.fn true f l, [])
 | .pt t v=>some (.pt t v, [])
 | _=>none
def mgV(c:Bool):V->V->Option V
 | .kb a, .kb b=>some (.x .b (bif c then a else b))
 | .x t a,w=>match cst t w with | some b=>some (.x t (bif c then a else b)) | none=>none
 | w, .x t b=>match cst t w with | some a=>some (.x t (bif c then a else b)) | none=>none
 | _,_=>none
def vEq:Value->Value->Bool
 | .bool a, .bool b=>a == b
 | .int k a, .int k' b=>decide (k=k') && a == b
 | .float k a, .float k' b=>decide (k=k') && a == b
 | .string a, .string b=>decide (a=b)
 | .pointer none, .pointer none | .slice none 0 0, .slice none 0 0 | .nilFunc, .nilFunc | .map none, .map none | .nilIface, .nilIface=>true
 | _,_=>false
def vsEq:List Value->List Value->Bool
 | [], []=>true
 | a :: r,b :: s=>vEq a b && vsEq r s
 | _,_=>false
def zeL:Ty->List Value
 | .i k=> [.int k 0]
 | .b=> [.bool false]
 | .s=> [.string ByteArray.empty]
 | .f k=> [.float k 0]
 | .sl _=> [.slice none 0 0]
 | .mp _ _=> [.map none]
 | .un=> []
 | .pr a c=>zeL a++zeL c
 | .st t=>zeL t
 | .ar n t=>(List.replicate n (zeL t)).flatten
 | .o k=> [match k with | 0=> .slice none 0 0 | 1=> .pointer none | 2=> .nilFunc | 3=> .map none | _=> .nilIface]
def kdT:Ty->Option (List Kd)
 | .i k=>some [.i k]
 | .b=>some [.b]
 | .s=>some [.s]
 | .pr a c=>match kdT a,kdT c with | some x,some y=>some (x++y) | _,_=>none
 | .st t=>kdT t
 | .ar n t=>match kdT t with | some x=>some ((List.replicate n x).flatten) | none=>none
 | _=>none
def binI(z:Bool)(op:BinOp)(k k':IntKind)(a b:Int):Option V:=
 match op with
 | .shl=>bif z then some (.x (.i k) (bShl k a b))else none
 | .shr=>bif z then some (.x (.i k) (bShr k a b))else none
 | op=>bif decide (k=k')then (match op with
  | .add=>some (.x (.i k) (wr k (a+b)))
  | .sub=>some (.x (.i k) (wr k (a - b)))
  | .mul=>some (.x (.i k) (wr k (a * b)))
  | .quo=>bif z then some (.x (.i k) (wr k (a.tdiv b)))else none
  | .rem=>bif z then some (.x (.i k) (a.tmod b))else none
  | .and=>some (.x (.i k) (bAnd k a b))
  | .or=>some (.x (.i k) (bOr k a b))
  | .xor=>some (.x (.i k) (bXor k a b))
  | .andNot=>some (.x (.i k) (qu8 k a b))
  | .eql=>some (.x .b (a == b))
  | .neq=>some (.x .b (a != b))
  | .lss=>some (.x .b (decide (a < b)))
  | .leq=>some (.x .b (decide (a<=b)))
  | .gtr=>some (.x .b (decide (a > b)))
  | .geq=>some (.x .b (decide (a >= b)))
  | _=>none)else none
def binS(op:BinOp)(x y:ByteArray):Option V:=
 match op with
 | .eql=>some (.x .b (x.toList == y.toList))
 | .neq=>some (.x .b (!(x.toList == y.toList)))
 | .lss=>some (.x .b (Op.bytesLess x.toList y.toList))
 | .leq=>some (.x .b (Op.bytesLess x.toList y.toList || x.toList == y.toList))
 | .gtr=>some (.x .b (!(Op.bytesLess x.toList y.toList || x.toList == y.toList)))
 | .geq=>some (.x .b (!(Op.bytesLess x.toList y.toList)))
 | _=>none
def posC:List Operand->Bool
 | [_, .const (.int _ n)]=>decide (n > 0)
 | _=>false
def mmI(m:Bool)(k:IntKind):Int->List V->Option Int
 | x, []=>some x
 | x, .x (.i k') y :: r=>bif decide (k'=k)then mmI m k (bif m then (if y > x then y else x)else (if y < x then y else x)) r else none
 | _,_=>none
def loadV(h:H2):V->Option (V×List Nat)
 | .pt t v=>some (.x t v, [])
 | .op id t p=>(match fO h id with
  | some (.bx u c)=>bif decide (u=t)then (match getP c p with | some w=>some (w, [id]) | none=>none)else none
  | some (.ib u v)=>bif decide (u=t)then (match getP (.x u v) p with | some w=>some (w, [id]) | none=>none)else none
  | _=>none)
 | .ep id n t p=>(match fO h id with
  | some (.ar u s _) | some (.im u s _)=>bif decide (u=t)then (match getP (.x u (gt s.l n)) p with | some w=>some (w, [id]) | none=>none)else none
  | _=>none)
 | _=>none
def nilV(h:H2)(kind:Nat):V->Option V
 | .nl k=>bif (k == kind) && Nat.blt k 3 then some (.kb true)else none
 | .pt _ _ | .op _ _ _ | .ep _ _ _ _=>bif kind == 1 then some (.kb false)else none
 | .fn _ _ _=>bif kind == 2 then some (.kb false)else none
 | v=>bif kind == 0 then (match slV h v with | some ⟨_,s,_⟩=>some (.x .b s.isNil) | none=>none)else none
def negV:V->V
 | .kb c=> .kb (!c)
 | .x .b c=> .x .b (!c)
 | v=>v
def fldA(off n:Nat)(i:Nat):V->Option V
 | .op id t p=>(match tyP t p with
  | some (.st u)=>(match fdT u i with | some w=>bif (foT u i == off) && (szT w == n)then some (.op id t (p++ [.fd i]))else none | none=>none)
  | _=>none)
 | .ep id m t p=>(match tyP t p with
  | some (.st u)=>(match fdT u i with | some w=>bif (foT u i == off) && (szT w == n)then some (.ep id m t (p++ [.fd i]))else none | none=>none)
  | _=>none)
 | .pt (.st u) v=>(match getF u v i with | some (.x w y)=>bif (foT u i == off) && (szT w == n)then some (.pt w y)else none | _=>none)
 | _=>none
def chk(h:H2)(g:Bool)(n:Nat)(w:V):Bool:=(agV w == g) && (szV w == n) && (g || n == 1) && alv h w
def mapV(h:H2):V->Option ((k:Ty)×(v:Ty)×Mp (El k) (El v)×List Nat)
 | .om id=>(match fO h id with | some (.mp k v m)=>some ⟨k,v,m, [id]⟩ | _=>none)
 | _=>none
def bldF(t:Ty):List Nat->List (Nat×Nat)->List V->V->Option V
 | [], [], [],c=>some c
 | i :: is,(off,n) :: ps,w :: ws,c=>
  match t with
  | .st u=>(match fdT u i with
   | some a=>bif (foT u i == off) && (szT a == n)then (match nrm a w with | some w=>(match setP c [.fd i] w with | some c=>bif fitV c false t then bldF t is ps ws c else none | none=>none) | none=>none)else none
   | none=>none)
  | .ar m u=>bif (i * szT u == off) && (szT u == n) && decide (i < m)then (match nrm u w with | some w=>(match setP c [.ix i] w with | some c=>bif fitV c false t then bldF t is ps ws c else none | none=>none) | none=>none)else none
  | _=>none
 | _,_,_,_=>none
def capB:V->Bool
 | .tp _ | .no | .gn | .ni | .co _ _=>false
 | v=> !agV v
def tot(o:OP)(vs:List V)(h:H2):Option (V×List Nat):=
 match o.o.k,vs with
 | .mv, [v]=>some (v, [])
 | .nilCheck, [v]=>(match v with | .pt _ _ | .fn _ _ _ | .ep _ _ _ _ | .op _ _ _=>some (v, []) | _=>none)
 | .bin op, [.x (.i k) a, .x (.i k') b]=>(match binI (posC o.o.args) op k k' a b with | some v=>some (v, []) | none=>none)
 | .bin op, [.x .s a, .x .s b]=>(match binS op a b with | some v=>some (v, []) | none=>none)
 | .eqBool neg, [x,y]=>(match cst .b x,cst .b y with | some a,some b=>some (.x .b (bif neg then !(a == b)else a == b), []) | _,_=>none)
 | .eqNil kind neg, [x]=>(match nilV h kind x with | some v=>some (bif neg then negV v else v, []) | none=>none)
 | .eqAgg neg ks, [.x t a,y]=>(match cst t y with | some b=>bif agT t && decide (kdT t=some ks)then some (.x .b (bif neg then !(decide (a=b))else decide (a=b)), [])else none | none=>none)
 | .un .not, [.kb c]=>some (.kb (!c), [])
 | .un .not, [.x .b c]=>some (.x .b (!c), [])
 | .un .neg, [.x (.i k) n]=>some (.x (.i k) (wr k (0 - n)), [])
 | .un .xor, [.x (.i k) n]=>some (.x (.i k) (bNot k n), [])
 | .convInt k, [.x (.i _) n]=>some (.x (.i k) (wr k n), [])
 | .convSame, [.x .s s]=>some (.x .s s, [])
 | .mkFn f,vs=>bif vs.all capB then some (.fn false f (row vs), [])else none
 | .load g n, [p]=>(match loadV h p with | some (w,l)=>bif chk h g n w then some (w,l)else none | none=>none)
 | .loadN, [p]=>(match loadV h p with | some (w,l)=>bif chk h false 1 w then some (w,l)else none | none=>none)
 | .fieldAddr off n, [p]=>(match o.fi with | [i]=>(match fldA off n i p with | some w=>some (w, []) | none=>none) | _=>none)
 | .field g off n, [.x (.st u) v]=>(match o.fi with | [i]=>(match getF u v i with | some w=>bif (foT u i == off) && chk h g n w then some (w, [])else none | none=>none) | _=>none)
 | .field g off n, [.rc l]=>(match o.fi with | [i]=>(match nthV l i with | some w=>bif (foV l i == off) && chk h g n w then some (w, [])else none | none=>none) | _=>none)
 | .extract i, [.tp l]=>(match nthV l i with | some w=>some (w, []) | none=>none)
 | .len true, [.x .s s]=>some (.x (.i .i64) (s.size:Int), [])
 | .len false, [.nl 0]=>some (.x (.i .i64) (0:Int), [])
 | .len false, [.sr id]=>(match fO h id with | some (.rw _ s _)=>some (.x (.i .i64) (s.l.length:Int), []) | _=>none)
 | .len false, [v]=>(match slV h v with | some ⟨_,s,_⟩=>some (.x (.i .i64) (s.l.length:Int), []) | none=>none)
 | .minmax m, .x (.i k) x :: r=>(match mmI m k x r with | some y=>some (.x (.i k) y, []) | none=>none)
 | .build z ps,vs=>bif vsEq (zeL o.t) z && agT o.t && fitV (zeV o.t) false o.t then (match bldF o.t o.fi ps vs (zeV o.t)with | some v=>some (v, []) | none=>none)else none
 | .lookup ka ks va z ok, [m,kv]=>(match mapV h m with
  | some ⟨kt,vt,mp,l⟩=>(match cst kt kv with
   | some k=>bif (agT kt == ka) && (agT vt == va) && decide (kdT kt=some ks) && vsEq (zeL vt) z && dat vt && (va || szT vt == 1)then
     some (bif ok then .tp (.co (.x vt (mpGet mp (zeE vt) k)) (.co (.x .b (mpHas mp k)) .ni))else .x vt (mpGet mp (zeE vt) k),l)else none
   | none=>none)
  | none=>none)
 | _,_=>none
def appS{α:Type}(s:Sl α)(x r:List α):Sl α:=
 match x with
 | []=>(match s with | .nil=> .nil | .mk _=> .mk r)
 | _ :: _=> .mk r
def lenS{α:Type}:Sl α->Sl α->Option Unit
 | .nil, .nil=>some ()
 | .mk a, .mk b=>lenI a b
 | _,_=>none
def newO(s:S2)(o:O):S2:=⟨s.env,(s.next,some o) :: s.heap,s.next+1,s.next :: s.wo,s.gh⟩
def updO(s:S2)(id:Nat)(o:Option O):S2:=⟨s.env,(id,o) :: s.heap,s.next,id :: s.wo,s.gh⟩
def frzO(h:H2)(id:Nat):Option O:=
 match fO h id with
 | some (.ar t s v) | some (.im t s v)=>some (.im t s v)
 | some (.ib t v)=>some (.ib t v)
 | some (.bx t c)=>bif dat t && Nat.blt (szT t) 300 then (match frzV h c with | some (_, [])=>(match cst t c with | some v=>some (.ib t v) | none=>none) | _=>none)else none
 | _=>none
def q7v(h:H2):List Nat->S2->Option S2
 | [],s=>some s
 | id :: r,s=>match fO h id with
  | some (.rw _ _ none)=>(match q7v h r s with | some s=>some (updO s id none) | none=>none)
  | _=>(match frzO h id,q7v h r s with | some o,some s=>some (updO s id (some o)) | _,_=>none)
def okT(t:Ty):Bool:=dat t && Nat.blt 0 (szT t)
def rowsF(h:H2)(t:Ty)(len:Nat):Nat->List Nat->List V->Option (List (El t)×List Nat)
 | m, [], []=>some (List.replicate (len - m) (zeE t), [])
 | m,i :: is,v :: vs=>
  match frzV h v with
  | some (w,a)=>(match cst t w with
   | some y=>bif Nat.ble m i && Nat.blt i len then (match rowsF h t len (i+1) is vs with | some (l,b)=>some (List.replicate (i - m) (zeE t)++y :: l,a++b) | none=>none)else none
   | none=>none)
  | none=>none
 | _,_,_=>none
def ints:List V->Option (List Int)
 | []=>some []
 | .x (.i _) n :: r=>match ints r with | some l=>some (n :: l) | none=>none
 | _=>none
def lenV(h:H2):V->Option Int
 | .nl 0=>some 0
 | v=>match slV h v with | some ⟨_,v,_⟩=>some (v.l.length:Int) | none=>none
def clrS{α:Type}(w:Sl α)(lo n:Nat)(z:α):Option (Sl α):=
 match w with
 | .nil=>none
 | .mk l=>some (.mk (cpL l lo n (List.replicate n z)))
def cutK{β:Type}(sz:Nat)(h:H2)(x:V)(l u:Int)(k:V->Option β):Option β:=
 match x with
 | .x (.sl t) v=>bif szT t == sz then (cutI v.l l u).bind λy=>k (.x (.sl t) (v.to y))else none
 | .so id=>(match fO h id with
  | some (.ar t v ver)=>bif szT t == sz then (cutI v.l l u).bind λy=>k (.sb id ver l.toNat t (v.to y))else none
  | some (.im t v ver)=>bif szT t == sz then (cutI v.l l u).bind λy=>k (.sb id ver l.toNat t (v.to y))else none
  | _=>none)
 | .sb id ver lo t v=>bif szT t == sz then (cutI v.l l u).bind λy=>k (.sb id ver (lo+l.toNat) t (v.to y))else none
 | .nl 0=>(cutI ([]:List Unit) l u).bind λ_=>k (.nl 0)
 | _=>none
def bldS{β:Type}(t:Ty)(sz len:Nat)(z:List Value)(pl:List Nat)(vs:List V)(s:S2)(k:V->S2->List Nat->Option β):Option β:=
 bif (szT t == sz) && vsEq ((List.replicate len (zeL t)).flatten) z && okT t then
  (match rowsF s.heap t len 0 pl vs with
  | some (l,a)=>(match q7v s.heap a s with | some s'=>k (.so s.next) (newO s' (.ar t (.mk l) 0)) a | none=>none)
  | none=>none)else none
def slotB(ln:Option (Nat×Nat))(m:Nat):Bool:=match ln with | none=>true | some (m',_)=>Nat.beq m' m
def qm8{β:Type}(id m:Nat)(t:Ty)(p:Path)(w:V)(s:S2)(k:S2->List Nat->Option β):Option β:=
 match fO s.heap id with
 | some (.rw u v ln)=>(match p,w with
  | [], .so id2=>(match fO s.heap id2 with
   | some (.ar u2 r _)=>(match castE (.sl u2) (.sl u) r with
    | some r=>bif decide (t= .sl u) && !(id2 == id) && slotB ln m then k (updO (updO s id2 none) id (some (.rw u (.mk (v.l.set m r)) none))) [id,id2]else none
    | none=>none)
   | _=>none)
  | _,_=>none)
 | some (.ar u l ver)=>(match frzV s.heap w with
  | some (w,a)=>bif decide (u=t)then (match tyP u p with
   | some q=>(match cst q w with
    | some y=>(match setP (.x u (gt l.l m)) p (.x q y)with
     | some c=>(match castV u c with
      | some y=>(match q7v s.heap a s with | some s=>bif !a.contains id then k (updO s id (some (.ar u (.mk (l.l.set m y)) (ver+1)))) (id :: a)else none | none=>none)
      | none=>none)
     | none=>none)
    | none=>none)
   | none=>none)else none
  | none=>none)
 | _=>none
def part{β:Type}(o:OP)(vs:List V)(s:S2)(k:V->S2->List Nat->Option β):Option β:=
 match o.o.k,vs with
 | .bin .quo, [.x (.i q) a, .x (.i q') b]=>bif decide (q=q')then (divI q a b).bind λx=>k (.x (.i q) x) s []else none
 | .bin .rem, [.x (.i q) a, .x (.i q') b]=>bif decide (q=q')then (remI q a b).bind λx=>k (.x (.i q) x) s []else none
 | .bin .shl, [.x (.i q) a, .x (.i _) b]=>(shlI q a b).bind λx=>k (.x (.i q) x) s []
 | .bin .shr, [.x (.i q) a, .x (.i _) b]=>(shrI q a b).bind λx=>k (.x (.i q) x) s []
 | .bin .add, [.x .s a, .x .s b]=>(catS a b).bind λx=>k (.x .s x) s []
 | .alloc z, []=>bif vsEq (zeL o.t) z && fitV (zeV o.t) false o.t then k (.op s.next o.t []) (newO s (.bx o.t (zeV o.t))) []else none
 | .box, [v]=>(match nrm o.t v with | some w=>k (.op s.next o.t []) (newO s (.bx o.t w)) [] | none=>none)
 | .buildSlice sz len z pl,vs=>bldS o.t sz len z pl vs s k
 | .store n, [.op id t p,w]=>bif (szV w == n)then (match fO s.heap id with
  | some (.bx u c)=>bif decide (u=t)then (match tyP t p with
   | some a=>(match nrm a w with
    | some w=>(match setP c p w with | some c=>bif fitV c false t then k (.tp .ni) (updO s id (some (.bx t c))) [id]else none | none=>none)
    | none=>none)
   | none=>none)else none
  | _=>none)else none
 | .loadN, [.ep id m u []]=>(match fO s.heap id with
  | some (.rw t v none)=>bif decide (u= .sl t)then k (.so s.next) (newO (updO s id (some (.rw t v (some (m,s.next))))) (.ar t (gt v.l m) 0)) [id]else none
  | _=>none)
 | .mkNst szi, [.x (.i _) l, .x (.i _) c]=>(match o.t with
  | .sl t=>bif (szT t == szi) && okT t then (mkI (Sl.nil:Sl (El t)) l c).bind λr=>k (.sr s.next) (newO s (.rw t (.mk r) none)) []else none
  | _=>none)
 | .store n, [.ep id m t p,w]=>bif (szV w == n)then qm8 id m t p w s (λs l=>k (.tp .ni) s l)else none
 | .makeSlice z, [.x (.i _) l, .x (.i _) c]=>bif vsEq (zeL o.t) z && okT o.t then (mkI (zeE o.t) l c).bind λr=>k (.so s.next) (newO s (.ar o.t (.mk r) 0)) []else none
 | .slice true _ lo hi, .x .s x :: r=>(match lo,hi,ints r with
  | false,false,some []=>(subS x 0 x.size).bind λy=>k (.x .s y) s []
  | true,false,some [l]=>(subS x l x.size).bind λy=>k (.x .s y) s []
  | false,true,some [u]=>(subS x 0 u).bind λy=>k (.x .s y) s []
  | true,true,some [l,u]=>(subS x l u).bind λy=>k (.x .s y) s []
  | _,_,_=>none)
 | .slice false sz lo hi,x :: r=>
  (match lo,hi,ints r,lenV s.heap x with
  | false,false,some [],some n=>cutK sz s.heap x 0 n λv=>k v s []
  | true,false,some [l],some n=>cutK sz s.heap x l n λv=>k v s []
  | false,true,some [u],some _=>cutK sz s.heap x 0 u λv=>k v s []
  | true,true,some [l,u],some _=>cutK sz s.heap x l u λv=>k v s []
  | _,_,_,_=>none)
 | .indexAddr none sz, [x, .x (.i _) i]=>(match x with
  | .x (.sl t) v=>bif szT t == sz then (ixI i v.l.length).bind λm=>k (.pt t (gt v.l m)) s []else none
  | .so id=>(match slV s.heap (.so id)with | some ⟨t,v,_⟩=>bif szT t == sz then (ixI i v.l.length).bind λm=>k (.ep id m t []) s []else none | none=>none)
  | .sb id _ lo t v=>bif szT t == sz then (ixI i v.l.length).bind λm=>k (.ep id (lo+m) t []) s []else none
  | .sr id=>(match fO s.heap id with | some (.rw t v _)=>bif 1 == sz then (ixI i v.l.length).bind λm=>k (.ep id m (.sl t) []) s []else none | _=>none)
  | _=>none)
 | .indexAddr (some n) sz, [x, .x (.i _) i]=>(match x with
  | .op id t p=>(match tyP t p with | some (.ar n' u)=>bif (n' == n) && (szT u == sz)then (ixI i n).bind λm=>k (.op id t (p++ [.ix m])) s []else none | _=>none)
  | .ep id q t p=>(match tyP t p with | some (.ar n' u)=>bif (n' == n) && (szT u == sz)then (ixI i n).bind λm=>k (.ep id q t (p++ [.ix m])) s []else none | _=>none)
  | .pt (.ar n' u) v=>bif (n' == n) && (szT u == sz)then (ixI i n).bind λm=>k (.pt u (gt v.1 m)) s []else none
  | _=>none)
 | .indexStr, [.x .s x, .x (.i _) i]=>(atS x i).bind λc=>k (.x (.i .u8) c) s []
 | .index g n sz, [.x (.ar n' u) v, .x (.i _) i]=>bif (n' == n) && (szT u == sz) && (agT u == g) && dat u && (g || sz == 1)then (ixI i n).bind λm=>k (.x u (gt v.1 m)) s []else none
 | .append sz, [a,x]=>
  (match slX o.t s.heap x with
  | some ⟨t,m,ids⟩=>bif (szT t == sz) && okT t then (match a with
   | .nl 0=>(capI ([]++m.l)).bind λr=>k (.so s.next) (newO s (.ar t (appS Sl.nil m.l r) 0)) ids
   | .so id=>(match fO s.heap id with
    | some (.ar u v _)=>(match castE (.sl t) (.sl u) m with
     | some m=>(capI (v.l++m.l)).bind λr=>k (.so s.next) (newO (updO s id none) (.ar u (appS v m.l r) 0)) (id :: ids)
     | none=>none)
    | _=>none)
   | .sb id _ lo u v=>(match fO s.heap id,castE (.sl t) (.sl u) m with
    | some (.ar _ s0 _),some m=>bif Nat.ble s0.l.length (lo+(v.l.length+m.l.length))then ((capI (v.l++m.l)).bind λr=>k (.so s.next) (newO (updO s id none) (.ar u (appS v m.l r) 0)) (id :: ids))else none
    | _,_=>none)
   | _=>none)else none
  | none=>none)
 | .copy sz, [a,x]=>
  (match slX o.t s.heap x with
  | some ⟨t,m,ids⟩=>bif szT t == sz then (match a with
   | .nl 0=>k (.x (.i .i64) (0:Int)) s ids
   | .so id=>(match fO s.heap id with
    | some (.ar u v ver)=>(match castE (.sl t) (.sl u) m with
     | some m=>k (.x (.i .i64) ((min m.l.length v.l.length:Nat):Int)) (updO s id (some (.ar u (v.to (cpL v.l 0 v.l.length m.l)) (ver+1)))) (id :: ids)
     | none=>none)
    | _=>none)
   | .sb id ver lo _ v=>(match fO s.heap id with
    | some (.ar u w ver')=>(match castE (.sl t) (.sl u) m with
     | some m=>bif ver' == ver then k (.x (.i .i64) ((min m.l.length v.l.length:Nat):Int)) (updO s id (some (.ar u (w.to (cpL w.l lo v.l.length m.l)) (ver+1)))) (id :: ids)else none
     | none=>none)
    | _=>none)
   | _=>none)else none
  | none=>none)
 | .clear zz, [a]=>(match a with
  | .sb id ver lo _ v=>(match fO s.heap id with
   | some (.ar u w ver')=>bif (ver' == ver) && vsEq (zeL u) zz && okT u then (clrS w lo v.l.length (zeE u)).bind λw=>k (.tp .ni) (updO s id (some (.ar u w (ver+1)))) [id]else none
   | _=>none)
  | _=>none)
 | .makeMap ka va, []=>(match o.t with
  | .mp kt vt=>bif (agT kt == ka) && (agT vt == va) && dat vt && (kdT kt).isSome then k (.om s.next) (newO s (.mp kt vt Mp.none)) []else none
  | _=>none)
 | .mapEntry ka ks va z, [.om id,kv]=>(match fO s.heap id with
  | some (.mp kt vt m)=>(match cst kt kv with
   | some q=>bif (agT kt == ka) && (agT vt == va) && decide (kdT kt=some ks) && vsEq (zeL vt) z && dat vt && (va || szT vt == 1)then
     k (.tp (.co (.x vt (mpEnt m (zeE vt) q).2.1) (.co (.x (.i .i64) (mpEnt m (zeE vt) q).2.2) .ni))) (updO s id (some (.mp kt vt (mpEnt m (zeE vt) q).1))) [id]else none
   | none=>none)
  | _=>none)
 | .entryStore va n, [.om id, .x (.i _) st,w]=>(match fO s.heap id with
  | some (.mp kt vt m)=>(match cst vt w with
   | some y=>bif (agT vt == va) && (szT vt == n) && dat vt then (mpSet m st y).bind λm=>k (.tp .ni) (updO s id (some (.mp kt vt m))) [id]else none
   | none=>none)
  | _=>none)
 | _,_=>none
end Go.Ev

namespace Go.Ev
@[reducible] def PayL:List Ty->Type
 | []=>Unit
 | a :: r=>PayC a r
where PayC:Ty->List Ty->Type
 | a, []=>El a
 | a,c :: r=>El a×PayC c r
def castX(u:Ty):V->Option (El u)
 | .x t v=>castE t u v
 | _=>none
def tup2{α β:Type}:Option α->Option β->Option (α×β)
 | some x,some y=>some (x,y)
 | _,_=>none
def tupC:(a:Ty)->(r:List Ty)->List V->Option (PayL.PayC a r)
 | a, [],l=>(match l with | [v]=>castX a v | _=>none)
 | a,c :: r,l=>(match l with | v :: l=>tup2 (castX a v) (tupC c r l) | []=>none)
def tupV:(cs:List Ty)->List V->Option (PayL cs)
 | [], []=>some ()
 | a :: r,l=>tupC a r l
 | _,_=>none
def untC:(a:Ty)->(r:List Ty)->PayL.PayC a r->List V
 | a, [],v=> [.x a v]
 | a,c :: r,v=> .x a v.1 :: untC c r v.2
def untV:(cs:List Ty)->PayL cs->List V
 | [],_=> []
 | a :: r,v=>untC a r v
inductive Sh where
 | x (t : Ty)            -- data
 | pt (t : Ty)           -- a pointer to data
 | os (t : Ty)           -- a slice of its own
 | rw (t : Ty)           -- a row of rows of its own
 | mp (k v : Ty)         -- a map of its own
 | pb (t : Ty) (c : Sh)  -- a pointer to a box of its own
 | st (c:Sh)
 | pr (a c:Sh)
 | nl (k:Nat)
 | fn (f:Nat) (l:Sh)
 | ni
 | gn
 deriving Inhabited,DecidableEq
def cod:Sh->List Ty
 | .x t | .pt t=> [t]
 | .os t=> [.sl t]
 | .rw t=> [.sl (.sl t)]
 | .mp k v=> [.mp k v]
 | .pb _ c | .st c | .fn _ c=>cod c
 | .pr a c=>cod a++cod c
 | _=> []
def cods:List Sh->List Ty
 | []=> []
 | a :: r=>cod a++cods r
abbrev Wy:=List (List Sh×List Sh)
@[reducible] def SumA:Wy->Type
 | []=>Empty
 | (r,o) :: w=>SumB r o w
where SumB:List Sh->List Sh->Wy->Type
 | r,o, []=>PayL (cods r++cods o)
 | r,o,(r',o') :: w=>PayL (cods r++cods o) ⊕ SumB r' o' w
def wayB{β:Type}(k:List Sh->List Sh->List V->Option β):(r o:List Sh)->(w:Wy)->SumA.SumB r o w->Option β
 | r,o, [],z=>k r o (untV (cods r++cods o) z)
 | r,o,(r',o') :: w,z=>match z with
  | .inl z=>k r o (untV (cods r++cods o) z)
  | .inr z=>wayB k r' o' w z
def wayA{β:Type}(k:List Sh->List Sh->List V->Option β):(w:Wy)->SumA w->Option β
 | [],z=>nomatch z
 | (r,o) :: w,z=>wayB k r o w z
structure Spc where
 ps:List (Bool×Sh)
 al:Wy
 ro:Bool
 muts:List Bool
 fn:PayL (cods (ps.map (·.2)))->Option (SumA al)
abbrev Tab:=List (Nat×Spc)
def argD(h:H2):Sh->V->Option (List V×List Nat)
 | .x t,v=>match frzV h v with | some (w,l)=>(match cst t w with | some y=>some ([.x t y],l) | none=>none) | none=>none
 | .pt t, .pt u v=>match castE u t v with | some y=>some ([.x t y], []) | none=>none
 | .pt t, .op id u []=>(match fO h id with
  | some (.bx w c)=>bif decide (w=u) && alv h c then (match frzV h c with | some (c,l)=>(match cst t c with | some y=>some ([.x t y],id :: l) | none=>none) | none=>none)else none
  | some (.ib w v)=>bif decide (w=u)then (match castE w t v with | some y=>some ([.x t y], [id]) | none=>none)else none
  | _=>none)
 | .pt t, .ep id n u []=>(match fO h id with
  | some (.ar w s _) | some (.im w s _)=>bif decide (w=u)then (match castE w t (gt s.l n)with | some y=>some ([.x t y], [id]) | none=>none)else none
  | _=>none)
 | .nl k, .nl k'=>bif k == k' then some ([], [])else none
 | .fn f c, .fn _ f' l=>bif f == f' then argD h c l else none
 | .pr a c, .co x r=>match argD h a x,argD h c r with | some (l,i),some (m,j)=>some (l++m,i++j) | _,_=>none
 | .ni, .ni=>some ([], [])
 | _,_=>none
def nilX(t:Ty){u:Ty}(v:El (.sl u)):Option (List V×List Nat):=
 match (v:Sl (El u))with
 | .nil=>some ([.x (.sl t) Sl.nil], [])
 | .mk _=>none
def argT(h:H2):Sh->Bool->V->Option (List V×List Nat)
 | .os t,false, .so id=>(match fO h id with | some (.ar u s _)=>(match castE (.sl u) (.sl t) s with | some s=>some ([.x (.sl t) s], [id]) | none=>none) | _=>none)
 | .os t,false, .nl 0=>some ([.x (.sl t) Sl.nil], [])
 | .rw t,false, .sr id=>(match fO h id with | some (.rw u s none)=>(match castE (.sl (.sl u)) (.sl (.sl t)) s with | some s=>some ([.x (.sl (.sl t)) s], [id]) | none=>none) | _=>none)
 | .rw t,false, .nl 0=>some ([.x (.sl (.sl t)) Sl.nil], [])
 | .pb t c,false, .op id u []=>(match fO h id with | some (.bx w v)=>bif decide (w=u) && decide (u=t)then (match argT h c false v with | some (l,i)=>some (l,id :: i) | none=>none)else none | _=>none)
 | .nl k,false, .nl k'=>bif k == k' then some ([], [])else none
 | .x t,false,v=>match cst t v with | some y=>some ([.x t y], []) | none=>none
 | .st c,false, .rc l=>argT h c true l
 | .st c,false, .x (.st u) v=>argT h c true (toL u v)
 | .pr a c,true, .co x r=>match (match a,x with | .os t, .x (.sl _) v=>nilX t v | _,_=>argT h a false x),argT h c true r with | some (l,i),some (m,j)=>some (l++m,i++j) | _,_=>none
 | .ni,true, .ni=>some ([], [])
 | _,_,_=>none
def mkT:Sh->Bool->List V->S2->Option (V×List V×S2)
 | .x t,false, .x u v :: l,s=>bif decide (u=t) && dat t then some (.x u v,l, { s with next:=s.next+szT t })else none
 | .os t,false, .x (.sl u) v :: l,s=>bif decide (u=t) && okT t then some (.so s.next,l,newO s (.ar u v 0))else none
 | .rw t,false, .x (.sl (.sl u)) v :: l,s=>bif decide (u=t) && okT t then some (.sr s.next,l,newO s (.rw u v none))else none
 | .pb t c,false,l,s=>
  match mkT c false l { s with next:=s.next+1 } with
  | some (w,l,s')=>bif fitV w false t then some (.op s.next t [],l,updO s' s.next (some (.bx t w)))else none
  | none=>none
 | .nl k,false,l,s=>some (.nl k,l, { s with next:=s.next+1 })
 | .st c,false,l,s=>match mkT c true l s with | some (w,l,s)=>some (.rc w,l,s) | none=>none
 | .pr a c,true,l,s=>
  match mkT a false l s with
  | some (x,l,s)=>(match mkT c true l s with | some (r,l,s)=>some (.co x r,l,s) | none=>none)
  | none=>none
 | .ni,true,l,s=>some (.ni,l,s)
 | _,_,_,_=>none
def mkTs:List Sh->List V->S2->Option (List V×List V×S2)
 | [],l,s=>some ([],l,s)
 | a :: r,l,s=>match mkT a false l s with | some (x,l,s)=>(match mkTs r l s with | some (xs,l,s)=>some (x :: xs,l,s) | none=>none) | none=>none
def q6m(h:H2):List (Bool×Sh)->List V->Option (List V×List Nat×List (V×List Nat))
 | [], []=>some ([], [], [])
 | (b,c) :: r,v :: vs=>
  match q6m h r vs with
  | some (m,j,q)=>
   bif b then (match argT h c false v with | some (l,i)=>some (l++m,j,(v,i) :: q) | none=>none)
   else (match argD h c v with | some (l,i)=>some (l++m,i++j,q) | none=>none)
  | none=>none
 | _,_=>none
def findS(h:H2)(f:Nat)(vs:List V):Tab->Option (Spc×List V×List Nat×List (V×List Nat))
 | []=>none
 | (g,sp) :: r=>bif g == f then (match q6m h sp.ps vs with | some (l,i,q)=>some (sp,l,i,q) | none=>findS h f vs r)else findS h f vs r
def q2f:List Nat->S2->S2
 | [],s=>s
 | id :: r,s=>updO (q2f r s) id none
def backV{β:Type}:List Sh->List (V×List Nat)->List V->S2->(S2->Option β)->Option β
 | [], [], [],s,k=>k s
 | .nl _ :: r,(_, []) :: q,l,s,k=>backV r q l s k
 | .gn :: r,(_,i) :: q,l,s,k=>backV r q l (q2f i s) k
 | .os t :: r,(.nl 0, []) :: q, .x (.sl u) v :: l,s,k=>(match castE (.sl u) (.sl t) v with | some v=>(lenS v (Sl.nil:Sl (El t))).bind λ_=>backV r q l s k | none=>none)
 | .os t :: r,(.so id,_) :: q, .x (.sl u) v :: l,s,k=>(match fO s.heap id,castE (.sl u) (.sl t) v with
  | some (.ar w old ver),some v=>(match castE (.sl t) (.sl w) v with
   | some v=>(lenS v old).bind λ_=>backV r q l (updO s id (some (.ar w v (ver+1)))) k
   | none=>none)
  | _,_=>none)
 | .rw t :: r,(.nl 0, []) :: q, .x (.sl (.sl u)) v :: l,s,k=>(match castE (.sl (.sl u)) (.sl (.sl t)) v with | some v=>(lenS (v:Sl (Sl (El t))) (Sl.nil:Sl (Sl (El t)))).bind λ_=>backV r q l s k | none=>none)
 | .rw t :: r,(.sr id,_) :: q, .x (.sl (.sl u)) v :: l,s,k=>(match fO s.heap id,castE (.sl (.sl u)) (.sl (.sl t)) v with
  | some (.rw w old _),some v=>(match castE (.sl (.sl t)) (.sl (.sl w)) v with
   | some v=>(lenS (v:Sl (Sl (El w))) old).bind λ_=>backV r q l (updO s id (some (.rw w v none))) k
   | none=>none)
  | _,_=>none)
 | .pb t c :: r,(.op id u [],i) :: q,l,s,k=>(match fO s.heap id with
  | some _=>(match mkT c false l s with
   | some (w,l,s)=>bif fitV w false t && decide (u=t)then backV r q l (updO (q2f i s) id (some (.bx t w))) k else none
   | none=>none)
  | none=>none)
 | _,_,_,_,_=>none
def retW:List V->V
 | [v]=>v
 | l=> .tp (row l)
def qfn:List Nat->Bool
 | []=>true
 | a :: r=> !r.contains a && qfn r
def qce:V->Option (List V)
 | .ni=>some []
 | .co a r=>bif (szV a == 1) && !agV a then (match qce r with | some l=>some (a :: l) | none=>none)else none
 | _=>none
def qdv{β:Type}(tb:Tab)(ro:Bool)(muts:List Bool)(f:V)(vs:List V)(s:S2)(k:V->S2->List Nat->Option β):Option β:=
 match f with
 | .fn _ fid caps=>
  match (match qce caps with | some cs=>findS s.heap fid (vs++cs) tb | none=>none)with
  | some (sp,pay,ids,q)=>
   bif (!ro || sp.ro) && decide (sp.muts=muts) && qfn (q.flatMap (·.2)) && (q.flatMap (·.2)).all (λi=> !ids.contains i)then
    match tupV (cods (sp.ps.map (·.2))) pay with
    | some p=>(sp.fn p).bind λz=>wayA (λrs os l=>
     match (bif ro then some s else q7v s.heap ids s)with
     | some s0=>backV os q (l.drop (cods rs).length) s0 λs1=>
      (match mkTs rs (l.take (cods rs).length) s1 with
      | some (xs,_,s2)=>k (retW xs) s2 (ids++q.flatMap (·.2))
      | none=>none)
     | none=>none) sp.al z
    | none=>none
   else none
  | none=>none
 | _=>none
structure Rg where
 kn:List (Nat×Bool)
 cd:List (Nat×Nat×Bool×V)
def knG(kn:List (Nat×Bool))(g:Nat):Option Bool:=fnd kn g
def opG(s:S2)(q:Rg)(gc:Option (Nat×Bool)):Operand->Option V
 | .tmp t=>
  match fnd q.cd t with
  | some (g,b,v)=>bif decide (gc=some (g,b)) || decide (knG q.kn g=some b)then (bif alv s.heap v then some v else none)else none
  | none=>opV s.env s.heap (.tmp t)
 | o=>opV s.env s.heap o
def opsG(s:S2)(q:Rg)(gc:Option (Nat×Bool)):List Operand->Option (List V)
 | []=>some []
 | a :: r=>match opG s q gc a,opsG s q gc r with | some x,some y=>some (x :: y) | _,_=>none
inductive GV where
 | run
 | skip
 | sym (g:Nat) (b:Bool) (c:Bool)
def gdV(e:List (Nat×V))(kn:List (Nat×Bool)):Option (Nat×Bool)->Option GV
 | none=>some .run
 | some (g,b)=>
  match knG kn g with
  | some c=>some (bif c == b then .run else .skip)
  | none=>(match fnd e g with
   | some (.kb c)=>some (bif c == b then .run else .skip)
   | some (.x .b c)=>some (.sym g b c)
   | some .no=>some .skip
   | _=>none)
def pickV(s:S2)(q:Rg)(gc:Option (Nat×Bool)):List Operand->Option V
 | [.tmp g,a,b]=>
  match knG q.kn g,fnd s.env g with
  | some c,_=>opG s q gc (bif c then a else b)
  | none,some (.kb c)=>opG s q gc (bif c then a else b)
  | none,some (.x .b c)=>(match opG s q (some (g,true)) a,opG s q (some (g,false)) b with | some x,some y=>mgV c x y | _,_=>none)
  | _,_=>none
 | [.const (.bool c),a,b]=>opG s q gc (bif c then a else b)
 | _=>none
def qnq:K->Bool
 | .pick=>true
 | _=>false
def totG(o:OP)(s:S2)(q:Rg)(gc:Option (Nat×Bool)):Option (V×List Nat):=
 bif qnq o.o.k then (match pickV s q gc o.o.args with | some v=>some (v, []) | none=>none)
 else (match opsG s q gc o.o.args with | some vs=>tot o vs s.heap | none=>none)
def put2(s:S2)(d:Option Nat)(v:V):S2:=match d with | some d=> { s with env:=(d,v) :: s.env } | none=>s
def clr(q:Rg)(d:Option Nat):Option Rg:=
 match d with
 | none=>some q
 | some d=>bif q.cd.any (λe=>e.2.1 == d) || q.kn.any (λe=>e.1 == d)then none else some ⟨q.kn,q.cd.filter (λe=> !(e.1 == d))⟩
abbrev Tr2:=List (List Nat×List Nat)
def exe{β:Type}(tb:Tab)(o:OP)(s:S2)(q:Rg)(gc:Option (Nat×Bool))(k:V->S2->List Nat->Option β):Option β:=
 match totG o s q gc with
 | some (v,l)=>k v s l
 | none=>
  match opsG s q gc o.o.args with
  | some vs=>
   (match o.o.k,vs with
   | .call ro muts,f :: vs=>qdv tb ro muts f vs s k
   | _,vs=>part o vs s k)
  | none=>none
def atB(dr:Option Nat)(i:Nat)(s:S2):S2:=match dr with | some b=> { s with next:=b+room * i } | none=>s
def inB(dr:Option Nat)(i:Nat)(s:S2):Bool:=match dr with | some b=>Nat.ble s.next (b+room * (i+1)) | none=>true
def waits(d:Option Nat)(r:List OP):Bool:=
 match d with
 | some d=>r.any λo=>match o.o.guard with | some (g,_)=>Nat.beq g d | none=>false
 | none=>false
def q59{β:Type}(tb:Tab)(dr:Option Nat):List OP->Nat->S2->Rg->Tr2->(S2->Tr2->Option β)->Option β
 | [],_,s,_,tr,k=>k s tr
 | o :: r,i,s0,q,tr,k=>
  let s:=atB dr i s0
  let go:Rg->Option β:=λq=>exe tb o s q o.o.guard λv s1 l=>
   bif inB dr i s1 then (match clr q o.o.dst with
    | some q=>q59 tb dr r (i+1) (put2 s1 o.o.dst v) q (tr++ [(l,s1.wo.take (s1.wo.length - s.wo.length))]) k
    | none=>none)else none
  let no:Rg->Option β:=λq=>match clr q o.o.dst with | some q=>q59 tb dr r (i+1) (put2 s o.o.dst .no) q (tr++ [([], [])]) k | none=>none
  match gdV s.env q.kn o.o.guard with
  | none=>none
  | some .run=>go q
  | some .skip=>no q
  | some (.sym g b c)=>
   match (bif waits o.o.dst r then none else totG o s q (some (g,b)))with
   | some (v,l)=>
    (match clr q o.o.dst,o.o.dst with
    | some q,some d=>bif Nat.beq g d then none else q59 tb dr r (i+1) (put2 s (some d) .gn) ⟨q.kn,(d,g,b,v) :: q.cd⟩ (tr++ [(l, [])]) k
    | _,_=>none)
   | none=>(match b with
    | true=>bif c then go ⟨(g,true) :: q.kn,q.cd⟩else no ⟨(g,false) :: q.kn,q.cd⟩
    | false=>bif c then no ⟨(g,true) :: q.kn,q.cd⟩else go ⟨(g,false) :: q.kn,q.cd⟩)
inductive JV where
 | x (t:Ty)
 | pt (t:Ty)
 | so (j:Nat)
 | sr (j:Nat)
 | om (j:Nat)
 | op (j:Nat) (t:Ty) (p:List Nat)
 | nl (k:Nat)
 | fn (z:Bool) (f:Nat) (l:JV)
 | rc (l:JV)
 | ni
 | co (a r:JV)
 | sm
 | gn
 deriving Inhabited
inductive JO where
 | ar (t:Ty)
 | bx (t:Ty) (c:JV)
 | mp (k v:Ty)
 | rw (t:Ty)
 deriving Inhabited
structure J where
 vs:List (Nat×JV):= []
 gs:JV:= .sm
 os:List JO:= []
 kl:List Nat:= []
 deriving Inhabited
def codV:JV->List Ty
 | .x t | .pt t=> [t]
 | .fn _ _ l | .rc l=>codV l
 | .co a r=>codV a++codV r
 | _=> []
def codVs:List (Nat×JV)->List Ty
 | []=> []
 | (_,a) :: r=>codV a++codVs r
def codO:JO->List Ty
 | .ar t=> [.sl t]
 | .bx _ c=>codV c
 | .mp k v=> [.mp k v]
 | .rw t=> [.sl (.sl t)]
def codOs:List JO->List Ty
 | []=> []
 | a :: r=>codO a++codOs r
def codJ(j:J):List Ty:=codVs j.vs++(codV j.gs++codOs j.os)
structure Bd where
 j:Nat
 id:Option Nat
def bdF:List Bd->Nat->Option Bd
 | [],_=>none
 | b :: r,j=>bif b.j == j then some b else bdF r j
def bind1(m:List Bd)(b:Bd):Option (List Bd):=
 match bdF m b.j with
 | none=>bif (match b.id with | some i=>m.all (λc=>match c.id with | some i'=> !(i' == i) | none=>true) | none=>true)then some (b :: m)else none
 | some c=>(match b.id,c.id with
  | some i,some i'=>bif i == i' then some m else none
  | _,_=>none)
def pathN:Path->Option (List Nat)
 | []=>some []
 | .fd i :: p=>match pathN p with | some l=>some (i :: l) | none=>none
 | .ix _ :: _=>none
def capV:JV->Bool->V->List Bd->Option (List V×List Bd)
 | .x t,false,v,m=>match cst t v with | some y=>some ([.x t y],m) | none=>none
 | .pt t,false, .pt u v,m=>match castE u t v with | some y=>some ([.x t y],m) | none=>none
 | .so j,false, .so id,m=>match bind1 m ⟨j,some id⟩with | some m=>some ([],m) | none=>none
 | .so j,false, .nl 0,m=>match bind1 m ⟨j,none⟩with | some m=>some ([],m) | none=>none
 | .so j,false, .x (.sl _) v,m=>bif Sl.isNil v then (match bind1 m ⟨j,none⟩with | some m=>some ([],m) | none=>none)else none
 | .sr j,false, .sr id,m=>match bind1 m ⟨j,some id⟩with | some m=>some ([],m) | none=>none
 | .om j,false, .om id,m=>match bind1 m ⟨j,some id⟩with | some m=>some ([],m) | none=>none
 | .op j t p,false, .op id u q,m=>bif decide (u=t) && decide (pathN q=some p)then (match bind1 m ⟨j,some id⟩with | some m=>some ([],m) | none=>none)else none
 | .nl k,false, .nl k',m=>bif k == k' then some ([],m)else none
 | .fn z f l,false, .fn z' f' l',m=>bif (z == z') && (f == f')then capV l true l' m else none
 | .rc l,false, .rc l',m=>capV l true l' m
 | .rc l,false, .x (.st t) v,m=>capV l true (toL t v) m
 | .ni,true, .ni,m=>some ([],m)
 | .co a r,true, .co x y,m=>match capV a false x m with | some (l,m)=>(match capV r true y m with | some (l',m)=>some (l++l',m) | none=>none) | none=>none
 | _,_,_,_=>none
def capVs(s:S2):List (Nat×JV)->List Bd->Option (List V×List Bd)
 | [],m=>some ([],m)
 | (t,a) :: r,m=>match opV s.env s.heap (.tmp t)with | some v=>(match capV a false v m with | some (l,m)=>(match capVs s r m with | some (l',m)=>some (l++l',m) | none=>none) | none=>none) | none=>none
def capO(h:H2)(j:Nat)(o:JO)(m:List Bd):Option (List V×List Bd):=
 match bdF m j with
 | some b=>(match o,b.id with
  | .ar t,none=>bif okT t then some ([.x (.sl t) Sl.nil],m)else none
  | .ar t,some id=>(match fO h id with | some (.ar u s _)=>(match castE (.sl u) (.sl t) s with | some s=>some ([.x (.sl t) s],m) | none=>none) | _=>none)
  | .rw t,some id=>(match fO h id with | some (.rw u s none)=>(match castE (.sl (.sl u)) (.sl (.sl t)) s with | some s=>some ([.x (.sl (.sl t)) s],m) | none=>none) | _=>none)
  | .bx t c,some id=>(match fO h id with | some (.bx u v)=>bif decide (u=t)then capV c false v m else none | _=>none)
  | .mp k v,some id=>(match fO h id with | some (.mp k' v' y)=>(match castE (.mp k' v') (.mp k v) y with | some y=>some ([.x (.mp k v) y],m) | none=>none) | _=>none)
  | _,_=>none)
 | none=>none
def capOs(h:H2):List JO->Nat->List Bd->Option (List V×List Bd)
 | [],_,m=>some ([],m)
 | o :: r,j,m=>match capO h j o m with | some (l,m)=>(match capOs h r (j+1) m with | some (l',m)=>some (l++l',m) | none=>none) | none=>none
def sameH:V->V->Bool
 | .so i, .so j=>i == j
 | .sr i, .sr j=>i == j
 | .op i t [], .op j u []=>(i == j) && decide (t=u)
 | .nl k, .nl l=>k == l
 | .gn, .gn=>true
 | _,_=>false
def sameG:V->V->Bool
 | .ni, .ni=>true
 | .co a r, .co x y=>sameH a x && sameG r y
 | _,_=>false
def capG(h:H2):JV->V->V->List Bd->Option (List V×List Bd)
 | .sm,g0,g,m=>bif sameG g0 g then some ([],m)else none
 | .ni, .ni, .ni,m=>some ([],m)
 | .co a r, .co x0 y0, .co x y,m=>
  match a with
  | .sm=>bif sameH x0 x then capG h r y0 y m else none
  | .gn=>capG h r y0 y m
  | a=>bif alv h x then (match capV a false x m with | some (l,m)=>(match capG h r y0 y m with | some (l',m)=>some (l++l',m) | none=>none) | none=>none)else none
 | _,_,_,_=>none
def cutV:List (Nat×JV)->S2->S2
 | [],s=>s
 | (t, .so _) :: r,s=>(match fnd s.env t with
  | some (.sb id ver _ u x)=>(match fO s.heap id with
   | some (.ar _ _ v)=>bif dat u && v == ver then cutV r ⟨(t, .so s.next) :: s.env,(s.next,some (.ar u x 0)) :: (id,none) :: s.heap,s.next+1,s.next :: id :: s.wo,s.gh⟩else cutV r s
   | _=>cutV r s)
  | _=>cutV r s)
 | _ :: r,s=>cutV r s
def capJ2(j:J)(s0:S2)(s:S2):Option (List V):=
 match capVs s j.vs []with
 | some (l1,m)=>match capG s.heap j.gs s0.gh s.gh m with
  | some (l2,m)=>(match capOs s.heap j.os 0 m with
   | some (l3,m)=>bif s.wo.all (λi=>Nat.ble s0.next i || j.kl.contains i) && m.all (λb=>Nat.blt b.j j.os.length && (match b.id with | some i=>Nat.ble s0.next i || j.kl.contains i | none=>true))then some (l1++(l2++l3))else none
   | none=>none)
  | none=>none
 | none=>none
def capJ(j:J)(s0:S2)(s:S2):Option (List V):=
 match cutV j.vs s with
 | ⟨e,h,n,w,g⟩=>capJ2 j s0 ⟨e,h,n,w,g⟩
def rstV(b:Nat):JV->Bool->List V->V->Option (V×List V)
 | .x t,false, .x u v :: l,_=>bif decide (u=t) && dat u then some (.x u v,l)else none
 | .pt t,false, .x u v :: l,_=>bif decide (u=t) && dat u then some (.pt u v,l)else none
 | .so j,false,l,_=>some (.so (b+j),l)
 | .sr j,false,l,_=>some (.sr (b+j),l)
 | .om j,false,l,_=>some (.om (b+j),l)
 | .op j t p,false,l,_=>some (.op (b+j) t (p.map .fd),l)
 | .nl k,false,l,_=>some (.nl k,l)
 | .fn z f c,false,l,_=>match rstV b c true l .ni with | some (w,l)=>some (.fn z f w,l) | none=>none
 | .rc c,false,l,_=>match rstV b c true l .ni with | some (w,l)=>some (.rc w,l) | none=>none
 | .ni,true,l,_=>some (.ni,l)
 | .co a r,true,l, .co x y=>match rstV b a false l x with | some (v,l)=>(match rstV b r true l y with | some (w,l)=>some (.co v w,l) | none=>none) | none=>none
 | .co a r,true,l,_=>match rstV b a false l .gn with | some (v,l)=>(match rstV b r true l .ni with | some (w,l)=>some (.co v w,l) | none=>none) | none=>none
 | .sm,_,l,v=>some (v,l)
 | .gn,false,l,_=>some (.gn,l)
 | _,_,_,_=>none
def rstVs(b:Nat):List (Nat×JV)->List V->Option (List (Nat×V)×List V)
 | [],l=>some ([],l)
 | (t,a) :: r,l=>match rstV b a false l .gn with | some (v,l)=>(match rstVs b r l with | some (e,l)=>some ((t,v) :: e,l) | none=>none) | none=>none
def rstO(b:Nat):JO->List V->Option (O×List V)
 | .ar t, .x (.sl u) v :: l=>bif decide (u=t)then some (.ar u v 0,l)else none
 | .rw t, .x (.sl (.sl u)) v :: l=>bif decide (u=t) && okT t then some (.rw u v none,l)else none
 | .bx t c,l=>match rstV b c false l .gn with | some (w,l)=>bif fitV w false t then some (.bx t w,l)else none | none=>none
 | .mp k v, .x (.mp k' v') m :: l=>bif decide (k'=k) && decide (v'=v)then some (.mp k' v' m,l)else none
 | _,_=>none
def rstOs(b:Nat):List JO->Nat->List V->Option (H2×List V)
 | [],_,l=>some ([],l)
 | o :: r,j,l=>match rstO b o l with | some (o,l)=>(match rstOs b r (j+1) l with | some (h,l)=>some ((b+j,some o) :: h,l) | none=>none) | none=>none
def rstJ(j:J)(ds:List Nat)(s0:S2)(l:List V):Option S2:=
 match rstVs s0.next j.vs l with
 | some (e,l)=>(match rstV s0.next j.gs true l s0.gh with
  | some (g,l)=>(match rstOs s0.next j.os 0 l with
   | some (h,_)=>some ⟨e++ds.map (λt=>(t,V.gn))++s0.env,h++j.kl.map (λi=>(i,none))++s0.heap,s0.next+j.os.length,h.map (·.1)++j.kl++s0.wo,g⟩
   | none=>none)
  | none=>none)
 | none=>none
abbrev Ex:=List (Out×J)
@[reducible] def SumE:Ex->Type
 | []=>Empty
 | (_,j) :: r=>SumC j r
where SumC:J->Ex->Type
 | j, []=>PayL (codJ j)
 | j,(_,j') :: r=>PayL (codJ j) ⊕ SumC j' r
def injC(s0:S2)(o:Out)(s:S2):(o':Out)->(j:J)->(r:Ex)->Option (SumE.SumC j r)
 | o',j, []=>bif decide (o=o')then (match capJ j s0 s with | some l=>tupV (codJ j) l | none=>none)else none
 | o',j,(o2,j2) :: r=>bif decide (o=o')then (match capJ j s0 s with | some l=>(match tupV (codJ j) l with | some p=>some (.inl p) | none=>none) | none=>none)
  else (match injC s0 o s o2 j2 r with | some x=>some (.inr x) | none=>none)
def injE(s0:S2)(o:Out)(s:S2):(e:Ex)->Option (SumE e)
 | []=>none
 | (o',j) :: r=>injC s0 o s o' j r
def outC{β:Type}(ds:List Nat)(s0:S2)(k:Out->S2->Option β):(o:Out)->(j:J)->(r:Ex)->SumE.SumC j r->Option β
 | o,j, [],p=>match rstJ j ds s0 (untV (codJ j) p)with | some s=>k o s | none=>none
 | o,j,(o2,j2) :: r,x=>match x with
  | .inl p=>(match rstJ j ds s0 (untV (codJ j) p)with | some s=>k o s | none=>none)
  | .inr y=>outC ds s0 k o2 j2 r y
def outE2{β:Type}(ds:List Nat)(s0:S2)(k:Out->S2->Option β):(e:Ex)->SumE e->Option β
 | [],x=>nomatch x
 | (o,j) :: r,x=>outC ds s0 k o j r x
inductive C2 where
 | skip
 | reg (ops:List OP) (dr:Option (List (Nat×Nat))) (jn:Option J)
 | seq (a b:C2) (e:Ex)
 | cond (c:Operand) (a b:C2)
 | block (id:Nat) (a:C2)
 | loop (j:J) (e:Ex) (a:C2)
 | exit (id:Nat)
 | ret
 | bad
 deriving Inhabited
def dsts:C2->List Nat
 | .reg ops _ _=>ops.filterMap (·.o.dst)
 | .seq a b _ | .cond _ a b=>dsts a++dsts b
 | .block _ a | .loop _ _ a=>dsts a
 | _=> []
def isLk:K->Bool
 | .lookup _ _ _ _ _=>true
 | _=>false
def soft2(ops:List OP)(tr:Tr2)(i j:Nat):Bool:=
 match ops[i]?,tr[i]? with
 | some o,some ([id], [])=>isLk o.o.k && ((tr.take j).drop (i+1)).all (λx=> !x.2.contains id)
 | _,_=>false
def dyn2(ops:List OP)(tr:Tr2)(dyn:List (Nat×Nat)):Bool:=
 dyn.all λp=>bif Nat.ble 1000 p.2 then (match tr[p.1]?,tr[p.2 - 1000]? with | some a,some b=>apart a b || soft2 ops tr p.1 (p.2 - 1000) | _,_=>true)
  else (match tr[p.1]?,tr[p.2]? with | some a,some b=>apart a b | _,_=>true)
def absO(s:S2)(id:Nat):Option S2:=
 match fO s.heap id with
 | some (.rw t v (some (m,id2)))=>(match fO s.heap id2 with
  | some (.ar u r _)=>(match castE (.sl u) (.sl t) r with
   | some r=>some (updO (updO s id2 none) id (some (.rw t (.mk (v.l.set m r)) none)))
   | none=>none)
  | _=>none)
 | _=>some s
def qii:List Nat->S2->Option S2
 | [],s=>some s
 | id :: r,s=>match absO s id with | some s=>qii r s | none=>none
def absE(s s':S2):Option S2:=qii (s'.wo.take (s'.wo.length - s.wo.length)) s'
def evReg{β:Type}(tb:Tab)(ops:List OP)(dr:Option (List (Nat×Nat)))(s:S2)(k:S2->Option β):Option β:=
 match dr with
 | none=>q59 tb none ops 0 s ⟨[], []⟩ [] λs' _=>(absE s s').bind k
 | some dyn=>q59 tb (some s.next) ops 0 s ⟨[], []⟩ [] λs' tr=>bif dyn2 ops tr dyn then (absE s { s' with next:=s.next+room * ops.length }).bind k else none
noncomputable def evK{β:Type}(tb:Tab):C2->S2->(Out->S2->Option β)->Option β
 | .skip,s,k=>k .normal s
 | .reg ops dr none,s,k=>evReg tb ops dr s λs=>k .normal s
 | .reg ops dr (some j),s,k=>
  (evReg tb ops dr { s with wo:= [] } λs'=>match capJ j s s' with | some l=>tupV (codJ j) l | none=>none).bind λp=>
   match rstJ j (ops.filterMap (·.o.dst)) s (untV (codJ j) p)with | some s=>k .normal s | none=>none
 | .seq a b [],s,k=>evK tb a s λo s=>match o with | .normal=>evK tb b s k | o=>k o s
 | .seq a b (e :: r),s,k=>
  (evK tb a { s with wo:= [] } λo s'=>injE s o s' (e :: r)).bind λx=>outE2 (dsts a) s (λo s=>match o with | .normal=>evK tb b s k | o=>k o s) (e :: r) x
 | .cond c a b,s,k=>(match opV s.env s.heap c with
  | some (.kb t)=>bif t then evK tb a s k else evK tb b s k
  | some (.x .b t)=>bif t then evK tb a s k else evK tb b s k
  | _=>none)
 | .block id a,s,k=>evK tb a s λo s=>match o with | .exit i=>k (bif i == id then .normal else .exit i) s | o=>k o s
 | .loop j e a,s,k=>
  bif e.all (λx=>j.kl.all λi=>x.2.kl.contains i)then (match capJ j s { s with wo:= [] } with
  | some l=>(match tupV (codJ j) l with
   | some p0=>(loopO (λp=>match rstJ j (dsts a) s (untV (codJ j) p)with
     | some s1=>evK tb a { s1 with wo:= [] } λo s'=>(match o with
      | .normal=>(match capJ j s s' with | some l=>(match tupV (codJ j) l with | some q=>some (Sum.inl q) | none=>none) | none=>none)
      | o=>(match injE s o s' e with | some x=>some (Sum.inr x) | none=>none))
     | none=>none) p0).bind λx=>outE2 (dsts a) s k e x
   | none=>none)
  | none=>none)else none
 | .exit id,s,k=>k (.exit id) s
 | .ret,s,k=>k .ret s
 | .bad,_,_=>none
end Go.Ev

namespace Go.Ev
def tyOf(P:Program):Nat->TypeId->Ty
 | 0,_=> .o 9
 | n+1,t=>match P.underlying t with
  | some (.int k)=> .i k
  | some .bool=> .b
  | some .string=> .s
  | some (.float k)=> .f k
  | some (.slice e)=> .sl (tyOf P n e)
  | some (.map k v)=> .mp (tyOf P n k) (tyOf P n v)
  | some (.struct fs)=> .st (chn (fs.toList.map λf=>tyOf P n f.type))
  | some (.array m e)=> .ar m (tyOf P n e)
  | some (.pointer _)=> .o 1
  | some (.func ..)=> .o 2
  | _=> .o 4
where chn:List Ty->Ty
 | []=> .un
 | [t]=>t
 | t :: r=> .pr t (chn r)
def dep:Nat:=12
def elOf(P:Program)(t:TypeId):Ty:=
 match P.underlying t with
 | some (.slice e)=>tyOf P dep e
 | some (.array _ e)=>tyOf P dep e
 | _=> .o 9
def infOp(P:Program):Op->Ty×List Nat
 | .alloc e=>(tyOf P dep e, [])
 | .box t _=>(tyOf P dep t, [])
 | .build t parts=>(tyOf P dep t,parts.toList.map (·.1))
 | .buildSlice t _ parts=>(elOf P t,parts.toList.map (·.1))
 | .fieldAddr _ _ f=>(.o 9, [f])
 | .field _ _ f=>(.o 9, [f])
 | .makeSlice t _ _=>(elOf P t, [])
 | .makeMap t _=>(tyOf P dep t, [])
 | .call c=>(match c.callee,c.argTypes.toList with | .builtin _,t :: _=>elOf P t | _,_=> .o 9, [])
 | _=>(.o 9, [])
def opOf(P:Program)(sig:Sig)(nt:Nat)(all:Array Oper)(o:Oper):OP:=⟨q1n P sig nt all o,(infOp P o.op).1,(infOp P o.op).2⟩
structure An where
 j:Option J:=none
 e:Ex:= []
 deriving Inhabited
def comp2(P:Program)(sig:Sig)(nt:Nat)(an:List (Nat×An)):Code->Nat->C2×Nat
 | .skip,n=>(.skip,n)
 | .region _ ops draw,n=>
  (if draw then (if ordOk (ancs ops.toList []) ops.toList 0 && sched (ancs ops.toList []) (ops.toList.map (q1n P sig nt ops)) 0 && decide (ops.toList.length<=1000)
   then .reg (ops.toList.map (opOf P sig nt ops)) (some (qa0 (ancs ops.toList []) (ops.toList.map (q1n P sig nt ops)) 0)) ((fnd an n).bind (·.j))else .bad)
   else .reg (ops.toList.map (opOf P sig nt ops)) none ((fnd an n).bind (·.j)),n+1)
 | .seq a b,n=>
  let x:=comp2 P sig nt an a (n+1); let y:=comp2 P sig nt an b x.2
  (.seq x.1 y.1 (match fnd an n with | some w=>w.e | none=> []),y.2)
 | .cond c a b,n=>let x:=comp2 P sig nt an a n; let y:=comp2 P sig nt an b x.2; (.cond c x.1 y.1,y.2)
 | .block id a,n=>let x:=comp2 P sig nt an a n; (.block id x.1,x.2)
 | .loop a,n=>
  let x:=comp2 P sig nt an a (n+1)
  (match fnd an n with | some ⟨some j,e⟩=> .loop j e x.1 | _=> .bad,x.2)
 | .scope a,n=>comp2 P sig nt an a n
 | .label _,n=>(.skip,n)
 | .exit id,n=>(.exit id,n)
 | .ret,n=>(.ret,n)
 | _,n=>(.bad,n)
structure F2 where
 np:Nat
 rvs:List RV
 body:C2
def compF(P:Program)(sig:Sig)(f np:Nat)(an:List (Nat×An)):Option F2:=
 match P.funcs[f]? with
 | none=>none
 | some g=>
  match g.body with
  | none=>none
  | some code=>
   if (g.name == "runtime.NumGoroutine") = false ∧ np ≤ g.ntmps ∧ g.ntmps < 1000000000 then
    match rvsOf P g.results.toList with
    | some rvs=>some ⟨np,rvs,(comp2 P sig g.ntmps an code 0).1⟩
    | none=>none
   else none
def unfn:Sh->List V->Option (V×List V)
 | .ni,l=>some (.ni,l)
 | .pr (.pt t) c, .x u v :: l=>bif decide (u=t) && dat t then (match unfn c l with | some (w,l)=>some (.co (.pt u v) w,l) | none=>none)else none
 | _,_=>none
def entA:List (Bool×Sh)->Nat->List V->S2->Option (List (Nat×V)×S2)
 | [],_, [],s=>some ([],s)
 | (false, .x t) :: r,i, .x u v :: l,s=>bif decide (u=t) && dat t then (match entA r (i+1) l s with | some (e,s)=>some ((i, .x u v) :: e,s) | none=>none)else none
 | (false, .pt t) :: r,i, .x u v :: l,s=>bif decide (u=t) && dat t then (match entA r (i+1) l s with | some (e,s)=>some ((i, .pt u v) :: e,s) | none=>none)else none
 | (false, .nl k) :: r,i,l,s=>(match entA r (i+1) l s with | some (e,s)=>some ((i, .nl k) :: e,s) | none=>none)
 | (false, .fn f c) :: r,i,l,s=>(match unfn c l with | some (w,l)=>(match entA r (i+1) l s with | some (e,s)=>some ((i, .fn true f w) :: e,s) | none=>none) | none=>none)
 | (true,c) :: r,i,l,s=>(match mkT c false l s with
  | some (w,l,s)=>(match entA r (i+1) l s with | some (e,s)=>some ((i,w) :: e, { s with gh:= .co w s.gh }) | none=>none)
  | none=>none)
 | _,_,_,_=>none
def entS(ps:List (Bool×Sh))(l:List V):Option S2:=
 match entA ps 0 l ⟨[], [],0, [], .ni⟩with
 | some (e,s)=>some { s with env:=e }
 | none=>none
def resV(s:S2):RV->Option V
 | .tmp t=>opV s.env s.heap (.tmp t)
 | .cell t g n=>match opV s.env s.heap (.tmp t)with | some p=>(match loadV s.heap p with | some (w,_)=>bif chk s.heap g n w then some w else none | none=>none) | none=>none
def resC(h:H2):Sh->V->Option (List V×List Nat)
 | .x t,v=>match frzV h v with | some (w,l)=>(match cst t w with | some y=>some ([.x t y],l) | none=>none) | none=>none
 | .os t, .sb id _ _ u r=>(match fO h id with | some (.ar _ _ _)=>(match castE (.sl u) (.sl t) r with | some s=>some ([.x (.sl t) s], [id]) | none=>none) | _=>none)
 | c,v=>argT h c false v
def resG(h:H2):Sh->V->Option (List V×List Nat)
 | .gn,_=>some ([], [])
 | c,v=>bif alv h v then argT h c false v else none
def resCs(h:H2):List Sh->List V->Option (List V×List Nat)
 | [], []=>some ([], [])
 | c :: r,v :: vs=>match resC h c v,resCs h r vs with | some (l,i),some (m,j)=>some (l++m,i++j) | _,_=>none
 | _,_=>none
def resGs(h:H2):List Sh->List V->Option (List V×List Nat)
 | [], []=>some ([], [])
 | c :: r,v :: vs=>match resG h c v,resGs h r vs with | some (l,i),some (m,j)=>some (l++m,i++j) | _,_=>none
 | _,_=>none
def mapO{α β:Type}(f:α->Option β):List α->Option (List β)
 | []=>some []
 | a :: r=>match f a,mapO f r with | some x,some y=>some (x :: y) | _,_=>none
def finS(rvs:List RV)(rs os:List Sh)(s:S2):Option (List V):=
 match mapO (resV s) rvs with
 | some vs=>
  match resCs s.heap rs vs,resGs s.heap os (unrow s.gh)with
  | some (l,i),some (m,j)=>bif qfn (i++j)then some (l++m)else none
  | _,_=>none
 | none=>none
def finB(rvs:List RV)(s:S2):(r o:List Sh)->(w:Wy)->Option (SumA.SumB r o w)
 | r,o, []=>match finS rvs r o s with | some l=>tupV (cods r++cods o) l | none=>none
 | r,o,(r',o') :: w=>match finS rvs r o s with
  | some l=>(match tupV (cods r++cods o) l with | some z=>some (.inl z) | none=>none)
  | none=>(match finB rvs s r' o' w with | some z=>some (.inr z) | none=>none)
def finA(rvs:List RV)(s:S2):(w:Wy)->Option (SumA w)
 | []=>none
 | (r,o) :: w=>finB rvs s r o w
noncomputable def evF(tb:Tab)(F:Option F2)(ps:List (Bool×Sh))(al:Wy)(p:PayL (cods (ps.map (·.2)))):Option (SumA al):=
 match F with
 | some F=>
  match entS ps (untV _ p)with
  | some s=>evK tb F.body s λo s=>match o with
   | .exit _=>none
   | _=>finA F.rvs s al
  | none=>none
 | none=>none
end Go.Ev

namespace Go.Ev
theorem q33{α β:Type}{f:α->List β}{n:Nat}(h:∀a,(f a).length=n)(l:List α):(l.flatMap f).length=l.length * n:=by
 induction l with
 | nil=>simp
 | cons a l ih=>simp [List.flatMap_cons,h,ih,Nat.add_mul]; omega
theorem q05:∀(t:Ty) (v:El t),(encE t v).length=szT t:=by
 intro t
 induction t with
 | pr a c iha ihc=>intro v; simp [encE,szT,iha,ihc]
 | st t ih=>intro v; simp [encE,szT,ih]
 | ar n t ih=>intro v; rw [encE,q33 ih,v.2]; rfl
 | _=>intro v; rfl
theorem qem{α β:Type} [Inhabited α] {f:α->List β}{n:Nat}(h:∀a,(f a).length=n):∀(l:List α) (k:Nat),k < l.length->((l.flatMap f).drop (k * n)).take n=f (gt l k):=by
 intro l
 induction l with
 | nil=>intro k hk; simp at hk
 | cons a l ih=>
  intro k hk
  cases k with
  | zero=>simp [gt,h]
  | succ k=>
   have e:(k+1) * n=(f a).length+k * n:=by rw [h,Nat.add_mul]; omega
   rw [List.flatMap_cons,e,<- List.drop_drop,List.drop_append_of_le_length (Nat.le_refl _),List.drop_length,List.nil_append,ih k (by simpa using hk)]
   rfl
theorem qqi{α β:Type}{f:α->List β}{n:Nat}(h:∀a,(f a).length=n):∀(l:List α) (k:Nat) (x:α),k < l.length->(l.set k x).flatMap f=splice (l.flatMap f) (k * n) (f x):=by
 intro l
 induction l with
 | nil=>intro k x hk; simp at hk
 | cons a l ih=>
  intro k x hk
  cases k with
  | zero=>
   simp only [List.set_cons_zero,List.flatMap_cons,splice,Nat.zero_mul,List.take_zero,List.nil_append,Nat.zero_add,h]
   have:(f a++l.flatMap f).drop n=l.flatMap f:=by rw [<- h a,List.drop_append_of_le_length (Nat.le_refl _),List.drop_length,List.nil_append]
   rw [this]
  | succ k=>
   have e:(k+1) * n=(f a).length+k * n:=by rw [h,Nat.add_mul]; omega
   simp only [List.set_cons_succ,List.flatMap_cons,splice,e,List.take_length_add_append,Nat.add_assoc]
   rw [<- List.drop_drop,List.drop_append_of_le_length (Nat.le_refl _),List.drop_length,List.nil_append,ih k x (by simpa using hk)]
   simp [splice]
theorem q0h{t u:Ty}{v:El t}{y:El u}(h:castE t u v=some y):∃e:t=u,y=e▸v:=by
 unfold castE at h
 split at h
 ·rename_i e; exact ⟨e,(Option.some.inj h).symm⟩
 ·simp at h
theorem qbq{t u:Ty}{v:El t}{y:El u}(h:castE t u v=some y):encE u y=encE t v/\t=u:=by
 obtain ⟨rfl,rfl⟩:=q0h h; exact ⟨rfl,rfl⟩
theorem q6v:∀(t:Ty) (v:El t) (i:Nat) (w:V),getF t v i=some w->∃u y,w= .x u y/\fdT t i=some u/\foT t i+szT u<=szT t/\((encE t v).drop (foT t i)).take (szT u)=encE u y:=by
 intro t
 induction t with
 | pr a c iha ihc=>
  intro v i w h
  cases i with
  | zero=>
   obtain rfl:=Option.some.inj h
   refine ⟨a,v.1,rfl,rfl,by simp [foT,szT], ?_⟩
   simp [foT,encE,q05]
  | succ i=>
   obtain ⟨u,y,rfl,h1,h2,h3⟩:=ihc v.2 i w h
   refine ⟨u,y,rfl,h1,by simp only [foT,szT]; omega, ?_⟩
   simp only [foT,encE]
   rw [<- List.drop_drop,<- q05 a v.1,List.drop_append_of_le_length (Nat.le_refl _),List.drop_length,List.nil_append,h3]
 | _=>
  intro v i w h
  cases i with
  | zero=>
   obtain rfl:=Option.some.inj h
   exact ⟨_,v,rfl,rfl,by simp [foT],by simp [foT,List.take_of_length_le,q05]⟩
  | succ i=>simp [getF]at h
theorem qvd:∀(t:Ty) (i:Nat) (u:Ty),fdT t i=some u->foT t i+szT u<=szT t:=by
 intro t
 induction t with
 | pr a c iha ihc=>
  intro i u h
  cases i with
  | zero=>obtain rfl:=Option.some.inj h; simp [foT,szT]
  | succ i=>have:=ihc i u h; simp only [foT,szT]; omega
 | _=>
  intro i u h
  cases i with
  | zero=>obtain rfl:=Option.some.inj h; simp [foT]
  | succ i=>simp [fdT]at h
theorem q8j{α:Type}{a b p:List α}{off:Nat}:splice (a++b) (a.length+off) p=a++splice b off p:=by
 simp only [splice,List.take_length_add_append,Nat.add_assoc,List.append_assoc]
 rw [<- List.drop_drop,List.drop_append_of_le_length (Nat.le_refl _),List.drop_length,List.nil_append]
theorem q8r{α:Type}{a b p:List α}{off:Nat}(h:off+p.length<=a.length):splice (a++b) off p=splice a off p++b:=by
 simp only [splice,List.append_assoc]
 rw [List.take_append_of_le_length (by omega),List.drop_append_of_le_length h]
theorem q3t{α:Type}{b p:List α}(h:p.length=b.length):splice b 0 p=p:=by
 simp [splice,h]
theorem q9j{α:Type}{b p:List α}{off:Nat}(h:off+p.length<=b.length):(splice b off p).length=b.length:=by
 simp only [splice,List.length_append,List.length_take,List.length_drop]; omega
theorem q92{α β:Type}{f:α->β}{b p:List α}{off:Nat}:(splice b off p).map f=splice (b.map f) off (p.map f):=by
 simp [splice]
theorem q6a{α:Type}{b c p:List α}{o1 o2 n:Nat}(hc:(b.drop o1).take n=c)(h1:o1+n<=b.length)(h2:o2+p.length<=n):splice b o1 (splice c o2 p)=splice b (o1+o2) p:=by
 have hcl:c.length=n:=by rw [<- hc]; simp; omega
 have e:b=b.take o1++(c++b.drop (o1+n)):=by rw [<- hc,<- List.drop_drop,List.take_append_drop,List.take_append_drop]
 have hl:(b.take o1).length=o1:=by simp; omega
 have hs:(splice c o2 p).length=n:=by rw [q9j (by omega),hcl]
 have r2:splice b (o1+o2) p=b.take o1++(splice c o2 p++b.drop (o1+n)):=by
  conv=>lhs; rw [e]
  have:=q8j (a:=b.take o1) (b:=c++b.drop (o1+n)) (p:=p) (off:=o2)
  rw [hl]at this
  rw [this,q8r (by omega)]
 rw [r2]
 show b.take o1++splice c o2 p++b.drop (o1+(splice c o2 p).length)=_
 rw [hs,List.append_assoc]
theorem qnn:∀(t:Ty) (l r:List Value) (x:El t),decE t l=some (x,r)->l.all plain=true->∃p,l=p++r/\(encE t x)=p.map D.lit:=by
 intro t
 induction t with
 | pr a c iha ihc=>
  intro l r x h hp
  simp only [decE]at h
  split at h
  ·rename_i y l1 h1
   split at h
   ·rename_i z l2 h2
    obtain ⟨rfl,rfl⟩:=Prod.mk.inj (Option.some.inj h)
    obtain ⟨p,rfl,e1⟩:=iha _ _ _ h1 hp
    obtain ⟨q,rfl,e2⟩:=ihc _ _ _ h2 (by rw [List.all_append,Bool.and_eq_true]at hp; exact hp.2)
    exact ⟨p++q,by simp,by simp [encE,e1,e2]⟩
   ·simp at h
  ·simp at h
 | st t ih=>intro l r x h hp; exact ih l r x h hp
 | ar n t ih=>
  intro l r x h hp
  simp only [decE]at h
  have key:∀(m:Nat) (l r:List Value) (x:Arr m (El t)),decA (decE t) m l=some (x,r)->l.all plain=true->∃p,l=p++r/\x.1.flatMap (encE t)=p.map D.lit:=by
   intro m
   induction m with
   | zero=>
    intro l r x h hp
    obtain ⟨rfl,rfl⟩:=Prod.mk.inj (Option.some.inj h)
    exact ⟨[],rfl,rfl⟩
   | succ m ihn=>
    intro l r x h hp
    simp only [decA]at h
    split at h
    ·rename_i y l1 h1
     split at h
     ·rename_i v l2 h2
      obtain ⟨rfl,rfl⟩:=Prod.mk.inj (Option.some.inj h)
      obtain ⟨p,rfl,e1⟩:=ih _ _ _ h1 hp
      obtain ⟨q,rfl,e2⟩:=ihn _ _ _ h2 (by rw [List.all_append,Bool.and_eq_true]at hp; exact hp.2)
      exact ⟨p++q,by simp,by simp [List.flatMap_cons,e1,e2]⟩
     ·simp at h
    ·simp at h
  exact key n l r x h hp
 | i k=>
  intro l r x h hp
  simp only [decE]at h
  unfold decI at h
  split at h
  ·split at h
   ·rename_i e; subst e; obtain ⟨rfl,rfl⟩:=Prod.mk.inj (Option.some.inj h); exact ⟨[_],rfl,rfl⟩
   ·simp at h
  ·simp at h
 | b=>
  intro l r x h hp
  simp only [decE]at h
  unfold decB at h
  split at h
  ·obtain ⟨rfl,rfl⟩:=Prod.mk.inj (Option.some.inj h); exact ⟨[_],rfl,rfl⟩
  ·simp at h
 | s=>
  intro l r x h hp
  simp only [decE]at h
  unfold decS at h
  split at h
  ·obtain ⟨rfl,rfl⟩:=Prod.mk.inj (Option.some.inj h); exact ⟨[_],rfl,rfl⟩
  ·simp at h
 | f k=>
  intro l r x h hp
  simp only [decE]at h
  unfold decFl at h
  split at h
  ·split at h
   ·rename_i e; subst e; obtain ⟨rfl,rfl⟩:=Prod.mk.inj (Option.some.inj h); exact ⟨[_],rfl,rfl⟩
   ·simp at h
  ·simp at h
 | sl t ih=>
  intro l r x h hp
  simp only [decE]at h
  unfold decN at h
  split at h
  ·obtain ⟨rfl,rfl⟩:=Prod.mk.inj (Option.some.inj h); exact ⟨[_],rfl,rfl⟩
  ·simp at h
 | _=>intro l r x h hp; simp [decE]at h
end Go.Ev

namespace Go.Ev
def alvB(h:H2)(id ver:Nat):Bool:=
 match fO h id with
 | some (.ar _ _ v) | some (.im _ _ v)=>v == ver
 | _=>false
def idO(id:Nat)(c:C):Prop:=∀i∈idsC c,i=id
def celR(h:H2):V->List C->Prop
 | .x t v,cs=>dat t=true/\cs=(encE t v).map .d
 | .kb c,cs=>cs= [.d (.lit (.bool c))]
 | .nl k,cs=>cs= [nlC k]
 | .so id,cs=>∃c,cs= [c]/\(∀ c',soC id (fO h id)=some c'->c=c')/\idO id c
 | .sr id,cs=>∃c,cs= [c]/\(∀ c',srC id (fO h id)=some c'->c=c')/\idO id c
 | .sb id ver lo t r,cs=>∃c,cs= [c]/\(alvB h id ver=true->c=sbC id lo t r)/\idO id c
 | .op id t p,cs=>cs= [.op id (ofP t p)]
 | .ep id n t p,cs=>cs= [.ep id n (ofP t p)]
 | .pt t v,cs=>dat t=true/\cs= [.d (.pt (encE t v))]
 | .fn true f l,cs=>∃ds,celD l=some ds/\cs= [.d (.fn f ds)]
 | .fn false f l,cs=>∃xs,celR h l xs/\cs= [.ofn f xs]
 | .om id,cs=>cs= [.om id]
 | .rc l,cs=>celR h l cs
 | .fl l,cs=>l.all plain=true/\cs=lits l
 | .ni,cs=>cs= []
 | .co a r,cs=>∃x y,cs=x++y/\celR h a x/\celR h r y
 | .tp _,_ | .no,_ | .gn,_=>False
def tv1R(h:H2)(v:V)(x:TV):Prop:=∃cs,celR h v cs/\(agV v=true->x= .agg cs)/\(agV v=false->∃c,cs= [c]/\x= .c c)
def tvLR(h:H2):V->List TV->Prop
 | .ni,xs=>xs= []
 | .co a r,xs=>∃x ys,xs=x :: ys/\tv1R h a x/\tvLR h r ys
 | _,_=>False
def tvR(h:H2):V->TV->Prop
 | .tp l,x=>∃xs,x= .tup xs/\tvLR h l xs
 | .no,x=>x= .tup []
 | .gn,_=>False
 | v,x=>tv1R h v x
def cutR(t u:Ty)(s:Sl (El t))(lo:Nat)(r:Sl (El u)):Prop:=
 szT t=szT u/\match s,r with
 | .nil, .nil=>True
 | .mk l, .mk m=>lo+m.length<=l.length/\((l.map (encE t)).drop lo).take m.length=m.map (encE u)
 | _,_=>False
def okV(n:Nat)(h:H2):V->Prop
 | .so id | .sr id | .om id=>id < n
 | .sb id ver lo t r=>id < n/\∀u s v,(fO h id=some (.ar u s v)\/fO h id=some (.im u s v))->ver<=v/\(v=ver->cutR u t s lo r)
 | .op id t p=>id < n/\okP t p
 | .ep id m t p=>id < n/\okP t p/\(∀ u s v,(fO h id=some (.ar u s v)\/fO h id=some (.im u s v))->m < s.l.length)/\∀u s v,fO h id=some (.rw u s v)->m < s.l.length
 | .fn _ _ l | .rc l | .tp l=>okV n h l
 | .co a r=>okV n h a/\okV n h r
 | _=>True
def obR(h:H2):O->Option Ob->Prop
 | .ar t s _,b=>dat t=true/\0 < szT t/\(∀ l,s= .mk l->b=some (.arr (szT t) (l.map (encE t))))
 | .im t s _,b=>dat t=true/\0 < szT t/\(∀ l,s= .mk l->b=some (.imm (szT t) (l.map (encE t))))
 | .bx t c,b=>∃cs,b=some (.box cs)/\celR h c cs/\fitV c false t=true
 | .ib t v,b=>dat t=true/\b=some (.ibox (encE t v))
 | .mp k v m,b=>dat v=true/\(∃ ks,kdT k=some ks)/\b=mpO (agT k) (agT v) (λx=>(encE k x).map λ| .lit y=>y | _=> .nilFunc) (encE v) m
 | .rw t s ln,b=>dat t=true/\0 < szT t/\(∀ l,(s:Sl (Sl (El t)))= .mk l->b=some (.nst (szT t) (q0z t l ln)))
def okO(n:Nat)(h:H2):O->Prop
 | .bx _ c=>okV n h c
 | .rw _ s (some (m,id))=>m < s.l.length/\id < n/\∀u r v,(fO h id=some (.ar u r v)\/fO h id=some (.im u r v))->r.isNil=(gt s.l m).isNil/\r.l.length=(gt s.l m).l.length
 | _=>True
structure HR (n:Nat) (h1:Heap) (h2:H2):Prop where
 ob:∀id o,fO h2 id=some o->id < n/\obR h2 o (look h1 id)/\okO n h2 o
abbrev SgS(t:Ty)(s:Sl (El t)):(t:Ty)×Sl (El t):=⟨t,s⟩
abbrev SgE(t:Ty)(s:El t):(t:Ty)×El t:=⟨t,s⟩
def SSt(t u:Ty)(s:Sl (El t))(s':Sl (El u))(v v':Nat):Prop:=v<=v'/\t=u/\s.isNil=s'.isNil/\s.l.length=s'.l.length/\(v=v'->SgS t s=SgS u s')
def OSt:O->O->Prop
 | .ar t s v, .ar u s' v' | .ar t s v, .im u s' v'=>SSt t u s s' v v'
 | .im t s v, .im u s' v'=>v=v'/\SgS t s=SgS u s'
 | .bx t _, .bx u _=>t=u
 | .bx _ _, .ib _ _=>True
 | .ib t v, .ib u w=>SgE t v=SgE u w
 | .mp _ _ _, .mp _ _ _=>True
 | .rw t s _, .rw u s' _=>t=u/\s.isNil=s'.isNil/\s.l.length=s'.l.length
 | _,_=>False
def isB:O->Bool
 | .bx _ _ | .ib _ _=>true
 | _=>false
structure HSt (n:Nat) (h h':H2):Prop where
 ob:∀id o',id < n->fO h' id=some o'->(∃ o,fO h id=some o/\OSt o o')\/isB o'=true
theorem SSt.trans{t u w:Ty}{s:Sl (El t)}{s':Sl (El u)}{s2:Sl (El w)}{a b c:Nat}(h1:SSt t u s s' a b)(h2:SSt u w s' s2 b c):SSt t w s s2 a c:=by
 obtain ⟨a1,rfl,a3,a4,a5⟩:=h1
 obtain ⟨b1,rfl,b3,b4,b5⟩:=h2
 refine ⟨Nat.le_trans a1 b1,rfl,a3.trans b3,a4.trans b4,λe=> ?_⟩
 have e1:a=b:=Nat.le_antisymm a1 (e▸b1)
 exact (a5 e1).trans (b5 (e1▸e))
theorem SSt.of_eq{t u:Ty}{s:Sl (El t)}{s':Sl (El u)}{a b:Nat}(h:a=b)(e:SgS t s=SgS u s'):SSt t u s s' a b:=by
 subst h
 obtain ⟨rfl,e⟩:=Sigma.mk.inj e
 cases e
 exact ⟨Nat.le_refl _,rfl,rfl,rfl,λ_=>rfl⟩
theorem OSt.refl(o:O):OSt o o:=by cases o <;> simp [OSt,SSt]
theorem OSt.trans{a b c:O}(h1:OSt a b)(h2:OSt b c):OSt a c:=by
 cases a <;> cases b <;> simp only [OSt]at h1 <;> first | exact h1.elim | skip
 all_goals (cases c <;> simp only [OSt]at h2 ⊢ <;> first | exact h2.elim | skip)
 ·exact h1.trans h2
 ·exact h1.trans h2
 ·exact h1.trans (SSt.of_eq h2.1 h2.2)
 ·exact ⟨h1.1.trans h2.1,h1.2.trans h2.2⟩
 ·exact h1.trans h2
 ·exact h1.trans h2
 ·exact ⟨h1.1.trans h2.1,h1.2.1.trans h2.2.1,h1.2.2.trans h2.2.2⟩
theorem HSt.refl(n:Nat)(h:H2):HSt n h h:=⟨λ_ o _ h=> .inl ⟨o,h,OSt.refl o⟩⟩
theorem HSt.trans{n n':Nat}{a b c:H2}(hn:n<=n')(h1:HSt n a b)(h2:HSt n' b c):HSt n a c:=
 ⟨λid o' hi ho=>by
  rcases h2.ob id o' (by omega) ho with ⟨o1,h3,h4⟩ | q
  ·rcases h1.ob id o1 hi h3 with ⟨o2,h5,h6⟩ | q
   ·exact .inl ⟨o2,h5,h6.trans h4⟩
   ·exact .inr (by cases o1 <;> simp [isB]at q <;> cases o' <;> simp [OSt]at h4 <;> rfl)
  ·exact .inr q⟩
theorem qi7{sz id:Nat}{α:Type}{e:α->List D}{s:Sl α}:idO id (slC sz e id s):=by
 intro i hi
 cases s with
 | nil=>simp [slC,idsC]at hi
 | mk l=>simpa [slC,idsC]using hi
theorem qs8{id lo:Nat}{t:Ty}{s:Sl (El t)}:idO id (sbC id lo t s):=by
 intro i hi
 cases s with
 | nil=>simp [sbC,idsC]at hi
 | mk l=>simpa [sbC,idsC]using hi
section
variable {n n':Nat}{h h':H2}
theorem qmo{t:Ty}{s s':Sl (El t)}{id:Nat}(h1:s.isNil=s'.isNil)(h2:s.l.length=s'.l.length):slC (szT t) (encE t) id s=slC (szT t) (encE t) id s':=by
 cases s <;> cases s' <;> simp_all [Sl.isNil,slC]
theorem qri(hs:HSt n h h'){id:Nat}(hi:id < n){c:C}(hc:soC id (fO h' id)=some c):soC id (fO h id)=some c:=by
 cases ho:fO h' id with
 | none=>rw [ho]at hc; simp [soC]at hc
 | some o'=>
  rw [ho]at hc
  obtain ⟨o,h1,h2⟩:=(hs.ob id o' hi ho).resolve_right λe=>by cases o' <;> simp [isB]at e <;> simp [soC]at hc
  rw [h1]
  cases o' <;> simp only [soC]at hc <;> first | cases hc; done | skip
  all_goals (cases o <;> simp only [OSt]at h2 <;> first | exact h2.elim | skip)
  ·obtain ⟨_,rfl,h3,h4,_⟩:=h2
   rw [<- hc]; simp only [soC]; rw [qmo h3 h4]
  ·obtain ⟨_,rfl,h3,h4,_⟩:=h2
   rw [<- hc]; simp only [soC]; rw [qmo h3 h4]
  ·obtain ⟨_,h3⟩:=h2
   obtain ⟨rfl,h3⟩:=Sigma.mk.inj h3
   cases h3
   rw [<- hc]; rfl
  all_goals simp at hc
theorem qpu(hs:HSt n h h'){id:Nat}(hi:id < n){c:C}(hc:srC id (fO h' id)=some c):srC id (fO h id)=some c:=by
 cases ho:fO h' id with
 | none=>rw [ho]at hc; simp [srC]at hc
 | some o'=>
  rw [ho]at hc
  obtain ⟨o,h1,h2⟩:=(hs.ob id o' hi ho).resolve_right λe=>by cases o' <;> simp [isB]at e <;> simp [srC]at hc
  rw [h1]
  cases o' <;> simp only [srC]at hc <;> first | cases hc; done | skip
  all_goals (cases o <;> simp only [OSt]at h2 <;> first | exact h2.elim | skip)
  ·obtain ⟨rfl,h3,h4⟩:=h2
   rw [<- hc]; simp only [srC]
   exact congrArg some (qmo (t:= .sl _) h3 h4)
  all_goals simp at hc
theorem qll(hs:HSt n h h'){id:Nat}(hi:id < n){u:Ty}{s:Sl (Sl (El u))}{ln:Option (Nat×Nat)}(ho:fO h' id=some (.rw u s ln)):∃s0 ln0,fO h id=some (.rw u s0 ln0)/\s0.isNil=s.isNil/\s0.l.length=s.l.length:=by
 obtain ⟨o,h1,h2⟩:=(hs.ob id _ hi ho).resolve_right λe=>by simp [isB]at e
 cases o <;> simp only [OSt]at h2 <;> first | exact h2.elim | skip
 obtain ⟨rfl,h3,h4⟩:=h2
 exact ⟨_,_,h1,h3,h4⟩
theorem qpr(hs:HSt n h h'){id:Nat}(hi:id < n){u:Ty}{s:Sl (El u)}{v:Nat}(ho:fO h' id=some (.ar u s v)\/fO h' id=some (.im u s v)):
  ∃s0 v0,(fO h id=some (.ar u s0 v0)\/fO h id=some (.im u s0 v0))/\s0.isNil=s.isNil/\s0.l.length=s.l.length:=by
 rcases ho with ho | ho
 all_goals
  obtain ⟨o,h1,h2⟩:=(hs.ob id _ hi ho).resolve_right λe=>by simp [isB]at e
  cases o <;> simp only [OSt]at h2 <;> first | exact h2.elim | skip
 ·obtain ⟨_,rfl,h3,h4,_⟩:=h2
  exact ⟨_,_, .inl h1,h3,h4⟩
 ·obtain ⟨_,rfl,h3,h4,_⟩:=h2
  exact ⟨_,_, .inl h1,h3,h4⟩
 ·obtain ⟨rfl,h3⟩:=h2
  obtain ⟨rfl,h3⟩:=Sigma.mk.inj h3
  cases h3
  exact ⟨_,_, .inr h1,rfl,rfl⟩
theorem q94(hs:HSt n h h'){id:Nat}(hi:id < n){u:Ty}{s:Sl (El u)}{v:Nat}(ho:fO h' id=some (.ar u s v)\/fO h' id=some (.im u s v)):
  ∃s0 v0,(fO h id=some (.ar u s0 v0)\/fO h id=some (.im u s0 v0))/\v0<=v/\s0.l.length=s.l.length/\(v0=v->s0=s):=by
 rcases ho with ho | ho
 all_goals
  obtain ⟨o,h1,h2⟩:=(hs.ob id _ hi ho).resolve_right λe=>by simp [isB]at e
  cases o <;> simp only [OSt]at h2 <;> first | exact h2.elim | skip
 ·obtain ⟨h3,rfl,_,h4,h5⟩:=h2
  exact ⟨_,_, .inl h1,h3,h4,λe=>by have:=h5 e; simpa using this⟩
 ·obtain ⟨h3,rfl,_,h4,h5⟩:=h2
  exact ⟨_,_, .inl h1,h3,h4,λe=>by have:=h5 e; simpa using this⟩
 ·obtain ⟨rfl,h3⟩:=h2
  obtain ⟨rfl,h3⟩:=Sigma.mk.inj h3
  cases h3
  exact ⟨_,_, .inr h1,Nat.le_refl _,rfl,λ_=>rfl⟩
theorem q3d{id ver:Nat}(ha:alvB h id ver=true):∃u s,fO h id=some (.ar u s ver)\/fO h id=some (.im u s ver):=by
 unfold alvB at ha
 split at ha
 ·rename_i u s v ho
  obtain rfl:v=ver:=by simpa using ha
  exact ⟨u,s, .inl ho⟩
 ·rename_i u s v ho
  obtain rfl:v=ver:=by simpa using ha
  exact ⟨u,s, .inr ho⟩
 ·simp at ha
theorem q1j(hn:n<=n')(hs:HSt n h h'):∀ {v:V},okV n h v->okV n' h' v:=by
 intro v
 induction v with
 | so id=>intro hv; simp only [okV]at hv ⊢; omega
 | sr id=>intro hv; simp only [okV]at hv ⊢; omega
 | om id=>intro hv; simp only [okV]at hv ⊢; omega
 | sb id ver lo t r=>
  rintro ⟨h1,h2⟩
  refine ⟨by omega,λu s v ho=> ?_⟩
  obtain ⟨s0,v0,h3,h4,h5,h6⟩:=q94 hs h1 ho
  obtain ⟨h7,h8⟩:=h2 u s0 v0 h3
  refine ⟨by omega,λe=> ?_⟩
  have e2:v0=ver:=by omega
  have:=h6 (by omega)
  subst this
  exact h8 e2
 | op id t p=>rintro ⟨h1,h2⟩; exact ⟨by omega,h2⟩
 | ep id m t p=>
  rintro ⟨h1,h2,h3,h6⟩
  refine ⟨by omega,h2,λu s v ho=> ?_,λu s v ho=> ?_⟩
  ·obtain ⟨s0,v0,h4,_,h5,_⟩:=q94 hs h1 ho
   have:=h3 u s0 v0 h4
   omega
  ·obtain ⟨s0,v0,h4,_,h5⟩:=qll hs h1 ho
   have:=h6 u s0 v0 h4
   omega
 | fn z f l ih=>intro hv; exact ih hv
 | rc l ih=>intro hv; exact ih hv
 | tp l ih=>intro hv; exact ih hv
 | co a r iha ihr=>rintro ⟨h1,h2⟩; exact ⟨iha h1,ihr h2⟩
 | _=>intro _; trivial
theorem q3h(hs:HSt n h h'):∀ {v:V} {cs:List C},okV n h v->celR h v cs->celR h' v cs:=by
 intro v
 induction v with
 | so id=>
  rintro cs hi ⟨c,rfl,hc,hid⟩
  exact ⟨c,rfl,λc' hc'=>hc c' (qri hs hi hc'),hid⟩
 | sr id=>
  rintro cs hi ⟨c,rfl,hc,hid⟩
  exact ⟨c,rfl,λc' hc'=>hc c' (qpu hs hi hc'),hid⟩
 | sb id ver lo t r=>
  rintro cs ⟨hi,h2⟩ ⟨c,rfl,hc,hid⟩
  refine ⟨c,rfl,λha=>hc ?_,hid⟩
  obtain ⟨u,s,ho⟩:=q3d ha
  obtain ⟨s0,v0,h3,h4,_,_⟩:=q94 hs hi ho
  obtain ⟨h7,_⟩:=h2 u s0 v0 h3
  have:v0=ver:=by omega
  subst this
  unfold alvB
  rcases h3 with h3 | h3 <;> rw [h3] <;> simp
 | fn z f l ih=>
  intro cs hv hc
  cases z with
  | true=>exact hc
  | false=>obtain ⟨xs,h1,h2⟩:=hc; exact ⟨xs,ih hv h1,h2⟩
 | rc l ih=>intro cs hv hc; exact ih hv hc
 | co a r iha ihr=>
  rintro cs ⟨h1,h2⟩ ⟨x,y,rfl,h3,h4⟩
  exact ⟨x,y,rfl,iha h1 h3,ihr h2 h4⟩
 | _=>intro cs _ hc; exact hc
theorem qbr(hs:HSt n h h'){v:V}{x:TV}(hv:okV n h v)(hx:tv1R h v x):tv1R h' v x:=by
 obtain ⟨cs,h1,h2⟩:=hx; exact ⟨cs,q3h hs hv h1,h2⟩
theorem qm0(hs:HSt n h h'):∀ {v:V} {xs:List TV},okV n h v->tvLR h v xs->tvLR h' v xs:=by
 intro v
 induction v with
 | co a r iha ihr=>
  rintro xs ⟨h1,h2⟩ ⟨x,ys,rfl,h3,h4⟩
  exact ⟨x,ys,rfl,qbr hs h1 h3,ihr h2 h4⟩
 | ni=>intro xs _ h; exact h
 | _=>intro xs _ h; exact h.elim
theorem qai(hs:HSt n h h'){v:V}{x:TV}(hv:okV n h v)(hx:tvR h v x):tvR h' v x:=by
 cases v with
 | tp l=>obtain ⟨xs,h1,h2⟩:=hx; exact ⟨xs,h1,qm0 hs hv h2⟩
 | no=>exact hx
 | gn=>exact hx
 | _=>exact qbr hs hv hx
theorem q5v(hs:HSt n h h'){o:O}{b:Option Ob}(ho:okO n h o)(hb:obR h o b):obR h' o b:=by
 cases o with
 | bx t c=>obtain ⟨cs,h1,h2,h3⟩:=hb; exact ⟨cs,h1,q3h hs ho h2,h3⟩
 | _=>exact hb
theorem q5c(hn:n<=n')(hs:HSt n h h'){o:O}(ho:okO n h o):okO n' h' o:=by
 cases o with
 | bx t c=>exact q1j hn hs ho
 | rw t s ln=>
  cases ln with
  | none=>trivial
  | some q=>
   obtain ⟨m,id⟩:=q
   obtain ⟨h1,h2,h3⟩:=ho
   refine ⟨h1,Nat.lt_of_lt_of_le h2 hn,λu r v hu=> ?_⟩
   obtain ⟨s0,v0,h4,h5,h6⟩:=qpr hs h2 hu
   obtain ⟨h7,h8⟩:=h3 u s0 v0 h4
   exact ⟨h5▸h7,h6▸h8⟩
 | _=>trivial
end
theorem q1s{h:H2}:∀ {v:V} {cs:List C},celR h v cs->cs.length=szV v:=by
 intro v
 induction v with
 | x t v=>rintro cs ⟨_,rfl⟩; simp [szV,q05]
 | so id=>rintro cs ⟨c,rfl,_⟩; rfl
 | sr id=>rintro cs ⟨c,rfl,_⟩; rfl
 | sb id ver lo t r=>rintro cs ⟨c,rfl,_⟩; rfl
 | pt t v=>rintro cs ⟨_,rfl⟩; rfl
 | fn z f l ih=>
  intro cs hc
  cases z with
  | true=>obtain ⟨ds,_,rfl⟩:=hc; rfl
  | false=>obtain ⟨ds,_,rfl⟩:=hc; rfl
 | rc l ih=>intro cs hc; exact ih hc
 | fl l=>rintro cs ⟨_,rfl⟩; simp [lits,szV]
 | ni=>rintro cs rfl; rfl
 | co a r iha ihr=>rintro cs ⟨x,y,rfl,h1,h2⟩; simp [szV,iha h1,ihr h2]
 | tp l=>intro cs hc; exact hc.elim
 | no=>intro cs hc; exact hc.elim
 | gn=>intro cs hc; exact hc.elim
 | _=>rintro cs rfl; rfl
theorem q1i:∀(v:V) (ln:Bool) (t:Ty),fitV v ln t=true->szV v=szT t:=by
 intro v
 induction v with
 | rc l ih=>
  intro ln t hf
  cases ln with
  | true=>cases t <;> simp [fitV]at hf
  | false=>
   cases t with
   | st t=>exact ih true t hf
   | _=>simp [fitV]at hf
 | co a r iha ihr=>
  intro ln t hf
  cases ln with
  | false=>simp [fitV]at hf
  | true=>
   cases t with
   | pr t u=>
    simp only [fitV,Bool.and_eq_true]at hf
    simp [szV,szT,iha _ _ hf.1,ihr _ _ hf.2]
   | _=>
    cases r with
    | ni=>have hf':fitV a false _=true:=hf; simp [szV,iha _ _ hf']
    | _=>simp [fitV]at hf
 | x u v=>
  intro ln t hf
  cases ln with
  | false=>simp only [fitV,decide_eq_true_eq]at hf; subst hf; rfl
  | true=>cases t <;> simp [fitV]at hf
 | nl k=>intro ln t hf; cases ln <;> cases t <;> first | rfl | (simp [fitV]at hf; done) | skip
 | _=>intro ln t hf; cases ln <;> cases t <;> first | rfl | (simp [fitV]at hf; done)
end Go.Ev

namespace Go.Ev
section
variable {h:H2}
theorem q5o{v:V}{u:Ty}{y:El u}{cs:List C}(hc:castV u v=some y)(hv:celR h v cs):cs=(encE u y).map .d:=by
 cases v with
 | x t v=>
  obtain ⟨rfl,rfl⟩:=q0h hc
  exact hv.2
 | kb c=>
  obtain ⟨rfl,rfl⟩:=q0h (t:= .b) hc
  exact hv
 | nl k=>
  cases k with
  | zero=>
   cases u <;> simp only [castV]at hc <;> first | cases hc; done | skip
   obtain rfl:=Option.some.inj hc
   exact hv
  | succ k=>simp [castV]at hc
 | fl l=>
  obtain ⟨h1,rfl⟩:=hv
  simp only [castV]at hc
  cases ha:agT u
  ·rw [ha]at hc; simp at hc
  rw [ha,cond_true]at hc
  split at hc
  ·rename_i x hx
   obtain rfl:=Option.some.inj hc
   obtain ⟨p,rfl,e⟩:=qnn u _ _ _ hx h1
   rw [e]; simp [lits]
  ·simp at hc
 | _=>simp [castV]at hc
theorem q1v:∀(v:V) (ln:Bool) (u:Ty) (y:El u) (cs:List C),castG v ln u=some y->celR h v cs->cs=(encE u y).map .d:=by
 intro v
 induction v with
 | rc l ih=>
  intro ln u y cs hc hv
  cases ln with
  | true=>cases u <;> simp [castG]at hc
  | false=>
   cases u with
   | st u=>exact ih true u y cs hc hv
   | _=>simp [castG,castV]at hc
 | co a r iha ihr=>
  intro ln u y cs hc hv
  obtain ⟨x1,x2,rfl,h1,h2⟩:=hv
  cases ln with
  | false=>cases u <;> simp [castG,castV]at hc
  | true=>
   cases u with
   | pr t u=>
    simp only [castG]at hc
    split at hc
    ·rename_i p q hp hq
     obtain rfl:=Option.some.inj hc
     rw [iha _ _ _ _ hp h1,ihr _ _ _ _ hq h2]; simp [encE]
    ·simp at hc
   | _=>
    cases r with
    | ni=>
     have hc':castG a false _=some y:=hc
     obtain rfl:x2= []:=h2
     rw [List.append_nil]; exact iha _ _ _ _ hc' h1
    | _=>simp [castG]at hc
 | _=>
  intro ln u y cs hc hv
  cases ln with
  | true=>cases u <;> simp [castG]at hc
  | false=>first | exact q5o hc hv | (simp [castG]at hc)
theorem qid{v:V}{u:Ty}{y:El u}(hc:castV u v=some y):agV v=agT u:=by
 cases v with
 | x t v=>obtain ⟨rfl,_⟩:=q0h hc; rfl
 | kb c=>obtain ⟨rfl,_⟩:=q0h (t:= .b) hc; rfl
 | nl k=>
  cases k with
  | zero=>cases u <;> simp only [castV]at hc <;> first | rfl | cases hc
  | succ k=>simp [castV]at hc
 | fl l=>
  simp only [castV]at hc
  cases ha:agT u
  ·rw [ha]at hc; simp at hc
  ·rfl
 | _=>simp [castV]at hc
theorem qc7{v:V}{u:Ty}{y:El u}(hc:cst u v=some y):agV v=agT u:=by
 cases v with
 | rc l=>
  cases u with
  | st u=>rfl
  | _=>simp [cst,castG,castV]at hc
 | co a r=>cases u <;> simp [cst,castG,castV]at hc
 | ni=>cases u <;> simp [cst,castG]at hc
 | _=>exact qid hc
theorem qfl:∀(l:V) (t:Ty) (i:Nat) (w:V) (cs:List C),fitV l true t=true->celR h l cs->nthV l i=some w->
  ∃u cw,fdT t i=some u/\fitV w false u=true/\celR h w cw/\foT t i+szT u<=cs.length/\(cs.drop (foT t i)).take (szT u)=cw:=by
 intro l
 induction l with
 | co a r iha ihr=>
  intro t i w cs hf hv hw
  obtain ⟨x,y,rfl,h1,h2⟩:=hv
  have one:∀t,fitV a false t=true->r= .ni->fdT t 0=some t->foT t 0=0->i=0->∃u cw,fdT t i=some u/\fitV w false u=true/\celR h w cw/\foT t i+szT u<=(x++y).length/\((x++y).drop (foT t i)).take (szT u)=cw:=by
   intro t hf hr h3 h4 hi
   subst hi
   obtain rfl:=Option.some.inj hw
   have hs:=q1i _ _ _ hf
   have hl:=q1s h1
   refine ⟨t,x,h3,hf,h1,by rw [h4]; simp; omega, ?_⟩
   rw [h4,List.drop_zero,<- hs,<- hl,List.take_left]
  cases t with
  | pr t u=>
   simp only [fitV,Bool.and_eq_true]at hf
   have hs:=q1i _ _ _ hf.1
   have hl:=q1s h1
   cases i with
   | zero=>
    obtain rfl:=Option.some.inj hw
    refine ⟨t,x,rfl,hf.1,h1,by simp [foT]; omega, ?_⟩
    simp only [foT,List.drop_zero]
    rw [<- hs,<- hl,List.take_left]
   | succ i=>
    obtain ⟨u',cw,q1,q2,q3,q4,q5⟩:=ihr u i w y hf.2 h2 hw
    refine ⟨u',cw,q1,q2,q3,by simp only [foT,List.length_append]; omega, ?_⟩
    simp only [foT]
    rw [<- List.drop_drop,<- hs,<- hl,List.drop_left,q5]
  | _=>
   cases r with
   | ni=>
    have hf':fitV a false _=true:=hf
    cases i with
    | zero=>exact one _ hf' rfl rfl rfl rfl
    | succ i=>simp [nthV]at hw
   | _=>simp [fitV]at hf
 | _=>intro t i w cs hf hv hw; simp [nthV]at hw
theorem qet:∀(l:V) (t:Ty) (i:Nat) (w:V) (cs cw:List C) (u:Ty),fitV l true t=true->celR h l cs->fdT t i=some u->celR h w cw->cw.length=szT u->(∃ w0,nthV l i=some w0)->celR h (putV l i w) (splice cs (foT t i) cw):=by
 intro l
 induction l with
 | co a r iha ihr=>
  intro t i w cs cw u hf hv hu hw hlen hn
  obtain ⟨x,y,rfl,h1,h2⟩:=hv
  cases t with
  | pr t u'=>
   simp only [fitV,Bool.and_eq_true]at hf
   have hs:=q1i _ _ _ hf.1
   have hl:=q1s h1
   cases i with
   | zero=>
    obtain rfl:=Option.some.inj hu
    refine ⟨cw,y, ?_,hw,h2⟩
    simp only [foT]
    rw [q8r (by omega),q3t (by omega)]
   | succ i=>
    have:=ihr u' i w y cw u hf.2 h2 hu hw hlen hn
    refine ⟨x,_, ?_,h1,this⟩
    simp only [foT]
    rw [<- hs,<- hl,q8j]
  | _=>
   cases r with
   | ni=>
    cases i with
    | zero=>
     obtain rfl:=Option.some.inj hu
     have hf':fitV a false _=true:=hf
     have hs:=q1i _ _ _ hf'
     have hl:=q1s h1
     obtain rfl:y= []:=h2
     refine ⟨cw, [], ?_,hw,rfl⟩
     simp only [foT,List.append_nil]
     rw [q3t (by omega)]
    | succ i=>obtain ⟨w0,hn⟩:=hn; simp [nthV]at hn
   | _=>simp [fitV]at hf
 | _=>intro t i w cs cw u hf hv hu hw hlen hn; obtain ⟨w0,hn⟩:=hn; simp [nthV]at hn
theorem qgh:∀(t:Ty) (v:El t),dat t=true->celR h (toL t v) ((encE t v).map .d):=by
 intro t
 induction t with
 | pr a c iha ihc=>
  intro v hd
  simp only [dat,Bool.and_eq_true]at hd
  exact ⟨(encE a v.1).map .d,(encE c v.2).map .d,by simp [encE],⟨hd.1,rfl⟩,ihc v.2 hd.2⟩
 | _=>intro v hd; exact ⟨_, [],(List.append_nil _).symm,⟨hd,rfl⟩,rfl⟩
theorem qtf:∀(t:Ty) (v:El t),fitV (toL t v) true t=true:=by
 intro t
 induction t with
 | pr a c iha ihc=>intro v; simp [toL,fitV,ihc]
 | _=>intro v; simp [toL,fitV]
theorem quc:∀(t:Ty) (v:El t) (i:Nat) (w:V),getF t v i=some w->nthV (toL t v) i=some w:=by
 intro t
 induction t with
 | pr a c iha ihc=>
  intro v i w hw
  cases i with
  | zero=>exact hw
  | succ i=>exact ihc v.2 i w hw
 | _=>
  intro v i w hw
  cases i with
  | zero=>exact hw
  | succ i=>simp [getF]at hw
theorem qg2:∀(t:Ty) (i:Nat) (u:Ty),dat t=true->fdT t i=some u->dat u=true:=by
 intro t
 induction t with
 | pr a c iha ihc=>
  intro i u hd hu
  simp only [dat,Bool.and_eq_true]at hd
  cases i with
  | zero=>obtain rfl:=Option.some.inj hu; exact hd.1
  | succ i=>exact ihc i u hd.2 hu
 | _=>
  intro i u hd hu
  cases i with
  | zero=>obtain rfl:=Option.some.inj hu; exact hd
  | succ i=>simp [fdT]at hu
theorem qco:∀(p:Path) (t u:Ty),tyP t p=some u->okP t p->ofP t p+szT u<=szT t:=by
 intro p
 induction p with
 | nil=>
  intro t u hu _
  have e2:tyP t []=some t:=by cases t <;> rfl
  have e:ofP t []=0:=by cases t <;> rfl
  obtain rfl:t=u:=by rw [e2]at hu; exact Option.some.inj hu
  omega
 | cons q p ih=>
  intro t u hu hp
  cases q with
  | fd i=>
   cases t with
   | st t=>
    obtain ⟨a,ha,hp⟩:=hp
    simp only [tyP,ha]at hu
    have:=ih a u hu hp
    have:=qvd t i a ha
    simp only [ofP,ha,szT]; omega
   | _=>exact hp.elim
  | ix k=>
   cases t with
   | ar n t=>
    obtain ⟨hk,hp⟩:=hp
    have:=ih t u hu hp
    have h2:(k+1) * szT t<=n * szT t:=Nat.mul_le_mul_right _ hk
    rw [Nat.add_mul]at h2
    simp only [ofP,szT]; omega
   | _=>exact hp.elim
theorem qbw:∀(p:Path) (c:V) (t:Ty) (w:V) (cs:List C),fitV c false t=true->celR h c cs->okP t p->getP c p=some w->
  ∃u cw,tyP t p=some u/\fitV w false u=true/\celR h w cw/\ofP t p+szT u<=cs.length/\(cs.drop (ofP t p)).take (szT u)=cw:=by
 intro p
 induction p with
 | nil=>
  intro c t w cs hf hv _ hw
  obtain rfl:c=w:=by simpa [getP]using hw
  have hs:=q1i _ _ _ hf
  have hl:=q1s hv
  refine ⟨t,cs,by cases t <;> rfl,hf,hv, ?_, ?_⟩
  ·cases t <;> simp [ofP] <;> omega
  ·have e:ofP t []=0:=by cases t <;> rfl
   rw [e,List.drop_zero,List.take_of_length_le (by omega)]
 | cons q p ih=>
  intro c t w cs hf hv hp hw
  have sub:∀(o n:Nat) (c2:V) (u:Ty) (c3:List C),fitV c2 false u=true->celR h c2 c3->(cs.drop o).take (szT u)=c3->o+szT u<=cs.length->okP u p->getP c2 p=some w->tyP t (q :: p)=tyP u p->ofP t (q :: p)=o+ofP u p->
    ∃u cw,tyP t (q :: p)=some u/\fitV w false u=true/\celR h w cw/\ofP t (q :: p)+szT u<=cs.length/\(cs.drop (ofP t (q :: p))).take (szT u)=cw:=by
   intro o n c2 u c3 hf2 hv2 h3 h4 h5 h6 h7 h8
   obtain ⟨u',cw,q1,q2,q3,q4,q5⟩:=ih c2 u w c3 hf2 hv2 h5 h6
   have hl:=q1s hv2
   rw [q1i _ _ _ hf2]at hl
   refine ⟨u',cw,h7.trans q1,q2,q3,by rw [h8]; omega, ?_⟩
   rw [h8,<- q5,<- h3,<- List.drop_drop]
   rw [List.drop_take,List.take_take]
   congr 1
   omega
  cases q with
  | fd i=>
   cases t with
   | st t=>
    obtain ⟨u,hu,hp⟩:=hp
    have e7:tyP (.st t) (.fd i :: p)=tyP u p:=by simp only [tyP,hu]
    have e8:ofP (.st t) (.fd i :: p)=foT t i+ofP u p:=by simp only [ofP,hu]
    cases c with
    | x t' v=>
     simp only [fitV,decide_eq_true_eq]at hf
     subst hf
     obtain ⟨hd,rfl⟩:=hv
     simp only [getP]at hw
     split at hw
     ·rename_i y hy
      obtain ⟨u',y',rfl,h1,h2,h3⟩:=q6v _ _ _ _ hy
      obtain rfl:u=u':=by rw [hu]at h1; exact Option.some.inj h1
      refine sub (foT t i) 0 (.x u y') u ((encE u y').map .d) (by simp [fitV]) ⟨qg2 t _ _ hd hu,rfl⟩ ?_ ?_ hp hw e7 e8
      ·rw [<- h3,List.map_take,List.map_drop]; rfl
      ·simp [q05,szT]; exact h2
     ·simp at hw
    | rc l=>
     simp only [getP]at hw
     split at hw
     ·rename_i y hy
      obtain ⟨u',cw,q1,q2,q3,q4,q5⟩:=qfl l t i y cs hf hv hy
      obtain rfl:u=u':=by rw [hu]at q1; exact Option.some.inj q1
      exact sub (foT t i) 0 y u cw q2 q3 q5 q4 hp hw e7 e8
     ·simp at hw
    | _=>simp [getP]at hw
   | _=>exact hp.elim
  | ix k=>
   cases t with
   | ar n t=>
    obtain ⟨hk,hp⟩:=hp
    cases c with
    | x t' v=>
     simp only [fitV,decide_eq_true_eq]at hf
     subst hf
     obtain ⟨hd,rfl⟩:=hv
     simp only [getP]at hw
     have hk':k < v.1.length:=by rw [v.2]; exact hk
     have hg:=qem (q05 t) v.1 k hk'
     refine sub (k * szT t) 0 (.x t (gt v.1 k)) t ((encE t (gt v.1 k)).map .d) (by simp [fitV]) ⟨hd,rfl⟩ ?_ ?_ hp hw rfl rfl
     ·rw [<- hg,List.map_take,List.map_drop]; rfl
     ·simp only [List.length_map,q05,szT]
      have:(k+1) * szT t<=n * szT t:=Nat.mul_le_mul_right _ hk
      rw [Nat.add_mul]at this; omega
    | _=>simp [getP]at hw
   | _=>exact hp.elim
theorem qm4:∀(t:Ty) (v:El t) (i:Nat) (w:V) (v':El t),setF t v i w=some v'->∃u z,fdT t i=some u/\castV u w=some z/\encE t v'=splice (encE t v) (foT t i) (encE u z):=by
 intro t
 induction t with
 | pr a c iha ihc=>
  intro v i w v' hs
  cases i with
  | zero=>
   simp only [setF]at hs
   split at hs
   ·rename_i y hy
    obtain rfl:=Option.some.inj hs
    refine ⟨a,y,rfl,hy, ?_⟩
    simp only [encE,foT]
    rw [q8r (by simp [q05]),q3t (by simp [q05])]
   ·simp at hs
  | succ i=>
   simp only [setF]at hs
   split at hs
   ·rename_i y hy
    obtain rfl:=Option.some.inj hs
    obtain ⟨u,z,h1,h2,h3⟩:=ihc _ _ _ _ hy
    refine ⟨u,z,h1,h2, ?_⟩
    simp only [encE,foT,h3]
    have:=q8j (a:=encE a v.1) (b:=encE c v.2) (off:=foT c i) (p:=encE u z)
    rw [q05]at this
    rw [this]
   ·simp at hs
 | _=>
  intro v i w v' hs
  cases i with
  | zero=>
   have hs':castV _ w=some v':=hs
   exact ⟨_,v',rfl,hs',by simp only [foT]; rw [q3t (by simp [q05])]⟩
  | succ i=>simp [setF]at hs
theorem qbh:∀(p:Path) (c:V) (t:Ty) (w c':V) (cs cw:List C) (u:Ty),fitV c false t=true->celR h c cs->okP t p->setP c p w=some c'->tyP t p=some u->celR h w cw->cw.length=szT u->
  celR h c' (splice cs (ofP t p) cw):=by
 intro p
 induction p with
 | nil=>
  intro c t w c' cs cw u hf hv _ hs hu hw hlen
  obtain rfl:w=c':=by simpa [setP]using hs
  have e:ofP t []=0:=by cases t <;> rfl
  have e2:tyP t []=some t:=by cases t <;> rfl
  obtain rfl:t=u:=by rw [e2]at hu; exact Option.some.inj hu
  have:=q1s hv
  rw [q1i _ _ _ hf]at this
  rw [e,q3t (by omega)]; exact hw
 | cons q p ih=>
  intro c t w c' cs cw u hf hv hp hs hu hw hlen
  cases q with
  | fd i=>
   cases t with
   | st t=>
    obtain ⟨a,ha,hp⟩:=hp
    have hu':tyP a p=some u:=by simpa only [tyP,ha]using hu
    have e8:ofP (.st t) (.fd i :: p)=foT t i+ofP a p:=by simp only [ofP,ha]
    cases c with
    | x t' v=>
     simp only [fitV,decide_eq_true_eq]at hf
     subst hf
     obtain ⟨hd,rfl⟩:=hv
     simp only [setP]at hs
     split at hs
     ·rename_i y hy
      split at hs
      ·rename_i y1 hy1
       obtain ⟨a',z,rfl,h1,h2,h3⟩:=q6v _ _ _ _ hy
       obtain rfl:a=a':=by rw [ha]at h1; exact Option.some.inj h1
       have hz:celR h (.x a z) ((encE a z).map .d):=⟨qg2 t _ _ hd ha,rfl⟩
       have h4:=ih (.x a z) a w y1 ((encE a z).map .d) cw u (by simp [fitV]) hz hp hy1 hu' hw hlen
       have hle:ofP a p+cw.length<=szT a:=by
        have:=qco p a u hu' hp
        omega
       have h5:((encE (.st t) v).map C.d |>.drop (foT t i)).take (szT a)=(encE a z).map .d:=by rw [<- h3,List.map_take,List.map_drop]; rfl
       have h6:splice ((encE (.st t) v).map C.d) (foT t i+ofP a p) cw=splice ((encE (.st t) v).map C.d) (foT t i) (splice ((encE a z).map .d) (ofP a p) cw):=
        (q6a h5 (by simp [q05,szT]; exact h2) hle).symm
       rw [e8,h6]
       split at hs
       ·rename_i v' hv'
        obtain rfl:=Option.some.inj hs
        obtain ⟨a2,z2,k1,k2,k3⟩:=qm4 _ _ _ _ _ hv'
        obtain rfl:a=a2:=by rw [ha]at k1; exact Option.some.inj k1
        refine ⟨hd, ?_⟩
        have:=q5o k2 h4
        rw [this]
        show _=(encE t v').map C.d
        rw [k3,q92]; rfl
       ·obtain rfl:=Option.some.inj hs
        refine qet (toL t v) t i y1 _ _ a (qtf t v) (qgh t v hd) ha h4 ?_ ⟨_,quc t v i _ hy⟩
        rw [q9j (by simp [q05]; exact hle)]; simp [q05]
      ·simp at hs
     ·simp at hs
    | rc l=>
     simp only [setP]at hs
     split at hs
     ·rename_i y hy
      split at hs
      ·rename_i y1 hy1
       obtain rfl:=Option.some.inj hs
       obtain ⟨a',cw2,q1,q2,q3,q4,q5⟩:=qfl l t i y cs hf hv hy
       obtain rfl:a=a':=by rw [ha]at q1; exact Option.some.inj q1
       have h4:=ih y a w y1 cw2 cw u q2 q3 hp hy1 hu' hw hlen
       have hl:=q1s q3
       rw [q1i _ _ _ q2]at hl
       have hle:ofP a p+cw.length<=szT a:=by
        have:=qco p a u hu' hp
        omega
       rw [e8,<- q6a q5 q4 hle]
       exact qet l t i y1 cs _ a hf hv ha h4 (by rw [q9j (by omega),hl]) ⟨_,hy⟩
      ·simp at hs
     ·simp at hs
    | _=>simp [setP]at hs
   | _=>exact hp.elim
  | ix k=>
   cases t with
   | ar n t=>
    obtain ⟨hk,hp⟩:=hp
    have hu':tyP t p=some u:=hu
    cases c with
    | x t' v=>
     simp only [fitV,decide_eq_true_eq]at hf
     subst hf
     obtain ⟨hd,rfl⟩:=hv
     simp only [setP]at hs
     split at hs
     ·rename_i y1 hy1
      split at hs
      ·rename_i z hz
       obtain rfl:=Option.some.inj hs
       have hk':k < v.1.length:=by rw [v.2]; exact hk
       have hg:=qem (q05 t) v.1 k hk'
       have h4:=ih (.x t (gt v.1 k)) t w y1 ((encE t (gt v.1 k)).map .d) cw u (by simp [fitV]) ⟨hd,rfl⟩ hp hy1 hu' hw hlen
       have h7:=q5o hz h4
       have hle:ofP t p+cw.length<=szT t:=by
        have:=qco p t u hu' hp
        omega
       have h5:((encE (.ar n t) v).map C.d |>.drop (k * szT t)).take (szT t)=(encE t (gt v.1 k)).map .d:=by rw [<- hg,List.map_take,List.map_drop]; rfl
       have h8:k * szT t+szT t<=((encE (.ar n t) v).map C.d).length:=by
        simp only [List.length_map,q05,szT]
        have:(k+1) * szT t<=n * szT t:=Nat.mul_le_mul_right _ hk
        rw [Nat.add_mul]at this; omega
       refine ⟨hd, ?_⟩
       show splice _ (k * szT t+ofP t p) cw=_
       rw [<- q6a h5 h8 hle,h7,<- q92]
       show _=((v.1.set k z).flatMap (encE t)).map C.d
       rw [qqi (q05 t) v.1 k z hk']; rfl
      ·simp at hs
     ·simp at hs
    | _=>simp [setP]at hs
   | _=>exact hp.elim
theorem qd9{n:Nat}:∀(l:V) (i:Nat) (w:V),okV n h l->nthV l i=some w->okV n h w:=by
 intro l
 induction l with
 | co a r iha ihr=>
  intro i w hk hw
  cases i with
  | zero=>obtain rfl:=Option.some.inj hw; exact hk.1
  | succ i=>exact ihr i w hk.2 hw
 | _=>intro i w hk hw; simp [nthV]at hw
theorem qor{n:Nat}:∀(l:V) (i:Nat) (w:V),okV n h l->okV n h w->okV n h (putV l i w):=by
 intro l
 induction l with
 | co a r iha ihr=>
  intro i w hk hw
  cases i with
  | zero=>exact ⟨hw,hk.2⟩
  | succ i=>exact ⟨hk.1,ihr i w hk.2 hw⟩
 | _=>intro i w hk hw; exact hk
theorem qlj{n:Nat}{t:Ty}{v:El t}{i:Nat}{w:V}(hw:getF t v i=some w):okV n h w:=by
 obtain ⟨u,y,rfl,_⟩:=q6v _ _ _ _ hw; trivial
theorem qnm{n:Nat}:∀(t:Ty) (v:El t),okV n h (toL t v):=by
 intro t
 induction t with
 | pr a c iha ihc=>intro v; exact ⟨trivial,ihc v.2⟩
 | _=>intro v; exact ⟨trivial,trivial⟩
theorem qht{n:Nat}:∀(p:Path) (c w:V),okV n h c->getP c p=some w->okV n h w:=by
 intro p
 induction p with
 | nil=>intro c w hk hw; obtain rfl:c=w:=by simpa [getP]using hw
        exact hk
 | cons q p ih=>
  intro c w hk hw
  cases q with
  | fd i=>
   cases c with
   | x t v=>
    cases t with
    | st t=>
     simp only [getP]at hw
     split at hw
     ·rename_i y hy; exact ih y w (qlj hy) hw
     ·simp at hw
    | _=>simp [getP]at hw
   | rc l=>
    simp only [getP]at hw
    split at hw
    ·rename_i y hy; exact ih y w (qd9 l _ _ hk hy) hw
    ·simp at hw
   | _=>simp [getP]at hw
  | ix k=>
   cases c with
   | x t v=>
    cases t with
    | ar m t=>exact ih (.x t (gt v.1 k)) w trivial hw
    | _=>simp [getP]at hw
   | _=>simp [getP]at hw
theorem qna{n:Nat}:∀(p:Path) (c w c':V),okV n h c->okV n h w->setP c p w=some c'->okV n h c':=by
 intro p
 induction p with
 | nil=>intro c w c' _ hw hs; obtain rfl:w=c':=by simpa [setP]using hs
        exact hw
 | cons q p ih=>
  intro c w c' hk hw hs
  cases q with
  | fd i=>
   cases c with
   | x t v=>
    cases t with
    | st t=>
     simp only [setP]at hs
     split at hs
     ·rename_i y hy
      split at hs
      ·rename_i y1 hy1
       split at hs
       ·obtain rfl:=Option.some.inj hs; trivial
       ·obtain rfl:=Option.some.inj hs
        exact qor _ _ _ (qnm t v) (ih y w y1 (qlj hy) hw hy1)
      ·simp at hs
     ·simp at hs
    | _=>simp [setP]at hs
   | rc l=>
    simp only [setP]at hs
    split at hs
    ·rename_i y hy
     split at hs
     ·rename_i y1 hy1
      obtain rfl:=Option.some.inj hs
      exact qor l _ _ hk (ih y w y1 (qd9 l _ _ hk hy) hw hy1)
     ·simp at hs
    ·simp at hs
   | _=>simp [setP]at hs
  | ix k=>
   cases c with
   | x t v=>
    cases t with
    | ar m t=>
     simp only [setP]at hs
     split at hs
     ·split at hs
      ·obtain rfl:=Option.some.inj hs; trivial
      ·simp at hs
     ·simp at hs
    | _=>simp [setP]at hs
   | _=>simp [setP]at hs
end
end Go.Ev

namespace Go.Ev
section
variable {h:H2}{n:Nat}{h1:Heap}
theorem q0v{v:V}{c:C}(ha:agV v=false)(hc:celR h v [c]):tv1R h v (.c c):=⟨[c],hc,λe=>(by rw [ha]at e; cases e),λ_=>⟨c,rfl,rfl⟩⟩
theorem qew{v:V}{cs:List C}(ha:agV v=true)(hc:celR h v cs):tv1R h v (.agg cs):=⟨cs,hc,λ_=>rfl,λe=>(by rw [ha]at e; cases e)⟩
theorem q2w{v:V}{x:TV}(hx:tv1R h v x)(ha:agV v=false):∃c,x= .c c/\celR h v [c]:=by
 obtain ⟨cs,h1,_,h2⟩:=hx
 obtain ⟨c,rfl,rfl⟩:=h2 ha
 exact ⟨c,rfl,h1⟩
theorem q6t{v:V}{x:TV}(hx:tv1R h v x):∃cs,celR h v cs/\cellsOf x=some cs:=by
 obtain ⟨cs,h1,h2,h3⟩:=hx
 refine ⟨cs,h1, ?_⟩
 cases ha:agV v with
 | true=>rw [h2 ha]; rfl
 | false=>obtain ⟨c,rfl,rfl⟩:=h3 ha; rfl
theorem tvR_i{k:IntKind}{a:Int}{x:TV}(hx:tvR h (.x (.i k) a) x):x=tI k a:=by
 obtain ⟨c,rfl,_,hc⟩:=q2w (v:= .x (.i k) a) hx rfl
 obtain rfl:=(List.cons.inj hc).1; rfl
theorem tvR_b{a:Bool}{x:TV}(hx:tvR h (.x .b a) x):x=tB a:=by
 obtain ⟨c,rfl,_,hc⟩:=q2w (v:= .x .b a) hx rfl
 obtain rfl:=(List.cons.inj hc).1; rfl
theorem tvR_s{a:ByteArray}{x:TV}(hx:tvR h (.x .s a) x):x= .c (.d (dS a)):=by
 obtain ⟨c,rfl,_,hc⟩:=q2w (v:= .x .s a) hx rfl
 obtain rfl:=(List.cons.inj hc).1; rfl
theorem qfy{t:Ty}{s:Sl (El t)}{x:TV}(hx:tvR h (.x (.sl t) s) x):x= .c (.d (slD (szT t) (encE t) s)):=by
 obtain ⟨c,rfl,_,hc⟩:=q2w (v:= .x (.sl t) s) hx rfl
 obtain rfl:=(List.cons.inj hc).1; rfl
theorem qcf{a:Bool}{x:TV}(hx:tvR h (.kb a) x):x=tB a:=by
 obtain ⟨c,rfl,hc⟩:=q2w (v:= .kb a) hx rfl
 obtain rfl:=(List.cons.inj hc).1; rfl
theorem qcz{k:Nat}{x:TV}(hx:tvR h (.nl k) x):x= .c (nlC k):=by
 obtain ⟨c,rfl,hc⟩:=q2w (v:= .nl k) hx rfl
 obtain rfl:=(List.cons.inj hc).1; rfl
theorem qfq{t:Ty}{a:El t}{x:TV}(hx:tvR h (.pt t a) x):dat t=true/\x= .c (.d (.pt (encE t a))):=by
 obtain ⟨c,rfl,hd,hc⟩:=q2w (v:= .pt t a) hx rfl
 obtain rfl:=(List.cons.inj hc).1; exact ⟨hd,rfl⟩
theorem qcy{id:Nat}{t:Ty}{p:Path}{x:TV}(hx:tvR h (.op id t p) x):x= .c (.op id (ofP t p)):=by
 obtain ⟨c,rfl,hc⟩:=q2w (v:= .op id t p) hx rfl
 obtain rfl:=(List.cons.inj hc).1; rfl
theorem q9z{id m:Nat}{t:Ty}{p:Path}{x:TV}(hx:tvR h (.ep id m t p) x):x= .c (.ep id m (ofP t p)):=by
 obtain ⟨c,rfl,hc⟩:=q2w (v:= .ep id m t p) hx rfl
 obtain rfl:=(List.cons.inj hc).1; rfl
theorem qng{id:Nat}{x:TV}(hx:tvR h (.om id) x):x= .c (.om id):=by
 obtain ⟨c,rfl,hc⟩:=q2w (v:= .om id) hx rfl
 obtain rfl:=(List.cons.inj hc).1; rfl
theorem q9r{id:Nat}{c:C}{x:TV}(hx:tvR h (.so id) x)(hc:soC id (fO h id)=some c):x= .c c:=by
 obtain ⟨c',rfl,c2,h2,h3⟩:=q2w (v:= .so id) hx rfl
 obtain rfl:=(List.cons.inj h2).1
 rw [h3.1 c hc]
theorem qs1{id:Nat}{c:C}{x:TV}(hx:tvR h (.sr id) x)(hc:srC id (fO h id)=some c):x= .c c:=by
 obtain ⟨c',rfl,c2,h2,h3⟩:=q2w (v:= .sr id) hx rfl
 obtain rfl:=(List.cons.inj h2).1
 rw [h3.1 c hc]
theorem q9y{id:Nat}{t:Ty}{s:Sl (Sl (El t))}{ln:Option (Nat×Nat)}(ho:fO h id=some (.rw t s ln)):srC id (fO h id)=some (slC 1 (encE (.sl t)) id s):=by rw [ho]; rfl
theorem q7w{id ver lo:Nat}{t:Ty}{r:Sl (El t)}{x:TV}(hx:tvR h (.sb id ver lo t r) x)(ha:alv h (.sb id ver lo t r)=true):x= .c (sbC id lo t r):=by
 obtain ⟨c',rfl,c2,h2,h3⟩:=q2w (v:= .sb id ver lo t r) hx rfl
 obtain rfl:=(List.cons.inj h2).1
 rw [h3.1 (Bool.and_eq_true_iff.1 ha).2]
theorem qnv{z:Bool}{f:Nat}{l:V}{x:TV}(hx:tvR h (.fn z f l) x):(z=true/\∃ds,celD l=some ds/\x= .c (.d (.fn f ds)))\/(z=false/\∃cs,celR h l cs/\x= .c (.ofn f cs)):=by
 obtain ⟨c',rfl,hc⟩:=q2w (v:= .fn z f l) hx rfl
 cases z with
 | true=>obtain ⟨ds,h2,h3⟩:=hc; exact .inl ⟨rfl,ds,h2,by rw [(List.cons.inj h3).1]⟩
 | false=>obtain ⟨ds,h2,h3⟩:=hc; exact .inr ⟨rfl,ds,h2,by rw [(List.cons.inj h3).1]⟩
theorem qvw{l:V}{x:TV}(hx:tvR h (.tp l) x):∃xs,x= .tup xs/\tvLR h l xs:=hx
def plV:V->Prop
 | .tp _ | .no | .gn=>False
 | _=>True
theorem tvR_1{v:V}{x:TV}(hv:plV v)(hx:tvR h v x):tv1R h v x:=by
 cases v <;> first | exact hx | exact hv.elim
theorem q0e{v:V}{x:TV}(hx:tv1R h v x):tvR h v x:=by
 cases v <;> first | exact hx | (obtain ⟨cs,hc,_⟩:=hx; exact hc.elim)
theorem cst_1{v:V}{u:Ty}{y:El u}(hc:cst u v=some y):plV v:=by
 cases v <;> first | trivial | (simp [cst,castG,castV]at hc)
theorem qbo{v:V}{u:Ty}{y:El u}{x:TV}(hx:tvR h v x)(hc:cst u v=some y):(agT u=true->x= .agg ((encE u y).map .d))/\(agT u=false->∃d,encE u y= [d]/\x= .c (.d d)):=by
 obtain ⟨cs,h2,h3,h4⟩:=tvR_1 (cst_1 hc) hx
 have h5:=q1v v false u y cs hc h2
 have ha:=qc7 hc
 constructor
 ·intro hu; rw [h3 (ha.trans hu),h5]
 ·intro hu
  obtain ⟨c,rfl,rfl⟩:=h4 (ha.trans hu)
  cases he:encE u y with
  | nil=>rw [he]at h5; simp at h5
  | cons d ds=>
   rw [he]at h5
   simp only [List.map_cons,List.cons.injEq]at h5
   obtain ⟨rfl,h6⟩:=h5
   have:ds= []:=by simpa using h6.symm
   subst this
   exact ⟨d,rfl,rfl⟩
theorem cst_b{v:V}{x:TV}{a:Bool}(hx:tvR h v x)(hc:cst .b v=some a):x=tB a:=by
 obtain ⟨d,h1,rfl⟩:=(qbo hx hc).2 rfl
 obtain rfl:=(List.cons.inj h1).1; rfl
def tvsR(h:H2):List V->List TV->Prop
 | [], []=>True
 | v :: vs,x :: xs=>tvR h v x/\tvsR h vs xs
 | _,_=>False
theorem q3x{xs:List TV}(hx:tvsR h [] xs):xs= []:=by cases xs <;> first | rfl | exact hx.elim
theorem q1g{v:V}{vs:List V}{xs:List TV}(hx:tvsR h (v :: vs) xs):∃x ys,xs=x :: ys/\tvR h v x/\tvsR h vs ys:=by
 cases xs with
 | nil=>exact hx.elim
 | cons x ys=>exact ⟨x,ys,rfl,hx.1,hx.2⟩
theorem q2p{v:V}{xs:List TV}(hx:tvsR h [v] xs):∃x,xs= [x]/\tvR h v x:=by
 obtain ⟨x,ys,rfl,h1,h2⟩:=q1g hx
 obtain rfl:=q3x h2
 exact ⟨x,rfl,h1⟩
theorem q2t{v w:V}{xs:List TV}(hx:tvsR h [v,w] xs):∃x y,xs= [x,y]/\tvR h v x/\tvR h w y:=by
 obtain ⟨x,ys,rfl,h1,h2⟩:=q1g hx
 obtain ⟨y,rfl,h3⟩:=q2p h2
 exact ⟨x,y,rfl,h1,h3⟩
theorem qv9{v w z:V}{xs:List TV}(hx:tvsR h [v,w,z] xs):∃x y u,xs= [x,y,u]/\tvR h v x/\tvR h w y/\tvR h z u:=by
 obtain ⟨x,ys,rfl,h1,h2⟩:=q1g hx
 obtain ⟨y,u,rfl,h3⟩:=q2t h2
 exact ⟨x,y,u,rfl,h1,h3⟩
theorem qrl:∀ {vs:List V} {xs:List TV},tvsR h vs xs->(∀ v∈vs,plV v/\agV v=false)->∃cs,celR h (row vs) cs/\xs=cs.map TV.c:=by
 intro vs
 induction vs with
 | nil=>intro xs hx _; obtain rfl:=q3x hx; exact ⟨[],rfl,rfl⟩
 | cons v vs ih=>
  intro xs hx hv
  obtain ⟨x,ys,rfl,h1,h2⟩:=q1g hx
  obtain ⟨hp,ha⟩:=hv v (by simp)
  obtain ⟨c,rfl,h3⟩:=q2w (tvR_1 hp h1) ha
  obtain ⟨cs,h4,rfl⟩:=ih h2 λw hw=>hv w (by simp [hw])
  exact ⟨c :: cs,⟨[c],cs,rfl,h3,h4⟩,rfl⟩
theorem qax{id:Nat}{q:(t:Ty)×Sl (El t)×List Nat}(hs:slV h (.so id)=some q):∃ver,(fO h id=some (.ar q.1 q.2.1 ver)\/fO h id=some (.im q.1 q.2.1 ver))/\q.2.2= [id]:=by
 simp only [slV]at hs
 split at hs
 ·rename_i t s v ho; obtain rfl:=Option.some.inj hs; exact ⟨v, .inl ho,rfl⟩
 ·rename_i t s v ho; obtain rfl:=Option.some.inj hs; exact ⟨v, .inr ho,rfl⟩
 ·simp at hs
theorem q4l{id ver:Nat}{t:Ty}{s:Sl (El t)}(ho:fO h id=some (.ar t s ver)\/fO h id=some (.im t s ver)):soC id (fO h id)=some (slC (szT t) (encE t) id s):=by
 rcases ho with ho | ho <;> rw [ho] <;> rfl
theorem qwm{id lo nx:Nat}{t:Ty}{r:Sl (El t)}{c:Call}{H:Heap}:ev1 c (.len false) [some (.c (sbC id lo t r))] H nx=some (tI .i64 r.l.length, [], [],nx):=by
 cases r with
 | nil=>rfl
 | mk l=>simp [ev1,evLen,sbC,Sl.l,lv]
theorem qwa{v:V}{x:TV}{q:(t:Ty)×Sl (El t)×List Nat}{c:Call}{H:Heap}{nx:Nat}(hx:tvR h v x)(ha:alv h v=true)(hs:slV h v=some q):
  ev1 c (.len false) [some x] H nx=some (tI .i64 q.2.1.l.length, [], [],nx):=by
 cases v with
 | x t s=>
  cases t with
  | sl t=>obtain rfl:=Option.some.inj hs; rw [qfy hx]; exact qw5
  | _=>simp [slV]at hs
 | so id=>
  obtain ⟨ver,ho,_⟩:=qax hs
  rw [q9r hx (q4l ho)]; exact len_c
 | sb id ver lo t r=>obtain rfl:=Option.some.inj hs; rw [q7w hx ha]; exact qwm
 | _=>simp [slV]at hs
theorem qq8{id lo nx:Nat}{t:Ty}{r:Sl (El t)}{c:Call}{H:Heap}{neg:Bool}:ev1 c (.eqNil 0 neg) [some (.c (sbC id lo t r))] H nx=some (tB (if neg then !r.isNil else r.isNil), [], [],nx):=by
 cases r <;> rfl
theorem qvt{v:V}{x:TV}{q:(t:Ty)×Sl (El t)×List Nat}{c:Call}{H:Heap}{nx:Nat}{neg:Bool}(hx:tvR h v x)(ha:alv h v=true)(hs:slV h v=some q):
  ev1 c (.eqNil 0 neg) [some x] H nx=some (tB (if neg then !q.2.1.isNil else q.2.1.isNil), [], [],nx):=by
 cases v with
 | x t s=>
  cases t with
  | sl t=>obtain rfl:=Option.some.inj hs; rw [qfy hx]; exact qvn
  | _=>simp [slV]at hs
 | so id=>
  obtain ⟨ver,ho,_⟩:=qax hs
  rw [q9r hx (q4l ho)]; exact nil_c
 | sb id ver lo t r=>obtain rfl:=Option.some.inj hs; rw [q7w hx ha]; exact qq8
 | _=>simp [slV]at hs
theorem q58{g:Bool}{m:Nat}{w:V}(hc:chk h g m w=true):agV w=g/\szV w=m/\(g=false->m=1)/\alv h w=true:=by
 simp only [chk,Bool.and_eq_true,beq_iff_eq,Bool.or_eq_true]at hc
 obtain ⟨⟨⟨h1,h2⟩,h3⟩,h4⟩:=hc
 refine ⟨h1,h2,λe=> ?_,h4⟩
 rcases h3 with h3 | h3
 ·rw [e]at h3; cases h3
 ·exact h3
theorem q6e{g:Bool}{m off:Nat}{cs cw:List C}{w:V}(hc:chk h g m w=true)(hw:celR h w cw)(hle:off+m<=cs.length)(he:(cs.drop off).take m=cw):∃x,ldC g m (cs.drop off)=some x/\tvR h w x:=by
 obtain ⟨ha,hs,hm,_⟩:=q58 hc
 cases g with
 | true=>
  refine ⟨.agg cw, ?_,q0e (qew ha hw)⟩
  simp only [ldC,if_true]
  rw [if_pos (by simp; omega),he]
 | false=>
  obtain rfl:=hm rfl
  cases hd:cs.drop off with
  | nil=>have:=congrArg List.length hd; simp at this; omega
  | cons c r=>
   rw [hd]at he
   subst he
   exact ⟨.c c,rfl,q0e (q0v ha hw)⟩
theorem qgt{g:Bool}{m:Nat}{ds:List D}:ldD g m ds=ldC g m (ds.map .d):=by
 unfold ldD ldC
 cases g
 ·cases ds <;> simp
 ·simp
theorem qaz{p w:V}{l:List Nat}{g:Bool}{m nx:Nat}{c:Call}{x:TV}(hr:HR n h1 h)(hl:loadV h p=some (w,l))(hc:chk h g m w=true)(hx:tvR h p x)(hok:okV n h p):
  ∃y,ev1 c (.load g m) [some x] h1 nx=some (y, [],l,nx)/\tvR h w y/\okV n h w:=by
 cases p with
 | pt t v=>
  obtain ⟨rfl,rfl⟩:=Prod.mk.inj (Option.some.inj hl)
  obtain ⟨hd,rfl⟩:=qfq hx
  obtain ⟨_,hs,_,_⟩:=q58 hc
  have hs':szT t=m:=hs
  obtain ⟨y,h2,h3⟩:=q6e (cs:=(encE t v).map .d) (off:=0) hc (show celR h (.x t v) ((encE t v).map .d) from ⟨hd,rfl⟩) (by simp [q05]; omega) (by rw [List.drop_zero,List.take_of_length_le (by simp [q05]; omega)])
  refine ⟨y, ?_,h3,trivial⟩
  rw [List.drop_zero,<- qgt]at h2
  simp only [ev1,q20,h2]
 | op id t p=>
  obtain rfl:=qcy hx
  simp only [loadV]at hl
  split at hl
  ·rename_i u cc ho
   obtain ⟨_,hb,hko⟩:=hr.ob id _ ho
   obtain ⟨cs,h2,h3,h4⟩:=hb
   by_cases hu:u=t
   ·subst hu
    simp only [decide_true,cond_true]at hl
    split at hl
    ·rename_i w' hw
     obtain ⟨rfl,rfl⟩:=Prod.mk.inj (Option.some.inj hl)
     obtain ⟨a,cw,q1,q2,q3,q4,q5⟩:=qbw p cc u w' cs h4 h3 hok.2 hw
     obtain ⟨_,hs,_,_⟩:=q58 hc
     rw [q1i _ _ _ q2]at hs
     subst hs
     obtain ⟨y,h5,h6⟩:=q6e hc q3 q4 q5
     refine ⟨y, ?_,h6,qht p cc w' hko hw⟩
     simp only [ev1,q20,h2,h5]
    ·simp at hl
   ·simp [hu]at hl
  ·rename_i u v ho
   obtain ⟨_,hb,hko⟩:=hr.ob id _ ho
   obtain ⟨hd,h2⟩:=hb
   by_cases hu:u=t
   ·subst hu
    simp only [decide_true,cond_true]at hl
    split at hl
    ·rename_i w' hw
     obtain ⟨rfl,rfl⟩:=Prod.mk.inj (Option.some.inj hl)
     obtain ⟨a,cw,q1,q2,q3,q4,q5⟩:=qbw (h:=h) p (.x u v) u w' ((encE u v).map .d) (by simp [fitV]) ⟨hd,rfl⟩ hok.2 hw
     obtain ⟨_,hs,_,_⟩:=q58 hc
     rw [q1i _ _ _ q2]at hs
     subst hs
     obtain ⟨y,h5,h6⟩:=q6e hc q3 q4 q5
     refine ⟨y, ?_,h6,qht p (.x u v) w' trivial hw⟩
     rw [<- List.map_drop,<- qgt]at h5
     simp only [ev1,q20,h2,h5]
    ·simp at hl
   ·simp [hu]at hl
  ·simp at hl
 | ep id k t p=>
  obtain rfl:=q9z hx
  obtain ⟨_,hp,hk,_⟩:=hok
  have main:∀(u:Ty) (s:Sl (El u)) (ver:Nat),(fO h id=some (.ar u s ver)\/fO h id=some (.im u s ver))->(bif decide (u=t)then (match getP (.x u (gt s.l k)) p with | some w=>some (w, [id]) | none=>none)else none)=some (w,l)->
    ∃y,ev1 c (.load g m) [some (.c (.ep id k (ofP t p)))] h1 nx=some (y, [],l,nx)/\tvR h w y/\okV n h w:=by
   intro u s ver ho hl
   have hlt:=hk u s ver ho
   by_cases hu:u=t
   ·subst hu
    simp only [decide_true,cond_true]at hl
    split at hl
    ·rename_i w' hw
     obtain ⟨rfl,rfl⟩:=Prod.mk.inj (Option.some.inj hl)
     cases s with
     | nil=>simp [Sl.l]at hlt
     | mk ls=>
     have hrow:(ls.map (encE u))[k]? =some (encE u (gt ls k)):=q8s hlt
     have hd:dat u=true:=by rcases ho with ho | ho <;> exact (hr.ob id _ ho).2.1.1
     obtain ⟨a,cw,q1,q2,q3,q4,q5⟩:=qbw (h:=h) p (.x u (gt ls k)) u w' ((encE u (gt ls k)).map .d) (by simp [fitV]) ⟨hd,rfl⟩ hp hw
     obtain ⟨_,hs,_,_⟩:=q58 hc
     rw [q1i _ _ _ q2]at hs
     subst hs
     obtain ⟨y,h5,h6⟩:=q6e hc q3 q4 q5
     refine ⟨y, ?_,h6,qht p (.x u (gt ls k)) w' trivial hw⟩
     rw [<- List.map_drop,<- qgt]at h5
     rcases ho with ho | ho
     ·have h2:=(hr.ob id _ ho).2.1.2.2 ls rfl
      simp only [ev1,q20,h2,hrow,h5]
     ·have h2:=(hr.ob id _ ho).2.1.2.2 ls rfl
      simp only [ev1,q20,h2,hrow,h5]
    ·simp at hl
   ·simp [hu]at hl
  simp only [loadV]at hl
  split at hl
  ·rename_i u s ver ho; exact main u s ver (.inl ho) hl
  ·rename_i u s ver ho; exact main u s ver (.inr ho) hl
  ·simp at hl
 | _=>simp [loadV]at hl
end
end Go.Ev
