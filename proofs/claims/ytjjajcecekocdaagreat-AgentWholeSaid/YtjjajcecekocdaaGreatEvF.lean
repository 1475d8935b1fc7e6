/- The abstract machine: deep data, cells, owned objects, operations and code, and their evaluation. Conditions: none, these are definitions. -/
import Derived.Orders
import Derived.Laws.CopyRow
open Array renaming getD->kU
open BitVec renaming ofInt->bJ
open Bool renaming false_eq_true->aH
open List renaming all_eq_true->a_,append_nil->bv,flatMap_cons->bg,flatten_cons->eW,getElem?_append_left->bH,getElem?_append_right->bL,getElem?_drop->bS,getElem?_eq_getElem->aC,getElem?_eq_some_iff->ap,getElem?_map->aQ,getElem?_take->fc,getElem_of_mem->i_,length_map->aM,length_set->eg,length_take->cj,map->mK,mem_append->ao,mem_cons->aN,mem_cons_of_mem->aF,mem_flatten->eP,mem_of_getElem?->bp,mem_singleton->au,nodup_append->cD,nodup_cons->fR,nodup_nil->kF,range->fB,replicate->aA
open Nat renaming add_assoc->dz,add_zero->eL,le_refl->am,le_succ->bI,le_trans->e_,lt_of_lt_of_le->dD,lt_succ_self->aY,mul_le_mul_right->aL,zero_add->bG
open Option renaming bind_eq_some_iff->gD,map_eq_some_iff->aP
open Option.some renaming inj->aa,injEq->bM
open Prod.mk renaming inj->af
namespace Go.Ev
inductive D where
 |lit (v:Value)
 |sl (sz:Nat) (rows:List (List D))
 |pt (cells:List D)
 |fn (f:FuncId) (caps:List D)
 deriving Inhabited
inductive C where
 |d (x:D)
 |cE (sz id off len:Nat)
 |ep (id fy off:Nat)
 |op (id off:Nat)
 |pp (f:FuncId) (caps:List C)
 |om (id:Nat)
 deriving Inhabited
inductive TV where
 |c (x:C)
 |agg (cells:List C)
 |ia (xs:List TV)
 deriving Inhabited
inductive ly where
 |nil
 |bD (rows:List (List D))
 |oA (id len:Nat)
 deriving Inhabited
inductive Ob where
 |aK (sz:Nat) (rows:List (List D))
 |p_ (sz:Nat) (rows:List (List D))
 |box (cells:List C)
 |oW (cells:List D)
 |map (ka va:Bool) (es:List (List Value×List D×Nat)) (bP:Nat)
 |cap (sz:Nat) (rows:List (List D)) (cp:Nat)
 |nst (sz:Nat) (slots:List ly)
 deriving Inhabited
inductive T where
 |d (x:D)
 |sl (sz:Nat) (rows:List (List D))
 |pt (cells:List T)
 |Ai (sz:Nat) (rows:List (Option (List (List D))))
 |mp (ka va:Bool) (es:List (List Value×List D×Nat)) (bP:Nat)
 |eH
 deriving Inhabited
inductive A where
 |d (x:D)
 |agg (cells:List D)
 |mt (t:T)
 deriving Inhabited
inductive R where
 |c (t:T)
 |agg (cells:List T)
 deriving Inhabited
def ft:Value->Bool
 |.bool _|.int _ _|.float _ _|.string _|.pointer none|.slice none 0 0|.map none|.nilFunc|.nilIface=>true
 |_=>false
def te:Nat:=2147483648
def cm{α:Type}:List (Nat×α)->Nat->Option α
 |[],_=>none
 |(a,x)::r,k=>bif a==k then some x else cm r k
abbrev iL:=List (Nat×TV)
abbrev bC:=List (Nat×Option Ob)
abbrev eS:=List (Nat×Option Ob)
def aw(h:bC)(id:Nat):Option Ob:=(cm h id).join
inductive Kd where
 |b
 |i (k:IntKind)
 |s
 deriving Inhabited,DecidableEq
inductive K where
 |mv
 |pick
 |alloc (zero:List Value)
 |box
 |build (zero:List Value) (places:List (Nat×Nat))
 |buildSlice (sz len:Nat) (zero:List Value) (places:List Nat)
 |load (agg:Bool) (n:Nat)
 |store (n:Nat)
 |nilCheck
 |th (op:BinOp)
 |vz (neg:Bool)
 |rS (kind:Nat) (neg:Bool)
 |zJ (neg:Bool) (ks:List Kd)
 |un (op:UnOp)
 |wl (k:IntKind)
 |EL (k:FloatKind)
 |t8
 |Jb (f:FuncId)
 |makeSlice (zero:List Value)
 |slice (str:Bool) (sz:Nat) (lo hi:Bool)
 |fieldAddr (off n:Nat)
 |field (agg:Bool) (off n:Nat)
 |indexAddr (aK:Option Nat) (sz:Nat)
 |p9
 |index (agg:Bool) (len sz:Nat)
 |extract (i:Nat)
 |len (str:Bool)
 |sC (isMax:Bool)
 |append (sz:Nat)
 |copy (sz:Nat)
 |clear (zero:List Value)
 |wK (sz:Nat)
 |GJ
 |SX (zero:List Value)
 |Q9
 |call (ro:Bool) (kG:List Bool)
 |makeMap (ka va:Bool)
 |lookup (ka:Bool) (ks:List Kd) (va:Bool) (zero:List Value) (ok:Bool)
 |mapEntry (ka:Bool) (ks:List Kd) (va:Bool) (zero:List Value)
 |entryStore (va:Bool) (m:Nat)
 |A9 (szi:Nat)
 |uY
 |tT (ka:Bool) (ks:List Kd) (va:Bool) (n:Nat)
 |tU (ka:Bool) (ks:List Kd)
 |SL (sz len:Nat) (zero:List Value) (places:List Nat)
 |YE (sz:Nat)
 |gk
 deriving Inhabited
structure mO where
 dst:Option Nat
 k:K
 args:List Operand
 guard:Option (Nat×Bool)
 deriving Inhabited
inductive CC where
 |skip
 |region (ops:List mO) (mV:List Nat)
 |drawn (ops:List mO) (dyn:List (Nat×Nat)) (mV:List Nat)
 |seq (a b:CC)
 |cond (c:Operand) (a b:CC)
 |block (id:Nat) (a:CC)
 |loop (mV:List Nat) (a:CC)
 |exit (id:Nat)
 |ret
 |gk
 deriving Inhabited
structure St where
 dE:iL
 heap:bC
 next:Nat
 gh:List C
 deriving Inhabited
inductive qX where
 |normal
 |exit (id:Nat)
 |ret
 deriving Inhabited,DecidableEq
def Vv:Nat->Option D:=fun _ => none
def cv:Value->Option TV
 |.agg cs=>if cs.toList.all ft then some (.agg (cs.toList.map fun v=>.d (.lit v)))else none
 |v=>if ft v then some (.c (.d (.lit v)))else none
def ke(e:iL):Operand->Option TV
 |.tmp t=>cm e t
 |.const v=>cv v
 |.global g=>(Vv g).map fun d=>.c (.d d)
 |.func f=>some (.c (.d (.fn f [])))
def cellsOf:TV->Option (List C)
 |.c x=>some [x]
 |.agg cs=>some cs
 |.ia _=>none
def fm:List Value->List C:=mK fun v=>.d (.lit v)
def dn:List Value->List D:=mK D.lit
def aX{α:Type}(l:List α)(off:Nat)(p:List α):List α:=l.take off++p++l.drop (off+p.length)
def li(cells:List C):List ((Nat×Nat)×TV)->Option (List C)
 |[]=>some cells
 |((off,n),v)::r=>match cellsOf v with|some cs=>if cs.length=n/\off+n<=cells.length then li (aX cells off cs) r else none|none=>none
def mX{α:Type}(sz:Nat):Nat->List α->List (List α)
 |0,_=>[]
 |n+1,l=>l.take sz::mX sz n (l.drop sz)
def KD(sz:Nat):ly->Option D
 |.nil=>some (.lit (.slice none 0 0))
 |.bD rows=>some (.sl sz rows)
 |.oA _ _=>none
def rb(sz:Nat):List ly->Option (List (List D))
 |[]=>some []
 |s::r=>match KD sz s,rb sz r with|some x,some l=>some ([x]::l)|_,_=>none
def Qc:ly->Option (Option (List (List D)))
 |.nil=>some none
 |.bD rows=>some (some rows)
 |.oA _ _=>none
def vj:List ly->Option (List (Option (List (List D))))
 |[]=>some []
 |s::r=>match Qc s,vj r with|some x,some l=>some (x::l)|_,_=>none
def nA:Option (List (List D))->ly
 |none=>.nil
 |some rows=>.bD rows
mutual
def eM(h:bC):Nat->C->Option (D×List Nat)
 |_,.d x=>some (x,[])
 |_,.cE sz id off len=>match aw h id with|some (.aK _ rows)|some (.p_ _ rows)=>if off+len<=rows.length then some (.sl sz ((rows.drop off).take len),[id])else none|some (.nst szi slots)=>if off=0/\len=slots.length then(match rb szi slots with|some rows=>some (.sl sz rows,[id])|none=>none)else none|_=>none
 |_,.ep id fy off=>
  match aw h id with
  |some (.aK _ rows)|some (.p_ _ rows)=>match rows[fy]?with|some r=>if off<=r.length then some (.pt (r.drop off),[id])else none|none=>none
  |_=>none
 |0,_=>none
 |n+1,.op id off=>
  match aw h id with
  |some (.oW cells)=>if off<=cells.length then some (.pt (cells.drop off),[id])else none
  |some (.box cells)=>match gw h n cells with|some (ds,az)=>if off<=ds.length then some (.pt (ds.drop off),id::az)else none|none=>none
  |_=>none
 |n+1,.pp f caps=>match gw h n caps with|some (ds,az)=>some (.fn f ds,az)|none=>none
 |_+1,.om _=>none
def gw(h:bC):Nat->List C->Option (List D×List Nat)
 |_,[]=>some ([],[])
 |0,_=>none
 |n+1,c::cs=>match eM h n c,gw h n cs with|some (x,a),some (xs,b)=>some (x::xs,a++b)|_,_=>none
end
def kw(h:bC)(all:List Nat)(id:Nat):Option Ob:=
 match aw h id with
 |some (.aK sz rows)=>some (.p_ sz rows)
 |some (.p_ sz rows)=>some (.p_ sz rows)
 |some (.oW cells)=>some (.oW cells)
 |some (.box cells)=>match gw h 300 cells with|some (ds,az)=>if az.all (fun i=>all.contains i)then some (.oW ds)else none|none=>none
 |some (.map _ _ _ _)=>none
 |some (.cap _ _ _)=>none
 |some (.nst szi slots)=>match rb szi slots with|some rows=>some (.p_ 1 rows)|none=>none
 |none=>none
def dJ(h:bC)(all:List Nat):List Nat->Option eS
 |[]=>some []
 |id::r=>match kw h all id,dJ h all r with|some o,some u=>some ((id,some o)::u)|_,_=>none
def dZ(h:bC):List C->Option (List D×List Nat)
 |[]=>some ([],[])
 |c::cs=>match eM h 300 c,dZ h cs with|some (x,a),some (xs,b)=>some (x::xs,a++b)|_,_=>none
mutual
def dU(h:bC):Nat->C->Option (T×List Nat×List Nat)
 |_,.d x=>some (.d x,[],[])
 |_,.cE sz id off len=>match aw h id with|some (.aK _ rows)=>if off+len<=rows.length then some (.sl sz ((rows.drop off).take len),[id],[id])else none|some (.p_ _ rows)=>if off+len<=rows.length then some (.d (.sl sz ((rows.drop off).take len)),[],[id])else none|some (.nst szi slots)=>if off=0/\len=slots.length then(match vj slots with|some rows=>some (.Ai szi rows,[id],[id])|none=>none)else none|_=>none
 |_,.om id=>match aw h id with|some (.map ka va es bP)=>some (.mp ka va es bP,[id],[id])|_=>none
 |0,_=>none
 |n+1,.op id 0=>
  match aw h id with
  |some (.box cells)=>match jc h n cells with|some (ts,bD,az)=>some (.pt ts,id::bD,id::az)|none=>none
  |some (.oW cells)=>some (.d (.pt cells),[],[id])
  |_=>none
 |_+1,_=>none
def jc(h:bC):Nat->List C->Option (List T×List Nat×List Nat)
 |_,[]=>some ([],[],[])
 |0,_=>none
 |n+1,c::cs=>match dU h n c,jc h n cs with|some (x,a,i),some (xs,b,j)=>some (x::xs,a++b,i++j)|_,_=>none
end
mutual
def kV(nxt:Nat):T->C×eS×Nat
 |.d x=>(.d x,[],nxt+1)
 |.eH=>(.d (.lit .nilFunc),[],nxt+1)
 |.sl sz rows=>(.cE sz nxt 0 rows.length,[(nxt,some (.aK sz rows))],nxt+1)
 |.Ai sz rows=>(.cE 1 nxt 0 rows.length,[(nxt,some (.nst sz (rows.map nA)))],nxt+1)
 |.mp ka va es bP=>(.om nxt,[(nxt,some (.map ka va es bP))],nxt+1)
 |.pt ts=>let(cs,u,m):=ja (nxt+1) ts;(.op nxt 0,(nxt,some (.box cs))::u,m)
def ja(nxt:Nat):List T->List C×eS×Nat
 |[]=>([],[],nxt)
 |t::ts=>let(c,u,m):=kV nxt t;let(cs,v,k):=ja m ts;(c::cs,u++v,k)
end
def xx(nxt:Nat):R->TV×eS×Nat
 |.c t=>let(c,u,m):=kV nxt t;(.c c,u,m)
 |.agg ts=>let(cs,u,m):=ja nxt ts;(.agg cs,u,m)
def il(nxt:Nat):List R->List TV×eS×Nat
 |[]=>([],[],nxt)
 |r::rs=>let(v,u,m):=xx nxt r;let(vs,w,k):=il m rs;(v::vs,u++w,k)
abbrev Call:=FuncId->List A->Option (List R×List T)
abbrev GW:=Option (TV×eS×List Nat×Nat)
def lv(v:Value):TV:=.c (.d (.lit v))
def pf(op:BinOp):Value->Value->Option Value
 |.int k a,.int k' b=>
  match op with
  |.shl=>if b<0 then none else some (.int k (k.wrap (a*2^(min b.toNat k.bits))))
  |.shr=>if b<0 then none else some (.int k (a.fdiv (2^(min b.toNat k.bits))))
  |op=>if k=k' then
   (match op with
   |.add=>some (.int k (k.wrap (a+b)))
   |.sub=>some (.int k (k.wrap (a-b)))
   |.mul=>some (.int k (k.wrap (a*b)))
   |.quo=>if b=0 then none else some (.int k (k.wrap (a.tdiv b)))
   |.rem=>if b=0 then none else some (.int k (a.tmod b))
   |.and=>some (.int k (k.wrap (bJ k.bits a&&&bJ k.bits b).toNat))
   |.or=>some (.int k (k.wrap (bJ k.bits a|||bJ k.bits b).toNat))
   |.xor=>some (.int k (k.wrap (bJ k.bits a^^^bJ k.bits b).toNat))
   |.andNot=>some (.int k (k.wrap (bJ k.bits a&&&~~~bJ k.bits b).toNat))
   |.eql=>some (.bool (a==b))
   |.neq=>some (.bool (a !=b))
   |.lss=>some (.bool (a<b))
   |.leq=>some (.bool (a<=b))
   |.gtr=>some (.bool (a>b))
   |.geq=>some (.bool (a>=b))
   |_=>none)else none
 |.float k a,.float k' b=>
  if k=k' then
   match op with|.add=>(k.format.add a b).map (.float k)|.sub=>(k.format.sub a b).map (.float k)|.mul=>(k.format.mul a b).map (.float k)|.quo=>(k.format.div a b).map (.float k)|.eql=>some (.bool (k.format.order a b==some .eq))|.neq=>some (.bool (k.format.order a b !=some .eq))|.lss=>some (.bool (k.format.order a b==some .lt))|.leq=>some (.bool (k.format.order a b==some .lt||k.format.order a b==some .eq))|.gtr=>some (.bool (k.format.order a b==some .gt))|.geq=>some (.bool (k.format.order a b==some .gt||k.format.order a b==some .eq))|_=>none
  else none
 |.string x,.string y=>match op with|.add=>if((x.size+y.size:Nat):Int)>IntKind.i64.max then none else some (.string (x++y))|.eql=>some (.bool (x.toList==y.toList))|.neq=>some (.bool !(x.toList==y.toList))|.lss=>some (.bool (Op.bytesLess x.toList y.toList))|.leq=>some (.bool (Op.bytesLess x.toList y.toList||x.toList==y.toList))|.gtr=>some (.bool !(Op.bytesLess x.toList y.toList||x.toList==y.toList))|.geq=>some (.bool !(Op.bytesLess x.toList y.toList))|_=>none
 |_,_=>none
def uO(k:FloatKind):Nat:=match k with|.f32=>0x7fc00000|.f64=>0x7ff8000000000001
def B5(op:BinOp):Value->Value->Option Value
 |.float k a,.float k' b=>
  if k=k' then
   match op with|.add=>if k.format.add a b=none then some (.float k (uO k))else none|.sub=>if k.format.sub a b=none then some (.float k (uO k))else none|.mul=>if k.format.mul a b=none then some (.float k (uO k))else none|.quo=>if k.format.div a b=none then some (.float k (uO k))else none|_=>none
  else none
 |_,_=>none
def oG(op:BinOp)(x y:Value):Option Value:=match pf op x y with|some v=>some v|none=>B5 op x y
def QS(op:UnOp):Value->Option Value
 |.bool b=>match op with|.not=>some (.bool !b)|_=>none
 |.int k n=>match op with|.neg=>some (.int k (k.wrap (0-n)))|.xor=>some (.int k (k.wrap (bJ k.bits (if k.signed then-1 else k.max)^^^bJ k.bits n).toNat))|_=>none
 |.float k b=>match op with|.neg=>some (.float k (Op.negFloat k b))|_=>none
 |_=>none
def C3:Kd->Value->Value->Option Bool
 |.i q,.int k a,.int k' b=>if k=q/\k'=q then some (a==b)else none
 |.b,.bool a,.bool b=>some (a==b)
 |.s,.string a,.string b=>some (a==b)
 |_,_,_=>none
def gB:List Kd->List Value->List Value->Option Bool
 |[],[],[]=>some true
 |k::ks,x::xs,y::ys=>match C3 k x y,gB ks xs ys with|some a,some b=>some (a&&b)|_,_=>none
 |_,_,_=>none
def mn:List C->Option (List Value)
 |[]=>some []
 |.d (.lit v)::r=>match mn r with|some l=>some (v::l)|none=>none
 |_=>none
def C0(isMax:Bool):Value->Value->Option Value
 |.int k x,.int k' y=>if k=k' then some (.int k (if isMax then(if y>x then y else x)else(if y<x then y else x)))else none
 |.float k x,.float k' y=>
  if k=k' then match k.format.order x y with|none=>some (.float k (uO k))|some .lt=>some (.float k (if isMax then y else x))|some .gt=>some (.float k (if isMax then x else y))|some .eq=>some (.float k (if isMax then(if(k.decode x).neg then y else x)else(if(k.decode x).neg then x else y)))
  else none
 |_,_=>none
def Lr(isMax:Bool):Value->List (Option TV)->Option Value
 |x,[]=>some x
 |x,some (.c (.d (.lit y)))::r=>match C0 isMax x y with|some z=>Lr isMax z r|none=>none
 |_,_=>none
def D8(agg:Bool)(n:Nat)(cells:List C):Option TV:=if agg then(if n<=cells.length then some (.agg (cells.take n))else none)else match cells with|x::_=>some (.c x)|[]=>none
def Qo(agg:Bool)(n:Nat)(cells:List D):Option TV:=if agg then(if n<=cells.length then some (.agg ((cells.take n).map .d))else none)else match cells with|x::_=>some (.c (.d x))|[]=>none
def iv(agg:Bool)(n:Nat)(p:C)(h:bC):Option (TV×List Nat):=
 match p with
 |.d (.pt cells)=>match Qo agg n cells with|some v=>some (v,[])|none=>none
 |.ep id fy off=>
  match aw h id with
  |some (.aK _ rows)|some (.p_ _ rows)=>
   match rows[fy]?with
   |some r=>match Qo agg n (r.drop off)with|some v=>some (v,[id])|none=>none
   |none=>none
  |_=>none
 |.op id off=>
  match aw h id with
  |some (.box cells)=>match D8 agg n (cells.drop off)with|some v=>some (v,[id])|none=>none
  |some (.oW cells)=>match Qo agg n (cells.drop off)with|some v=>some (v,[id])|none=>none
  |_=>none
 |_=>none
def sI(id fy sz:Nat)(slots:List ly)(cs:List C)(h:bC):Option (eS×List Nat):=
 match cs with
 |[.d (.lit (.slice none 0 0))]=>some ([(id,some (.nst sz (slots.set fy .nil)))],[id])
 |[.cE sz' id2 0 len]=>match aw h id2 with|some (.aK _ rows)=>if sz'=sz/\len=rows.length/\id2≠id then some ([(id,some (.nst sz (slots.set fy (.bD rows)))),(id2,none)],[id,id2])else none|_=>none
 |_=>none
def lY(agg:Bool)(n:Nat)(p:C)(h:bC)(nxt:Nat):GW:=
 match p with
 |.ep id fy 0=>
  match aw h id with
  |some (.nst sz slots)=>if agg=false/\n=1 then
   (match slots[fy]?with
   |some .nil=>some (.c (.d (.lit (.slice none 0 0))),[],[id],nxt)
   |some (.bD rows)=>some (.c (.cE sz nxt 0 rows.length),[(nxt,some (.aK sz rows)),(id,some (.nst sz (slots.set fy (.oA nxt rows.length))))],[id],nxt+1)
   |_=>none)else none
  |_=>none
 |_=>none
def mL(n:Nat)(p:C)(v:TV)(h:bC):Option (eS×List Nat):=
 match cellsOf v with
 |none=>none
 |some cs=>
  if cs.length=n then
   match p with
   |.ep id fy off=>
    match aw h id with
    |some (.aK sz rows)=>
     match rows[fy]?,dZ h cs with
     |some r,some (ds,az)=>match dJ h az az with|some u=>if off+n<=r.length/\az.contains id=false then some ((id,some (.aK sz (rows.set fy (aX r off ds))))::u,id::az)else none|none=>none
     |_,_=>none
    |some (.nst sz slots)=>if off=0/\n=1/\fy<slots.length then sI id fy sz slots cs h else none
    |_=>none
   |.op id off=>match aw h id with|some (.box cells)=>if off+n<=cells.length then some ([(id,some (.box (aX cells off cs)))],[id])else none|_=>none
   |_=>none
  else none
def cG:Option TV->Option Int
 |some (.c (.d (.lit (.int _ n))))=>some n
 |_=>none
def cZ(str:Bool)(sz:Nat)(x:C)(lo hi:Option Int):Option C:=
 if str then match x with
 |.d (.lit (.string s))=>
  let h:=hi.getD s.size;let l:=lo.getD 0
  if 0<=l/\l<=h/\h<=s.size then some (.d (.lit (.string (s.extract l.toNat h.toNat))))else none
 |_=>none
 else match x with
 |.d (.lit (.slice none 0 0))=>if 0<=lo.getD 0/\lo.getD 0<=hi.getD 0/\hi.getD 0<=0 then some x else none
 |.cE sz' id off len=>
  let h:=hi.getD len;let l:=lo.getD 0
  if sz'=sz/\0<=l/\l<=h/\h<=len then some (.cE sz id (off+l.toNat) (h.toNat-l.toNat))else none
 |.d (.sl sz' rows)=>
  let h:=hi.getD rows.length;let l:=lo.getD 0
  if sz'=sz/\0<=l/\l<=h/\h<=rows.length then some (.d (.sl sz ((rows.drop l.toNat).take (h.toNat-l.toNat))))else none
 |_=>none
def jX(str:Bool)(sz:Nat)(x:C)(l u:Int)(h:bC):Option (C×List Nat):=
 match str,x with
 |false,.cE sz' id off _=>match aw h id with|some (.aK _ rows)=>if sz'=sz/\0<=l/\l<=u/\off+u.toNat<=rows.length then some (.cE sz id (off+l.toNat) (u.toNat-l.toNat),[id])else none|some (.cap _ _ cp)=>if sz'=sz/\0<=l/\l<=u/\off+u.toNat<=cp then some (.cE sz id (off+l.toNat) (u.toNat-l.toNat),[id])else none|_=>none
 |_,_=>none
def Bh(sz:Nat)(x:C)(l u m:Int)(nxt:Nat):Option C:=match x with|.cE sz' _ _ len=>if sz'=sz/\0<=l/\l<=u/\u<=m/\m<=len then some (.cE sz nxt 0 (u.toNat-l.toNat))else none|_=>none
def mM(zero:List Value)(x:C)(h:bC):Option (eS×List Nat):=
 match x with
 |.cE sz id off len=>match aw h id with|some (.aK _ rows)=>if sz=zero.length/\off+len<=rows.length then some ([(id,some (.aK sz (aX rows off (aA len (dn zero)))))],[id])else none|_=>none
 |_=>none
def kJ(off n:Nat):C->Option C
 |.op id o=>some (.op id (o+off))
 |.ep id r o=>some (.ep id r (o+off))
 |.d (.pt cells)=>if off+n<=cells.length then some (.d (.pt ((cells.drop off).take n)))else none
 |_=>none
def je(aK:Option Nat)(sz:Nat)(x:C)(i:Int):Option C:=
 match aK with
 |none=>match x with|.cE sz' id off len=>if 0<=i/\i<len/\sz'=sz then some (.ep id (off+i.toNat) 0)else none|.d (.sl sz' rows)=>if 0<=i/\sz'=sz then(match rows[i.toNat]?with|some r=>some (.d (.pt r))|none=>none)else none|_=>none
 |some n=>
  if 0<=i/\i<n then
   match x with|.op id o=>some (.op id (o+i.toNat*sz))|.ep id r o=>some (.ep id r (o+i.toNat*sz))|.d (.pt cells)=>if i.toNat*sz+sz<=cells.length then some (.d (.pt ((cells.drop (i.toNat*sz)).take sz)))else none|_=>none
  else none
def u5:Bool->C->Option Int
 |true,.d (.lit (.string s))=>some s.size
 |false,.d (.lit (.slice none 0 0))=>some 0
 |false,.cE _ _ _ len=>some len
 |false,.d (.sl _ rows)=>some rows.length
 |_,_=>none
def gF(sz:Nat)(h:bC):C->Option (List (List D)×List Nat)
 |.d (.lit (.slice none 0 0))=>some ([],[])
 |.d (.sl sz' rows)=>if sz'=sz then some (rows,[])else none
 |.cE sz' id off len=>match aw h id with|some (.aK _ rows)|some (.p_ _ rows)=>if sz'=sz/\off+len<=rows.length then some ((rows.drop off).take len,[id])else none|_=>none
 |_=>none
def jI(sz:Nat)(s x:C)(h:bC)(nxt:Nat):GW:=
 match gF sz h x with
 |none=>none
 |some (new,az)=>
  match s with
  |.d (.lit (.slice none 0 0))=>
   if new.length<=te then
    match new with|[]=>some (.c s,[],az,nxt)|new=>some (.c (.cE sz nxt 0 new.length),[(nxt,some (.aK sz new))],az,nxt+1)
   else none
  |.cE sz' id off len=>
   match aw h id with
   |some (.aK _ rows)=>
    if sz'=sz/\off+len<=rows.length/\len+new.length<=te then
     some (.c (.cE sz nxt 0 (len+new.length)),[(id,none),(nxt,some (.aK sz ((rows.drop off).take len++new++rows.drop (off+len+new.length))))],id::az,nxt+1)
    else none
   |_=>none
  |_=>none
def lj(sz:Nat)(dst src:C)(h:bC):Option (Int×eS×List Nat):=
 match dst,src with
 |.cE sz' id off len,.cE sz2 id2 off2 len2=>
  match aw h id,aw h id2 with
  |some (.cap _ rows cp),some (.aK _ rows2)=>
   if sz'=sz/\sz2=sz/\off<=rows.length/\off2+min len2 len<=rows2.length then
    some ((min len2 len:Nat),[(id,some (.cap sz (aX rows off ((rows2.drop off2).take (min len2 len))) cp))],[id,id2])
   else none
  |some (.cap _ rows cp),some (.cap _ rows2 _)=>
   if sz'=sz/\sz2=sz/\off<=rows.length/\off2+min len2 len<=rows2.length then
    some ((min len2 len:Nat),[(id,some (.cap sz (aX rows off ((rows2.drop off2).take (min len2 len))) cp))],[id,id2])
   else none
  |_,_=>none
 |_,_=>none
def xJ(zero:List Value)(x:C)(k:Int)(h:bC)(nxt:Nat):GW:=
 match x with
 |.cE sz' id off len=>
  match aw h id with
  |some (.cap _ rows cp)=>
   if sz'=zero.length/\0<=k/\len+k.toNat<=te/\off+len<=rows.length/\cp<off+len+k.toNat then
    some (.c (.cE zero.length nxt 0 (len+k.toNat)),[(nxt,some (.aK zero.length ((rows.drop off).take len++aA k.toNat (dn zero))))],[id],nxt+1)
   else none
  |_=>none
 |_=>none
def wi(x:C)(h:bC):Option (Nat×List Nat):=
 match x with
 |.cE _ id off _=>match aw h id with|some (.cap _ _ cp)=>some (cp-off,[id])|_=>none
 |_=>none
def ZQ(x y:C)(h:bC):Option (List Nat):=
 match x,y with
 |.cE _ a _ _,.cE _ b _ _=>match aw h a,aw h b with|some (.aK _ _),some (.cap _ _ cp)=>if a≠b/\0<cp then some [a,b]else none|_,_=>none
 |_,_=>none
def jY(sz:Nat)(dst src:C)(h:bC):Option (Int×eS×List Nat):=
 match gF sz h src,dst with
 |some (_,az),.d (.lit (.slice none 0 0))=>some (0,[],az)
 |some (new,az),.cE sz' id off len=>
  match aw h id with
  |some (.aK _ rows)=>
   if sz'=sz/\off+len<=rows.length then
    some ((min new.length len:Nat),[(id,some (.aK sz (aX rows off (new.take len))))],id::az)
   else none
  |_=>none
 |_,_=>none
def gJ(h:bC):List TV->List Bool->Option (List A×List Nat×List (C×List Nat×List Nat))
 |[],_=>some ([],[],[])
 |v::vs,ms=>
  match gJ h vs ms.tail with
  |none=>none
  |some (as,az,lent)=>
   if ms.headD false then
    match v with
    |.c c=>match dU h 300 c with|some (t,bD,rd)=>some (.mt t::as,az,(c,bD,rd)::lent)|none=>none
    |_=>none
   else match v with
    |.c c=>match eM h 300 c with|some (x,i)=>some (.d x::as,i++az,lent)|none=>none
    |.agg cs=>match dZ h cs with|some (xs,i)=>some (.agg xs::as,i++az,lent)|none=>none
    |.ia _=>none
def eF(nxt:Nat):List (C×List Nat×List Nat)->List T->Option (eS×Nat)
 |[],[]=>some ([],nxt)
 |(_,[],_)::r,.d _::ts=>eF nxt r ts
 |(.op id 0,bD,_)::r,.pt ts'::ts=>match eF (ja nxt ts').2.2 r ts with|some (w,k)=>if bD.contains id then some ((id,some (.box (ja nxt ts').1))::(ja nxt ts').2.1++bD.map (fun i=>(i,none))++w,k)else none|none=>none
 |(.cE sz id 0 len,bD,_)::r,.sl sz' rows::ts=>
  if rows.length=len/\sz'=sz/\bD=[id]then
   match eF nxt r ts with|some (w,k)=>some ((id,some (.aK sz rows))::w,k)|none=>none
  else none
 |(.cE sz id 0 len,bD,_)::r,.Ai szi rows::ts=>
  if rows.length=len/\sz=1/\bD=[id]then
   match eF nxt r ts with|some (w,k)=>some ((id,some (.nst szi (rows.map nA)))::w,k)|none=>none
  else none
 |(_,bD,_)::r,.eH::ts=>match eF nxt r ts with|some (w,k)=>some (bD.map (fun i=>(i,none))++w,k)|none=>none
 |_,_=>none
def wZ:R->Bool
 |.c (.d (.lit _))=>true
 |.agg ts=>ts.all fun|.d (.lit _)=>true|_=>false
 |_=>false
def FV:T->Bool
 |.d (.lit _)=>true
 |.sl _ rows=>rows.all fun r=>r.all fun|.lit _=>true|_=>false
 |.eH=>true
 |_=>false
def tL:List TV->TV
 |[v]=>v
 |vs=>.ia vs
def dY{α:Type}:List (Option α)->Option (List α)
 |[]=>some []
 |some x::r=>match dY r with|some xs=>some (x::xs)|none=>none
 |none::_=>none
def eY(h:bC):List (C×List Nat×List Nat)->Bool
 |[]=>true
 |(.cE _ id off len,_)::r=>(match aw h id with|some (.aK _ rows)=>off==0&&len==rows.length|some (.nst _ slots)=>off==0&&len==slots.length|_=>false)&&eY h r
 |_::r=>eY h r
def vy(call:Call)(ro:Bool)(kG:List Bool)(f:Option TV)(vs:List (Option TV))(h:bC)(nxt:Nat):GW:=
 match(match f with|some (.c (.d (.fn f caps)))=>some (f,caps.map C.d)|some (.c (.pp f caps))=>some (f,caps)|_=>none),dY vs with
 |some (f,caps),some vs=>
  match gJ h (vs++caps.map TV.c) kG with
  |none=>none
  |some (as,az,lent)=>
   if eY h lent/\(lent.flatMap (·.2.1)).Nodup/\(lent.flatMap (·.2.1)).all (fun i=>!az.contains i)then
    match call f as with
    |none=>none
    |some (rs,outs)=>
     if ro then
      if rs.all wZ/\outs.all FV then
       match eF nxt lent outs with
       |none=>none
       |some (bu,m)=>
        let(vs,u,k):=il m rs
        some (tL vs,u++bu,az++lent.flatMap (·.2.2),k)
      else none
     else
      match dJ h az az with
      |none=>none
      |some fu=>
       match eF nxt lent outs with
       |none=>none
       |some (bu,m)=>
        let(vs,u,k):=il m rs
        some (tL vs,u++bu++fu,az++lent.flatMap (·.2.2),k)
   else none
 |_,_=>none
def qQ:Nat->C->Option Bool
 |0,.d (.lit (.slice none 0 0))=>some true
 |0,.d (.sl _ _)|0,.cE _ _ _ _=>some false
 |1,.d (.lit (.pointer none))=>some true
 |1,.d (.pt _)|1,.ep _ _ _|1,.op _ _=>some false
 |2,.d (.lit .nilFunc)=>some true
 |2,.d (.fn _ _)|2,.pp _ _=>some false
 |_,_=>none
def zN:List C->Option (List D)
 |[]=>some []
 |.d x::r=>match zN r with|some l=>some (x::l)|none=>none
 |_=>none
abbrev rY:=List Value×List D×Nat
def mF(ks:List Kd)(key:List Value):List rY->Nat->Option (Option Nat)
 |[],_=>some none
 |e::r,i=>match gB ks key e.1 with|some true=>some (some i)|some false=>mF ks key r (i+1)|none=>none
def pM(va:Bool)(ds:List D):Option TV:=if va then some (.agg (ds.map .d))else match ds with|[x]=>some (.c (.d x))|_=>none
def Jj:Kd->Value->Bool
 |.i q,.int k _=>decide (k=q)
 |.b,.bool _=>true
 |.s,.string _=>true
 |_,_=>false
def yn:List Kd->List Value->Bool
 |[],[]=>true
 |k::ks,x::xs=>Jj k x&&yn ks xs
 |_,_=>false
def nh(ka:Bool)(ks:List Kd):TV->Option (List Value)
 |.agg cs=>if ka=true/\cs.length=ks.length then(match mn cs with|some l=>if yn ks l=true then some l else none|none=>none)else none
 |.c x=>if ka=false/\ks.length=1 then(match mn [x]with|some l=>if yn ks l=true then some l else none|none=>none)else none
 |.ia _=>none
def iQ(ka:Bool)(ks:List Kd)(va:Bool)(zero:List Value)(ok:Bool)(m:C)(k:TV)(h:bC):Option (TV×List Nat):=
 match m,nh ka ks k with
 |.d (.lit (.map none)),some _=>match pM va (dn zero)with|some v=>some (if ok then .ia [v,lv (.bool false)]else v,[])|none=>none
 |.om id,some key=>
  match aw h id with
  |some (.map ka' va' es _)=>
   if ka'=ka/\va'=va then
    match mF ks key es 0 with
    |some (some i)=>match pM va (es.getD i default).2.1 with|some v=>some (if ok then .ia [v,lv (.bool true)]else v,[id])|none=>none
    |some none=>match pM va (dn zero)with|some v=>some (if ok then .ia [v,lv (.bool false)]else v,[id])|none=>none
    |none=>none
   else none
  |_=>none
 |_,_=>none
def nN(ka:Bool)(ks:List Kd)(va:Bool)(zero:List Value)(m:C)(k:TV)(h:bC):Option (TV×eS×List Nat):=
 match m,nh ka ks k with
 |.om id,some key=>
  match aw h id with
  |some (.map ka' va' es bP)=>
   if ka'=ka/\va'=va then
    match mF ks key es 0 with
    |some (some i)=>match pM va (es.getD i default).2.1 with|some v=>some (.ia [v,lv (.int .i64 (es.getD i default).2.2)],[(id,some (.map ka va es bP))],[id])|none=>none
    |some none=>match pM va (dn zero)with|some v=>some (.ia [v,lv (.int .i64 bP)],[(id,some (.map ka va (es++[(key,dn zero,bP)]) (bP+1)))],[id])|none=>none
    |none=>none
   else none
  |_=>none
 |_,_=>none
def qN:TV->Bool
 |.agg _=>true
 |_=>false
def nO(va:Bool)(n:Nat)(m:C)(st:Option TV)(x:TV)(h:bC):Option (eS×List Nat):=
 match m,cG st,(cellsOf x).bind zN with
 |.om id,some s,some ds=>
  match aw h id with
  |some (.map ka va' es bP)=>
   if va'=va/\ds.length=n/\qN x=va then
    match es.findIdx? (fun e=>decide ((e.2.2:Int)=s))with|some i=>some ([(id,some (.map ka va (es.set i ((es.getD i default).1,ds,(es.getD i default).2.2)) bP))],[id])|none=>none
   else none
  |_=>none
 |_,_,_=>none
def sJ(ka:Bool)(ks:List Kd)(va:Bool)(n:Nat)(m:C)(k x:TV)(h:bC):Option (eS×List Nat):=
 match m,nh ka ks k,cellsOf x with
 |.om id,some key,some cs=>
  match dZ h cs with
  |some (ds,az)=>
   match dJ h az az with
   |some fu=>
    match aw h id with
    |some (.map ka' va' es bP)=>
     if ka'=ka/\va'=va/\ds.length=n/\qN x=va/\az.contains id=false then
      match mF ks key es 0 with|some (some i)=>some ((id,some (.map ka va (es.set i ((es.getD i default).1,ds,(es.getD i default).2.2)) bP))::fu,id::az)|some none=>some ((id,some (.map ka va (es++[(key,ds,bP)]) (bP+1)))::fu,id::az)|none=>none
     else none
    |_=>none
   |none=>none
  |none=>none
 |_,_,_=>none
def sK(ka:Bool)(ks:List Kd)(m:C)(k:TV)(h:bC):Option (eS×List Nat):=
 match m,nh ka ks k with
 |.d (.lit (.map none)),some _=>some ([],[])
 |.om id,some key=>
  match aw h id with
  |some (.map ka' va es bP)=>
   if ka'=ka then
    match mF ks key es 0 with|some (some i)=>some ([(id,some (.map ka va (es.eraseIdx i) bP))],[id])|some none=>some ([(id,some (.map ka va es bP))],[id])|none=>none
   else none
  |_=>none
 |_,_=>none
def Mo(sz:Nat)(x:C)(i:Int):Option C:=match x with|.cE sz' id off len=>if 0<=i/\i<len/\sz'=sz then some (.op id ((off+i.toNat)*sz))else none|_=>none
def cC(call:Call)(k:K)(vs:List (Option TV))(h:bC)(nxt:Nat):GW:=
 match k,vs with
 |.mv,[some x]=>some (x,[],[],nxt)
 |.pick,[some (.c (.d (.lit (.bool c)))),a,b]=>match(if c then a else b)with|some v=>some (v,[],[],nxt)|none=>none
 |.alloc zero,[]=>some (.c (.op nxt 0),[(nxt,some (.box (fm zero)))],[],nxt+1)
 |.box,[some x]=>match cellsOf x with|some cs=>some (.c (.op nxt 0),[(nxt,some (.box cs))],[],nxt+1)|none=>none
 |.build zero places,vs=>
  match dY vs with
  |some xs=>match li (fm zero) (places.zip xs)with|some cs=>some (.agg cs,[],[],nxt)|none=>none
  |none=>none
 |.buildSlice sz len zero places,vs=>
  match dY vs with
  |some xs=>
   match li (fm zero) ((places.map fun i=>(i*sz,sz)).zip xs)with
   |some cs=>
    match dZ h cs with
    |some (ds,az)=>match dJ h az az with|some u=>some (.c (.cE sz nxt 0 len),(nxt,some (.aK sz (mX sz len ds)))::u,az,nxt+1)|none=>none
    |none=>none
   |none=>none
  |none=>none
 |.load agg n,[some (.c p)]=>match iv agg n p h with|some (v,az)=>some (v,[],az,nxt)|none=>none
 |.uY,[some (.c p)]=>match iv false 1 p h with|some (v,az)=>some (v,[],az,nxt)|none=>lY false 1 p h nxt
 |.SL sz len zero places,vs=>
  match dY vs with
  |some xs=>match li (fm zero) ((places.map fun i=>(i*sz,sz)).zip xs)with|some cs=>some (.c (.cE sz nxt 0 len),[(nxt,some (.box cs))],[],nxt+1)|none=>none
  |none=>none
 |.YE sz,[some (.c x),i]=>
  match cG i with
  |some i=>match Mo sz x i with|some y=>some (.c y,[],[],nxt)|none=>none
  |none=>none
 |.store n,[some (.c p),some v]=>match mL n p v h with|some (u,az)=>some (.ia [],u,az,nxt)|none=>none
 |.nilCheck,[some (.c x)]=>match x with|.d (.pt _)|.d (.fn _ _)|.ep _ _ _|.op _ _|.pp _ _=>some (.c x,[],[],nxt)|_=>none
 |.th op,[some (.c (.d (.lit x))),some (.c (.d (.lit y)))]=>match oG op x y with|some v=>some (lv v,[],[],nxt)|none=>none
 |.vz neg,[some (.c (.d (.lit (.bool x)))),some (.c (.d (.lit (.bool y))))]=>some (lv (.bool (if neg then !(x==y)else x==y)),[],[],nxt)
 |.rS kind neg,[some (.c x)]=>match qQ kind x with|some b=>some (lv (.bool (if neg then !b else b)),[],[],nxt)|none=>none
 |.zJ neg ks,[some (.agg xs),some (.agg ys)]=>
  match mn xs,mn ys with
  |some xs,some ys=>match gB ks xs ys with|some b=>some (lv (.bool (if neg then !b else b)),[],[],nxt)|none=>none
  |_,_=>none
 |.un op,[some (.c (.d (.lit x)))]=>match QS op x with|some v=>some (lv v,[],[],nxt)|none=>none
 |.wl k,[some (.c (.d (.lit (.int _ n))))]=>some (lv (.int k (k.wrap n)),[],[],nxt)
 |.EL k,[some (.c (.d (.lit (.int _ n))))]=>some (lv (.float k (k.nearest n)),[],[],nxt)
 |.t8,[some (.c (.d (.lit (.string s))))]=>some (lv (.string s),[],[],nxt)
 |.Jb f,vs=>
  match dY vs with
  |some xs=>match dY (xs.map fun|.c c=>some c|_=>none)with|some cs=>some (.c (.pp f cs),[],[],nxt)|none=>none
  |none=>none
 |.makeSlice zero,[l,c]=>
  match cG l,cG c with
  |some l,some c=>
   if 0<=l/\l<=c/\c<=te then
    some (.c (.cE zero.length nxt 0 l.toNat),[(nxt,some (.aK zero.length (aA l.toNat (dn zero))))],[],nxt+1)
   else none
  |_,_=>none
 |.A9 szi,[l,c]=>match cG l,cG c with|some l,some c=>if 0<=l/\l<=c/\c<=te then some (.c (.cE 1 nxt 0 l.toNat),[(nxt,some (.nst szi (aA l.toNat .nil)))],[],nxt+1)else none|_,_=>none
 |.slice str sz lo hi,some (.c x)::r=>
  match lo,hi,r with
  |false,false,[]=>match cZ str sz x none none with|some y=>some (.c y,[],[],nxt)|none=>none
  |true,false,[l]=>match cG l with|some l=>(match cZ str sz x (some l) none with|some y=>some (.c y,[],[],nxt)|none=>none)|none=>none
  |false,true,[u]=>match cG u with|some u=>(match cZ str sz x none (some u)with|some y=>some (.c y,[],[],nxt)|none=>(match jX str sz x 0 u h with|some (y,az)=>some (.c y,[],az,nxt)|none=>none))|none=>none
  |true,true,[l,u]=>
   match cG l,cG u with
   |some l,some u=>match cZ str sz x (some l) (some u)with|some y=>some (.c y,[],[],nxt)|none=>(match jX str sz x l u h with|some (y,az)=>some (.c y,[],az,nxt)|none=>none)
   |_,_=>none
  |_,_,_=>none
 |.wK sz,[some (.c x),l,u,m]=>
  match cG l,cG u,cG m with
  |some l,some u,some m=>match Bh sz x l u m nxt with|some y=>some (.c y,[],[],nxt+1)|none=>none
  |_,_,_=>none
 |.clear zero,[some (.c x)]=>match mM zero x h with|some (u,az)=>some (.ia [],u,az,nxt)|none=>none
 |.fieldAddr off n,[some (.c x)]=>match kJ off n x with|some y=>some (.c y,[],[],nxt)|none=>none
 |.field agg off n,[some (.agg cs)]=>match D8 agg n (cs.drop off)with|some v=>some (v,[],[],nxt)|none=>none
 |.indexAddr aK sz,[some (.c x),i]=>
  match cG i with
  |some i=>match je aK sz x i with|some y=>some (.c y,[],[],nxt)|none=>none
  |none=>none
 |.p9,[some (.c (.d (.lit (.string s)))),i]=>
  match cG i with
  |some i=>match(if 0<=i then s[i.toNat]?else none)with|some b=>some (lv (.int .u8 b.toNat),[],[],nxt)|none=>none
  |none=>none
 |.index agg len sz,[some (.agg cs),i]=>
  match cG i with
  |some i=>if 0<=i/\i<len then match D8 agg sz (cs.drop (i.toNat*sz))with|some v=>some (v,[],[],nxt)|none=>none else none
  |none=>none
 |.extract i,[some (.ia xs)]=>match xs[i]?with|some v=>some (v,[],[],nxt)|none=>none
 |.len str,[some (.c x)]=>match u5 str x with|some n=>some (lv (.int .i64 n),[],[],nxt)|none=>none
 |.sC m,some (.c (.d (.lit x)))::r=>match Lr m x r with|some v=>some (lv v,[],[],nxt)|none=>none
 |.append sz,[some (.c s),some (.c x)]=>jI sz s x h nxt
 |.copy sz,[some (.c d),some (.c s)]=>match jY sz d s h with|some (i,u,az)=>some (lv (.int .i64 i),u,az,nxt)|none=>(match lj sz d s h with|some (i,u,az)=>some (lv (.int .i64 i),u,az,nxt)|none=>none)
 |.GJ,[some (.c x)]=>match wi x h with|some (n,az)=>some (lv (.int .i64 n),[],az,nxt)|none=>none
 |.SX zero,[some (.c x),some (.c (.d (.lit (.int _ k))))]=>xJ zero x k h nxt
 |.Q9,[some (.c x),some (.c y)]=>match ZQ x y h with|some az=>some (lv (.bool false),[],az,nxt)|none=>none
 |.call ro kG,f::vs=>vy call ro kG f vs h nxt
 |.makeMap ka va,[]=>some (.c (.om nxt),[(nxt,some (.map ka va [] 0))],[],nxt+1)
 |.lookup ka ks va zero ok,[some (.c m),some k]=>match iQ ka ks va zero ok m k h with|some (v,az)=>some (v,[],az,nxt)|none=>none
 |.mapEntry ka ks va zero,[some (.c m),some k]=>match nN ka ks va zero m k h with|some (v,u,az)=>some (v,u,az,nxt)|none=>none
 |.tT ka ks va n,[some (.c m),some k,some x]=>match sJ ka ks va n m k x h with|some (u,az)=>some (.ia [],u,az,nxt)|none=>none
 |.tU ka ks,[some (.c m),some k]=>match sK ka ks m k h with|some (u,az)=>some (.ia [],u,az,nxt)|none=>none
 |.entryStore va n,[some (.c m),s,some x]=>match nO va n m s x h with|some (u,az)=>some (.ia [],u,az,nxt)|none=>none
 |_,_=>none
def j8(e:iL):Option (Nat×Bool)->Option Bool
 |none=>some true
 |some (t,b)=>match cm e t with|some (.c (.d (.lit (.bool x))))=>some (x==b)|some (.ia [])=>some false|_=>none
def put(e:iL)(dst:Option Nat)(v:TV):iL:=match dst with|some d=>(d,v)::e|none=>e
def drop(e:iL)(dst:Option Nat):iL:=put e dst (.ia [])
def rQ(call:Call):List mO->St->Option St
 |[],s=>some s
 |o::r,s=>
  match j8 s.dE o.guard with
  |some true=>match cC call o.k (o.args.map (ke s.dE)) s.heap s.next with|some (v,u,_,n)=>rQ call r ⟨put s.dE o.dst v,u++s.heap,n,s.gh⟩|none=>none
  |some false=>rQ call r ⟨drop s.dE o.dst,s.heap,s.next,s.gh⟩
  |none=>none
def aD:Nat:=1000000
def jH(calls:Nat->Call)(aJ:Nat):List mO->Nat->iL->bC->Option (iL×bC×List (List Nat×List Nat))
 |[],_,e,h=>some (e,h,[])
 |o::r,i,e,h=>
  match j8 e o.guard with
  |some true=>
   match cC (calls i) o.k (o.args.map (ke e)) h (aJ+aD*i)with
   |some (v,u,az,n)=>
    if n<=aJ+aD*(i+1)then
     match jH calls aJ r (i+1) (put e o.dst v) (u++h)with|some (e,h,tr)=>some (e,h,(az,u.map (·.1))::tr)|none=>none
    else none
   |none=>none
  |some false=>match jH calls aJ r (i+1) (drop e o.dst) h with|some (e,h,tr)=>some (e,h,([],[])::tr)|none=>none
  |none=>none
def mH(a b:List Nat×List Nat):Bool:=a.2.all (fun i=>!b.1.contains i&&!b.2.contains i)&&b.2.all (fun i=>!a.1.contains i)
def FA(tr:List (List Nat×List Nat))(i j:Nat):Bool:=
 match tr[i]?,tr[j]?with
 |some a,some b=>mH a b||(match a with|([id],[])=>((tr.take j).drop (i+1)).all (fun x=>!x.2.contains id)|_=>false)
 |_,_=>true
def zM(tr:List (List Nat×List Nat))(dyn:List (Nat×Nat)):Bool:=dyn.all fun(i,j)=>if 1000<=j then FA tr i (j-1000)else match tr[i]?,tr[j]?with|some a,some b=>mH a b|_,_=>true
def fo:C->List Nat
 |.d _=>[]
 |.cE _ id _ _|.ep id _ _|.op id _|.om id=>[id]
 |.pp _ caps=>nu caps
where nu:List C->List Nat
 |[]=>[]
 |c::r=>fo c++nu r
def mE:TV->List Nat
 |.c x=>fo x
 |.agg cs=>fo.nu cs
 |.ia xs=>AA xs
where AA:List TV->List Nat
 |[]=>[]
 |x::r=>mE x++AA r
inductive RV where
 |tmp (t:Nat)
 |cell (t:Nat) (agg:Bool) (n:Nat)
 deriving Inhabited
def enter:List A->Nat->Nat->iL×bC×Nat×List C
 |[],_,n=>([],[],n,[])
 |.d x::r,i,n=>let(e,h,m,l):=enter r (i+1) n;((i,.c (.d x))::e,h,m,l)
 |.agg xs::r,i,n=>let(e,h,m,l):=enter r (i+1) n;((i,.agg (xs.map .d))::e,h,m,l)
 |.mt t::r,i,n=>let(c,u,k):=kV n t;let(e,h,m,l):=enter r (i+1) k;((i,.c c)::e,u++h,m,c::l)
def tM(s:St):RV->Option TV
 |.tmp t=>cm s.dE t
 |.cell t agg n=>match cm s.dE t with|some (.c p)=>(match iv agg n p s.heap with|some (v,_)=>some v|none=>none)|_=>none
def qH(h:bC):TV->Option (R×List Nat)
 |.c c=>match dU h 300 c with|some (t,az,_)=>some (.c t,az)|none=>none
 |.agg cs=>match jc h 300 cs with|some (ts,az,_)=>some (.agg ts,az)|none=>none
 |.ia _=>none
def ri(h:bC):List TV->Option (List R×List Nat)
 |[]=>some ([],[])
 |v::vs=>match qH h v,ri h vs with|some (r,a),some (rs,b)=>some (r::rs,a++b)|_,_=>none
def zg(h:bC):List C->Option (List T×List Nat)
 |[]=>some ([],[])
 |c::cs=>match dU h 300 c,zg h cs with|some (r,a,_),some (rs,b)=>some (r::rs,a++b)|_,_=>none
def LG(kW:List RV)(s:St):Option (List R×List T):=
 match dY (kW.map (tM s))with
 |none=>none
 |some vs=>match ri s.heap vs,zg s.heap s.gh with|some (rs,a),some (ts,b)=>if(a++b).Nodup then some (rs,ts)else none|_,_=>none
structure Fn where
 np:Nat
 ntmps:Nat
 kW:List RV
 body:CC
 deriving Inhabited
def xT(k:FloatKind)(n:Nat):Prop:=(k.format.read n).isNaN=true
inductive RD(S:Nat->Prop)(w:World):D->Value->Prop
 |lit {v:Value} (h:ft v=true):RD S w (.lit v) v
 |nan {k:FloatKind} {n m:Nat} (hn:xT k n) (hm:xT k m):RD S w (.lit (.float k n)) (.float k m)
 |ex {k:FloatKind} {n:Nat}:RD S w (.lit (.complex k n 0)) (.float k n)
 |sl {sz:Nat} {rows:List (List D)} {b off cap:Nat} (f:Nat->Nat->Value) (hb:S b) (hsz:0<sz) (hcap:rows.length<=cap)
   (hrow:∀(i:Nat)(r:List D),rows[i]?=some r->r.length=sz)
   (hcell:∀(i:Nat)(r:List D),rows[i]?=some r->∀(j:Nat)(x:D),r[j]?=some x->w.cell? ⟨b,off+i*sz+j,none⟩=some (f i j))
   (hrd:∀(i:Nat)(r:List D),rows[i]?=some r->∀(j:Nat)(x:D),r[j]?=some x->RD S w x (f i j)):
   RD S w (.sl sz rows) (.slice (some ⟨b,off,none⟩) rows.length cap)
 |uq {sz:Nat} {a:Addr} (hsz:0<sz):RD S w (.sl sz []) (.slice (some a) 0 0)
 |pt {cells:List D} {b off:Nat} (f:Nat->Value) (hb:S b)
   (hcell:∀(j:Nat)(x:D),cells[j]?=some x->w.cell? ⟨b,off+j,none⟩=some (f j))
   (hrd:∀(j:Nat)(x:D),cells[j]?=some x->RD S w x (f j)):
   RD S w (.pt cells) (.pointer (some ⟨b,off,none⟩))
 |fn {g:FuncId} {caps:List D} {vs:Array Value} (hlen:caps.length=vs.size)
   (hrd:∀(j:Nat)(x:D),caps[j]?=some x->RD S w x (vs.getD j undef)):
   RD S w (.fn g caps) (.func (.func g) #[] vs)
structure gZ(S:Nat->Prop)(w:World)(S':Nat->Prop)(w':World):Prop where
 sub:∀b,S b->S' b
 ez:∀b,S b->w'.heap[b]?=w.heap[b]?
theorem gZ.refl(S:Nat->Prop)(w:World):gZ S w S w:=⟨fun _ h=>h,fun _ _=>rfl⟩
theorem gZ.trans{S S' S'':Nat->Prop}{w w' w'':World}(a:gZ S w S' w')(b:gZ S' w' S'' w''):gZ S w S'' w'':=⟨fun x h=>b.sub x (a.sub x h),fun x h=>(b.ez x (a.sub x h)).trans (a.ez x h)⟩
theorem mY{w w':World}{b:Nat}(h:w'.heap[b]?=w.heap[b]?)(off:Nat):w'.cell? ⟨b,off,none⟩=w.cell? ⟨b,off,none⟩:=by simp[World.cell?,h]
theorem RD.mono{S S':Nat->Prop}{w w':World}(hs:gZ S w S' w'){x:D}{v:Value}(h:RD S w x v):RD S' w' x v:=by induction h with|lit h=>exact .lit h|nan hn hm=>exact .nan hn hm|ex=>exact .ex|sl f hb hsz hcap hrow hcell hrd ih=>exact .sl f (hs.sub _ hb) hsz hcap hrow (fun i r hi j x hj=>(mY (hs.ez _ hb) _).trans (hcell i r hi j x hj)) ih|uq h=>exact .uq h|pt f hb hcell hrd ih=>exact .pt f (hs.sub _ hb) (fun j x hj=>(mY (hs.ez _ hb) _).trans (hcell j x hj)) ih|fn hlen hrd ih=>exact .fn hlen ih
structure gV where
 dj:Nat
 aJ:Nat
 sz:Nat
 ext:Nat
 cap:Nat
 deriving Inhabited
inductive RC(S:Nat->Prop)(w:World)(Kn:Nat->Prop)(φ:Nat->gV):C->Value->Prop
 |d {x:D} {v:Value} (h:RD S w x v):RC S w Kn φ (.d x) v
 |cE {id off len cap addr:Nat} (hk:Kn id) (hcap:len<=cap) (haddr:0<cap->addr=(φ id).aJ+off*(φ id).sz) (hext:addr+cap*(φ id).sz<=(φ id).ext) (hc:off+cap=(φ id).cap):
   RC S w Kn φ (.cE (φ id).sz id off len) (.slice (some ⟨(φ id).dj,addr,none⟩) len cap)
 |ep {id fy off:Nat} (hk:Kn id):RC S w Kn φ (.ep id fy off) (.pointer (some ⟨(φ id).dj,(φ id).aJ+fy*(φ id).sz+off,none⟩))
 |op {id off:Nat} (hk:Kn id):RC S w Kn φ (.op id off) (.pointer (some ⟨(φ id).dj,(φ id).aJ+off,none⟩))
 |pp {g:FuncId} {caps:List C} {vs:Array Value} (hlen:caps.length=vs.size)
   (hrc:∀(j:Nat)(x:C),caps[j]?=some x->RC S w Kn φ x (vs.getD j undef)):
   RC S w Kn φ (.pp g caps) (.func (.func g) #[] vs)
 |om {id:Nat} (hk:Kn id):RC S w Kn φ (.om id) (.map (some (φ id).dj))
structure Ren(Kn:Nat->Prop)(φ:Nat->gV)(Kn':Nat->Prop)(φ':Nat->gV):Prop where
 sub:∀i,Kn i->Kn' i
 ez:∀i,Kn i->φ' i=φ i
theorem Ren.refl(Kn:Nat->Prop)(φ:Nat->gV):Ren Kn φ Kn φ:=⟨fun _ h=>h,fun _ _=>rfl⟩
theorem RC.mono{S S':Nat->Prop}{w w':World}{Kn Kn':Nat->Prop}{φ φ':Nat->gV}(hs:gZ S w S' w')(hr:Ren Kn φ Kn' φ'){x:C}{v:Value}
  (h:RC S w Kn φ x v):RC S' w' Kn' φ' x v:=by
 induction h with|d h=>exact .d (h.mono hs)|cE hk hcap haddr hext hc=>rw[<-hr.ez _ hk]at hext haddr hc|-;exact .cE (hr.sub _ hk) hcap haddr hext hc|ep hk=>rw[<-hr.ez _ hk];exact .ep (hr.sub _ hk)|op hk=>rw[<-hr.ez _ hk];exact .op (hr.sub _ hk)|pp hlen hrc ih=>exact .pp hlen ih|om hk=>rw[<-hr.ez _ hk];exact .om (hr.sub _ hk)
inductive fX(S:Nat->Prop)(w:World)(Kn:Nat->Prop)(φ:Nat->gV):TV->Value->Prop
 |c {x:C} {v:Value} (h:RC S w Kn φ x v):fX S w Kn φ (.c x) v
 |agg {cs:List C} {aK:Array Value} (hlen:cs.length=aK.size) (h:∀(i:Nat)(x:C),cs[i]?=some x->RC S w Kn φ x (aK.getD i undef)):fX S w Kn φ (.agg cs) (.agg aK)
 |ia {xs:List TV} {aK:Array Value} (hlen:xs.length=aK.size) (h:∀(i:Nat)(x:TV),xs[i]?=some x->fX S w Kn φ x (aK.getD i undef)):fX S w Kn φ (.ia xs) (.tuple aK)
theorem fX.mono{S S':Nat->Prop}{w w':World}{Kn Kn':Nat->Prop}{φ φ':Nat->gV}(hs:gZ S w S' w')(hr:Ren Kn φ Kn' φ'){x:TV}{v:Value}
  (h:fX S w Kn φ x v):fX S' w' Kn' φ' x v:=by
 induction h with|c h=>exact .c (h.mono hs hr)|agg hlen h=>exact .agg hlen fun i x hi=>(h i x hi).mono hs hr|ia hlen h ih=>exact .ia hlen ih
def one:Value->Bool
 |.agg _|.tuple _=>false
 |_=>true
theorem vZ{v:Value}(h:ft v=true):one v=true:=by cases v<;>simp_all[ft,one]
theorem RD.one{S:Nat->Prop}{w:World}{x:D}{v:Value}(h:RD S w x v):one v=true:=by cases h with|lit h=>exact vZ h|_=>rfl
theorem RC.one{S:Nat->Prop}{w:World}{Kn:Nat->Prop}{φ:Nat->gV}{x:C}{v:Value}(h:RC S w Kn φ x v):one v=true:=by cases h with|d h=>exact h.one|_=>rfl
theorem sN{v:Value}(h:one v=true):v.cells= #[v]:=by cases v<;>simp_all[Ev.one,Value.cells]
def pk(w:World)(b:Nat)(aK:Array Value):Prop:=∃t,w.heap[b]?=some (.cells aK t (0,0))
theorem pk.cell{w:World}{b:Nat}{aK:Array Value}(h:pk w b aK)(i:Nat):w.cell? ⟨b,i,none⟩=aK[i]?:=by obtain⟨t,h⟩:=h;simp[World.cell?,h]
theorem pk.lt{w:World}{b:Nat}{aK:Array Value}(h:pk w b aK):b<w.heap.size:=by obtain⟨t,h⟩:=h;grind
theorem pk.nF{w w':World}{b:Nat}{aK:Array Value}(h:pk w b aK)(hs:w'.heap[b]?=w.heap[b]?):pk w' b aK:=by obtain⟨t,h⟩:=h;exact⟨t,hs.trans h⟩
def di(S:Nat->Prop)(w:World)(sz:Nat)(get:Nat->Option Value)(aJ:Nat)(rows:List (List D)):Prop:=
 (∀(i:Nat)(r:List D),rows[i]?=some r->r.length=sz)/\
 ∀(i:Nat)(r:List D),rows[i]?=some r->∀(j:Nat)(x:D),r[j]?=some x->∃v,get (aJ+i*sz+j)=some v/\RD S w x v
def cW:Ob->Bool
 |.aK _ _|.box _|.map _ _ _ _|.cap _ _ _|.nst _ _=>true
 |_=>false
def Ib(S:Nat->Prop)(w:World)(sz:Nat)(rows:List (List D))(v:Value)(b:Nat):Prop:=∃(addr cap:Nat)(aK:Array Value),v=.slice (some ⟨b,addr,none⟩) rows.length cap/\0<sz/\pk w b aK/\rows.length<=cap/\addr+cap*sz<=aK.size/\di S w sz (fun i=>aK[i]?) addr rows
inductive Ae(S K:Nat->Prop)(w:World)(Kn:Nat->Prop)(φ:Nat->gV)(sz:Nat):ly->Value->Prop
 |nil:Ae S K w Kn φ sz .nil (.slice none 0 0)
 |bD {rows:List (List D)} {v:Value} {b:Nat} (h:Ib S w sz rows v b) (hS:¬S b) (hK:¬K b):Ae S K w Kn φ sz (.bD rows) v
 |oA {id len:Nat} {v:Value} (h:RC S w Kn φ (.cE sz id 0 len) v):Ae S K w Kn φ sz (.oA id len) v
def xY:Value->Option Nat
 |.slice (some a) _ _=>some a.block
 |_=>none
def sW(w:World)(l:gV)(slots:List ly)(k x:Nat):Prop:=∃rows v,slots[k]?=some (.bD rows)/\w.cell? ⟨l.dj,l.aJ+k,none⟩=some v/\xY v=some x
def CT(ka:Bool)(k:List Value)(v:Value):Prop:=(∀x∈k,ft x=true)/\if ka then v=.agg k.toArray else k=[v]
def sR(S:Nat->Prop)(w:World)(va:Bool)(ds:List D)(v:Value):Prop:=if va then∃aK:Array Value,v=.agg aK/\ds.length=aK.size/\∀(i:Nat)(x:D),ds[i]?=some x->RD S w x (aK.getD i undef)else∃x,ds=[x]/\RD S w x v
theorem sR.mono{S S':Nat->Prop}{w w':World}(hs:gZ S w S' w'){va:Bool}{ds:List D}{v:Value}(h:sR S w va ds v):sR S' w' va ds v:=by
 unfold sR at h|-;split
 .rename_i hv;rw[if_pos hv]at h;obtain⟨aK,h1,h2,h3⟩:=h;exact⟨aK,h1,h2,fun i x hi=>(h3 i x hi).mono hs⟩
 .rename_i hv;rw[if_neg hv]at h;obtain⟨x,h1,h2⟩:=h;exact⟨x,h1,h2.mono hs⟩
inductive RO(S:Nat->Prop)(K:Nat->Prop)(w:World)(Kn:Nat->Prop)(φ:Nat->gV)(l:gV):Ob->Prop
 |aK {sz:Nat} {rows:List (List D)} {aK:Array Value} (hsz:0<sz) (hl:l.sz=sz) (hS:¬S l.dj) (hK:¬K l.dj) (ho:pk w l.dj aK) (hext:aK.size=l.ext)
   (hfit:l.aJ+rows.length*sz<=l.ext) (hr:di S w sz (fun i=>aK[i]?) l.aJ rows) (hv:rows.length<=l.cap):RO S K w Kn φ l (.aK sz rows)
 |p_ {sz:Nat} {rows:List (List D)} (hsz:0<sz) (hl:l.sz=sz) (hS:S l.dj)
   (hr:di S w sz (fun i=>w.cell? ⟨l.dj,i,none⟩) l.aJ rows):RO S K w Kn φ l (.p_ sz rows)
 |box {cells:List C} {aK:Array Value} (hb:l.aJ=0) (hS:¬S l.dj) (hK:¬K l.dj) (ho:pk w l.dj aK) (hlen:cells.length=aK.size)
   (hr:∀(i:Nat)(x:C),cells[i]?=some x->RC S w Kn φ x (aK.getD i undef)):RO S K w Kn φ l (.box cells)
 |oW {cells:List D} (hb:l.aJ=0) (hS:S l.dj)
   (hr:∀(i:Nat)(x:D),cells[i]?=some x->∃v,w.cell? ⟨l.dj,i,none⟩=some v/\RD S w x v):RO S K w Kn φ l (.oW cells)
 |map {ka va:Bool} {es:List (List Value×List D×Nat)} {bP:Nat} {ms:Array MapEntry} (hS:¬S l.dj) (hK:¬K l.dj) (ho:w.heap[l.dj]?=some (.map ms bP)) (hlen:es.length=ms.size)
   (hr:∀(i:Nat)(e:List Value×List D×Nat)(m:MapEntry),es[i]?=some e->ms[i]?=some m->CT ka e.1 m.key/\sR S w va e.2.1 m.val/\m.born=e.2.2):RO S K w Kn φ l (.map ka va es bP)
 |cap {sz:Nat} {rows:List (List D)} {cp:Nat} {aK:Array Value} (hsz:0<sz) (hl:l.sz=sz) (hS:¬S l.dj) (hK:¬K l.dj) (ho:pk w l.dj aK) (hext:aK.size=l.ext)
   (hfit:l.aJ+cp*sz<=l.ext) (hr:di S w sz (fun i=>aK[i]?) l.aJ rows) (hv:rows.length<=cp) (hc:l.cap=cp):RO S K w Kn φ l (.cap sz rows cp)
 |nst {sz:Nat} {slots:List ly} {aK:Array Value} (hsz:0<sz) (hl:l.sz=1) (hS:¬S l.dj) (hK:¬K l.dj) (ho:pk w l.dj aK) (hext:aK.size=l.ext)
   (hfit:l.aJ+slots.length<=l.ext) (hr:∀(i:Nat)(s:ly),slots[i]?=some s->∃v,aK[l.aJ+i]?=some v/\Ae S K w Kn φ sz s v) (hv:slots.length<=l.cap):RO S K w Kn φ l (.nst sz slots)
theorem di.mono{S S':Nat->Prop}{w w':World}(hs:gZ S w S' w'){sz aJ:Nat}{get:Nat->Option Value}{rows:List (List D)}(h:di S w sz get aJ rows):
  di S' w' sz get aJ rows:=
 ⟨h.1,fun i r hi j x hj=>let⟨v,hg,hr⟩:=h.2 i r hi j x hj;⟨v,hg,hr.mono hs⟩⟩
def Af(S':Nat->Prop)(w w':World)(l:gV)(o:Ob):Prop:=∀sz slots,o=.nst sz slots->∀k x,sW w l slots k x->w'.heap[x]?=w.heap[x]?/\¬S' x
theorem Ib.mono{S S':Nat->Prop}{w w':World}(hs:gZ S w S' w'){sz b:Nat}{rows:List (List D)}{v:Value}(hb:w'.heap[b]?=w.heap[b]?)(h:Ib S w sz rows v b):Ib S' w' sz rows v b:=by obtain⟨a,c,aK,h1,h2,h3,h4,h5,h6⟩:=h;exact⟨a,c,aK,h1,h2,h3.nF hb,h4,h5,h6.mono hs⟩
theorem Ib.dj{S:Nat->Prop}{w:World}{sz b:Nat}{rows:List (List D)}{v:Value}(h:Ib S w sz rows v b):xY v=some b:=by obtain⟨a,c,aK,rfl,_⟩:=h;rfl
theorem Ib.bD{S:Nat->Prop}{w:World}{sz b:Nat}{rows:List (List D)}{v:Value}(h:Ib S w sz rows v b):∃aK,pk w b aK:=by obtain⟨a,c,aK,_,_,h,_⟩:=h;exact⟨aK,h⟩
theorem RO.mono{S S' K:Nat->Prop}{w w':World}{Kn Kn':Nat->Prop}{φ φ':Nat->gV}{l:gV}(hs:gZ S w S' w')(hr:Ren Kn φ Kn' φ'){o:Ob}
  (hsame:cW o=true->w'.heap[l.dj]?=w.heap[l.dj]?/\¬S' l.dj) (hkp:Af S' w w' l o) (h:RO S K w Kn φ l o):RO S' K w' Kn' φ' l o:=by
 cases h with
 |aK hsz hl hS hK ho hext hfit hrr hv=>exact .aK hsz hl (hsame rfl).2 hK (ho.nF (hsame rfl).1) hext hfit (hrr.mono hs) hv
 |p_ hsz hl hS hrr=>refine .p_ hsz hl (hs.sub _ hS) ⟨hrr.1,fun i r hi j x hj=>?_⟩;obtain⟨v,hg,h⟩:=hrr.2 i r hi j x hj;exact⟨v,(mY (hs.ez _ hS) _).trans hg,h.mono hs⟩
 |box hb hS hK ho hlen hrr=>exact .box hb (hsame rfl).2 hK (ho.nF (hsame rfl).1) hlen fun i x hi=>(hrr i x hi).mono hs hr
 |oW hb hS hrr=>refine .oW hb (hs.sub _ hS) fun i x hi=>?_;obtain⟨v,hg,h⟩:=hrr i x hi;exact⟨v,(mY (hs.ez _ hS) _).trans hg,h.mono hs⟩
 |map hS hK ho hlen hrr=>exact .map (hsame rfl).2 hK ((hsame rfl).1.trans ho) hlen fun i e m hi hm=>let⟨h1,h2,h3⟩:=hrr i e m hi hm;⟨h1,h2.mono hs,h3⟩
 |cap hsz hl hS hK ho hext hfit hrr hv hc=>exact .cap hsz hl (hsame rfl).2 hK (ho.nF (hsame rfl).1) hext hfit (hrr.mono hs) hv hc
 |nst hsz hl hS hK ho hext hfit hrr hv=>refine .nst hsz hl (hsame rfl).2 hK (ho.nF (hsame rfl).1) hext hfit (fun i s hi=>?_) hv;obtain⟨v,h1,h2⟩:=hrr i s hi;refine⟨v,h1,?_⟩;cases h2 with|nil=>exact .nil|@bD rows _ b h hS hK=>obtain⟨k1,k2⟩:=hkp _ _ rfl i b ⟨rows,v,hi,(ho.cell _).trans h1,h.dj⟩;exact .bD (h.mono hs k1) k2 hK|oA h=>exact .oA (h.mono hs hr)
def Io(w0 w:World):Prop:=w.os=w0.os/\w.output=w0.output/\w.tape=w0.tape/\w0.drawn*0<=w.drawn*0
theorem Io.trans{a b c:World}(h:Io a b)(h2:Io b c):Io a c:=⟨h2.1.trans h.1,h2.2.1.trans h.2.1,h2.2.2.1.trans h.2.2.1,e_ h.2.2.2 h2.2.2.2⟩
theorem Io.refl(w:World):Io w w:=⟨rfl,rfl,rfl,am _⟩
structure Ie(K:Nat->Prop)(w0 w:World):Prop where
 Gi:∀b,K b->b<w0.heap.size
 mV:∀b,K b->w.heap[b]?=w0.heap[b]?
 tf:w0.heap.size<=w.heap.size
 Ba:∀a,a.block<w0.heap.size->w.frozen? a=w0.frozen? a
 bD:∀b aK,pk w0 b aK->∃arr',pk w b arr'/\arr'.size=aK.size
 io:Io w0 w
def CW(S:Nat->Prop)(w:World):Prop:=∀g d,Vv g=some d->RD S w d (.pointer (some ⟨g,0,none⟩))
theorem CW.mono{S S':Nat->Prop}{w w':World}(h:CW S w)(hs:gZ S w S' w'):CW S' w':=fun g d hg=>(h g d hg).mono hs
def YZ(w:World)(φ:Nat->gV)(hf:Nat->Option Ob):Prop:=∀i sz sl k x,hf i=some (.nst sz sl)->sW w (φ i) sl k x->
 (∀j b,hf j=some b->cW b=true->(φ j).dj≠x)/\∀j sz' sl' k',hf j=some (.nst sz' sl')->sW w (φ j) sl' k' x->j=i/\k'=k
structure Inv(S K:Nat->Prop)(w0:World)(Kn:Nat->Prop)(φ:Nat->gV)(hf:Nat->Option Ob)(w:World):Prop where
 vJ:∀b,S b->b<w.heap.size
 sk:∀b,S b->¬K b
 od:Ie K w0 w
 iM:∀id o,hf id=some o->Kn id/\RO S K w Kn φ (φ id) o
 o9:∀i j a b,hf i=some a->hf j=some b->cW a=true->cW b=true->i≠j->(φ i).dj≠(φ j).dj
 Cj:CW S w
 xC:YZ w φ hf
def bq(u:eS)(hf:Nat->Option Ob)(id:Nat):Option Ob:=match cm u id with|some o=>o|none=>hf id
theorem ic{α:Type}(a b:List (Nat×α))(k:Nat):cm (a++b) k=match cm a k with|some x=>some x|none=>cm b k:=by induction a with|nil=>rfl|cons p r ih=>obtain⟨i,x⟩:=p;simp[cm];cases h:(i==k)<;>simp[ih]
theorem gb(u:eS)(h:bC):aw (u++h)=bq u (aw h):=by funext id;simp[aw,bq,ic];cases cm u id<;>simp
theorem fY(hf:Nat->Option Ob):bq [] hf=hf:=rfl
theorem cg(i:Nat)(o:Option Ob)(u:eS)(hf:Nat->Option Ob)(id:Nat):bq ((i,o)::u) hf id=if i=id then o else bq u hf id:=by
 grind [bq,cm]
theorem ei(u v:eS)(hf:Nat->Option Ob):bq (u++v) hf=bq u (bq v hf):=by funext id;simp[bq,ic];cases cm u id<;>simp
theorem Inv.vN{S S' K:Nat->Prop}{w0 w w':World}{Kn Kn':Nat->Prop}{φ φ':Nat->gV}{hf hf':Nat->Option Ob}(h:Inv S K w0 Kn φ hf w)
  (hs:gZ S w S' w') (hr:Ren Kn φ Kn' φ') (hslt:∀b,S' b->b<w'.heap.size) (hsk:∀b,S' b->¬K b) (hfrm:Ie K w0 w')
  (hobj:∀id o,hf' id=some o->(hf id=some o/\(cW o=true->w'.heap[(φ id).dj]?=w.heap[(φ id).dj]?/\¬S' (φ id).dj)/\Af S' w w' (φ id) o)\/(Kn' id/\RO S' K w' Kn' φ' (φ' id) o))
  (hdist:∀i j a b,hf' i=some a->hf' j=some b->cW a=true->cW b=true->i≠j->(φ' i).dj≠(φ' j).dj) (hprv:YZ w' φ' hf'):
  Inv S' K w0 Kn' φ' hf' w' where
 vJ:=hslt
 sk:=hsk
 od:=hfrm
 o9:=hdist
 Cj:=h.Cj.mono hs
 xC:=hprv
 iM id o ho:=by
  rcases hobj id o ho with⟨h1,h2,h3⟩|h1
  .obtain ⟨hk,hro⟩:=h.iM id o h1;refine⟨hr.sub _ hk,?_⟩;rw[hr.ez _ hk];exact hro.mono hs hr h2 h3
  .exact h1
theorem sW.ez{w w':World}{l:gV}{sl:List ly}{k x:Nat}(h:w'.heap[l.dj]?=w.heap[l.dj]?):sW w' l sl k x<->sW w l sl k x:=by unfold sW;rw[fun i=>mY h i]
theorem RO.IN{S K:Nat->Prop}{w:World}{Kn:Nat->Prop}{φ:Nat->gV}{l:gV}{sz:Nat}{sl:List ly}{k x:Nat}(h:RO S K w Kn φ l (.nst sz sl))(hp:sW w l sl k x):
  ¬S x/\¬K x/\x<w.heap.size/\∃rows v,sl[k]?=some (.bD rows)/\w.cell? ⟨l.dj,l.aJ+k,none⟩=some v/\Ib S w sz rows v x:=by
 cases h with
 |nst hsz hl hS hK ho hext hfit hr hv=>
  obtain⟨rows,v,h1,h2,h3⟩:=hp;obtain⟨v',h4,h5⟩:=hr k _ h1;obtain rfl:v'=v:=by rw[ho.cell,h4]at h2;exact aa h2
  cases h5 with
  |@bD _ _ b h6 hS hK=>
   obtain rfl:b=x:=by rw[h6.dj]at h3;exact aa h3
   obtain⟨aK,h7⟩:=h6.bD;exact⟨hS,hK,h7.lt,rows,v',h1,h2,h6⟩
theorem Inv.IN{S K:Nat->Prop}{w0 w:World}{Kn:Nat->Prop}{φ:Nat->gV}{hf:Nat->Option Ob}(h:Inv S K w0 Kn φ hf w){i sz k x:Nat}{sl:List ly}(hi:hf i=some (.nst sz sl))(hp:sW w (φ i) sl k x):
  ¬S x/\¬K x/\x<w.heap.size/\∃rows v,sl[k]?=some (.bD rows)/\w.cell? ⟨(φ i).dj,(φ i).aJ+k,none⟩=some v/\Ib S w sz rows v x:=(h.iM i _ hi).2.IN hp
def S9(S':Nat->Prop)(w w':World)(φ φ':Nat->gV)(hf hf':Nat->Option Ob):Prop:=∀id sz sl,hf' id=some (.nst sz sl)->hf id=some (.nst sz sl)/\w'.heap[(φ id).dj]?=w.heap[(φ id).dj]?/\
 ∀k x,sW w (φ id) sl k x->w'.heap[x]?=w.heap[x]?/\¬S' x/\∀j b,hf' j=some b->cW b=true->(φ' j).dj≠x
theorem Inv.pN{S S' K:Nat->Prop}{w0 w w':World}{Kn Kn':Nat->Prop}{φ φ':Nat->gV}{hf hf':Nat->Option Ob}(h:Inv S K w0 Kn φ hf w)
  (hs:gZ S w S' w') (hr:Ren Kn φ Kn' φ') (hslt:∀b,S' b->b<w'.heap.size) (hsk:∀b,S' b->¬K b) (hfrm:Ie K w0 w')
  (hobj:∀id o,hf' id=some o->(hf id=some o/\(cW o=true->w'.heap[(φ id).dj]?=w.heap[(φ id).dj]?/\¬S' (φ id).dj))\/(Kn' id/\RO S' K w' Kn' φ' (φ' id) o))
  (hdist:∀i j a b,hf' i=some a->hf' j=some b->cW a=true->cW b=true->i≠j->(φ' i).dj≠(φ' j).dj) (hrest:S9 S' w w' φ φ' hf hf'):
  Inv S' K w0 Kn' φ' hf' w':=by
 have e:=fun id sz sl hi=>hr.ez _ (h.iM id _ (hrest id sz sl hi).1).1;have hpat:∀id sz sl k x,hf' id=some _->sW w' (φ' id) sl k x->sW w _ sl k x:=fun id sz sl k x hi hp=>by rw[e id sz sl hi]at hp;exact(sW.ez (hrest id sz sl hi).2.1).1 hp
 refine h.vN hs hr hslt hsk hfrm (fun id o ho=>?_) hdist fun i sz sl k x hi hp=>?_
 .rcases hobj id o ho with⟨h1,h2⟩|h1
  .exact .inl ⟨h1,h2,fun sz sl eo k x hp=>by subst eo;obtain⟨a,b,_⟩:=(hrest id sz sl ho).2.2 k x hp;exact⟨a,b⟩⟩
  .exact .inr h1
 .have hp':=hpat i sz sl k x hi hp;refine⟨((hrest i sz sl hi).2.2 k x hp').2.2,fun j sz' sl' k' hj hpj=>?_⟩;exact(h.xC i sz sl k x (hrest i sz sl hi).1 hp').2 j sz' sl' k' (hrest j sz' sl' hj).1 (hpat j sz' sl' k' x hj hpj)
theorem jf{w:World}{o:Obj}{b:Nat}(h:b<w.heap.size):({w with heap:=w.heap.push o}:World).heap[b]?=w.heap[b]?:=by
 grind
theorem zj(w:World)(aK:Array Value)(t:TypeId):pk {w with heap:=w.heap.push (.cells aK t)} w.heap.size aK:=⟨t,by simp⟩
theorem Ek(w:World)(aK:Array Value)(t:TypeId)(a:Addr):({w with heap:=w.heap.push (.cells aK t)}:World).frozen? a=w.frozen? a:=by
 unfold World.frozen?
 grind
theorem Ie.push{K:Nat->Prop}{w0 w:World}(h:Ie K w0 w)(aK:Array Value)(t:TypeId):Ie K w0 {w with heap:=w.heap.push (.cells aK t)}where
 Gi:=h.Gi
 mV b hb:=(jf (dD (h.Gi b hb) h.tf)).trans (h.mV b hb)
 tf:=by have:=h.tf;simp;omega
 Ba a ha:=(Ek w aK t a).trans (h.Ba a ha)
 bD b a ha:=let⟨a',h1,h2⟩:=h.bD b a ha;⟨a',h1.nF (jf h1.lt),h2⟩
 io:=h.io
theorem Ie.zh{K:Nat->Prop}{w0 w w':World}(h:Ie K w0 w){c:Nat}(hother:∀b,b≠c->w'.heap[b]?=w.heap[b]?)
  (hsz:∀aK,pk w c aK->∃arr',pk w' c arr'/\arr'.size=aK.size) (b:Nat) (aK:Array Value) (ho:pk w0 b aK):∃arr',pk w' b arr'/\arr'.size=aK.size:=by
 obtain⟨a,h1,h2⟩:=h.bD b aK ho;by_cases e:b=c
 .grind
 .exact ⟨a,h1.nF (hother b e),h2⟩
theorem Ie.uQ{K:Nat->Prop}{w0 w:World}(h:Ie K w0 w)(n:Nat)(hn:w.drawn<=n):Ie K w0 {w with drawn:=n}:=⟨h.Gi,h.mV,h.tf,h.Ba,h.bD,h.io.1,h.io.2.1,h.io.2.2.1,am _⟩
theorem gZ.push{S:Nat->Prop}{w:World}(hs:∀b,S b->b<w.heap.size)(o:Obj):gZ S w S {w with heap:=w.heap.push o}:=⟨fun _ h=>h,fun b h=>jf (hs b h)⟩
theorem gZ.uQ(S:Nat->Prop)(w:World)(n:Nat):gZ S w S {w with drawn:=n}:=⟨fun _ h=>h,fun _ _=>rfl⟩
theorem Inv.Dx{S K:Nat->Prop}{w0 w w':World}{Kn Kn':Nat->Prop}{φ φ':Nat->gV}{hf:Nat->Option Ob}(h:Inv S K w0 Kn φ hf w)(hr:Ren Kn φ Kn' φ')(hs:∀b,b<w.heap.size->w'.heap[b]?=w.heap[b]?):S9 S w w' φ φ' hf hf:=fun id sz sl hi=>by
 obtain⟨_,h1⟩:=h.iM id _ hi;have hlt:=by cases h1 with|nst _ _ _ _ ho=>exact ho.lt
 refine⟨hi,hs _ hlt,fun k x hp=>?_⟩;obtain⟨h2,_,h3,_⟩:=h.IN hi hp;refine⟨hs x h3,h2,fun j b hj hb=>?_⟩;rw[hr.ez j (h.iM j b hj).1];exact(h.xC id sz sl k x hi hp).1 j b hj hb
theorem Inv.AZ{S K:Nat->Prop}{w0 w w':World}{Kn:Nat->Prop}{φ:Nat->gV}{hf:Nat->Option Ob}(h:Inv S K w0 Kn φ hf w)(hs:∀b,b<w.heap.size->w'.heap[b]?=w.heap[b]?):S9 S w w' φ φ hf hf:=h.Dx (Ren.refl _ _) hs
theorem Inv.uQ{S K:Nat->Prop}{w0 w:World}{Kn:Nat->Prop}{φ:Nat->gV}{hf:Nat->Option Ob}(h:Inv S K w0 Kn φ hf w)(n:Nat)(hn:w.drawn<=n):
  Inv S K w0 Kn φ hf {w with drawn:=n}:=
 h.pN (gZ.uQ S w n) (Ren.refl _ _) h.vJ h.sk (h.od.uQ n hn) (fun id o ho=>.inl ⟨ho,fun hown=>⟨rfl,by obtain⟨_,hro⟩:=h.iM id o ho;cases hro<;>simp_all[cW]⟩⟩) h.o9 (h.AZ fun _ _=>rfl)
theorem RO.bD{S K:Nat->Prop}{w:World}{Kn:Nat->Prop}{φ:Nat->gV}{l:gV}{o:Ob}(h:RO S K w Kn φ l o)(ho:cW o=true):
  ¬S l.dj/\¬K l.dj/\l.dj<w.heap.size:=by
 cases h with|aK hsz hl hS hK hown=>exact⟨hS,hK,hown.lt⟩|box hb hS hK hown=>exact⟨hS,hK,hown.lt⟩|map hS hK hmp=>grind|cap hsz hl hS hK hown=>exact⟨hS,hK,hown.lt⟩|nst hsz hl hS hK hown=>exact⟨hS,hK,hown.lt⟩|_=>simp[cW]at ho
def ext(φ:Nat->gV)(i:Nat)(l:gV):Nat->gV:=fun j=>if j=i then l else φ j
theorem jw{Kn:Nat->Prop}{φ:Nat->gV}{i:Nat}(l:gV)(hi:¬Kn i):Ren Kn φ (fun j=>Kn j\/j=i) (ext φ i l):=⟨fun _ h=>.inl h,fun j h=>by simp only[ext];rw[if_neg];rintro rfl;exact hi h⟩
abbrev Ic(o:Ob):Prop:=∀sz sl(k:Nat)rows,o=.nst sz sl->sl[k]?≠some (ly.bD rows)
theorem Inv.HA{S K:Nat->Prop}{w0 w w':World}{Kn:Nat->Prop}{φ:Nat->gV}{hf:Nat->Option Ob}(h:Inv S K w0 Kn φ hf w){i:Nat}{l:gV}{o:Ob}(hno:Ic o)
  (hsame:∀b,b<w.heap.size->w'.heap[b]?=w.heap[b]?) (hl:cW o=true->∀id sz sl k x,hf id=some (.nst sz sl)->sW w (φ id) sl k x->l.dj≠x):YZ w' (ext φ i l) (bq [(i,some o)] hf):=by
 have key:∀a sz sl k x,bq [(i,some o)] hf a=some (.nst sz sl)->sW w' (ext φ i l a) sl k x->hf a=some (.nst sz sl)/\sW w (φ a) sl k x:=by
  intro a sz sl k x ha hp;rw[cg]at ha;by_cases e:i=a
  .rw [if_pos e]at ha;obtain rfl:=aa ha;obtain⟨rows,v,h1,_⟩:=hp;exact absurd h1 (hno _ _ _ _ rfl)
  .rw [if_neg e,fY]at ha;refine⟨ha,?_⟩;have e1:ext φ i l a=φ a:=by simp only[ext];rw[if_neg (fun q=>e q.symm)]
   rw[e1]at hp;obtain⟨_,h1⟩:=h.iM a _ ha;exact(sW.ez (hsame _ (by cases h1 with|nst _ _ _ _ ho=>exact ho.lt))).1 hp
 intro a sz sl k x ha hp;obtain⟨h1,h2⟩:=key a sz sl k x ha hp;obtain⟨p1,p2⟩:=h.xC a sz sl k x h1 h2;refine⟨fun j b hj hown=>?_,fun j sz' sl' k' hj hpj=>?_⟩
 .rw [cg]at hj;by_cases e:i=j
  .simp only[ext]
   grind
  .rw [if_neg e,fY]at hj;simp only[ext]
   grind
 grind
theorem Inv.Cd{S K:Nat->Prop}{w0 w w':World}{Kn:Nat->Prop}{φ:Nat->gV}{hf:Nat->Option Ob}(h:Inv S K w0 Kn φ hf w){id:Nat}{o:Ob}(ho:hf id=some o)(hsame:∀b,b<w.heap.size->w'.heap[b]?=w.heap[b]?):Af S w w' (φ id) o:=by intro sz sl e k x hp;subst e;obtain⟨h1,_,h2,_⟩:=h.IN ho hp;exact⟨hsame x h2,h1⟩
theorem Inv.alloc{S K:Nat->Prop}{w0 w:World}{Kn:Nat->Prop}{φ:Nat->gV}{hf:Nat->Option Ob}(h:Inv S K w0 Kn φ hf w){i:Nat}(hi:¬Kn i)
  (aK:Array Value) (t:TypeId) (sz c:Nat) (o:Ob)
  (hro:RO S K {w with heap:=w.heap.push (.cells aK t)} (fun j=>Kn j\/j=i) (ext φ i ⟨w.heap.size,0,sz,aK.size,c⟩) ⟨w.heap.size,0,sz,aK.size,c⟩ o) (hno:Ic o:=by intro _ _ _ _ e;cases e):
  Inv S K w0 (fun j=>Kn j\/j=i) (ext φ i ⟨w.heap.size,0,sz,aK.size,c⟩) (bq [(i,some o)] hf) {w with heap:=w.heap.push (.cells aK t)}:=by
 refine h.vN (gZ.push h.vJ _) (jw _ hi) (fun b hb=>by have:=h.vJ b hb;simp;omega) h.sk (h.od.push aK t) ?_ ?_ (h.HA hno (fun b hb=>jf hb) fun _ id sz sl k x ha hp e=>by have:=(h.IN ha hp).2.2.1;simp at e;omega)
 .intro id o' ho;rw[cg]at ho;by_cases e:i=id
  .subst e;obtain rfl:o=o':=by simpa using ho
   refine .inr ⟨.inr rfl,?_⟩;simpa[ext]using hro
  .rw [if_neg e]at ho;refine .inl ⟨ho,fun hown=>?_,h.Cd ho fun b hb=>jf hb⟩;obtain⟨_,h2⟩:=h.iM id o' ho;obtain⟨a,b,c⟩:=h2.bD hown;exact⟨jf c,a⟩
 .have key:∀j b,j≠i->hf j=some b->cW b=true->(ext φ i ⟨w.heap.size,0,sz,aK.size,c⟩ j).dj<w.heap.size:=by intro j b hj hb hown;obtain⟨_,h2⟩:=h.iM j b hb;simpa[ext,hj]using(h2.bD hown).2.2
  intro a b oa ob ha hb hoa hob hne;rw[cg]at ha hb;by_cases ea:i=a
  .by_cases eb:i=b
   .exact absurd (ea.symm.trans eb) hne
   .rw [if_neg eb]at hb;have:=key b ob (fun e=>eb e.symm) hb hob;have e1:(ext φ i ⟨w.heap.size,0,sz,aK.size,c⟩ a).dj=w.heap.size:=by simp[ext,ea]
    omega
  .rw [if_neg ea]at ha;have h1:=key a oa (fun e=>ea e.symm) ha hoa;by_cases eb:i=b
   .have e1:(ext φ i ⟨w.heap.size,0,sz,aK.size,c⟩ b).dj=w.heap.size:=by simp[ext,eb]
    omega
   .rw [if_neg eb]at hb;have:=h.o9 a b oa ob ha hb hoa hob hne;have e1:¬a=i:=fun e=>ea e.symm;have e2:¬b=i:=fun e=>eb e.symm;simpa[ext,e1,e2]using this
theorem Cn{w:World}{o:Obj}(ho:∀c t r,o≠.cells c t r)(a:Addr):({w with heap:=w.heap.push o}:World).frozen? a=w.frozen? a:=by
 unfold World.frozen?
 grind
theorem Inv.SZ{S K:Nat->Prop}{w0 w:World}{Kn:Nat->Prop}{φ:Nat->gV}{hf:Nat->Option Ob}(h:Inv S K w0 Kn φ hf w){i:Nat}(hi:¬Kn i)
  {ob:Obj} (hob:∀c t r,ob≠.cells c t r) (l:gV) (hl:l.dj=w.heap.size) (o:Ob)
  (hro:RO S K {w with heap:=w.heap.push ob} (fun j=>Kn j\/j=i) (ext φ i l) l o) (hno:Ic o:=by intro _ _ _ _ e;cases e):
  Inv S K w0 (fun j=>Kn j\/j=i) (ext φ i l) (bq [(i,some o)] hf) {w with heap:=w.heap.push ob}:=by
 have hfrm:Ie K w0 {w with heap:=w.heap.push ob}:=
  ⟨h.od.Gi,fun b hb=>(jf (dD (h.od.Gi b hb) h.od.tf)).trans (h.od.mV b hb),by have:=h.od.tf;simp;omega,fun a ha=>(Cn hob a).trans (h.od.Ba a ha),
   fun b a ha=>let⟨a',h1,h2⟩:=h.od.bD b a ha;⟨a',h1.nF (jf h1.lt),h2⟩,h.od.io⟩
 refine h.vN (gZ.push h.vJ _) (jw _ hi) (fun b hb=>by have:=h.vJ b hb;simp;omega) h.sk hfrm ?_ ?_ (h.HA hno (fun b hb=>jf hb) fun _ id sz sl k x ha hp e=>by have:=(h.IN ha hp).2.2.1;omega)
 .intro id o' ho;rw[cg]at ho;by_cases e:i=id
  .subst e;obtain rfl:o=o':=by simpa using ho
   refine .inr ⟨.inr rfl,?_⟩;simpa[ext]using hro
  .rw [if_neg e]at ho;refine .inl ⟨ho,fun hown=>?_,h.Cd ho fun b hb=>jf hb⟩;obtain⟨_,h2⟩:=h.iM id o' ho;obtain⟨a,b,c⟩:=h2.bD hown;exact⟨jf c,a⟩
 .have key:∀j b,j≠i->hf j=some b->cW b=true->(ext φ i l j).dj<w.heap.size:=by intro j b hj hb hown;obtain⟨_,h2⟩:=h.iM j b hb;simpa[ext,hj]using(h2.bD hown).2.2
  intro a b oa ob ha hb hoa hob hne;rw[cg]at ha hb;by_cases ea:i=a
  .by_cases eb:i=b
   .exact absurd (ea.symm.trans eb) hne
   .rw [if_neg eb]at hb;have:=key b ob (fun e=>eb e.symm) hb hob;have e1:(ext φ i l a).dj=w.heap.size:=by simp[ext,ea,hl]
    omega
  .rw [if_neg ea]at ha;have h1:=key a oa (fun e=>ea e.symm) ha hoa;by_cases eb:i=b
   .have e1:(ext φ i l b).dj=w.heap.size:=by simp[ext,eb,hl]
    omega
   .rw [if_neg eb]at hb;have:=h.o9 a b oa ob ha hb hoa hob hne;have e1:¬a=i:=fun e=>ea e.symm;have e2:¬b=i:=fun e=>eb e.symm;simpa[ext,e1,e2]using this
theorem Inv.mD{S K:Nat->Prop}{w0 w:World}{Kn:Nat->Prop}{φ:Nat->gV}{hf hf':Nat->Option Ob}(h:Inv S K w0 Kn φ hf w)(hsub:∀id o,hf' id=some o->hf id=some o):
  Inv S K w0 Kn φ hf' w:=
 ⟨h.vJ,h.sk,h.od,fun id o ho=>h.iM id o (hsub id o ho),fun i j a b ha hb=>h.o9 i j a b (hsub _ _ ha) (hsub _ _ hb),h.Cj,
  fun i sz sl k x hi hp=>let⟨a,b⟩:=h.xC i sz sl k x (hsub _ _ hi) hp;⟨fun j b hj=>a j b (hsub _ _ hj),fun j sz' sl' k' hj=>b j sz' sl' k' (hsub _ _ hj)⟩⟩
theorem Inv.set{S K:Nat->Prop}{w0 w w':World}{Kn:Nat->Prop}{φ:Nat->gV}{hf:Nat->Option Ob}(h:Inv S K w0 Kn φ hf w){id:Nat}{o o':Ob}
  (ho:hf id=some o) (hown:cW o=true) (hother:∀b,b≠(φ id).dj->w'.heap[b]?=w.heap[b]?) (hsize:w'.heap.size=w.heap.size)
  (hfrz:∀a,w'.frozen? a=w.frozen? a) (hsz:∀aK,pk w (φ id).dj aK->∃arr',pk w' (φ id).dj arr'/\arr'.size=aK.size) (hio:Io w w') (hro:gZ S w S w'->RO S K w' Kn φ (φ id) o') (hn:∀sz sl,o'≠.nst sz sl:=by intro _ _ e;cases e):
  gZ S w S w'/\Inv S K w0 Kn φ (bq [(id,some o')] hf) w':=by
 obtain⟨hk,h0⟩:=h.iM id o ho;obtain⟨hS,hK,hlt⟩:=h0.bD hown;have hs:gZ S w S w':=⟨fun _ h=>h,fun b hb=>hother b (fun e=>hS (e▸hb))⟩
 have fix:∀i a,bq [(id,some o')] hf i=some a->cW a=true->∃a',hf i=some a'/\cW a'=true:=by
  intro i a ha hoa;rw[cg]at ha;by_cases e:id=i
  .subst e;exact⟨o,ho,hown⟩
  .rw [if_neg e,fY]at ha;exact⟨a,ha,hoa⟩
 refine⟨hs,h.pN hs (Ren.refl _ _) (fun b hb=>hsize▸h.vJ b hb) h.sk ?_ ?_ ?_ ?_⟩
 .exact ⟨h.od.Gi,fun b hb=>(hother b (fun e=>hK (e▸hb))).trans (h.od.mV b hb),hsize▸h.od.tf,fun a ha=>(hfrz a).trans (h.od.Ba a ha),h.od.zh hother hsz,h.od.io.trans hio⟩
 .intro i x hx;rw[cg]at hx;by_cases e:id=i
  .simp_all
  .rw [if_neg e,fY]at hx;refine .inl ⟨hx,fun hox=>⟨hother _ ?_,((h.iM i x hx).2.bD hox).1⟩⟩;exact(h.o9 i id x o hx ho hox hown (fun e'=>e e'.symm))
 .intro i j a b ha hb hoa hob hne;obtain⟨a',ha',hoa'⟩:=fix i a ha hoa;obtain⟨b',hb',hob'⟩:=fix j b hb hob;exact h.o9 i j a' b' ha' hb' hoa' hob' hne
 .intro a sz sl ha;rw[cg]at ha;by_cases e:id=a
  .rw [if_pos e]at ha;exact absurd (aa ha) (hn _ _)
  .rw [if_neg e]at ha;refine⟨ha,hother _ (h.o9 a id _ o ha ho rfl hown fun q=>e q.symm),fun k x hp=>?_⟩;obtain⟨p1,_⟩:=h.xC a sz sl k x ha hp;refine⟨hother x fun q=>p1 id o ho hown q.symm,(h.IN ha hp).1,fun j b hj hb=>?_⟩
   grind
variable{P:Program}
def fS(P:Program)(t:TypeId):Option Nat:=(P.info? t).map (·.size)
def ge(P:Program)(t:TypeId):Option Bool:=(P.underlying t).map fun|.struct _|.array _ _=>true|_=>false
def jU(P:Program)(t:TypeId):Option (List Value):=match(P.info? t).bind (·.zero)with|some z=>if z.cells.toList.all ft then some z.cells.toList else none|none=>none
theorem ph(b off n:Nat):(⟨b,off,none⟩:Addr).add n=⟨b,off+n,none⟩:=by unfold Addr.add;split<;>simp_all
theorem gY{t:TypeId}{n:Nat}(h:fS P t=some n)(w:World):(sizeOf t).run P w=.ok n w:=by simp only[fS,aP]at h;obtain⟨i,hi,rfl⟩:=h;simp[sizeOf,typeInfo,hi]
theorem bQ{t:TypeId}{d:TypeDesc}(h:P.underlying t=some d)(w:World):(underlying t).run P w=.ok d w:=by simp[underlying,h]
theorem ut{t:TypeId}{g:Bool}(h:ge P t=some g)(w:World):(isAgg t).run P w=.ok g w:=by simp only[ge,aP]at h;obtain⟨d,hd,rfl⟩:=h;simp only[isAgg,Sem.run_bind,bQ hd,Result.andThen_ok];cases d<;>rfl
theorem oO{t:TypeId}{z:List Value}(h:jU P t=some z)(w:World):
  ∃v,(zeroValue t).run P w=.ok v w/\v.cells.toList=z/\∀x∈z,ft x=true:=by
 simp only[jU]at h;split at h
 .rename_i v hv;split at h
  .rename_i hp;obtain rfl:=aa h;obtain⟨i,hi,hz⟩:=gD.1 hv;exact⟨v,by simp[zeroValue,typeInfo,hi,hz],rfl,fun x hx=>a_.1 hp x hx⟩
  .simp at h
 .simp at h
section
variable{S K:Nat->Prop}{w0 w:World}{Kn:Nat->Prop}{φ:Nat->gV}{hf:Nat->Option Ob}
theorem Gh(agg:Bool)(n:Nat)(cells:List D):Qo agg n cells=D8 agg n (cells.map .d):=by
 unfold Qo D8;cases agg
 .cases cells<;>rfl
 .simp [List.map_take]
theorem wQ{t:TypeId}{agg:Bool}{n:Nat}(ha:ge P t=some agg)(hn:fS P t=some n){cells:List C}{b o:Nat}{v:TV}
  (hc:∀(j:Nat)(x:C),cells[j]?=some x->∃u,w.cell? ⟨b,o+j,none⟩=some u/\RC S w Kn φ x u) (h:D8 agg n cells=some v):
  ∃val,(loadVar t ⟨b,o,none⟩).run P w=.ok val w/\fX S w Kn φ v val:=by
 unfold D8 at h;cases agg
 .simp only[aH,if_false]at h;cases cells with
  |nil=>simp at h
  |cons x r=>
   obtain rfl:TV.c x=v:=by simpa using h
   obtain⟨u,hu,hr⟩:=hc 0 x rfl;refine⟨u,?_,.c hr⟩;simp only[loadVar,Sem.run_bind,ut ha,Result.andThen_ok,aH,if_false,run_load];simp only[eL]at hu;simp[hu]
 .simp only[if_true]at h;split at h
  .rename_i hle;obtain rfl:=aa h
   have hcell:∀j,j<n->w.cell? ((⟨b,o,none⟩:Addr).add j)=some ((w.cell? ⟨b,o+j,none⟩).getD undef):=by
    intro j hj;have hj':j<cells.length:=by omega
    obtain⟨u,hu,_⟩:=hc j cells[j] (by simp[hj']);rw[ph,hu];rfl
   refine⟨.agg ((fB n).map fun j=>(w.cell? ⟨b,o+j,none⟩).getD undef).toArray,?_,.agg (by simp;omega) ?_⟩
   .simp only[loadVar,Sem.run_bind,ut ha,Result.andThen_ok,if_true,gY hn,run_loadCells w _ n _ hcell,Sem.run_pure]
   .intro i x hi;rw[fc]at hi;split at hi
    .rename_i hin;obtain⟨u,hu,hr⟩:=hc i x hi;have:((fB n).map fun j=>(w.cell? ⟨b,o+j,none⟩).getD undef).toArray.getD i undef=u:=by simp[kU,hin,hu]
     rw[this];exact hr
    .simp at hi
  .simp at h
theorem CD{id fy:Nat}{sz:Nat}{rows:List (List D)}(hI:Inv S K w0 Kn φ hf w)(ho:hf id=some (.aK sz rows)\/hf id=some (.p_ sz rows)){r:List D}(hr:rows[fy]?=some r)(off:Nat):
  (φ id).sz=sz/\r.length=sz/\∀(j:Nat)(x:C),((r.drop off).map C.d)[j]?=some x->∃u,w.cell? ⟨(φ id).dj,(φ id).aJ+fy*(φ id).sz+off+j,none⟩=some u/\RC S w Kn φ x u:=by
 rcases ho with ho|ho
 .obtain ⟨hk,h0⟩:=hI.iM _ _ ho;cases h0 with|aK hsz hl hS hK hown hext hfit hrr=>refine⟨hl,hrr.1 _ _ hr,fun j x hj=>?_⟩;rw[aQ,bS]at hj;obtain⟨d,hd,rfl⟩:=aP.1 hj;obtain⟨u,hu,hrd⟩:=hrr.2 fy r hr (off+j) d hd;refine⟨u,?_,.d hrd⟩;rw[hown.cell,hl,<-hu];show _=_;congr 1;omega
 .obtain ⟨hk,h0⟩:=hI.iM _ _ ho;cases h0 with|p_ hsz hl hS hrr=>refine⟨hl,hrr.1 _ _ hr,fun j x hj=>?_⟩;rw[aQ,bS]at hj;obtain⟨d,hd,rfl⟩:=aP.1 hj;obtain⟨u,hu,hrd⟩:=hrr.2 fy r hr (off+j) d hd;refine⟨u,?_,.d hrd⟩;rw[hl,<-hu];simp only[dz]
theorem yV{t:TypeId}{agg:Bool}{n:Nat}(ha:ge P t=some agg)(hn:fS P t=some n){p:C}{H:bC}{v:TV}{az:List Nat}{pv:Value}
  (hI:Inv S K w0 Kn φ (aw H) w) (hp:RC S w Kn φ p pv) (h:iv agg n p H=some (v,az)):
  ∃val,(Instr.loadAt t pv).run P w=.ok val w/\fX S w Kn φ v val:=by
 unfold iv at h;split at h
 .rename_i cells;split at h
  .rename_i v' hv;obtain⟨rfl,rfl⟩:v'=v/\[]=az:=by simpa using h
   rw[Gh]at hv;cases hp with
   |d hd=>cases hd with|pt f hb hcell hrd=>obtain⟨val,h1,h2⟩:=wQ (Kn:=Kn) (φ:=φ) (S:=S) ha hn (cells:=cells.map .d) (fun j x hj=>by rw[aQ]at hj;obtain⟨d,hd,rfl⟩:=aP.1 hj;exact⟨_,hcell j d hd,.d (hrd j d hd)⟩) hv;exact⟨val,by simp[Instr.loadAt,Instr.sureAddr,h1],h2⟩
  .simp at h
 .rename_i id fy off
  have key:∀sz rows,(aw H id=some (.aK sz rows)\/aw H id=some (.p_ sz rows))->
    (match rows[fy]?with|some r=>(match Qo agg n (r.drop off)with|some v=>some (v,[id])|none=>none)|none=>none)=some (v,az)->
    ∃val,(Instr.loadAt t pv).run P w=.ok val w/\fX S w Kn φ v val:=by
   intro sz rows ho h;split at h
   .rename_i r hr;split at h
    .rename_i v' hv;obtain⟨rfl,rfl⟩:v'=v/\[id]=az:=by simpa using h
     rw[Gh]at hv;obtain⟨hl,hrl,hc⟩:=CD hI ho hr off;cases hp with|ep hk=>obtain⟨val,h1,h2⟩:=wQ ha hn hc hv;exact⟨val,by simp[Instr.loadAt,Instr.sureAddr,h1],h2⟩
    .simp at h
   .simp at h
  split at h
  .rename_i sz rows ho;exact key sz rows (.inl ho) h
  .rename_i sz rows ho;exact key sz rows (.inr ho) h
  .simp at h
 .rename_i id off;split at h
  .rename_i cells ho;split at h
   .rename_i v' hv;obtain⟨rfl,rfl⟩:v'=v/\[id]=az:=by simpa using h
    obtain⟨hk,h0⟩:=hI.iM _ _ ho;cases h0 with
    |box hb hS hK hown hlen hrr=>cases hp with|op hk=>obtain⟨val,h1,h2⟩:=wQ (S:=S) (Kn:=Kn) (φ:=φ) ha hn (cells:=cells.drop off) (b:=(φ id).dj) (o:=(φ id).aJ+off) (fun j x hj=>by rw[bS]at hj;have hlt:=(ap.1 hj).1;rw[hlen]at hlt;refine⟨_,?_,hrr _ _ hj⟩;rw[hown.cell,hb];simp[kU,hlt]) hv;exact⟨val,by simp[Instr.loadAt,Instr.sureAddr,h1],h2⟩
   .simp at h
  .rename_i cells ho;split at h
   .rename_i v' hv;obtain⟨rfl,rfl⟩:v'=v/\[id]=az:=by simpa using h
    rw[Gh]at hv;obtain⟨hk,h0⟩:=hI.iM _ _ ho;cases h0 with
    |oW hb hS hrr=>cases hp with|op hk=>obtain⟨val,h1,h2⟩:=wQ (S:=S) (Kn:=Kn) (φ:=φ) ha hn (cells:=(cells.drop off).map .d) (b:=(φ id).dj) (o:=(φ id).aJ+off) (fun j x hj=>by rw[aQ,bS]at hj;obtain⟨d,hd,rfl⟩:=aP.1 hj;obtain⟨u,hu,hr⟩:=hrr _ _ hd;exact⟨u,by rw[hb,<-hu];simp,.d hr⟩) hv;exact⟨val,by simp[Instr.loadAt,Instr.sureAddr,h1],h2⟩
   .simp at h
  .simp at h
 .simp at h
theorem AD{w:World}{b:Nat}{old aK:Array Value}(h:pk w b old)(a:Addr):(w.setRow b aK).frozen? a=w.frozen? a:=by
 obtain⟨t,h⟩:=h;unfold World.frozen?;by_cases e:a.block=b
 .rw [e,setRow_heap w b old aK t _ h,h]
 .rw [setRow_other w b _ _ e]
theorem zi{w:World}{b:Nat}{old aK:Array Value}(h:pk w b old):pk (w.setRow b aK) b aK:=by obtain⟨t,h⟩:=h;exact⟨t,setRow_heap w b old aK t _ h⟩
theorem pV(v:Value):v.oneCell'=one v:=by cases v<;>rfl
theorem fX.cells{S:Nat->Prop}{w:World}{Kn:Nat->Prop}{φ:Nat->gV}{v:TV}{val:Value}{cs:List C}(h:fX S w Kn φ v val)(hc:cellsOf v=some cs):
  cs.length=val.cells.size/\(∀(i:Nat)(x:C),cs[i]?=some x->RC S w Kn φ x (val.cells.getD i undef))/\∀x∈val.cells.toList,one x=true:=by
 cases h with
 |@c x v h=>
  obtain rfl:[x]=cs:=by simpa[cellsOf]using hc
  have e:=sN h.one;refine⟨by rw[e];rfl,fun i y hi=>?_,fun y hy=>?_⟩
  .cases i with
   |zero=>
    rw[e];obtain rfl:x=y:=by simpa using hi
    exact h
   |succ i=>simp at hi
  .rw [e]at hy;obtain rfl:y=val:=by simpa using hy
   exact h.one
 |@agg cs' aK hlen h=>
  obtain rfl:cs'=cs:=by simpa[cellsOf]using hc
  refine⟨hlen,h,fun y hy=>?_⟩;obtain⟨i,hi,rfl⟩:=i_ hy;have hi':i<aK.size:=by simpa[Value.cells]using hi
  have:=(h i (cs'[i]'(by omega)) (by simp[hlen,hi'])).one;simpa[kU,hi',Value.cells]using this
 |ia hlen h=>simp[cellsOf]at hc
theorem N3{t:TypeId}{n:Nat}(hn:fS P t=some n){b o:Nat}{aK:Array Value}{val:Value}(ho:pk w b aK)(hlen:val.cells.size=n)(hfit:o+n<=aK.size)
  (hone:∀x∈val.cells.toList,one x=true):
  (storeVar t ⟨b,o,none⟩ val).run P w=.ok () (w.setRow b (aK.toList.take o++val.cells.toList++aK.toList.drop (o+n)).toArray):=by
 obtain⟨ty,hb⟩:=ho;have:=run_storeCells_at P b o ty val.cells.toList 0 aK w hb (by simp;omega) (fun v hv=>by rw[pV];exact hone v hv);have e:val.cells.toList.length=n:=by simpa using hlen
 rw[e]at this;simp only[eL]at this;simp only[storeVar,Sem.run_bind,gY hn,Result.andThen_ok,hlen,ne_eq,not_true_eq_false,if_false];exact this
theorem jV{α:Type}(l:List α)(off:Nat)(p:List α)(hfit:off+p.length<=l.length)(i:Nat):
  (aX l off p)[i]?=if i<off then l[i]?else if i<off+p.length then p[i-off]?else l[i]?:=by
 unfold aX;by_cases h1:i<off
 .rw [List.append_assoc,bH (by simp;omega)];simp[h1]
 .by_cases h2:i<off+p.length
  .rw [bH (by simp;omega),bL (by simp;omega)];simp only[cj,h1,h2,if_true,if_false];congr 1;omega
  .rw [bL (by simp;omega)];simp only[List.length_append,cj,bS,h1,h2,if_false];congr 1;omega
theorem eT{α:Type}(l:List α)(off:Nat)(p:List α)(hfit:off+p.length<=l.length):(aX l off p).length=l.length:=by unfold aX;simp;omega
theorem Q8{aK:Array Value}{vs:List Value}{o n:Nat}(hn:vs.length=n):aK.toList.take o++vs++aK.toList.drop (o+n)=aX aK.toList o vs:=by rw[<-hn];rfl
end
section
variable{S K:Nat->Prop}{w0 w:World}{Kn:Nat->Prop}{φ:Nat->gV}{hf:Nat->Option Ob}
theorem RD.AW{sz:Nat}{rows:List (List D)}{b off len cap:Nat}(hb:S b)(hsz:0<sz)(hlen:rows.length=len)(hcap:len<=cap)
  (h:di S w sz (fun i=>w.cell? ⟨b,i,none⟩) off rows):RD S w (.sl sz rows) (.slice (some ⟨b,off,none⟩) len cap):=by
 subst hlen;refine .sl (fun i j=>(w.cell? ⟨b,off+i*sz+j,none⟩).getD undef) hb hsz hcap h.1 (fun i r hi j x hj=>?_) (fun i r hi j x hj=>?_)
 .obtain ⟨v,hv,_⟩:=h.2 i r hi j x hj;simp only at hv;rw[hv];rfl
 .obtain ⟨v,hv,hr⟩:=h.2 i r hi j x hj;simp only at hv;rw[hv];exact hr
theorem RD.ze{cells:List D}{b off:Nat}(hb:S b)(h:∀(j:Nat)(x:D),cells[j]?=some x->∃v,w.cell? ⟨b,off+j,none⟩=some v/\RD S w x v):
  RD S w (.pt cells) (.pointer (some ⟨b,off,none⟩)):=by
 refine .pt (fun j=>(w.cell? ⟨b,off+j,none⟩).getD undef) hb (fun j x hj=>?_) (fun j x hj=>?_)
 .obtain ⟨v,hv,_⟩:=h j x hj;rw[hv];rfl
 .obtain ⟨v,hv,hr⟩:=h j x hj;rw[hv];exact hr
def sA(w:World)(l:gV):List ly->Nat->List Nat
 |[],_=>[]
 |.bD _::r,k=>(match(w.cell? ⟨l.dj,l.aJ+k,none⟩).bind xY with|some b=>b::sA w l r (k+1)|none=>sA w l r (k+1))
 |_::r,k=>sA w l r (k+1)
def iw(w:World)(φ:Nat->gV)(hf:Nat->Option Ob)(i:Nat):List Nat:=(φ i).dj::(match hf i with|some (.nst _ sl)=>sA w (φ i) sl 0|_=>[])
theorem DC{l:gV}{x:Nat}:∀{sl:List ly}{k0:Nat},x∈sA w l sl k0<->∃k rows v,sl[k]?=some (.bD rows)/\w.cell? ⟨l.dj,l.aJ+(k0+k),none⟩=some v/\xY v=some x:=by
 intro sl;induction sl with
 |nil=>intro k0;simp[sA]
 |cons s sl ih=>
  intro k0;have tl:(∃k rows v,sl[k]?=some (.bD rows)/\w.cell? ⟨l.dj,l.aJ+(k0+1+k),none⟩=some v/\xY v=some x)->∃k rows v,(s::sl)[k]?=some (.bD rows)/\w.cell? ⟨l.dj,l.aJ+(k0+k),none⟩=some v/\xY v=some x:=by rintro⟨k,rows,v,h1,h2,h3⟩;exact⟨k+1,rows,v,by simpa using h1,by rw[<-h2,show k0+(k+1)=k0+1+k by omega],h3⟩
  have key:(∀rows,s≠.bD rows)->((∃k rows v,(s::sl)[k]?=some (.bD rows)/\w.cell? ⟨l.dj,l.aJ+(k0+k),none⟩=some v/\xY v=some x)->∃k rows v,sl[k]?=some (.bD rows)/\w.cell? ⟨l.dj,l.aJ+(k0+1+k),none⟩=some v/\xY v=some x):=by rintro hs ⟨k,rows,v,h1,h2,h3⟩;cases k with|zero=>exact absurd (by simpa using h1) (hs rows)|succ k=>exact⟨k,rows,v,by simpa using h1,by rw[<-h2,show k0+(k+1)=k0+1+k by omega],h3⟩
  cases s with
  |nil=>exact ih.trans ⟨tl,key fun _ e=>by cases e⟩
  |oA id len=>exact ih.trans ⟨tl,key fun _ e=>by cases e⟩
  |bD rows0=>
   simp only[sA];constructor
   .intro hx;split at hx
    .rename_i b hb;rcases aN.1 hx with rfl|hx
     .obtain ⟨v,h1,h2⟩:=gD.1 hb;exact⟨0,rows0,v,rfl,h1,h2⟩
     .exact tl (ih.1 hx)
    .exact tl (ih.1 hx)
   .rintro ⟨k,rows,v,h1,h2,h3⟩;cases k with
    |zero=>
     have e:(w.cell? ⟨l.dj,l.aJ+k0,none⟩).bind xY=some x:=by rw[show l.aJ+k0=l.aJ+(k0+0)from rfl,h2];exact h3
     rw[e];simp
    |succ k=>
     have hm:=ih.2 ⟨k,rows,v,by simpa using h1,by rw[<-h2,show k0+(k+1)=k0+1+k by omega],h3⟩;split
     .exact aF _ hm
     .exact hm
theorem Ho{l:gV}{x:Nat}{sl:List ly}:x∈sA w l sl 0<->∃k,sW w l sl k x:=by rw[DC];simp only[bG];exact Iff.rfl
theorem FT{l:gV}:∀{sl:List ly}{k0:Nat},(∀k k' x rows rows' v v',sl[k]?=some (.bD rows)->w.cell? ⟨l.dj,l.aJ+(k0+k),none⟩=some v->xY v=some x->sl[k']?=some (.bD rows')->w.cell? ⟨l.dj,l.aJ+(k0+k'),none⟩=some v'->xY v'=some x->k=k')->(sA w l sl k0).Nodup:=by
 intro sl;induction sl with
 |nil=>intro k0 _;exact kF
 |cons s sl ih=>
  intro k0 h;have h':(sA w l sl (k0+1)).Nodup:=ih fun k k' x rows rows' v v' h1 h2 h3 h4 h5 h6=>by have:=h (k+1) (k'+1) x rows rows' v v' (by simpa using h1) (by rw[<-h2,show k0+(k+1)=k0+1+k by omega]) h3 (by simpa using h4) (by rw[<-h5,show k0+(k'+1)=k0+1+k' by omega]) h6;omega
  cases s with
  |nil=>exact h'
  |oA id len=>exact h'
  |bD rows0=>
   simp only[sA];split
   .rename_i b hb;refine fR.2 ⟨fun hm=>?_,h'⟩;obtain⟨v0,h1,h2⟩:=gD.1 hb;obtain⟨k,rows,v,h3,h4,h5⟩:=DC.1 hm;have:=h 0 (k+1) b rows0 rows v0 v rfl h1 h2 (by simpa using h3) (by rw[<-h4,show k0+(k+1)=k0+1+k by omega]) h5;omega
   .exact h'
theorem eG{i x:Nat}:x∈iw w φ hf i<->x=(φ i).dj\/∃sz sl k,hf i=some (.nst sz sl)/\sW w (φ i) sl k x:=by
 unfold iw;rw[aN];refine or_congr_right ?_;split
 .rename_i sz sl h;rw[Ho];exact⟨fun⟨k,hk⟩=>⟨sz,sl,k,h,hk⟩,fun⟨_,_,k,h1,hk⟩=>by rw[h]at h1;cases h1;exact⟨k,hk⟩⟩
 .rename_i h;exact⟨fun hx=>by simp at hx,fun⟨sz,sl,k,h1,_⟩=>(h sz sl h1).elim⟩
theorem oZ(hI:Inv S K w0 Kn φ hf w){i:Nat}{o:Ob}(ho:hf i=some o)(hown:cW o=true){x:Nat}(hx:x∈iw w φ hf i):¬S x/\¬K x/\x<w.heap.size:=by
 rcases eG.1 hx with rfl|⟨sz,sl,k,h1,h2⟩
 .exact (hI.iM i o ho).2.bD hown
 .obtain ⟨a,b,c,_⟩:=hI.IN h1 h2;exact⟨a,b,c⟩
theorem oF(hI:Inv S K w0 Kn φ hf w){i j:Nat}{a b:Ob}(hi:hf i=some a)(hj:hf j=some b)(ha:cW a=true)(hb:cW b=true)(hne:i≠j){x:Nat}(hx:x∈iw w φ hf i):x∉iw w φ hf j:=by
 intro hy;rcases eG.1 hx with rfl|⟨sz,sl,k,h1,h2⟩<;>rcases eG.1 hy with e|⟨sz',sl',k',h3,h4⟩
 .exact hI.o9 i j a b hi hj ha hb hne e
 .exact (hI.xC j sz' sl' k' _ h3 h4).1 i a hi ha rfl
 .subst e;exact(hI.xC i sz sl k _ h1 h2).1 j b hj hb rfl
 .exact hne (((hI.xC i sz sl k x h1 h2).2 j sz' sl' k' h3 h4).1).symm
theorem GO(hI:Inv S K w0 Kn φ hf w){i:Nat}{o:Ob}(ho:hf i=some o)(hown:cW o=true):(iw w φ hf i).Nodup:=by
 unfold iw;refine fR.2 ⟨fun hm=>?_,?_⟩
 .split at hm
  .rename_i sz sl h;obtain⟨k,hk⟩:=Ho.1 hm;exact(hI.xC i sz sl k _ h hk).1 i o ho hown rfl
  .simp at hm
 .split
  .rename_i sz sl h;refine FT fun k k' x rows rows' v v' h1 h2 h3 h4 h5 h6=>?_;rw[bG]at h2 h5;exact(((hI.xC i sz sl k x h ⟨rows,v,h1,h2,h3⟩).2 i sz sl k' h ⟨rows',v',h4,h5,h6⟩).2).symm
  .exact kF
theorem lp(i:Nat):(φ i).dj∈iw w φ hf i:=eG.2 (.inl rfl)
def SB(S:Nat->Prop)(w:World)(φ:Nat->gV)(hf:Nat->Option Ob)(az:List Nat)(b:Nat):Prop:=S b\/∃i∈az,b∈iw w φ hf i
theorem SB.AS(a b:List Nat)(h:∀i∈a,i∈b):gZ (SB S w φ hf a) w (SB S w φ hf b) w:=⟨fun _ hb=>hb.imp id fun⟨i,hi,e⟩=>⟨i,h i hi,e⟩,fun _ _=>rfl⟩
theorem SB.tG(b:List Nat):gZ S w (SB S w φ hf b) w:=⟨fun _ hb=>.inl hb,fun _ _=>rfl⟩
theorem Ib.rd{sz b:Nat}{rows:List (List D)}{v:Value}(h:Ib S w sz rows v b){T:Nat->Prop}(hT:gZ S w T w)(hb:T b):RD T w (.sl sz rows) v:=by obtain⟨addr,cap,aK,rfl,h2,h3,h4,_,h6⟩:=h;exact .AW hb h2 rfl h4 ⟨h6.1,fun i r hi j x hj=>let⟨v,hv,hr⟩:=h6.2 i r hi j x hj;⟨v,(h3.cell _).trans hv,hr.mono hT⟩⟩
theorem DX{l:gV}{szi:Nat}{slots:List ly}(h:RO S K w Kn φ l (.nst szi slots)){rows:List (List D)}(hd:rb szi slots=some rows){T:Nat->Prop}(hT:gZ S w T w)(hp:∀k x,sW w l slots k x->T x):
  rows.length=slots.length/\di T w 1 (fun i=>w.cell? ⟨l.dj,i,none⟩) l.aJ rows:=by
 have key:∀(slots:List ly)(rows:List (List D)),rb szi slots=some rows->rows.length=slots.length/\∀(i:Nat)(r:List D),rows[i]?=some r->∃s x,slots[i]?=some s/\KD szi s=some x/\r=[x]:=by
  intro slots;induction slots with
  |nil=>intro rows h;obtain rfl:=aa h;exact⟨rfl,fun i r hi=>by simp at hi⟩
  |cons s slots ih=>
   intro rows h;simp only[rb]at h;split at h
   .rename_i x l hx hl;obtain rfl:=aa h;obtain⟨h1,h2⟩:=ih l hl;refine⟨by simp[h1],fun i r hi=>?_⟩;cases i with|zero=>exact⟨s,x,rfl,hx,(by simpa using hi:[x]=r).symm⟩|succ i=>obtain⟨s',x',e1,e2,e3⟩:=h2 i r (by simpa using hi);exact⟨s',x',by simpa using e1,e2,e3⟩
   .simp at h
 obtain⟨k1,k2⟩:=key slots rows hd;cases h with
 |nst hsz hl hS hK ho hext hfit hr hv=>
  refine⟨k1,fun i r hi=>by obtain⟨_,_,_,_,rfl⟩:=k2 i r hi;rfl,fun i r hi j x hj=>?_⟩;obtain⟨s,y,e1,e2,rfl⟩:=k2 i r hi;cases j with
  |succ j=>simp at hj
  |zero=>
   obtain rfl:y=x:=by simpa using hj
   obtain⟨v,h1,h2⟩:=hr i s e1;refine⟨v,by rw[Nat.mul_one,eL];exact(ho.cell _).trans h1,?_⟩;cases h2 with|nil=>obtain rfl:=aa e2;exact .lit rfl|@bD rows' _ b h3 _ _=>obtain rfl:=aa e2;exact h3.rd hT (hp i b ⟨rows',v,e1,(ho.cell _).trans h1,h3.dj⟩)|oA _=>simp[KD]at e2
theorem ow{id sz:Nat}{rows:List (List D)}(hI:Inv S K w0 Kn φ hf w)(ho:hf id=some (.aK sz rows)\/hf id=some (.p_ sz rows)):
  0<sz/\(φ id).sz=sz/\di S w sz (fun i=>w.cell? ⟨(φ id).dj,i,none⟩) (φ id).aJ rows:=by
 rcases ho with ho|ho
 .obtain ⟨_,h0⟩:=hI.iM _ _ ho;cases h0 with|aK hsz hl hS hK hown hext hfit hrr=>exact⟨hsz,hl,hrr.1,fun i r hi j x hj=>let⟨v,hv,hr⟩:=hrr.2 i r hi j x hj;⟨v,(hown.cell _).trans hv,hr⟩⟩
 .obtain ⟨_,h0⟩:=hI.iM _ _ ho;cases h0 with|p_ hsz hl hS hrr=>exact⟨hsz,hl,hrr⟩
theorem di.sub{sz aJ:Nat}{get:Nat->Option Value}{rows:List (List D)}(h:di S w sz get aJ rows)(off len:Nat):
  di S w sz get (aJ+off*sz) ((rows.drop off).take len):=by
 have key:∀i(r:List D),((rows.drop off).take len)[i]?=some r->rows[off+i]?=some r:=by
  intro i r hi;rw[fc]at hi;split at hi
  .rwa [bS]at hi
  .simp at hi
 refine⟨fun i r hi=>h.1 _ _ (key i r hi),fun i r hi j x hj=>?_⟩;obtain⟨v,hv,hr⟩:=h.2 _ _ (key i r hi) j x hj;refine⟨v,?_,hr⟩;rw[<-hv];congr 1;rw[Nat.add_mul];omega
theorem di.xR{sz aJ addr:Nat}{get:Nat->Option Value}{rows:List (List D)}(h:di S w sz get aJ rows)(off len:Nat)(ha:0<len->addr=aJ+off*sz):
  di S w sz get addr ((rows.drop off).take len):=by
 cases len with|zero=>exact⟨fun i r hi=>by simp at hi,fun i r hi=>by simp at hi⟩|succ n=>rw[ha (Nat.succ_pos _)];exact h.sub off _
theorem C6{sz id off len:Nat}{rows:List (List D)}{v:Value}{szo:Nat}(hI:Inv S K w0 Kn φ hf w)(hc:RC S w Kn φ (.cE sz id off len) v)
  (ho:hf id=some (.aK szo rows)\/hf id=some (.p_ szo rows)) (hle:off+len<=rows.length) {T:Nat->Prop} (hT:gZ S w T w) (hb:T (φ id).dj):
  RD T w (.sl sz ((rows.drop off).take len)) v:=by
 obtain⟨hsz,hl,hr⟩:=ow hI ho;subst hl;cases hc with|cE hk hcap haddr hext=>exact .AW hb hsz (by simp;omega) hcap ((hr.xR off len fun h=>haddr (by omega)).mono hT)
theorem NI{id fy off sz:Nat}{rows:List (List D)}{r:List D}{v:Value}(hI:Inv S K w0 Kn φ hf w)(hc:RC S w Kn φ (.ep id fy off) v)
  (ho:hf id=some (.aK sz rows)\/hf id=some (.p_ sz rows)) (hr:rows[fy]?=some r) {T:Nat->Prop} (hT:gZ S w T w) (hb:T (φ id).dj):
  RD T w (.pt (r.drop off)) v:=by
 obtain⟨hsz,hl,hrr⟩:=ow hI ho;cases hc with|ep hk=>refine .ze hb fun j x hj=>?_;rw[bS]at hj;obtain⟨u,hu,hd⟩:=hrr.2 fy r hr (off+j) x hj;refine⟨u,?_,hd.mono hT⟩;rw[<-hu,hl];simp only[dz]
theorem AO{H:bC}(hI:Inv S K w0 Kn φ (aw H) w)(n:Nat)(c:C)(x:D)(az:List Nat)(v:Value)(hleaf:match c with|.op _ _|.pp _ _=>False|_=>True)
  (h:eM H n c=some (x,az)) (hc:RC S w Kn φ c v):RD (SB S w φ (aw H) az) w x v:=by
 cases c with
 |d y=>simp only[eM,bM,Prod.mk.injEq]at h;obtain⟨rfl,rfl⟩:=h;cases hc with|d hd=>exact hd.mono (SB.tG _)
 |cE sz id off len=>
  simp only[eM]at h
  have key:∀szo rows,(aw H id=some (.aK szo rows)\/aw H id=some (.p_ szo rows))->(if off+len<=rows.length then some (D.sl sz ((rows.drop off).take len),[id])else none)=some (x,az)->RD (SB S w φ (aw H) az) w x v:=by
   intro szo rows ho h;split at h
   .rename_i hle;obtain⟨rfl,rfl⟩:=af (aa h);exact C6 hI hc ho hle (SB.tG _) (.inr ⟨_,by simp,lp _⟩)
   .simp at h
  split at h
  .exact key _ _ (.inl (by assumption)) h
  .exact key _ _ (.inr (by assumption)) h
  .rename_i szi slots ho;split at h
   .rename_i he;obtain⟨rfl,rfl⟩:=he;split at h
    .rename_i rows hd;obtain⟨rfl,rfl⟩:=af (aa h);obtain⟨_,hro⟩:=hI.iM _ _ ho;obtain⟨h1,h2⟩:=DX hro hd (SB.tG (hf:=aw H) (φ:=φ) [id]) fun k x hp=>.inr ⟨id,by simp,eG.2 (.inr ⟨szi,slots,k,ho,hp⟩)⟩;cases hro with
     |nst hsz hl=>
      cases hc with
      |cE hk hcap haddr hext=>rw[hl];refine .AW (.inr ⟨id,by simp,lp id⟩) Nat.one_pos h1 hcap ?_;cases hs:slots with|nil=>have:rows=[]:=List.length_eq_zero_iff.1 (by rw[h1,hs];rfl);rw[this];exact⟨fun i r hi=>by simp at hi,fun i r hi=>by simp at hi⟩|cons s r=>rw[hs]at hcap;have:=haddr (by simp at hcap;omega);rw[this,hl,Nat.zero_mul,eL];exact h2
    .simp at h
   .simp at h
  .simp at h
 |ep id fy off=>
  simp only[eM]at h
  have key:∀szo rows,(aw H id=some (.aK szo rows)\/aw H id=some (.p_ szo rows))->
    (match rows[fy]?with|some r=>if off<=r.length then some (D.pt (r.drop off),[id])else none|none=>none)=some (x,az)->RD (SB S w φ (aw H) az) w x v:=by
   intro szo rows ho h;split at h
   .rename_i r hr;split at h
    .obtain ⟨rfl,rfl⟩:=af (aa h);exact NI hI hc ho hr (SB.tG _) (.inr ⟨_,by simp,lp _⟩)
    .simp at h
   .simp at h
  split at h
  .exact key _ _ (.inl (by assumption)) h
  .exact key _ _ (.inr (by assumption)) h
  .simp at h
 |op id off=>exact hleaf.elim
 |pp f caps=>exact hleaf.elim
 |om id=>cases n<;>simp[eM]at h
theorem vc{H:bC}(hI:Inv S K w0 Kn φ (aw H) w):∀n,
  (∀c x az v,eM H n c=some (x,az)->RC S w Kn φ c v->RD (SB S w φ (aw H) az) w x v)/\
  (∀cs xs az,gw H n cs=some (xs,az)->∀(get:Nat->Option Value),(∀(i:Nat)(c:C),cs[i]?=some c->∃v,get i=some v/\RC S w Kn φ c v)->
   xs.length=cs.length/\∀(i:Nat)(x:D),xs[i]?=some x->∃v,get i=some v/\RD (SB S w φ (aw H) az) w x v):=by
 intro n;induction n with
 |zero=>
  refine⟨fun c x az v h hc=>?_,fun cs xs az h get hg=>?_⟩
  .cases c with|op id off=>simp[eM]at h|pp f caps=>simp[eM]at h|_=>exact AO hI 0 _ x az v trivial h hc
  .cases cs with
   |nil=>
    obtain⟨rfl,rfl⟩:[]=xs/\[]=az:=by simpa[gw]using h
    exact⟨rfl,fun i x hi=>by simp at hi⟩
   |cons c cs=>simp[gw]at h
 |succ n ih=>
  obtain⟨ihc,ihl⟩:=ih;refine⟨fun c x az v h hc=>?_,fun cs xs az h get hg=>?_⟩
  .cases c with
   |op id off=>
    simp only[eM]at h;split at h
    .rename_i cells ho;split at h
     .obtain ⟨rfl,rfl⟩:=af (aa h);obtain⟨_,h0⟩:=hI.iM _ _ ho;cases h0 with
      |oW hb hS hr=>cases hc with|op hk=>refine .ze (.inl hS) fun j x hj=>?_;rw[bS]at hj;obtain⟨u,hu,hd⟩:=hr _ _ hj;exact⟨u,by rw[<-hu,hb,bG],hd.mono (SB.tG _)⟩
     .simp at h
    .rename_i cells ho;split at h
     .rename_i ds ids' hv;split at h
      .obtain ⟨rfl,rfl⟩:=af (aa h);obtain⟨_,h0⟩:=hI.iM _ _ ho;cases h0 with
       |@box _ aK hb hS hK hown hlen hr=>cases hc with|op hk=>obtain⟨h1,h2⟩:=ihl cells ds ids' hv (fun i=>w.cell? ⟨(φ id).dj,i,none⟩) (fun i c hi=>by have hlt:=(ap.1 hi).1;rw[hlen]at hlt;exact⟨aK.getD i undef,by rw[hown.cell];simp[kU,hlt],hr i c hi⟩);refine .ze (.inr ⟨id,by simp,lp _⟩) fun j x hj=>?_;rw[bS]at hj;obtain⟨u,hu,hd⟩:=h2 _ _ hj;exact⟨u,by rw[<-hu,hb,bG],hd.mono (SB.AS _ _ fun i hi=>by simp[hi])⟩
      .simp at h
     .simp at h
    .simp at h
   |pp f caps=>
    simp only[eM]at h;split at h
    .rename_i ds ids' hv;obtain⟨rfl,rfl⟩:=af (aa h);cases hc with
     |@pp _ _ vs hlen hr=>
      obtain⟨h1,h2⟩:=ihl caps ds ids' hv (fun i=>vs[i]?) (fun i c hi=>by have hlt:=(ap.1 hi).1;rw[hlen]at hlt;exact⟨vs.getD i undef,by simp[kU,hlt],hr i c hi⟩);refine .fn (h1.trans hlen) fun j x hj=>?_;obtain⟨u,hu,hd⟩:=h2 j x hj;have hu':vs[j]?=some u:=hu;have:vs.getD j undef=u:=by simp[hu']
      rw[this];exact hd
    .simp at h
   |_=>exact AO hI (n+1) _ x az v trivial h hc
  .cases cs with
   |nil=>
    obtain⟨rfl,rfl⟩:[]=xs/\[]=az:=by simpa[gw]using h
    exact⟨rfl,fun i x hi=>by simp at hi⟩
   |cons c cs=>
    simp only[gw]at h;split at h
    .rename_i x0 a xs0 b hx hxs;obtain⟨rfl,rfl⟩:=af (aa h);obtain⟨v0,hv0,hc0⟩:=hg 0 c rfl;have h0:=ihc c x0 a v0 hx hc0;obtain⟨h1,h2⟩:=ihl cs xs0 b hxs (fun i=>get (i+1)) (fun i c hi=>hg (i+1) c (by simpa using hi));refine⟨by simp[h1],fun i x hi=>?_⟩;cases i with
     |zero=>
      obtain rfl:x0=x:=by simpa using hi
      exact⟨v0,hv0,h0.mono (SB.AS _ _ fun i hi=>by simp[hi])⟩
     |succ i=>obtain⟨u,hu,hd⟩:=h2 i x (by simpa using hi);exact⟨u,hu,hd.mono (SB.AS _ _ fun i hi=>by simp[hi])⟩
    .simp at h
theorem pu{H:bC}(hI:Inv S K w0 Kn φ (aw H) w):∀cs xs az,dZ H cs=some (xs,az)->∀(get:Nat->Option Value),(∀(i:Nat)(c:C),cs[i]?=some c->∃v,get i=some v/\RC S w Kn φ c v)->
   xs.length=cs.length/\∀(i:Nat)(x:D),xs[i]?=some x->∃v,get i=some v/\RD (SB S w φ (aw H) az) w x v:=by
 intro cs;induction cs with
 |nil=>
  intro xs az h get hg;obtain⟨rfl,rfl⟩:[]=xs/\[]=az:=by simpa[dZ]using h
  exact⟨rfl,fun i x hi=>by simp at hi⟩
 |cons c cs ih=>
  intro xs az h get hg;simp only[dZ]at h;split at h
  .rename_i x0 a xs0 b hx hxs;obtain⟨rfl,rfl⟩:=af (aa h);obtain⟨v0,hv0,hc0⟩:=hg 0 c rfl;have h0:=(vc hI 300).1 c x0 a v0 hx hc0;obtain⟨h1,h2⟩:=ih xs0 b hxs (fun i=>get (i+1)) (fun i c hi=>hg (i+1) c (by simpa using hi));refine⟨by simp[h1],fun i x hi=>?_⟩;cases i with
   |zero=>
    obtain rfl:x0=x:=by simpa using hi
    exact⟨v0,hv0,h0.mono (SB.AS _ _ fun i hi=>by simp[hi])⟩
   |succ i=>obtain⟨u,hu,hd⟩:=h2 i x (by simpa using hi);exact⟨u,hu,hd.mono (SB.AS _ _ fun i hi=>by simp[hi])⟩
  .simp at h
theorem kP{H:bC}{all:List Nat}:∀(l:List Nat)(u:eS),dJ H all l=some u->
  ∀id,(id∈l->∃o,kw H all id=some o/\cm u id=some (some o))/\(id∉l->cm u id=none):=by
 intro l;induction l with
 |nil=>
  intro u h id;obtain rfl:[]=u:=by simpa[dJ]using h
  exact⟨fun h=>by simp at h,fun _=>rfl⟩
 |cons a l ih=>
  intro u h id;simp only[dJ]at h;split at h
  .rename_i o u' ho hu;obtain rfl:=aa h;by_cases e:a=id
   .subst e;exact⟨fun _=>⟨o,ho,by simp[cm]⟩,fun hn=>absurd (List.mem_cons_self ..) hn⟩
   .obtain ⟨h1,h2⟩:=ih u' hu id;have e':(a==id)=false:=by simpa using e
    refine⟨fun hm=>?_,fun hn=>?_⟩
    .obtain ⟨o',ho',hf'⟩:=h1 ((aN.1 hm).resolve_left (fun e2=>e e2.symm));exact⟨o',ho',by simp[cm,e',hf']⟩
    .simp only[cm,e',cond_false];exact h2 (fun hm=>hn (aF _ hm))
  .simp at h
theorem Bb{H:bC}{all:List Nat}{id:Nat}{o:Ob}(hI:Inv S K w0 Kn φ (aw H) w)(hmem:id∈all)(h:kw H all id=some o):
  cW o=false/\(∃o0,aw H id=some o0)/\RO (SB S w φ (aw H) all) K w Kn φ (φ id) o:=by
 unfold kw at h;have hb:SB S w φ (aw H) all (φ id).dj:=.inr ⟨id,hmem,lp _⟩;split at h
 .rename_i sz rows ho;obtain rfl:=aa h;obtain⟨hsz,hl,hr⟩:=ow hI (.inl ho);exact⟨rfl,⟨_,ho⟩,.p_ hsz hl hb (hr.mono (SB.tG _))⟩
 .rename_i sz rows ho;obtain rfl:=aa h;obtain⟨hsz,hl,hr⟩:=ow hI (.inr ho);exact⟨rfl,⟨_,ho⟩,.p_ hsz hl hb (hr.mono (SB.tG _))⟩
 .rename_i cells ho;obtain rfl:=aa h;obtain⟨_,h0⟩:=hI.iM _ _ ho;cases h0 with|oW hbase hS hr=>exact⟨rfl,⟨_,ho⟩,.oW hbase hb fun i x hi=>let⟨v,hv,hd⟩:=hr i x hi;⟨v,hv,hd.mono (SB.tG _)⟩⟩
 .rename_i cells ho;split at h
  .rename_i ds az hv;split at h
   .rename_i hall;obtain rfl:=aa h;obtain⟨_,h0⟩:=hI.iM _ _ ho;cases h0 with|@box _ aK hbase hS hK hown hlen hr=>obtain⟨h1,h2⟩:=(vc hI 300).2 cells ds az hv (fun i=>w.cell? ⟨(φ id).dj,i,none⟩) (fun i c hi=>by have hlt:=(ap.1 hi).1;rw[hlen]at hlt;exact⟨aK.getD i undef,by rw[hown.cell];simp[kU,hlt],hr i c hi⟩);refine⟨rfl,⟨_,ho⟩,.oW hbase hb fun i x hi=>?_⟩;obtain⟨u,hu,hd⟩:=h2 i x hi;exact⟨u,hu,hd.mono (SB.AS _ _ fun i hi=>by simpa using a_.1 hall i hi)⟩
   .simp at h
  .simp at h
 .simp at h
 .simp at h
 .rename_i szi slots ho;split at h
  .rename_i rows hd;obtain rfl:=aa h;obtain⟨_,hro⟩:=hI.iM _ _ ho;obtain⟨_,h2⟩:=DX hro hd (SB.tG (hf:=aw H) (φ:=φ) all) fun k x hp=>.inr ⟨id,hmem,eG.2 (.inr ⟨szi,slots,k,ho,hp⟩)⟩;cases hro with|nst hsz hl=>exact⟨rfl,⟨_,ho⟩,.p_ Nat.one_pos hl hb h2⟩
  .simp at h
 .simp at h
theorem Inv.Co{H:bC}{az:List Nat}{u:eS}(hI:Inv S K w0 Kn φ (aw H) w)(h:dJ H az az=some u):
  Inv (SB S w φ (aw H) az) K w0 Kn φ (bq u (aw H)) w:=by
 have hfr:∀id∈az,∃o,cm u id=some (some o)/\cW o=false/\(∃o0,aw H id=some o0)/\RO (SB S w φ (aw H) az) K w Kn φ (φ id) o:=by
  intro id hid;obtain⟨o,ho,hfn⟩:=((kP az u h id).1 hid)
  exact⟨o,hfn,Bb hI hid ho⟩
 have hold:∀id o,bq u (aw H) id=some o->cW o=true->id∉az/\aw H id=some o:=by
  intro id o ho hown;by_cases hm:id∈az
  .obtain ⟨o',hfn,hno,_⟩:=hfr id hm;simp only[bq,hfn]at ho;obtain rfl:=aa ho;rw[hno]at hown;simp at hown
  .refine ⟨hm,?_⟩;simpa only[bq,(kP az u h id).2 hm]using ho
 have hnb:∀id o,aw H id=some o->cW o=true->id∉az->∀x∈iw w φ (aw H) id,¬SB S w φ (aw H) az x:=by
  intro id o ho hown hm x hx hb;have hx1:=(oZ hI ho hown hx).1;rcases hb with hb|⟨i,hi,e⟩
  .exact hx1 hb
  .obtain ⟨_,_,_,⟨o0,ho0⟩,_⟩:=hfr i hi;by_cases hoi:cW o0=true
   .exact oF hI ho ho0 hown hoi (fun e'=>hm (e'▸hi)) hx e
   .obtain ⟨_,h1⟩:=hI.iM i o0 ho0;rcases eG.1 e with rfl|⟨sz,sl,k,h2,_⟩
    .exact hx1 (by
      cases h1 with
      |p_ hsz hl hS _=>exact hS
      |oW hb hS _=>exact hS
      |_=>simp[cW]at hoi)
    .rw [ho0]at h2;obtain rfl:=aa h2;simp[cW]at hoi
 refine hI.pN (SB.tG _) (Ren.refl _ _) ?_ ?_ hI.od ?_ ?_ ?_
 .intro b hb;rcases hb with hb|⟨i,hi,hb⟩
  .exact hI.vJ b hb
  .obtain ⟨_,_,_,⟨o0,ho0⟩,_⟩:=hfr i hi;by_cases hoi:cW o0=true
   .exact (oZ hI ho0 hoi hb).2.2
   .obtain ⟨_,h1⟩:=hI.iM i o0 ho0;rcases eG.1 hb with rfl|⟨sz,sl,k,h2,h3⟩
    .cases h1 with|p_ hsz hl hS=>exact hI.vJ _ hS|oW hb hS=>exact hI.vJ _ hS|_=>simp[cW]at hoi
    .exact (hI.IN h2 h3).2.2.1
 .intro b hb;rcases hb with hb|⟨i,hi,hb⟩
  .exact hI.sk b hb
  .obtain ⟨_,_,_,⟨o0,ho0⟩,_⟩:=hfr i hi;by_cases hoi:cW o0=true
   .exact (oZ hI ho0 hoi hb).2.1
   .obtain ⟨_,h1⟩:=hI.iM i o0 ho0;rcases eG.1 hb with rfl|⟨sz,sl,k,h2,h3⟩
    .cases h1 with|p_ hsz hl hS=>exact hI.sk _ hS|oW hb hS=>exact hI.sk _ hS|_=>simp[cW]at hoi
    .exact (hI.IN h2 h3).2.1
 .intro id o ho;by_cases hm:id∈az
  .obtain ⟨o',hfn,hno,⟨o0,ho0⟩,hro⟩:=hfr id hm;simp only[bq,hfn]at ho;obtain rfl:=aa ho;exact .inr ⟨(hI.iM id o0 ho0).1,hro⟩
  .have ho':aw H id=some o:=by simpa only[bq,(kP az u h id).2 hm]using ho
   exact .inl ⟨ho',fun hown=>⟨rfl,hnb id o ho' hown hm _ (lp _)⟩⟩
 .intro i j a b ha hb hoa hob hne;exact hI.o9 i j a b (hold i a ha hoa).2 (hold j b hb hob).2 hoa hob hne
 .intro id sz sl hi;obtain⟨h1,h2⟩:=hold id _ hi rfl;refine⟨h2,rfl,fun k x hp=>⟨rfl,hnb id _ h2 rfl h1 x (eG.2 (.inr ⟨sz,sl,k,h2,hp⟩)),fun j b hj hb=>?_⟩⟩;exact(hI.xC id sz sl k x h2 hp).1 j b (hold j b hj hb).2 hb
end
def CS(S:Nat->Prop)(w:World)(sz:Nat):Option (List (List D))->Value->List Nat->Prop
 |none,v,fp=>v=.slice none 0 0/\fp=[]
 |some rows,v,fp=>∃b,fp=[b]/\Ib S w sz rows v b
inductive RT(S:Nat->Prop)(w:World):T->Value->List Nat->Prop
 |d {x:D} {v:Value} (h:RD S w x v):RT S w (.d x) v []
 |sl {sz:Nat} {rows:List (List D)} {b off len cap:Nat} {aK:Array Value} (hsz:0<sz) (ho:pk w b aK) (hlen:rows.length=len) (hcap:len<=cap)
   (hext:off+cap*sz<=aK.size) (hr:di S w sz (fun i=>aK[i]?) off rows):RT S w (.sl sz rows) (.slice (some ⟨b,off,none⟩) len cap) [b]
 |pt {ts:List T} {b:Nat} {aK:Array Value} {fps:List (List Nat)} (ho:pk w b aK) (hlen:ts.length=aK.size) (hfl:fps.length=ts.length)
   (h:∀(i:Nat)(t:T)(fp:List Nat),ts[i]?=some t->fps[i]?=some fp->RT S w t (aK.getD i undef) fp):
   RT S w (.pt ts) (.pointer (some ⟨b,0,none⟩)) (b::fps.flatten)
 |Ai {sz:Nat} {rows:List (Option (List (List D)))} {b off cap:Nat} {aK:Array Value} {fps:List (List Nat)} (hsz:0<sz) (ho:pk w b aK) (hcap:rows.length<=cap) (hext:off+cap<=aK.size) (hfl:fps.length=rows.length)
   (h:∀(i:Nat)(r:Option (List (List D)))(fp:List Nat),rows[i]?=some r->fps[i]?=some fp->∃v,aK[off+i]?=some v/\CS S w sz r v fp):
   RT S w (.Ai sz rows) (.slice (some ⟨b,off,none⟩) rows.length cap) (b::fps.flatten)
 |mp {ka va:Bool} {es:List (List Value×List D×Nat)} {bP b:Nat} {ms:Array MapEntry} (ho:w.heap[b]?=some (.map ms bP)) (hlen:es.length=ms.size)
   (hr:∀(i:Nat)(e:List Value×List D×Nat)(m:MapEntry),es[i]?=some e->ms[i]?=some m->CT ka e.1 m.key/\sR S w va e.2.1 m.val/\m.born=e.2.2):RT S w (.mp ka va es bP) (.map (some b)) [b]
theorem CS.mono{S S':Nat->Prop}{w w':World}(hs:gZ S w S' w'){sz:Nat}{r:Option (List (List D))}{v:Value}{fp:List Nat}(h:CS S w sz r v fp)(hb:∀b∈fp,w'.heap[b]?=w.heap[b]?):CS S' w' sz r v fp:=by cases r with|none=>exact h|some rows=>obtain⟨b,rfl,h⟩:=h;exact⟨b,rfl,h.mono hs (hb b (by simp))⟩
theorem CS.lt{S:Nat->Prop}{w:World}{sz:Nat}{r:Option (List (List D))}{v:Value}{fp:List Nat}(h:CS S w sz r v fp):∀b∈fp,b<w.heap.size:=by cases r with|none=>obtain⟨_,rfl⟩:=h;intro b hb;simp at hb|some rows=>obtain⟨b,rfl,h⟩:=h;intro b' hb;obtain rfl:=au.1 hb;obtain⟨aK,h⟩:=h.bD;exact h.lt
theorem RT.mono{S S':Nat->Prop}{w w':World}(hs:gZ S w S' w'){t:T}{v:Value}{fp:List Nat}(h:RT S w t v fp)(hb:∀b∈fp,w'.heap[b]?=w.heap[b]?):RT S' w' t v fp:=by
 induction h with
 |d h=>exact .d (h.mono hs)
 |sl hsz ho hlen hcap hext hr=>exact .sl hsz (ho.nF (hb _ (by simp))) hlen hcap hext (hr.mono hs)
 |pt ho hlen hfl h ih=>
  refine .pt (ho.nF (hb _ (by simp))) hlen hfl fun i t fp hi hf=>ih i t fp hi hf fun b hbm=>hb b ?_
  grind [aF,eP,bp]
 |Ai hsz ho hcap hext hfl h=>refine .Ai hsz (ho.nF (hb _ (by simp))) hcap hext hfl fun i r fp hi hf=>?_;obtain⟨v,h1,h2⟩:=h i r fp hi hf;exact⟨v,h1,h2.mono hs fun b hbm=>hb b (aF _ (eP.2 ⟨fp,bp hf,hbm⟩))⟩
 |mp ho hlen hr=>exact .mp ((hb _ (by simp)).trans ho) hlen fun i e m hi hm=>let⟨h1,h2,h3⟩:=hr i e m hi hm;⟨h1,h2.mono hs,h3⟩
theorem RT.lt{S:Nat->Prop}{w:World}{t:T}{v:Value}{fp:List Nat}(h:RT S w t v fp):∀b∈fp,b<w.heap.size:=by
 induction h with
 |d h=>intro b hb;simp at hb
 |sl hsz ho=>intro b hb;obtain rfl:=au.1 hb;exact ho.lt
 |pt ho hlen hfl h ih=>
  intro b hb;rcases aN.1 hb with rfl|hb
  .exact ho.lt
  .obtain ⟨fp,hfp,hbf⟩:=eP.1 hb;obtain⟨i,hi,rfl⟩:=i_ hfp;exact ih i _ _ (aC (by omega:i<_)) (aC hi) b hbf
 |Ai hsz ho hcap hext hfl h=>
  intro b hb;rcases aN.1 hb with rfl|hb
  .exact ho.lt
  .obtain ⟨fp,hfp,hbf⟩:=eP.1 hb;obtain⟨i,hi,rfl⟩:=i_ hfp;obtain⟨v,_,h2⟩:=h i _ _ (aC (by omega:i<_)) (aC hi);exact h2.lt b hbf
 |mp ho=>grind
section
variable{S K:Nat->Prop}{w0 w:World}{Kn:Nat->Prop}{φ:Nat->gV}{hf:Nat->Option Ob}
theorem nQ{id:Nat}(h:∀sz sl,hf id≠some (.nst sz sl)):iw w φ hf id=[(φ id).dj]:=by
 grind [iw,absurd]
theorem Iv{l:gV}{sz:Nat}{get:Nat->Option Value}(hget:∀i,w.cell? ⟨l.dj,i,none⟩=get i):∀(slots:List ly)(k0:Nat)(rows:List (Option (List (List D)))),(∀(i:Nat)(s:ly),slots[i]?=some s->∃v,get (l.aJ+(k0+i))=some v/\Ae S K w Kn φ sz s v)->vj slots=some rows->
  rows.length=slots.length/\∃fps:List (List Nat),fps.length=rows.length/\fps.flatten=sA w l slots k0/\∀(i:Nat)(r:Option (List (List D)))(fp:List Nat),rows[i]?=some r->fps[i]?=some fp->∃v,get (l.aJ+(k0+i))=some v/\CS S w sz r v fp:=by
 intro slots;induction slots with
 |nil=>intro k0 rows _ h;obtain rfl:=aa h;exact⟨rfl,[],rfl,rfl,fun i r fp hi=>by simp at hi⟩
 |cons s slots ih=>
  intro k0 rows hr h;simp[vj]at h;split at h
  .rename_i x rs hx hrs;obtain rfl:=aa h
   obtain⟨h1,fps,h2,h3,h4⟩:=ih (k0+1) rs (fun i s hi=>by
    obtain⟨v,e1,e2⟩:=hr (i+1) s (by simpa using hi)
    grind) hrs
   obtain⟨v,e1,e2⟩:=hr 0 s rfl
   have fin:∀fp0,CS S w sz x v fp0->fp0++sA w l slots (k0+1)=sA w l (s::slots) k0->(x::rs).length=(s::slots).length/\∃fps:List _,fps.length=(x::rs).length/\fps.flatten=sA w l (s::slots) k0/\∀(i:Nat)(r:Option _)(fp:List Nat),(x::rs)[i]?=some r->fps[i]?=some fp->∃v,get (l.aJ+(k0+i))=some v/\CS S w sz r v fp:=by
    intro fp0 h5 h6;refine⟨by simp[h1],fp0::fps,by simp[h2],by rw[eW,h3,h6],fun i r fp hi hf=>?_⟩;cases i with
    |zero=>
     obtain rfl:x=r:=by simpa using hi
     obtain rfl:fp0=fp:=by simpa using hf
     exact⟨v,e1,h5⟩
    |succ i=>obtain⟨v',q1,q2⟩:=h4 i r fp (by simpa using hi) (by simpa using hf);exact⟨v',by rw[<-q1,show k0+(i+1)=k0+1+i by omega],q2⟩
   cases e2 with|nil=>obtain rfl:=aa hx;exact fin [] ⟨rfl,rfl⟩ rfl|@bD rows0 _ b q1 _ _=>obtain rfl:=aa hx;refine fin [b] ⟨b,rfl,q1⟩ ?_;simp[sA];rw[show l.aJ+k0=l.aJ+(k0+0)from rfl,hget,e1];simp[q1.dj]|oA _=>simp[Qc]at hx
  .simp at h
theorem DE{H:bC}{sz id off len:Nat}{t:T}{bD rd:List Nat}{v:Value}(hI:Inv S K w0 Kn φ (aw H) w)(hc:RC S w Kn φ (.cE sz id off len) v)
  (h:(match aw H id with
  |some (.aK _ rows)=>if off+len<=rows.length then some (T.sl sz ((rows.drop off).take len),[id],[id])else none
  |some (.p_ _ rows)=>if off+len<=rows.length then some (.d (.sl sz ((rows.drop off).take len)),[],[id])else none
  |some (.nst szi slots)=>if off=0/\len=slots.length then(match vj slots with|some rows=>some (.Ai szi rows,[id],[id])|none=>none)else none
  |_=>none)=some (t,bD,rd)):
  RT S w t v (bD.flatMap (iw w φ (aw H)))/\∀i∈bD,∃o,aw H i=some o/\cW o=true:=by
 split at h
 .rename_i szo rows ho;split at h
  .rename_i hle;obtain⟨rfl,rfl,rfl⟩:T.sl sz _=t/\[id]=bD/\[id]=rd:=by simpa using h
   obtain⟨hk,h0⟩:=hI.iM _ _ ho;cases h0 with
   |aK hsz hl hS hK hown hext hfit hr=>
    subst hl;cases hc with
    |cE hk hcap haddr hx=>
     rw[bg,List.flatMap_nil,bv,nQ fun _ _ e=>by rw[ho]at e;cases e];refine⟨.sl hsz hown (by simp;omega) hcap (by omega) (hr.xR off len fun h=>haddr (by omega)),fun i hi=>?_⟩
     .obtain rfl:=au.1 hi;exact⟨_,ho,rfl⟩
  .simp at h
 .rename_i szo rows ho;split at h
  .rename_i hle;obtain⟨rfl,rfl,rfl⟩:T.d _=t/\[]=bD/\[id]=rd:=by simpa using h
   obtain⟨hk,h0⟩:=hI.iM _ _ ho;have hS:S (φ id).dj:=by cases h0 with|p_ hsz hl hS _=>exact hS
   exact⟨.d (C6 hI hc (.inr ho) hle (gZ.refl _ _) hS),fun i hi=>by simp at hi⟩
  .simp at h
 .rename_i szi slots ho;split at h
  .rename_i he;obtain⟨rfl,rfl⟩:=he;split at h
   .rename_i rows hrows;obtain⟨rfl,rfl,rfl⟩:T.Ai szi rows=t/\[id]=bD/\[id]=rd:=by simpa using h
    obtain⟨hk,h0⟩:=hI.iM _ _ ho;cases h0 with
    |@nst _ _ aK hsz hl hS hK hown hext hfit hr hv=>
     obtain⟨h1,fps,h2,h3,h4⟩:=Iv hown.cell slots 0 rows (fun i s hi=>by rw[bG];exact hr i s hi) hrows;cases hc with
     |@cE _ _ _ cap addr hk hcap haddr hx hcc=>
      rw[bg,List.flatMap_nil,bv];have e:iw w φ (aw H) id=(φ id).dj::fps.flatten:=by unfold iw;rw[ho,h3]
      rw[e,<-h1];refine⟨.Ai (sz:=szi) (rows:=rows) hsz hown (by omega) (by rw[hl,Nat.mul_one]at hx;omega) h2 fun i r fp hi hf=>?_,fun i hi=>?_⟩
      .grind
      .obtain rfl:=au.1 hi;exact⟨_,ho,rfl⟩
   .simp at h
  .simp at h
 .simp at h
theorem Ht{H:bC}{id:Nat}{t:T}{bD rd:List Nat}{v:Value}(hI:Inv S K w0 Kn φ (aw H) w)(hc:RC S w Kn φ (.om id) v)
  (h:(match aw H id with
  |some (.map ka va es bP)=>some (T.mp ka va es bP,[id],[id])
  |_=>none)=some (t,bD,rd)):
  RT S w t v (bD.flatMap (iw w φ (aw H)))/\∀i∈bD,∃o,aw H i=some o/\cW o=true:=by
 split at h
 .rename_i ka va es bP ho;obtain⟨rfl,rfl,rfl⟩:T.mp ka va es bP=t/\[id]=bD/\[id]=rd:=by simpa using h
  obtain⟨_,h0⟩:=hI.iM _ _ ho;cases h0 with
  |map hS hK hm hlen hr=>cases hc with|om hk=>rw[bg,nQ fun _ _ e=>by rw[ho]at e;cases e];exact⟨.mp hm hlen hr,fun i hi=>by obtain rfl:=au.1 hi;exact⟨_,ho,rfl⟩⟩
 .simp at h
theorem sB{H:bC}(hI:Inv S K w0 Kn φ (aw H) w):∀n,
  (∀c t bD rd v,dU H n c=some (t,bD,rd)->RC S w Kn φ c v->RT S w t v (bD.flatMap (iw w φ (aw H)))/\∀i∈bD,∃o,aw H i=some o/\cW o=true)/\
  (∀cs ts bD rd,jc H n cs=some (ts,bD,rd)->∀(get:Nat->Value),(∀(i:Nat)(c:C),cs[i]?=some c->RC S w Kn φ c (get i))->
   ts.length=cs.length/\(∃fps:List (List Nat),fps.length=ts.length/\fps.flatten=bD.flatMap (iw w φ (aw H))/\
    ∀(i:Nat)(t:T)(fp:List Nat),ts[i]?=some t->fps[i]?=some fp->RT S w t (get i) fp)/\∀i∈bD,∃o,aw H i=some o/\cW o=true):=by
 intro n;induction n with
 |zero=>
  refine⟨fun c t bD rd v h hc=>?_,fun cs ts bD rd h get hg=>?_⟩
  .cases c with
   |d x=>
    obtain⟨rfl,rfl,rfl⟩:T.d x=t/\[]=bD/\[]=rd:=by simpa[dU]using h
    cases hc with|d hd=>exact⟨.d hd,fun i hi=>by simp at hi⟩
   |cE sz id off len=>simp only[dU]at h;exact DE hI hc h
   |om id=>simp only[dU]at h;exact Ht hI hc h
   |_=>simp[dU]at h
  .cases cs with
   |nil=>
    obtain⟨rfl,rfl,rfl⟩:[]=ts/\[]=bD/\[]=rd:=by simpa[jc]using h
    simp_all
   |cons c cs=>simp[jc]at h
 |succ n ih=>
  obtain⟨ihc,ihl⟩:=ih;refine⟨fun c t bD rd v h hc=>?_,fun cs ts bD rd h get hg=>?_⟩
  .cases c with
   |d x=>
    obtain⟨rfl,rfl,rfl⟩:T.d x=t/\[]=bD/\[]=rd:=by simpa[dU]using h
    cases hc with|d hd=>exact⟨.d hd,fun i hi=>by simp at hi⟩
   |cE sz id off len=>simp only[dU]at h;exact DE hI hc h
   |op id off=>
    cases off with
    |succ off=>simp[dU]at h
    |zero=>
     simp only[dU]at h;split at h
     .rename_i cells ho;split at h
      .rename_i ts own' rd' hp;obtain⟨rfl,rfl,rfl⟩:T.pt ts=t/\id::own'=bD/\id::rd'=rd:=by simpa using h
       obtain⟨hk,h0⟩:=hI.iM _ _ ho;cases h0 with
       |@box _ aK hb hS hK hown hlen hr=>
        obtain⟨h1,⟨fps,h2,h3,h4⟩,h5⟩:=ihl cells ts own' rd' hp _ hr;cases hc with
        |op hk=>
         rw[hb];refine⟨?_,fun i hi=>?_⟩
         .rw [bg,<-h3,nQ fun _ _ e=>by rw[ho]at e;cases e];exact .pt hown (h1.trans hlen) h2 h4
         .rcases aN.1 hi with rfl|hi
          .exact ⟨_,ho,rfl⟩
          .exact h5 i hi
      .simp at h
     .rename_i cells ho;obtain⟨rfl,rfl,rfl⟩:T.d (.pt cells)=t/\[]=bD/\[id]=rd:=by simpa using h
      obtain⟨hk,h0⟩:=hI.iM _ _ ho;cases h0 with
      |oW hb hS hr=>cases hc with|op hk=>exact⟨.d (.ze hS fun j x hj=>by simp_all),fun i hi=>by simp at hi⟩
     .simp at h
   |ep id fy off=>simp[dU]at h
   |pp f caps=>simp[dU]at h
   |om id=>simp only[dU]at h;exact Ht hI hc h
  .cases cs with
   |nil=>
    obtain⟨rfl,rfl,rfl⟩:[]=ts/\[]=bD/\[]=rd:=by simpa[jc]using h
    simp_all
   |cons c cs=>
    simp only[jc]at h;split at h
    .rename_i t0 a i0 ts0 b j0 hx hxs;obtain⟨rfl,rfl,rfl⟩:t0::ts0=ts/\a++b=bD/\i0++j0=rd:=by simpa using h
     obtain⟨p1,p2⟩:=ihc c t0 a i0 (get 0) hx (hg 0 c rfl);obtain⟨h1,⟨fps,h2,h3,h4⟩,h5⟩:=ihl cs ts0 b j0 hxs (fun i=>get (i+1)) (fun i c hi=>hg (i+1) c (by simpa using hi));refine⟨by simp[h1],⟨(a.flatMap (iw w φ (aw H)))::fps,by simp[h2],by simp[h3],fun i t fp hi hfp=>?_⟩,fun i hi=>?_⟩
     .grind
     grind
    .simp at h
theorem BB{bD:List Nat}(hI:Inv S K w0 Kn φ hf w)(hn:bD.Nodup)(ho:∀i∈bD,∃o,hf i=some o/\cW o=true):(bD.flatMap (iw w φ hf)).Nodup:=by
 induction bD with
 |nil=>exact kF
 |cons a l ih=>
  rw[fR]at hn;obtain⟨o1,h1,h2⟩:=ho a (by simp);rw[bg,cD]
  grind [GO,aF,oF]
def o4(Kn:Nat->Prop)(a b:Nat)(j:Nat):Prop:=Kn j\/(a<=j/\j<b)
theorem Inv.name(h:Inv S K w0 Kn φ hf w){i:Nat}(hi:¬Kn i)(l:gV)(o:Ob)(hfree:cW o=true->∀j b,hf j=some b->cW b=true->l.dj∉iw w φ hf j)
  (hro:RO S K w (fun j=>Kn j\/j=i) (ext φ i l) l o)
  (hp:∀sz sl k x,o=.nst sz sl->sW w l sl k x->x≠l.dj/\(∀j b,hf j=some b->cW b=true->x∉iw w φ hf j)/\∀k',sW w l sl k' x->k'=k:=by intro _ _ _ _ e;cases e):
  Inv S K w0 (fun j=>Kn j\/j=i) (ext φ i l) (bq [(i,some o)] hf) w:=by
 have hold:∀j b,bq [(i,some o)] hf j=some b->(j=i/\b=o/\ext φ i l j=l)\/(j≠i/\hf j=some b/\ext φ i l j=φ j):=by
  intro j b hj;rw[cg]at hj;by_cases e:i=j
  .rw [if_pos e]at hj;exact .inl ⟨e.symm,(aa hj).symm,by simp[ext,e]⟩
  .rw [if_neg e]at hj;have e1:¬j=i:=fun q=>e q.symm;exact .inr ⟨e1,hj,by simp[ext,e1]⟩
 refine h.vN (gZ.refl _ _) (jw _ hi) h.vJ h.sk h.od ?_ ?_ ?_
 .intro id o' ho;rcases hold id o' ho with⟨rfl,rfl,e⟩|⟨_,ho,_⟩
  .simp_all
  .exact .inl ⟨ho,fun hown=>⟨rfl,((h.iM id o' ho).2.bD hown).1⟩,h.Cd ho fun _ _=>rfl⟩
 .intro a b oa ob ha hb hoa hob hne;rcases hold a oa ha with⟨h1,h2,e1⟩|⟨_,ha',e1⟩<;>rcases hold b ob hb with⟨h3,h4,e2⟩|⟨_,hb',e2⟩
  .exact absurd (h1.trans h3.symm) hne
  .rw [e1,e2];exact fun e=>hfree (h2▸hoa) b ob hb' hob (eG.2 (.inl e))
  .rw [e1,e2];exact fun e=>hfree (h4▸hob) a oa ha' hoa (eG.2 (.inl e.symm))
  .rw [e1,e2];exact h.o9 a b oa ob ha' hb' hoa hob hne
 .intro a sz sl k x ha hpa;rcases hold a _ ha with⟨ea,eo,e1⟩|⟨hne,ha',e1⟩<;>rw[e1]at hpa
  .obtain ⟨p1,p2,p3⟩:=hp sz sl k x eo.symm hpa;refine⟨fun j b hj hown=>?_,fun j sz' sl' k' hj hpj=>?_⟩
   .rcases hold j b hj with⟨_,_,e2⟩|⟨_,hj',e2⟩<;>rw[e2]
    .exact fun e=>p1 e.symm
    .exact fun e=>p2 j b hj' hown (eG.2 (.inl e.symm))
   .rcases hold j _ hj with⟨ej,eo2,e2⟩|⟨_,hj',e2⟩<;>rw[e2]at hpj
    .grind
    .exact absurd (eG.2 (.inr ⟨sz',sl',k',hj',hpj⟩)) (p2 j _ hj' rfl)
  .obtain ⟨p1,p2⟩:=h.xC a sz sl k x ha' hpa;refine⟨fun j b hj hown=>?_,fun j sz' sl' k' hj hpj=>?_⟩
   .rcases hold j b hj with⟨_,eo,e2⟩|⟨_,hj',e2⟩<;>rw[e2]
    .exact fun e=>hfree (eo▸hown) a _ ha' rfl (eG.2 (.inr ⟨sz,sl,k,ha',e▸hpa⟩))
    .exact p1 j b hj' hown
   .rcases hold j _ hj with⟨_,eo,e2⟩|⟨_,hj',e2⟩<;>rw[e2]at hpj
    .exact absurd (eG.2 (.inr ⟨sz,sl,k,ha',hpa⟩)) ((hp sz' sl' k' x eo.symm hpj).2.1 a _ ha' rfl)
    .exact p2 j sz' sl' k' hj' hpj
theorem Inv.kn{Kn':Nat->Prop}(h:Inv S K w0 Kn φ hf w)(hs:∀i,Kn i->Kn' i):Inv S K w0 Kn' φ hf w:=h.pN (gZ.refl _ _) ⟨hs,fun _ _=>rfl⟩ h.vJ h.sk h.od (fun id o ho=>.inl ⟨ho,fun hown=>⟨rfl,((h.iM id o ho).2.bD hown).1⟩⟩) h.o9 (h.AZ fun _ _=>rfl)
structure sS(S K:Nat->Prop)(w0 w:World)(Kn:Nat->Prop)(φ:Nat->gV)(hf:Nat->Option Ob)(fp:List Nat)(nxt m:Nat)(u:eS)(φ':Nat->gV):Prop where
 le:nxt<=m
 tN:Ren Kn φ (o4 Kn nxt m) φ'
 inv:Inv S K w0 (o4 Kn nxt m) φ' (bq u hf) w
 gx:∀p∈u,nxt<=p.1/\p.1<m
 dj:∀p∈u,∀x∈iw w φ' (bq u hf) p.1,x∈fp
theorem qz(a b:Nat):Ren Kn φ (o4 Kn a b) φ:=⟨fun _ h=>.inl h,fun _ _=>rfl⟩
theorem sS.nil(h:Inv S K w0 Kn φ hf w)(fp:List Nat)(n:Nat):sS S K w0 w Kn φ hf fp n n [] φ:=⟨am _,qz _ _,h.kn fun _ hi=>.inl hi,fun p hp=>by simp at hp,fun p hp=>by simp at hp⟩
theorem sS.skip(h:Inv S K w0 Kn φ hf w)(fp:List Nat)(n:Nat):sS S K w0 w Kn φ hf fp n (n+1) [] φ:=⟨bI _,qz _ _,h.kn fun _ hi=>.inl hi,fun p hp=>by simp at hp,fun p hp=>by simp at hp⟩
theorem lI{α:Type}{u:List (Nat×α)}{id:Nat}(h:∀p∈u,p.1≠id):cm u id=none:=by
 induction u with
 |nil=>rfl
 |cons p r ih=>
  obtain⟨i,x⟩:=p;have e:(i==id)=false:=by simpa using h (i,x) (by simp)
  simp[cm,e];exact ih fun q hq=>h q (by simp[hq])
def uV(w:World)(φ:Nat->gV)(hf:Nat->Option Ob)(fp:List Nat):Prop:=∀j b,hf j=some b->cW b=true->∀x∈iw w φ hf j,x∉fp
theorem sF{a b c:Nat}(h1:a<=b)(h2:b<=c)(j:Nat):o4 (o4 Kn a b) b c j<->o4 Kn a c j:=by unfold o4;grind
theorem Inv.wd{Kn':Nat->Prop}(h:Inv S K w0 Kn φ hf w)(hs:∀i,Kn i<->Kn' i):Inv S K w0 Kn' φ hf w:=h.kn fun i hi=>(hs i).1 hi
theorem RC.kn{Kn':Nat->Prop}{c:C}{v:Value}(h:RC S w Kn φ c v)(hs:∀i,Kn i->Kn' i):RC S w Kn' φ c v:=h.mono (gZ.refl _ _) ⟨hs,fun _ _=>rfl⟩
theorem gN{φ':Nat->gV}{hf':Nat->Option Ob}{i:Nat}(h1:φ i=φ' i)(h2:hf i=hf' i):iw w φ hf i=iw w φ' hf' i:=by unfold iw;rw[h1,h2]
theorem sS.qk{fa fb:List Nat}{n m k:Nat}{u v:eS}{φ1 φ2:Nat->gV}(a:sS S K w0 w Kn φ hf fa n m u φ1)(b:sS S K w0 w (o4 Kn n m) φ1 (bq u hf) fb m k v φ2):
  sS S K w0 w Kn φ hf (fa++fb) n k (v++u) φ2 where
 le:=e_ a.le b.le
 tN:=⟨fun i h=>.inl h,fun i h=>(b.tN.ez i (.inl h)).trans (a.tN.ez i h)⟩
 inv:=by rw[ei];exact b.inv.wd fun i=>sF a.le b.le i
 gx p hp:=by
  have:=a.le;have:=b.le;rcases ao.1 hp with h|h
  .have:=b.gx p h;omega
  .have:=a.gx p h;omega
 dj p hp:=by
  intro x hx;rcases ao.1 hp with h|h
  .rw [ei]at hx;exact List.mem_append_right _ (b.dj p h x hx)
  .have hn:cm v p.1=none:=lI fun q hq e=>by have:=a.gx p h;have:=b.gx q hq;omega
   have e:bq (v++u) hf p.1=bq u hf p.1:=by simp[bq,ic,hn]
   have e2:=gN (w:=w) (b.tN.ez p.1 (.inr (a.gx p h))) e;rw[e2]at hx;exact List.mem_append_left _ (a.dj p h x hx)
theorem m7{u v:eS}(h:∀p∈u,∀q∈v,p.1≠q.1):bq (u++v) hf=bq (v++u) hf:=by
 funext id;simp[bq,ic];cases hu:cm u id with
 |none=>cases cm v id<;>simp
 |some x=>
  have:cm v id=none:=by
   refine lI fun q hq e=>?_
   have hm:∃p∈u,p.1=id:=by
    induction u with
    |nil=>simp[cm]at hu
    |cons p r ih=>
     obtain⟨i,y⟩:=p;by_cases e':i=id
     .exact ⟨(i,y),by simp,e'⟩
     .have e2:(i==id)=false:=by simpa using e'
      simp_all[cm]
   grind
  simp[this]
theorem qZ(nxt:Nat)(ts:List T):kV nxt (.pt ts)=(.op nxt 0,(nxt,some (.box (ja (nxt+1) ts).1))::(ja (nxt+1) ts).2.1,(ja (nxt+1) ts).2.2):=rfl
theorem rx(nxt:Nat)(t:T)(ts:List T):ja nxt (t::ts)=((kV nxt t).1::(ja (kV nxt t).2.2 ts).1,(kV nxt t).2.1++(ja (kV nxt t).2.2 ts).2.1,(ja (kV nxt t).2.2 ts).2.2):=rfl
theorem Es{x:Nat}:∀{fps:List (List Nat)}{k k':Nat},fps.flatten.Nodup->fps[k]?=some [x]->fps[k']?=some [x]->k=k':=by
 intro fps;induction fps with
 |nil=>intro k k' _ h;simp at h
 |cons fp fps ih=>
  have hm:∀k,fps[k]?=some [x]->x∈fps.flatten:=fun k h=>eP.2 ⟨[x],bp h,by simp⟩
  grind
mutual
theorem Kp(t:T):∀nxt,nxt<=(kV nxt t).2.2:=by intro nxt;cases t with|d x=>exact bI _|eH=>exact bI _|sl sz rows=>exact bI _|Ai sz rows=>exact bI _|mp ka va es bP=>exact bI _|pt ts=>rw[qZ];exact Nat.le_of_succ_le (wC ts (nxt+1))
theorem wC(ts:List T):∀nxt,nxt<=(ja nxt ts).2.2:=by intro nxt;cases ts with|nil=>exact am _|cons t ts=>rw[rx];exact e_ (Kp t nxt) (wC ts _)
end
mutual
theorem wD(t:T):∀{Kn:Nat->Prop}{φ:Nat->gV}{hf:Nat->Option Ob}(nxt:Nat)(v:Value)(fp:List Nat),Inv S K w0 Kn φ hf w->(∀j,nxt<=j->j<(kV nxt t).2.2->¬Kn j)->
  RT S w t v fp->fp.Nodup->(∀b∈fp,¬S b/\¬K b)->uV w φ hf fp->
  ∃φ',sS S K w0 w Kn φ hf fp nxt (kV nxt t).2.2 (kV nxt t).2.1 φ'/\RC S w (o4 Kn nxt (kV nxt t).2.2) φ' (kV nxt t).1 v:=by
 intro Kn φ hf nxt v fp hI hfr hr hnd hSK haw;cases t with
 |eH=>cases hr
 |d x=>cases hr with|d hd=>exact⟨φ,sS.skip hI _ _,.d hd⟩
 |sl sz rows=>
  cases hr with
  |@sl _ _ b off len cap aK hsz ho hlen hcap hext hrr=>
   have hnx:¬Kn nxt:=hfr nxt (am _) (aY _);refine⟨ext φ nxt ⟨b,off,sz,aK.size,cap⟩,?_,?_⟩
   .have hin:=hI.name (hnx) ⟨b,off,sz,aK.size,cap⟩ (.aK sz rows) (fun _ j o hj hown hm=>haw j o hj hown _ hm (by simp))
     (.aK hsz rfl (hSK b (by simp)).1 (hSK b (by simp)).2 ho rfl (by have:rows.length*sz<=cap*sz:=aL _ (by omega);simp only;omega) hrr (by simp only;omega))
    refine⟨bI _,⟨fun i h=>.inl h,(jw _ (hnx)).ez⟩,hin.wd fun i=>?_,fun p hp=>?_,fun p hp=>?_⟩
    .simp only[o4,kV]
     grind
    .obtain rfl:p=_:=by simpa[kV]using hp
     simp[kV]
    .obtain rfl:p=_:=by simpa[kV]using hp
     simp_all[nQ,kV,bq,cm,ext]
   .have e:(ext φ nxt ⟨b,off,sz,aK.size,cap⟩) nxt=⟨b,off,sz,aK.size,cap⟩:=by simp[ext]
    have:=RC.cE (S:=S) (w:=w) (Kn:=o4 Kn nxt (nxt+1)) (φ:=ext φ nxt ⟨b,off,sz,aK.size,cap⟩) (id:=nxt) (off:=0) (len:=rows.length) (cap:=cap) (addr:=off) (.inr (by omega)) (by omega) (by rw[e];simp) (by rw[e];simpa using hext) (by rw[e];simp);rw[e]at this;simpa[kV,hlen]using this
 |Ai sz rows=>
  cases hr with
  |@Ai _ _ b off cap aK fps hsz ho hcap hext hfl hrr=>
   have hnx:¬Kn nxt:=hfr nxt (am _) (aY _);rw[fR]at hnd;have hget:∀i,w.cell? ⟨b,i,none⟩=aK[i]?:=ho.cell;have hpat:∀k x,sW w ⟨b,off,1,aK.size,cap⟩ (rows.map nA) k x->∃fp,fps[k]?=some fp/\fp=[x]:=by rintro k x ⟨rs,v,h1,h2,h3⟩;rw[aQ]at h1;obtain⟨r,hr1,hr2⟩:=aP.1 h1;have hlt:=(ap.1 hr1).1;have hf:fps[k]?=some fps[k]:=aC (by omega);obtain⟨v',q1,q2⟩:=hrr k r fps[k] hr1 hf;simp only[hget,q1,bM]at h2;subst h2;cases r with|none=>cases hr2|some rows'=>obtain⟨b',q3,q4⟩:=q2;rw[q4.dj]at h3;simp_all
   have hmem:∀k x,sW w ⟨b,off,1,aK.size,cap⟩ (rows.map nA) k x->x∈fps.flatten:=fun k x hp=>by obtain⟨fp,h1,rfl⟩:=hpat k x hp;exact eP.2 ⟨[x],bp h1,by simp⟩
   have hin:=hI.name (hnx) ⟨b,off,1,aK.size,cap⟩ (.nst sz (rows.map nA)) (fun _ j o hj hown hm=>haw j o hj hown _ hm (by simp))
    (.nst hsz rfl (hSK b (by simp)).1 (hSK b (by simp)).2 ho rfl (by simp only[aM];omega) (fun i s hi=>by
     rw[aQ]at hi;obtain⟨r,hr1,rfl⟩:=aP.1 hi;have hlt:=(ap.1 hr1).1;have hf:fps[i]?=some fps[i]:=aC (by omega);obtain⟨v,q1,q2⟩:=hrr i r fps[i] hr1 hf;refine⟨v,q1,?_⟩;cases r with
     |none=>obtain⟨rfl,_⟩:=q2;exact .nil
     |some rows'=>obtain⟨b',q3,q4⟩:=q2;have hm:b'∈fps.flatten:=eP.2 ⟨fps[i],List.getElem_mem _,by rw[q3];simp⟩;exact .bD q4 (hSK b' (aF _ hm)).1 (hSK b' (aF _ hm)).2) (by simp only[aM];omega))
    (fun sz' sl' k x eo hp=>by cases eo;have hm:=hmem k x hp;refine⟨fun e=>hnd.1 (by simp_all),fun j b' hj hown hx=>haw j b' hj hown x hx (aF _ hm),fun k' hp'=>?_⟩;obtain⟨fp,h1,rfl⟩:=hpat k x hp;obtain⟨fp',h2,rfl⟩:=hpat k' x hp';exact Es hnd.2 h2 h1)
   refine⟨ext φ nxt ⟨b,off,1,aK.size,cap⟩,?_,?_⟩
   .refine ⟨bI _,⟨fun i h=>.inl h,(jw _ (hnx)).ez⟩,hin.wd fun i=>?_,fun p hp=>?_,fun p hp x hx=>?_⟩
    .simp only[o4,kV]
     grind
    .obtain rfl:p=_:=by simpa[kV]using hp
     simp[kV]
    .obtain rfl:p=_:=by simpa[kV]using hp
     have e:bq (kV nxt (T.Ai sz rows)).2.1 hf nxt=some (.nst sz (rows.map nA)):=by simp[kV,bq,cm]
     rcases eG.1 hx with rfl|⟨sz',sl',k,h1,h2⟩
     .simp [ext]
     .rw [e]at h1;cases h1;simp only[ext,if_true]at h2
      grind
   .have e:(ext φ nxt ⟨b,off,1,aK.size,cap⟩) nxt=⟨b,off,1,aK.size,cap⟩:=by simp[ext]
    have:=RC.cE (S:=S) (w:=w) (Kn:=o4 Kn nxt (nxt+1)) (φ:=ext φ nxt ⟨b,off,1,aK.size,cap⟩) (id:=nxt) (off:=0) (len:=rows.length) (cap:=cap) (addr:=off) (.inr (by omega)) (by omega) (by rw[e];simp) (by rw[e];simpa using hext) (by rw[e];simp);rw[e]at this;simpa[kV]using this
 |mp ka va es bP=>
  cases hr with
  |@mp _ _ _ _ b ms ho hlen hr=>
   have hnx:¬Kn nxt:=hfr nxt (am _) (aY _);have hin:=hI.name (hnx) ⟨b,0,1,0,0⟩ (.map ka va es bP) (fun _ j o hj hown hm=>haw j o hj hown _ hm (by simp)) (.map (hSK b (by simp)).1 (hSK b (by simp)).2 ho hlen hr);refine⟨ext φ nxt ⟨b,0,1,0,0⟩,⟨bI _,⟨fun i h=>.inl h,(jw _ (hnx)).ez⟩,hin.wd fun i=>?_,fun p hp=>?_,fun p hp=>?_⟩,?_⟩
   .simp only[o4,kV]
    grind
   .obtain rfl:p=_:=by simpa[kV]using hp
    simp[kV]
   .obtain rfl:p=_:=by simpa[kV]using hp
    simp_all[nQ,kV,bq,cm,ext]
   .have:=RC.om (S:=S) (w:=w) (Kn:=o4 Kn nxt (nxt+1)) (φ:=ext φ nxt ⟨b,0,1,0,0⟩) (id:=nxt) (.inr (by omega));simpa[ext,kV]using this
 |pt ts=>
  cases hr with
  |@pt _ b aK fps ho hlen hfl h=>
   rw[fR]at hnd;have hnx:¬Kn nxt:=hfr nxt (am _) (by rw[qZ];exact wC ts (nxt+1))
   obtain⟨φ1,hL,hrc⟩:=ui ts (Kn:=Kn) (φ:=φ) (hf:=hf) (nxt+1) (fun i=>aK.getD i undef) fps hI (fun j hj hj2=>hfr j (by omega) (by rw[qZ];exact hj2)) hfl h hnd.2
    (fun b' hb'=>hSK b' (by simp[hb'])) (fun j o hj hown x hx hm=>haw j o hj hown x hx (aF _ hm))
   have hm:=hL.le
   have hnk:¬o4 Kn (nxt+1) (ja (nxt+1) ts).2.2 nxt:=by
    rintro(h|h)
    .exact hnx h
    .omega
   refine⟨ext φ1 nxt ⟨b,0,1,aK.size,0⟩,?_,?_⟩
   .have hin:=hL.inv.name hnk ⟨b,0,1,aK.size,0⟩ (.box (ja (nxt+1) ts).1) (fun _ j o hj hown hm=>by
      by_cases hu:∃p∈(ja (nxt+1) ts).2.1,p.1=j
      .obtain ⟨p,hp,rfl⟩:=hu;exact hnd.1 (hL.dj p hp _ hm)
      .have hfn:cm (ja (nxt+1) ts).2.1 j=none:=lI fun p hp e=>hu ⟨p,hp,e⟩;have hj':=hj;simp only[bq,hfn]at hj';have hk:=(hI.iM j o hj').1;rw[gN (hL.tN.ez j hk) (hj.trans hj'.symm)]at hm;exact haw j o hj' hown _ hm (by simp))
     (.box rfl (hSK b (by simp)).1 (hSK b (by simp)).2 ho (hrc.1.trans hlen) fun i c hi=>(hrc.2 i c hi).mono (gZ.refl _ _) (jw _ hnk))
    refine⟨?_,⟨fun i h=>.inl h,fun i hi=>?_⟩,?_,fun p hp=>?_,fun p hp=>?_⟩
    .simp only[qZ];exact Nat.le_of_succ_le hm
    .have:i≠nxt:=fun e=>hnx (e▸hi);simp only[ext,this,if_false];exact hL.tN.ez i hi
    .have e:bq (kV nxt (.pt ts)).2.1 hf=bq [(nxt,some (.box (ja (nxt+1) ts).1))] (bq (ja (nxt+1) ts).2.1 hf):=by rw[<-ei];rfl
     rw[e];refine hin.wd fun i=>?_;simp only[o4,qZ]
     grind
    .simp only[qZ]at hp|-;rcases aN.1 hp with rfl|hp
     .simp only;omega
     .have:=hL.gx p hp;omega
    .simp only[qZ]at hp;rcases aN.1 hp with rfl|hp
     .simp_all [nQ,qZ,bq,cm,ext]
     .have hne:¬p.1=nxt:=by have:=hL.gx p hp;omega
      have hne':(nxt==p.1)=false:=by simpa using fun e=>hne e.symm
      intro x hx;rw[gN (φ':=φ1) (hf':=bq (ja (nxt+1) ts).2.1 hf) (by simp only[ext,hne,if_false]) (by simp only[qZ,bq,cm,hne',cond_false])]at hx;exact aF _ (hL.dj p hp x hx)
   .have:=RC.op (S:=S) (w:=w) (Kn:=o4 Kn nxt (ja (nxt+1) ts).2.2) (φ:=ext φ1 nxt ⟨b,0,1,aK.size,0⟩) (id:=nxt) (off:=0) (.inr (by omega));simpa[qZ,ext]using this
theorem ui(ts:List T):∀{Kn:Nat->Prop}{φ:Nat->gV}{hf:Nat->Option Ob}(nxt:Nat)(get:Nat->Value)(fps:List (List Nat)),Inv S K w0 Kn φ hf w->(∀j,nxt<=j->j<(ja nxt ts).2.2->¬Kn j)->
  fps.length=ts.length->(∀(i:Nat)(t:T)(fp:List Nat),ts[i]?=some t->fps[i]?=some fp->RT S w t (get i) fp)->fps.flatten.Nodup->(∀b∈fps.flatten,¬S b/\¬K b)->uV w φ hf fps.flatten->
  ∃φ',sS S K w0 w Kn φ hf fps.flatten nxt (ja nxt ts).2.2 (ja nxt ts).2.1 φ'/\(ja nxt ts).1.length=ts.length/\
   ∀(i:Nat)(c:C),(ja nxt ts).1[i]?=some c->RC S w (o4 Kn nxt (ja nxt ts).2.2) φ' c (get i):=by
 intro Kn φ hf nxt get fps hI hfr hfl hr hnd hSK haw;cases ts with
 |nil=>exact⟨φ,sS.nil hI _ _,rfl,fun i c hi=>by simp[ja]at hi⟩
 |cons t ts=>
  cases fps with
  |nil=>simp at hfl
  |cons fp fps=>
   rw[eW,cD]at hnd;obtain⟨hn1,hn2,hn3⟩:=hnd;simp only[eW,ao]at hSK
   obtain⟨φ1,hL1,hc1⟩:=wD t (Kn:=Kn) (φ:=φ) (hf:=hf) nxt (get 0) fp hI (fun j hj hj2=>hfr j hj (by rw[rx];exact dD hj2 (wC ts _))) (hr 0 t fp rfl rfl) hn1 (fun b hb=>hSK b (.inl hb))
    (fun j o hj hown x hx hm=>haw j o hj hown x hx (by simp[hm]))
   obtain⟨φ2,hL2,hlen,hc2⟩:=ui ts (Kn:=o4 Kn nxt (kV nxt t).2.2) (φ:=φ1) (hf:=bq (kV nxt t).2.1 hf) (kV nxt t).2.2 (fun i=>get (i+1)) fps hL1.inv
    (fun j hj hj2 hk=>by
     rcases hk with hk|hk
     .have:=hL1.le;exact hfr j (by omega) (by rw[rx];exact hj2) hk
     .omega) (by simpa using hfl) (fun i t fp hi hfp=>hr (i+1) t fp (by simpa using hi) (by simpa using hfp)) hn2 (fun b hb=>hSK b (.inr hb))
    (fun j o hj hown x hx hm=>by
     by_cases hu:∃p∈(kV nxt t).2.1,p.1=j
     .obtain ⟨p,hp,rfl⟩:=hu;exact hn3 _ (hL1.dj p hp x hx) _ hm rfl
     .have hfn:cm (kV nxt t).2.1 j=none:=lI fun p hp e=>hu ⟨p,hp,e⟩;have hj':=hj;simp only[bq,hfn]at hj';have hk:=(hI.iM j o hj').1;rw[gN (hL1.tN.ez j hk) (hj.trans hj'.symm)]at hx;exact haw j o hj' hown x hx (by simp[hm]))
   have hcomp:=hL1.qk hL2;have hcm:bq ((ja (kV nxt t).2.2 ts).2.1++(kV nxt t).2.1) hf=bq ((kV nxt t).2.1++(ja (kV nxt t).2.2 ts).2.1) hf:=m7 fun p hp q hq e=>by have h1:=hL2.gx p hp;have h2:=hL1.gx q hq;omega
   refine⟨φ2,?_,by simp[rx,hlen],fun i c hi=>?_⟩
   .simp only[rx,eW];have hsw:∀{p:Nat×Option Ob}{a b:eS},p∈a++b->p∈b++a:=fun hp=>ao.2 (ao.1 hp).symm;exact⟨hcomp.le,hcomp.tN,hcm▸hcomp.inv,fun p hp=>hcomp.gx p (hsw hp),fun p hp x hx=>hcomp.dj p (hsw hp) x (hcm.symm▸hx)⟩
   .have hsub:∀i,o4 (o4 Kn nxt (kV nxt t).2.2) (kV nxt t).2.2 (ja (kV nxt t).2.2 ts).2.2 i->o4 Kn nxt (ja (kV nxt t).2.2 ts).2.2 i:=fun i=>(sF hL1.le hL2.le i).1;cases i with
    |zero=>
     obtain rfl:(kV nxt t).1=c:=by simpa[ja]using hi
     exact(hc1.mono (gZ.refl _ _) hL2.tN).kn hsub
    |succ i=>exact(hc2 i c (by simpa[rx]using hi)).kn hsub
end
theorem ur{α:Type}{l:List α}{k i:Nat}{x y:α}(h:(l.set k x)[i]?=some y):(k=i/\y=x/\i<l.length)\/(k≠i/\l[i]?=some y):=by
 grind
theorem Inv.V8(h:Inv S K w0 Kn φ hf w){id:Nat}{o o':Ob}(ho:hf id=some o)(hown:cW o=true)(hno:Ic o')(hro:RO S K w Kn φ (φ id) o'):Inv S K w0 Kn φ (bq [(id,some o')] hf) w:=by
 have hold:∀j b,bq [(id,some o')] hf j=some b->(j=id/\b=o')\/(j≠id/\hf j=some b):=by
  intro j b hj;rw[cg]at hj;by_cases e:id=j
  .simp_all
  .rw [if_neg e]at hj;exact .inr ⟨fun q=>e q.symm,hj⟩
 have was:∀j b,bq [(id,some o')] hf j=some b->cW b=true->∃b',hf j=some b'/\cW b'=true:=by
  grind
 refine h.vN (gZ.refl _ _) (Ren.refl _ _) h.vJ h.sk h.od ?_ ?_ ?_
 .intro i x hx;rcases hold i x hx with⟨rfl,rfl⟩|⟨_,hx'⟩
  .exact .inr ⟨(h.iM i o ho).1,hro⟩
  .exact .inl ⟨hx',fun hown=>⟨rfl,((h.iM i x hx').2.bD hown).1⟩,h.Cd hx' fun _ _=>rfl⟩
 .intro i j a b ha hb hoa hob hne;obtain⟨a',h1,h2⟩:=was i a ha hoa;obtain⟨b',h3,h4⟩:=was j b hb hob;exact h.o9 i j a' b' h1 h3 h2 h4 hne
 .intro i sz sl k x hi hp;rcases hold i _ hi with⟨rfl,e⟩|⟨_,hi'⟩
  .obtain ⟨rows,v,h1,_⟩:=hp
   grind
  .obtain ⟨p1,p2⟩:=h.xC i sz sl k x hi' hp;refine⟨fun j b hj hb=>?_,fun j sz' sl' k' hj hpj=>?_⟩
   .grind
   .rcases hold j _ hj with⟨rfl,e⟩|⟨_,hj'⟩
    .obtain ⟨rows,v,h1,_⟩:=hpj
     grind
    .exact p2 j sz' sl' k' hj' hpj
theorem Inv.split(h:Inv S K w0 Kn φ hf w){id nxt sz fy:Nat}{slots:List ly}{rows:List (List D)}(ho:hf id=some (.nst sz slots))(hs:slots[fy]?=some (.bD rows))(hn:¬Kn nxt):
  ∃l v,w.cell? ⟨(φ id).dj,(φ id).aJ+fy,none⟩=some v/\RC S w (fun j=>Kn j\/j=nxt) (ext φ nxt l) (.cE sz nxt 0 rows.length) v/\
   Inv S K w0 (fun j=>Kn j\/j=nxt) (ext φ nxt l) (bq [(nxt,some (.aK sz rows)),(id,some (.nst sz (slots.set fy (.oA nxt rows.length))))] hf) w:=by
 obtain⟨hk,hro⟩:=h.iM id _ ho;have hne:id≠nxt:=fun e=>hn (e▸hk);cases hro with
 |@nst _ _ aK hsz hl hS hK hown hext hfit hr hv=>
  obtain⟨v,h1,h2⟩:=hr fy _ hs;cases h2 with
  |@bD _ _ b hrw hbS hbK=>
   obtain⟨addr,cap,ba,rfl,_,hbo,hcap,hfx,hrr⟩:=hrw;have hcell:=(hown.cell _).trans h1;have hpat:sW w (φ id) slots fy b:=⟨rows,_,hs,hcell,rfl⟩
   obtain⟨p1,p2⟩:=h.xC id sz slots fy b ho hpat;have he:ext φ nxt ⟨b,addr,sz,ba.size,cap⟩ nxt=⟨b,addr,sz,ba.size,cap⟩:=by simp[ext]
   have heo:∀j,j≠nxt->ext φ nxt ⟨b,addr,sz,ba.size,cap⟩ j=φ j:=fun j hj=>by simp[ext,hj]
   have hren:=jw (φ:=φ) (⟨b,addr,sz,ba.size,cap⟩:gV) hn;have hrc:=by have:=RC.cE (S:=S) (w:=w) (Kn:=fun j=>Kn j\/j=nxt) (φ:=ext φ nxt ⟨b,addr,sz,ba.size,cap⟩) (id:=nxt) (off:=0) (len:=rows.length) (cap:=cap) (addr:=addr) (.inr rfl) (by omega) (by rw[he];simp) (by rw[he];simpa using hfx) (by rw[he];simp);rw[he]at this;exact this
   refine⟨⟨b,addr,sz,ba.size,cap⟩,_,hcell,hrc,?_⟩
   have hold:∀j c,bq [(nxt,some (.aK sz rows)),(id,some (.nst sz (slots.set fy (.oA nxt rows.length))))] hf j=some c->(j=nxt/\c=.aK sz rows)\/(j=id/\c=.nst sz (slots.set fy (.oA nxt rows.length)))\/(j≠nxt/\j≠id/\hf j=some c):=by
    intro j c hj;rw[cg]at hj;by_cases e:nxt=j
    .grind
    .rw [if_neg e,cg]at hj;by_cases e2:id=j
     .grind
     .rw [if_neg e2,fY]at hj;grind
   have hpat2:∀j sz' sl' k x,bq [(nxt,some (.aK sz rows)),(id,some (.nst sz (slots.set fy (.oA nxt rows.length))))] hf j=some (.nst sz' sl')->sW w (ext φ nxt ⟨b,addr,sz,ba.size,cap⟩ j) sl' k x->∃uq,hf j=some (.nst sz' uq)/\sW w (φ j) uq k x/\x≠b:=by
    intro j sz' sl' k x hj hp;rcases hold j _ hj with⟨_,e⟩|⟨rfl,e⟩|⟨e1,e2,hj'⟩
    .cases e
    .cases e;rw[heo _ hne]at hp;obtain⟨rows',v',q1,q2,q3⟩:=hp;rcases ur q1 with⟨_,e,_⟩|⟨hk',q1'⟩
     .cases e
     .have hp':sW w (φ j) slots k x:=⟨rows',v',q1',q2,q3⟩
      grind
    grind
   refine h.vN (gZ.refl _ _) hren h.vJ h.sk h.od ?_ ?_ ?_
   .intro j c hj;rcases hold j c hj with⟨rfl,rfl⟩|⟨rfl,rfl⟩|⟨e1,_,hj'⟩
    .refine .inr ⟨.inr rfl,?_⟩;rw[he];exact .aK (by assumption) rfl hbS hbK hbo rfl (by have:=aL sz hcap;simp only;omega) hrr hcap
    .refine .inr ⟨.inl hk,?_⟩;rw[heo _ hne];refine .nst hsz hl hS hK hown hext (by rw[eg];exact hfit) (fun i s hi=>?_) (by rw[eg];exact hv);rcases ur hi with⟨rfl,rfl,_⟩|⟨_,hi'⟩
     .exact ⟨_,h1,.oA hrc⟩
     .obtain ⟨v',q1,q2⟩:=hr i s hi';refine⟨v',q1,?_⟩;cases q2 with|nil=>exact .nil|bD h hS hK=>exact .bD h hS hK|oA h=>exact .oA (h.mono (gZ.refl _ _) hren)
    .exact .inl ⟨hj',fun hown=>⟨rfl,((h.iM j c hj').2.bD hown).1⟩,h.Cd hj' fun _ _=>rfl⟩
   .intro i j a c ha hc hoa hoc hij
    have key:∀j c,bq [(nxt,some (.aK sz rows)),(id,some (.nst sz (slots.set fy (.oA nxt rows.length))))] hf j=some c->cW c=true->j≠nxt->(∃c',hf j=some c'/\cW c'=true)/\ext φ nxt ⟨b,addr,sz,ba.size,cap⟩ j=φ j:=by
     intro j c hj hc hjn;rcases hold j c hj with⟨e,_⟩|⟨rfl,rfl⟩|⟨_,_,hj'⟩
     .exact absurd e hjn
     .exact ⟨⟨_,ho,rfl⟩,heo _ hjn⟩
     grind
    by_cases hi:i=nxt
    .grind
    .obtain ⟨⟨a',q1,q2⟩,q3⟩:=key i a ha hoa hi;by_cases hj:j=nxt
     .grind
     .obtain ⟨⟨c',q4,q5⟩,q6⟩:=key j c hc hoc hj;rw[q3,q6];exact h.o9 i j a' c' q1 q4 q2 q5 hij
   .intro j sz' sl' k x hj hp;obtain⟨uq,q1,q2,q3⟩:=hpat2 j sz' sl' k x hj hp;obtain⟨r1,r2⟩:=h.xC j sz' uq k x q1 q2;refine⟨fun i c hi hc=>?_,fun i sz2 sl2 k' hi hpi=>?_⟩
    .rcases hold i c hi with⟨rfl,rfl⟩|⟨rfl,rfl⟩|⟨e1,_,hi'⟩
     .rw [he];exact fun e=>q3 e.symm
     .rw [heo _ hne];exact r1 i _ ho rfl
     .rw [heo _ e1];exact r1 i c hi' hc
    .obtain ⟨sl3,q4,q5,_⟩:=hpat2 i sz2 sl2 k' x hi hpi;exact r2 i sz2 sl3 k' q4 q5
theorem Inv.Nk(h:Inv S K w0 Kn φ hf w){id id2 sz sz2 fy:Nat}{slots:List ly}{rows:List (List D)}(ho:hf id=some (.nst sz slots))(hs:slots[fy]?=some (.oA id2 rows.length))(h2:hf id2=some (.aK sz2 rows)):
  Inv S K w0 Kn φ (bq [(id,some (.nst sz (slots.set fy (.bD rows)))),(id2,none)] hf) w:=by
 obtain⟨hk,hro⟩:=h.iM id _ ho;obtain⟨hk2,hro2⟩:=h.iM id2 _ h2;have hne:id2≠id:=fun e=>by rw[e,ho]at h2;cases h2
 have hold:∀j c,bq [(id,some (.nst sz (slots.set fy (.bD rows)))),(id2,none)] hf j=some c->(j=id/\c=.nst sz (slots.set fy (.bD rows)))\/(j≠id/\j≠id2/\hf j=some c):=by
  intro j c hj;rw[cg]at hj;by_cases e:id=j
  .simp_all
  .rw [if_neg e,cg]at hj;by_cases e2:id2=j
   .rw [if_pos e2]at hj;cases hj
   .rw [fY]at hj;grind
 have was:∀j c,bq [(id,some (.nst sz (slots.set fy (.bD rows)))),(id2,none)] hf j=some c->cW c=true->j≠id2/\∃c',hf j=some c'/\cW c'=true:=by
  intro j c hj hc;rcases hold j c hj with⟨rfl,rfl⟩|⟨_,e,hj'⟩
  .exact ⟨hne.symm,_,ho,rfl⟩
  .exact ⟨e,c,hj',hc⟩
 cases hro with
 |@nst _ _ aK hsz hl hS hK hown hext hfit hr hv=>
  obtain⟨v,h1,hsl⟩:=hr fy _ hs;have hcell:=(hown.cell _).trans h1
  obtain⟨hvb,hrw⟩:xY v=some (φ id2).dj/\Ib S w sz rows v (φ id2).dj:=by
   cases hsl with
   |oA hrc=>
    cases hro2 with
    |@aK _ _ ba hsz2 hl2 hS2 hK2 hown2 hext2 hfit2 hr2 hv2=>cases hrc with|@cE _ _ _ cap addr hk' hcap haddr hx hcc=>refine⟨rfl,addr,cap,ba,rfl,by rw[hl2];exact hsz2,hown2,hcap,by omega,?_⟩;have:=hr2.xR (addr:=addr) 0 rows.length (fun hlt=>by rw[haddr (by omega),hl2]);rw[hl2];simpa using this
  obtain⟨hS2,hK2,_⟩:=hro2.bD rfl
  have hpat2:∀j sz' sl' k x,bq [(id,some (.nst sz (slots.set fy (.bD rows)))),(id2,none)] hf j=some (.nst sz' sl')->sW w (φ j) sl' k x->(j=id/\k=fy/\x=(φ id2).dj)\/∃uq,hf j=some (.nst sz' uq)/\sW w (φ j) uq k x:=by
   intro j sz' sl' k x hj hp;rcases hold j _ hj with⟨rfl,e⟩|⟨e1,e2,hj'⟩
   .cases e;obtain⟨rows',v',q1,q2,q3⟩:=hp;rcases ur q1 with⟨rfl,_,_⟩|⟨hk',q1'⟩
    .simp_all
    .exact .inr ⟨slots,ho,rows',v',q1',q2,q3⟩
   .exact .inr ⟨sl',hj',hp⟩
  refine h.vN (gZ.refl _ _) (Ren.refl _ _) h.vJ h.sk h.od ?_ ?_ ?_
  .intro j c hj;rcases hold j c hj with⟨rfl,rfl⟩|⟨_,_,hj'⟩
   .refine .inr ⟨hk,.nst hsz hl hS hK hown hext (by rw[eg];exact hfit) (fun i s hi=>?_) (by rw[eg];exact hv)⟩;rcases ur hi with⟨rfl,rfl,_⟩|⟨_,hi'⟩
    .exact ⟨v,h1,.bD hrw hS2 hK2⟩
    .exact hr i s hi'
   .exact .inl ⟨hj',fun hown=>⟨rfl,((h.iM j c hj').2.bD hown).1⟩,h.Cd hj' fun _ _=>rfl⟩
  .intro i j a c ha hc hoa hoc hij;obtain⟨_,a',q1,q2⟩:=was i a ha hoa;obtain⟨_,c',q3,q4⟩:=was j c hc hoc;exact h.o9 i j a' c' q1 q3 q2 q4 hij
  .intro j sz' sl' k x hj hp;refine⟨fun i c hi hc=>?_,fun i sz3 sl3 k' hi hpi=>?_⟩
   .obtain ⟨hi2,c',q1,q2⟩:=was i c hi hc;rcases hpat2 j sz' sl' k x hj hp with⟨_,_,rfl⟩|⟨uq,q3,q4⟩
    .exact h.o9 i id2 c' _ q1 h2 q2 rfl hi2
    .exact (h.xC j sz' uq k x q3 q4).1 i c' q1 q2
   .rcases hpat2 j sz' sl' k x hj hp with⟨e1,e2,e3⟩|⟨uq,q3,q4⟩<;>rcases hpat2 i sz3 sl3 k' x hi hpi with⟨e4,e5,e6⟩|⟨sl4,q5,q6⟩
    .omega
    .exact absurd e3.symm ((h.xC i sz3 sl4 k' x q5 q6).1 id2 _ h2 rfl)
    .exact absurd e6.symm ((h.xC j sz' uq k x q3 q4).1 id2 _ h2 rfl)
    .exact (h.xC j sz' uq k x q3 q4).2 i sz3 sl4 k' q5 q6
theorem Inv.wN{w':World}(h:Inv S K w0 Kn φ hf w){id sz fy:Nat}{slots:List ly}{s':ly}{v:Value}{aK arr':Array Value}(ho:hf id=some (.nst sz slots))(hown:pk w (φ id).dj aK)(hown':pk w' (φ id).dj arr')(hsize':arr'.size=aK.size)
  (hother:∀b,b≠(φ id).dj->w'.heap[b]?=w.heap[b]?) (hsize:w'.heap.size=w.heap.size) (hfrz:∀a,w'.frozen? a=w.frozen? a) (hio:Io w w')
  (hget:∀i,i≠(φ id).aJ+fy->arr'[i]?=aK[i]?) (hv:fy<slots.length->arr'[(φ id).aJ+fy]?=some v) (hslot:gZ S w S w'->Ae S K w' Kn φ sz s' v) (hs':∀rows,s'≠.bD rows):
  gZ S w S w'/\Inv S K w0 Kn φ (bq [(id,some (.nst sz (slots.set fy s')))] hf) w':=by
 obtain⟨hk,h0⟩:=h.iM id _ ho;obtain⟨hS,hK,hlt⟩:=h0.bD rfl;have hs:gZ S w S w':=⟨fun _ h=>h,fun b hb=>hother b (fun e=>hS (e▸hb))⟩
 have hold:∀j c,bq [(id,some (.nst sz (slots.set fy s')))] hf j=some c->(j=id/\c=.nst sz (slots.set fy s'))\/(j≠id/\hf j=some c):=by
  intro j c hj;rw[cg]at hj;by_cases e:id=j
  .simp_all
  .rw [if_neg e,fY]at hj;exact .inr ⟨fun q=>e q.symm,hj⟩
 have was:∀j c,bq [(id,some (.nst sz (slots.set fy s')))] hf j=some c->cW c=true->∃c',hf j=some c'/\cW c'=true:=by
  intro j c hj hc;rcases hold j c hj with⟨rfl,rfl⟩|⟨_,hj'⟩
  .exact ⟨_,ho,rfl⟩
  .exact ⟨c,hj',hc⟩
 have hpat2:∀j sz' sl' k x,bq [(id,some (.nst sz (slots.set fy s')))] hf j=some (.nst sz' sl')->sW w' (φ j) sl' k x->∃uq,hf j=some (.nst sz' uq)/\sW w (φ j) uq k x:=by
  intro j sz' sl' k x hj hp;rcases hold j _ hj with⟨rfl,e⟩|⟨e1,hj'⟩
  .cases e;obtain⟨rows',v',q1,q2,q3⟩:=hp;rcases ur q1 with⟨_,e,_⟩|⟨hk',q1'⟩
   .exact absurd e.symm (hs' rows')
   .refine ⟨slots,ho,rows',v',q1',?_,q3⟩;rw[hown.cell,<-hget _ (by omega),<-hown'.cell];exact q2
  .exact ⟨sl',hj',(sW.ez (hother _ (h.o9 j id _ _ hj' ho rfl rfl e1))).1 hp⟩
 have hkeep:∀j sz' sl' k x,hf j=some (.nst sz' sl')->sW w (φ j) sl' k x->w'.heap[x]?=w.heap[x]?/\¬S x:=fun j sz' sl' k x hj hp=>⟨hother x fun e=>(h.xC j sz' sl' k x hj hp).1 id _ ho rfl e.symm,(h.IN hj hp).1⟩;refine⟨hs,h.vN hs (Ren.refl _ _) (fun b hb=>hsize▸h.vJ b hb) h.sk ?_ ?_ ?_ ?_⟩
 .exact ⟨h.od.Gi,fun b hb=>(hother b (fun e=>hK (e▸hb))).trans (h.od.mV b hb),hsize▸h.od.tf,fun a ha=>(hfrz a).trans (h.od.Ba a ha),h.od.zh hother (fun a ha=>⟨arr',hown',by obtain⟨t1,e1⟩:=ha;obtain⟨t2,e2⟩:=hown;simp_all⟩),h.od.io.trans hio⟩
 .intro j c hj;rcases hold j c hj with⟨rfl,rfl⟩|⟨e1,hj'⟩
  .refine .inr ⟨hk,?_⟩;cases h0 with
   |@nst _ _ arr0 hsz hl hS hK hown0 hext hfit hr hv0=>
    have ea:arr0=aK:=by obtain⟨t1,e1⟩:=hown0;obtain⟨t2,e2⟩:=hown;rw[e1]at e2;cases e2;rfl
    subst ea;refine .nst hsz hl hS hK hown' (hsize'.trans hext) (by rw[eg];exact hfit) (fun i s hi=>?_) (by rw[eg];exact hv0);rcases ur hi with⟨rfl,rfl,hlt⟩|⟨hne,hi'⟩
    .exact ⟨v,hv hlt,hslot hs⟩
    .obtain ⟨v',q1,q2⟩:=hr i s hi';refine⟨v',(hget _ (by omega)).trans q1,?_⟩;cases q2 with|nil=>exact .nil|@bD rows _ b q3 q4 q5=>exact .bD (q3.mono hs (hkeep j sz slots i b ho ⟨rows,v',hi',(hown.cell _).trans q1,q3.dj⟩).1) q4 q5|oA q3=>exact .oA (q3.mono hs (Ren.refl _ _))
  .exact .inl ⟨hj',fun hox=>⟨hother _ (h.o9 j id c _ hj' ho hox rfl e1),((h.iM j c hj').2.bD hox).1⟩,fun sz' sl' eo k x hp=>by grind⟩
 .intro i j a c ha hc hoa hoc hij;obtain⟨a',q1,q2⟩:=was i a ha hoa;obtain⟨c',q3,q4⟩:=was j c hc hoc;exact h.o9 i j a' c' q1 q3 q2 q4 hij
 .intro j sz' sl' k x hj hp;obtain⟨uq,q1,q2⟩:=hpat2 j sz' sl' k x hj hp;obtain⟨r1,r2⟩:=h.xC j sz' uq k x q1 q2;refine⟨fun i c hi hc=>?_,fun i sz3 sl3 k' hi hpi=>?_⟩
  .obtain ⟨c',q3,q4⟩:=was i c hi hc;exact r1 i c' q3 q4
  .obtain ⟨sl4,q5,q6⟩:=hpat2 i sz3 sl3 k' x hi hpi;exact r2 i sz3 sl4 k' q5 q6
end
end Go.Ev
