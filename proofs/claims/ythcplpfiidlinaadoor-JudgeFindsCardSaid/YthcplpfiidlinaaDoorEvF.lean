/- The abstract machine: deep data, cells, owned objects, operations and code, and their evaluation. Conditions: none, these are definitions. -/
import Derived.Orders
import Derived.Laws.CopyRow
open Array renaming getD->jM,getElem?_eq_none->fN,getElem?_eq_some_iff->bi
open BitVec renaming ofInt->bB
open Bool renaming false_eq_true->aT
open List renaming all_eq_true->bd,append_nil->bC,flatMap_cons->bk,flatten_cons->ez,getElem?_append_left->bO,getElem?_append_right->bR,getElem?_drop->bQ,getElem?_eq_getElem->aw,getElem?_eq_some_iff->ak,getElem?_map->aH,getElem?_take->eO,getElem_of_mem->cu,length_map->aO,length_set->dP,length_take->b_,map->mm,mem_append->ap,mem_cons->aN,mem_cons_of_mem->aC,mem_flatten->dO,mem_of_getElem?->aX,mem_singleton->ao,nodup_append->bZ,nodup_cons->fZ,nodup_nil->fY,range->aL,replicate->az
open Nat renaming add_assoc->cP,add_zero->dT,le_refl->au,le_succ->bH,le_trans->fq,lt_of_lt_of_le->cn,lt_succ_self->aY,lt_trichotomy->nz,mul_le_mul_right->aI,mul_one->ly,zero_add->bL,zero_mul->jA
open Option renaming bind_eq_some_iff->fw,map_eq_some_iff->aF
open Option.some renaming inj->aa,injEq->bn
open Prod.mk renaming inj->ad
namespace Go.Ev
inductive D where
 |lit (v:Value)
 |sl (sz:Nat) (aq:List (List D))
 |pt (cells:List D)
 |fn (f:FuncId) (caps:List D)
 deriving Inhabited
inductive C where
 |d (x:D)
 |fy (sz id off len:Nat)
 |ep (id dl off:Nat)
 |op (id off:Nat)
 |o5 (f:FuncId) (caps:List C)
 |om (id:Nat)
 deriving Inhabited
inductive TV where
 |c (x:C)
 |agg (cells:List C)
 |iT (xs:List TV)
 deriving Inhabited
inductive k8 where
 |nil
 |bv (aq:List (List D))
 |eg (id len:Nat)
 deriving Inhabited
inductive Ob where
 |aM (sz:Nat) (aq:List (List D))
 |pJ (sz:Nat) (aq:List (List D))
 |box (cells:List C)
 |oF (cells:List D)
 |map (ka va:Bool) (es:List (List Value×List D×Nat)) (ft:Nat)
 |cap (sz:Nat) (aq:List (List D)) (cp:Nat)
 |nst (sz:Nat) (slots:List k8)
 deriving Inhabited
inductive T where
 |d (x:D)
 |sl (sz:Nat) (aq:List (List D))
 |pt (cells:List T)
 |zU (sz:Nat) (aq:List (Option (List (List D))))
 |uS
 deriving Inhabited
inductive A where
 |d (x:D)
 |agg (cells:List D)
 |mt (t:T)
 deriving Inhabited
inductive R where
 |c (t:T)
 |agg (cells:List T)
 deriving Inhabited
def eu:Value->Bool
 |.bool _|.int _ _|.float _ _|.string _|.pointer none|.slice none 0 0|.map none|.nilFunc|.nilIface=>true
 |_=>false
def D1:Nat:=2147483648
def cA{α:Type}:List (Nat×α)->Nat->Option α
 |[],_=>none
 |(a,x)::r,k=>bif a==k then some x else cA r k
abbrev jP:=List (Nat×TV)
abbrev bF:=List (Nat×Option Ob)
abbrev fF:=List (Nat×Option Ob)
def aB(h:bF)(id:Nat):Option Ob:=(cA h id).join
inductive Kd where
 |b
 |i (k:IntKind)
 |s
 deriving Inhabited,DecidableEq
inductive K where
 |mv
 |pick
 |alloc (zero:List Value)
 |box
 |build (zero:List Value) (places:List (Nat×Nat))
 |buildSlice (sz len:Nat) (zero:List Value) (places:List Nat)
 |load (agg:Bool) (n:Nat)
 |store (n:Nat)
 |nilCheck
 |Ax (op:BinOp)
 |uU (neg:Bool)
 |qY (kind:Nat) (neg:Bool)
 |zx (neg:Bool) (ks:List Kd)
 |un (op:UnOp)
 |vJ (k:IntKind)
 |th
 |I8 (f:FuncId)
 |makeSlice (zero:List Value)
 |slice (str:Bool) (sz:Nat) (lo hi:Bool)
 |fieldAddr (off n:Nat)
 |field (agg:Bool) (off n:Nat)
 |indexAddr (aM:Option Nat) (sz:Nat)
 |pI
 |index (agg:Bool) (len sz:Nat)
 |extract (i:Nat)
 |len (str:Bool)
 |uP (isMax:Bool)
 |append (sz:Nat)
 |copy (sz:Nat)
 |clear (zero:List Value)
 |BQ (sz:Nat)
 |MY
 |SV (zero:List Value)
 |Sd
 |call (ro:Bool) (kh:List Bool)
 |makeMap (ka va:Bool)
 |lookup (ka:Bool) (ks:List Kd) (va:Bool) (zero:List Value) (ok:Bool)
 |mapEntry (ka:Bool) (ks:List Kd) (va:Bool) (zero:List Value)
 |entryStore (va:Bool) (m:Nat)
 |A3 (szi:Nat)
 |uj
 |gx
 deriving Inhabited
structure ol where
 dst:Option Nat
 k:K
 args:List Operand
 guard:Option (Nat×Bool)
 deriving Inhabited
inductive CC where
 |skip
 |region (ops:List ol) (nc:List Nat)
 |drawn (ops:List ol) (dyn:List (Nat×Nat)) (nc:List Nat)
 |seq (a b:CC)
 |cond (c:Operand) (a b:CC)
 |block (id:Nat) (a:CC)
 |loop (nc:List Nat) (a:CC)
 |exit (id:Nat)
 |ret
 |gx
 deriving Inhabited
structure St where
 dH:jP
 heap:bF
 next:Nat
 gh:List C
 deriving Inhabited
inductive sn where
 |normal
 |exit (id:Nat)
 |ret
 deriving Inhabited,DecidableEq
def QO:Nat->Option D:=fun g => if g = 0 then some (.pt ([0, 1, 28, 2, 29, 14, 24, 3, 30, 22, 20, 15, 25, 17, 4, 8, 31, 27, 13, 23, 21, 19, 16, 7, 26, 12, 18, 6, 11, 5, 10, 9].map fun (x : Int) => .lit (.int .u8 x))) else none
def cv:Value->Option TV
 |.agg cs=>if cs.toList.all eu then some (.agg (cs.toList.map fun v=>.d (.lit v)))else none
 |v=>if eu v then some (.c (.d (.lit v)))else none
def kU(e:jP):Operand->Option TV
 |.tmp t=>cA e t
 |.const v=>cv v
 |.global g=>(QO g).map fun d=>.c (.d d)
 |.func f=>some (.c (.d (.fn f [])))
def cellsOf:TV->Option (List C)
 |.c x=>some [x]
 |.agg cs=>some cs
 |.iT _=>none
def fz:List Value->List C:=mm fun v=>.d (.lit v)
def cF:List Value->List D:=mm D.lit
def aV{α:Type}(l:List α)(off:Nat)(p:List α):List α:=l.take off++p++l.drop (off+p.length)
def nk(cells:List C):List ((Nat×Nat)×TV)->Option (List C)
 |[]=>some cells
 |((off,n),v)::r=>match cellsOf v with|some cs=>if cs.length=n/\off+n<=cells.length then nk (aV cells off cs) r else none|none=>none
def mF{α:Type}(sz:Nat):Nat->List α->List (List α)
 |0,_=>[]
 |n+1,l=>l.take sz::mF sz n (l.drop sz)
def Kz(sz:Nat):k8->Option D
 |.nil=>some (.lit (.slice none 0 0))
 |.bv aq=>some (.sl sz aq)
 |.eg _ _=>none
def qr(sz:Nat):List k8->Option (List (List D))
 |[]=>some []
 |s::r=>match Kz sz s,qr sz r with|some x,some l=>some ([x]::l)|_,_=>none
def Pp:k8->Option (Option (List (List D)))
 |.nil=>some none
 |.bv aq=>some (some aq)
 |.eg _ _=>none
def uF:List k8->Option (List (Option (List (List D))))
 |[]=>some []
 |s::r=>match Pp s,uF r with|some x,some l=>some (x::l)|_,_=>none
def mZ:Option (List (List D))->k8
 |none=>.nil
 |some aq=>.bv aq
mutual
def ed(h:bF):Nat->C->Option (D×List Nat)
 |_,.d x=>some (x,[])
 |_,.fy sz id off len=>match aB h id with|some (.aM _ aq)|some (.pJ _ aq)=>if off+len<=aq.length then some (.sl sz ((aq.drop off).take len),[id])else none|some (.nst szi slots)=>if off=0/\len=slots.length then(match qr szi slots with|some aq=>some (.sl sz aq,[id])|none=>none)else none|_=>none
 |_,.ep id dl off=>
  match aB h id with
  |some (.aM _ aq)|some (.pJ _ aq)=>match aq[dl]?with|some r=>if off<=r.length then some (.pt (r.drop off),[id])else none|none=>none
  |_=>none
 |0,_=>none
 |n+1,.op id off=>
  match aB h id with
  |some (.oF cells)=>if off<=cells.length then some (.pt (cells.drop off),[id])else none
  |some (.box cells)=>match f_ h n cells with|some (ds,aA)=>if off<=ds.length then some (.pt (ds.drop off),id::aA)else none|none=>none
  |_=>none
 |n+1,.o5 f caps=>match f_ h n caps with|some (ds,aA)=>some (.fn f ds,aA)|none=>none
 |_+1,.om _=>none
def f_(h:bF):Nat->List C->Option (List D×List Nat)
 |_,[]=>some ([],[])
 |0,_=>none
 |n+1,c::cs=>match ed h n c,f_ h n cs with|some (x,a),some (xs,b)=>some (x::xs,a++b)|_,_=>none
end
def ke(h:bF)(all:List Nat)(id:Nat):Option Ob:=
 match aB h id with
 |some (.aM sz aq)=>some (.pJ sz aq)
 |some (.pJ sz aq)=>some (.pJ sz aq)
 |some (.oF cells)=>some (.oF cells)
 |some (.box cells)=>match f_ h 300 cells with|some (ds,aA)=>if aA.all (fun i=>all.contains i)then some (.oF ds)else none|none=>none
 |some (.map _ _ _ _)=>none
 |some (.cap _ _ _)=>none
 |some (.nst szi slots)=>match qr szi slots with|some aq=>some (.pJ 1 aq)|none=>none
 |none=>none
def eh(h:bF)(all:List Nat):List Nat->Option fF
 |[]=>some []
 |id::r=>match ke h all id,eh h all r with|some o,some u=>some ((id,some o)::u)|_,_=>none
def dW(h:bF):List C->Option (List D×List Nat)
 |[]=>some ([],[])
 |c::cs=>match ed h 300 c,dW h cs with|some (x,a),some (xs,b)=>some (x::xs,a++b)|_,_=>none
mutual
def eP(h:bF):Nat->C->Option (T×List Nat×List Nat)
 |_,.d x=>some (.d x,[],[])
 |_,.fy sz id off len=>match aB h id with|some (.aM _ aq)=>if off+len<=aq.length then some (.sl sz ((aq.drop off).take len),[id],[id])else none|some (.pJ _ aq)=>if off+len<=aq.length then some (.d (.sl sz ((aq.drop off).take len)),[],[id])else none|some (.nst szi slots)=>if off=0/\len=slots.length then(match uF slots with|some aq=>some (.zU szi aq,[id],[id])|none=>none)else none|_=>none
 |0,_=>none
 |n+1,.op id 0=>
  match aB h id with
  |some (.box cells)=>match iK h n cells with|some (ts,bv,aA)=>some (.pt ts,id::bv,id::aA)|none=>none
  |some (.oF cells)=>some (.d (.pt cells),[],[id])
  |_=>none
 |_+1,_=>none
def iK(h:bF):Nat->List C->Option (List T×List Nat×List Nat)
 |_,[]=>some ([],[],[])
 |0,_=>none
 |n+1,c::cs=>match eP h n c,iK h n cs with|some (x,a,i),some (xs,b,j)=>some (x::xs,a++b,i++j)|_,_=>none
end
mutual
def k9(nxt:Nat):T->C×fF×Nat
 |.d x=>(.d x,[],nxt+1)
 |.uS=>(.d (.lit .nilFunc),[],nxt+1)
 |.sl sz aq=>(.fy sz nxt 0 aq.length,[(nxt,some (.aM sz aq))],nxt+1)
 |.zU sz aq=>(.fy 1 nxt 0 aq.length,[(nxt,some (.nst sz (aq.map mZ)))],nxt+1)
 |.pt ts=>let(cs,u,m):=iF (nxt+1) ts;(.op nxt 0,(nxt,some (.box cs))::u,m)
def iF(nxt:Nat):List T->List C×fF×Nat
 |[]=>([],[],nxt)
 |t::ts=>let(c,u,m):=k9 nxt t;let(cs,v,k):=iF m ts;(c::cs,u++v,k)
end
def w6(nxt:Nat):R->TV×fF×Nat
 |.c t=>let(c,u,m):=k9 nxt t;(.c c,u,m)
 |.agg ts=>let(cs,u,m):=iF nxt ts;(.agg cs,u,m)
def ir(nxt:Nat):List R->List TV×fF×Nat
 |[]=>([],[],nxt)
 |r::rs=>let(v,u,m):=w6 nxt r;let(vs,w,k):=ir m rs;(v::vs,u++w,k)
abbrev Call:=FuncId->List A->Option (List R×List T)
abbrev GZ:=Option (TV×fF×List Nat×Nat)
def lv(v:Value):TV:=.c (.d (.lit v))
def sx(op:BinOp):Value->Value->Option Value
 |.int k a,.int k' b=>
  match op with
  |.shl=>if b<0 then none else some (.int k (k.wrap (a*2^(min b.toNat k.bits))))
  |.shr=>if b<0 then none else some (.int k (a.fdiv (2^(min b.toNat k.bits))))
  |op=>if k=k' then
   (match op with
   |.add=>some (.int k (k.wrap (a+b)))
   |.sub=>some (.int k (k.wrap (a-b)))
   |.mul=>some (.int k (k.wrap (a*b)))
   |.quo=>if b=0 then none else some (.int k (k.wrap (a.tdiv b)))
   |.rem=>if b=0 then none else some (.int k (a.tmod b))
   |.and=>some (.int k (k.wrap (bB k.bits a&&&bB k.bits b).toNat))
   |.or=>some (.int k (k.wrap (bB k.bits a|||bB k.bits b).toNat))
   |.xor=>some (.int k (k.wrap (bB k.bits a^^^bB k.bits b).toNat))
   |.andNot=>some (.int k (k.wrap (bB k.bits a&&&~~~bB k.bits b).toNat))
   |.eql=>some (.bool (a==b))
   |.neq=>some (.bool (a !=b))
   |.lss=>some (.bool (a<b))
   |.leq=>some (.bool (a<=b))
   |.gtr=>some (.bool (a>b))
   |.geq=>some (.bool (a>=b))
   |_=>none)else none
 |.float k a,.float k' b=>
  if k=k' then
   match op with|.add=>(k.format.add a b).map (.float k)|.sub=>(k.format.sub a b).map (.float k)|.mul=>(k.format.mul a b).map (.float k)|.quo=>(k.format.div a b).map (.float k)|.eql=>some (.bool (k.format.order a b==some .eq))|.neq=>some (.bool (k.format.order a b !=some .eq))|.lss=>some (.bool (k.format.order a b==some .lt))|.leq=>some (.bool (k.format.order a b==some .lt||k.format.order a b==some .eq))|.gtr=>some (.bool (k.format.order a b==some .gt))|.geq=>some (.bool (k.format.order a b==some .gt||k.format.order a b==some .eq))|_=>none
  else none
 |.string x,.string y=>match op with|.add=>if((x.size+y.size:Nat):Int)>IntKind.i64.max then none else some (.string (x++y))|.eql=>some (.bool (x.toList==y.toList))|.neq=>some (.bool !(x.toList==y.toList))|.lss=>some (.bool (Op.bytesLess x.toList y.toList))|.leq=>some (.bool (Op.bytesLess x.toList y.toList||x.toList==y.toList))|.gtr=>some (.bool !(Op.bytesLess x.toList y.toList||x.toList==y.toList))|.geq=>some (.bool !(Op.bytesLess x.toList y.toList))|_=>none
 |_,_=>none
def S4(op:UnOp):Value->Option Value
 |.bool b=>match op with|.not=>some (.bool !b)|_=>none
 |.int k n=>match op with|.neg=>some (.int k (k.wrap (0-n)))|.xor=>some (.int k (k.wrap (bB k.bits (if k.signed then-1 else k.max)^^^bB k.bits n).toNat))|_=>none
 |.float k b=>match op with|.neg=>some (.float k (Op.negFloat k b))|_=>none
 |_=>none
def E3:Kd->Value->Value->Option Bool
 |.i q,.int k a,.int k' b=>if k=q/\k'=q then some (a==b)else none
 |.b,.bool a,.bool b=>some (a==b)
 |.s,.string a,.string b=>some (a==b)
 |_,_,_=>none
def gJ:List Kd->List Value->List Value->Option Bool
 |[],[],[]=>some true
 |k::ks,x::xs,y::ys=>match E3 k x y,gJ ks xs ys with|some a,some b=>some (a&&b)|_,_=>none
 |_,_,_=>none
def lS:List C->Option (List Value)
 |[]=>some []
 |.d (.lit v)::r=>match lS r with|some l=>some (v::l)|none=>none
 |_=>none
def S8(isMax:Bool):Value->Value->Option Value
 |.int k x,.int k' y=>if k=k' then some (.int k (if isMax then(if y>x then y else x)else(if y<x then y else x)))else none
 |.float k x,.float k' y=>
  if k=k' then match k.format.order x y with|none=>none|some .lt=>some (.float k (if isMax then y else x))|some .gt=>some (.float k (if isMax then x else y))|some .eq=>some (.float k (if isMax then(if(k.decode x).neg then y else x)else(if(k.decode x).neg then x else y)))
  else none
 |_,_=>none
def Pv(isMax:Bool):Value->List (Option TV)->Option Value
 |x,[]=>some x
 |x,some (.c (.d (.lit y)))::r=>match S8 isMax x y with|some z=>Pv isMax z r|none=>none
 |_,_=>none
def D5(agg:Bool)(n:Nat)(cells:List C):Option TV:=if agg then(if n<=cells.length then some (.agg (cells.take n))else none)else match cells with|x::_=>some (.c x)|[]=>none
def Py(agg:Bool)(n:Nat)(cells:List D):Option TV:=if agg then(if n<=cells.length then some (.agg ((cells.take n).map .d))else none)else match cells with|x::_=>some (.c (.d x))|[]=>none
def ig(agg:Bool)(n:Nat)(p:C)(h:bF):Option (TV×List Nat):=
 match p with
 |.d (.pt cells)=>match Py agg n cells with|some v=>some (v,[])|none=>none
 |.ep id dl off=>
  match aB h id with
  |some (.aM _ aq)|some (.pJ _ aq)=>
   match aq[dl]?with
   |some r=>match Py agg n (r.drop off)with|some v=>some (v,[id])|none=>none
   |none=>none
  |_=>none
 |.op id off=>
  match aB h id with
  |some (.box cells)=>match D5 agg n (cells.drop off)with|some v=>some (v,[id])|none=>none
  |some (.oF cells)=>match Py agg n (cells.drop off)with|some v=>some (v,[id])|none=>none
  |_=>none
 |_=>none
def rO(id dl sz:Nat)(slots:List k8)(cs:List C)(h:bF):Option (fF×List Nat):=
 match cs with
 |[.d (.lit (.slice none 0 0))]=>some ([(id,some (.nst sz (slots.set dl .nil)))],[id])
 |[.fy sz' id2 0 len]=>match aB h id2 with|some (.aM _ aq)=>if sz'=sz/\len=aq.length/\id2≠id then some ([(id,some (.nst sz (slots.set dl (.bv aq)))),(id2,none)],[id,id2])else none|_=>none
 |_=>none
def lI(agg:Bool)(n:Nat)(p:C)(h:bF)(nxt:Nat):GZ:=
 match p with
 |.ep id dl 0=>
  match aB h id with
  |some (.nst sz slots)=>if agg=false/\n=1 then
   (match slots[dl]?with
   |some .nil=>some (.c (.d (.lit (.slice none 0 0))),[],[id],nxt)
   |some (.bv aq)=>some (.c (.fy sz nxt 0 aq.length),[(nxt,some (.aM sz aq)),(id,some (.nst sz (slots.set dl (.eg nxt aq.length))))],[id],nxt+1)
   |_=>none)else none
  |_=>none
 |_=>none
def mu(n:Nat)(p:C)(v:TV)(h:bF):Option (fF×List Nat):=
 match cellsOf v with
 |none=>none
 |some cs=>
  if cs.length=n then
   match p with
   |.ep id dl off=>
    match aB h id with
    |some (.aM sz aq)=>
     match aq[dl]?,dW h cs with
     |some r,some (ds,aA)=>match eh h aA aA with|some u=>if off+n<=r.length/\aA.contains id=false then some ((id,some (.aM sz (aq.set dl (aV r off ds))))::u,id::aA)else none|none=>none
     |_,_=>none
    |some (.nst sz slots)=>if off=0/\n=1/\dl<slots.length then rO id dl sz slots cs h else none
    |_=>none
   |.op id off=>match aB h id with|some (.box cells)=>if off+n<=cells.length then some ([(id,some (.box (aV cells off cs)))],[id])else none|_=>none
   |_=>none
  else none
def cE:Option TV->Option Int
 |some (.c (.d (.lit (.int _ n))))=>some n
 |_=>none
def fV(str:Bool)(sz:Nat)(x:C)(lo hi:Option Int):Option C:=
 if str then match x with
 |.d (.lit (.string s))=>
  let h:=hi.getD s.size;let l:=lo.getD 0
  if 0<=l/\l<=h/\h<=s.size then some (.d (.lit (.string (s.extract l.toNat h.toNat))))else none
 |_=>none
 else match x with
 |.d (.lit (.slice none 0 0))=>if 0<=lo.getD 0/\lo.getD 0<=hi.getD 0/\hi.getD 0<=0 then some x else none
 |.fy sz' id off len=>
  let h:=hi.getD len;let l:=lo.getD 0
  if sz'=sz/\0<=l/\l<=h/\h<=len then some (.fy sz id (off+l.toNat) (h.toNat-l.toNat))else none
 |.d (.sl sz' aq)=>
  let h:=hi.getD aq.length;let l:=lo.getD 0
  if sz'=sz/\0<=l/\l<=h/\h<=aq.length then some (.d (.sl sz ((aq.drop l.toNat).take (h.toNat-l.toNat))))else none
 |_=>none
def nZ(str:Bool)(sz:Nat)(x:C)(l u:Int)(h:bF):Option (C×List Nat):=
 match str,x with
 |false,.fy sz' id off _=>match aB h id with|some (.aM _ aq)=>if sz'=sz/\0<=l/\l<=u/\off+u.toNat<=aq.length then some (.fy sz id (off+l.toNat) (u.toNat-l.toNat),[id])else none|some (.cap _ _ cp)=>if sz'=sz/\0<=l/\l<=u/\off+u.toNat<=cp then some (.fy sz id (off+l.toNat) (u.toNat-l.toNat),[id])else none|_=>none
 |_,_=>none
def Mt(sz:Nat)(x:C)(l u m:Int)(nxt:Nat):Option C:=match x with|.fy sz' _ _ len=>if sz'=sz/\0<=l/\l<=u/\u<=m/\m<=len then some (.fy sz nxt 0 (u.toNat-l.toNat))else none|_=>none
def pi(zero:List Value)(x:C)(h:bF):Option (fF×List Nat):=
 match x with
 |.fy sz id off len=>match aB h id with|some (.aM _ aq)=>if sz=zero.length/\off+len<=aq.length then some ([(id,some (.aM sz (aV aq off (az len (cF zero)))))],[id])else none|_=>none
 |_=>none
def kj(off n:Nat):C->Option C
 |.op id o=>some (.op id (o+off))
 |.ep id r o=>some (.ep id r (o+off))
 |.d (.pt cells)=>if off+n<=cells.length then some (.d (.pt ((cells.drop off).take n)))else none
 |_=>none
def iM(aM:Option Nat)(sz:Nat)(x:C)(i:Int):Option C:=
 match aM with
 |none=>match x with|.fy sz' id off len=>if 0<=i/\i<len/\sz'=sz then some (.ep id (off+i.toNat) 0)else none|.d (.sl sz' aq)=>if 0<=i/\sz'=sz then(match aq[i.toNat]?with|some r=>some (.d (.pt r))|none=>none)else none|_=>none
 |some n=>
  if 0<=i/\i<n then
   match x with|.op id o=>some (.op id (o+i.toNat*sz))|.ep id r o=>some (.ep id r (o+i.toNat*sz))|.d (.pt cells)=>if i.toNat*sz+sz<=cells.length then some (.d (.pt ((cells.drop (i.toNat*sz)).take sz)))else none|_=>none
  else none
def uq:Bool->C->Option Int
 |true,.d (.lit (.string s))=>some s.size
 |false,.d (.lit (.slice none 0 0))=>some 0
 |false,.fy _ _ _ len=>some len
 |false,.d (.sl _ aq)=>some aq.length
 |_,_=>none
def jk(sz:Nat)(h:bF):C->Option (List (List D)×List Nat)
 |.d (.lit (.slice none 0 0))=>some ([],[])
 |.d (.sl sz' aq)=>if sz'=sz then some (aq,[])else none
 |.fy sz' id off len=>match aB h id with|some (.aM _ aq)|some (.pJ _ aq)=>if sz'=sz/\off+len<=aq.length then some ((aq.drop off).take len,[id])else none|_=>none
 |_=>none
def oH(sz:Nat)(s x:C)(h:bF)(nxt:Nat):GZ:=
 match jk sz h x with
 |none=>none
 |some (new,aA)=>
  match s with
  |.d (.lit (.slice none 0 0))=>
   if new.length<=D1 then
    match new with|[]=>some (.c s,[],aA,nxt)|new=>some (.c (.fy sz nxt 0 new.length),[(nxt,some (.aM sz new))],aA,nxt+1)
   else none
  |.fy sz' id off len=>
   match aB h id with
   |some (.aM _ aq)=>
    if sz'=sz/\off+len<=aq.length/\len+new.length<=D1 then
     some (.c (.fy sz nxt 0 (len+new.length)),[(id,none),(nxt,some (.aM sz ((aq.drop off).take len++new++aq.drop (off+len+new.length))))],id::aA,nxt+1)
    else none
   |_=>none
  |_=>none
def ph(sz:Nat)(dst src:C)(h:bF):Option (Int×fF×List Nat):=
 match dst,src with
 |.fy sz' id off len,.fy sz2 id2 off2 len2=>
  match aB h id,aB h id2 with
  |some (.cap _ aq cp),some (.aM _ rows2)=>
   if sz'=sz/\sz2=sz/\off<=aq.length/\off2+min len2 len<=rows2.length then
    some ((min len2 len:Nat),[(id,some (.cap sz (aV aq off ((rows2.drop off2).take (min len2 len))) cp))],[id,id2])
   else none
  |some (.cap _ aq cp),some (.cap _ rows2 _)=>
   if sz'=sz/\sz2=sz/\off<=aq.length/\off2+min len2 len<=rows2.length then
    some ((min len2 len:Nat),[(id,some (.cap sz (aV aq off ((rows2.drop off2).take (min len2 len))) cp))],[id,id2])
   else none
  |_,_=>none
 |_,_=>none
def Bm(zero:List Value)(x:C)(k:Int)(h:bF)(nxt:Nat):GZ:=
 match x with
 |.fy sz' id off len=>
  match aB h id with
  |some (.cap _ aq cp)=>
   if sz'=zero.length/\0<=k/\len+k.toNat<=D1/\off+len<=aq.length/\cp<off+len+k.toNat then
    some (.c (.fy zero.length nxt 0 (len+k.toNat)),[(nxt,some (.aM zero.length ((aq.drop off).take len++az k.toNat (cF zero))))],[id],nxt+1)
   else none
  |_=>none
 |_=>none
def zw(x:C)(h:bF):Option (Nat×List Nat):=
 match x with
 |.fy _ id off _=>match aB h id with|some (.cap _ _ cp)=>some (cp-off,[id])|_=>none
 |_=>none
def zu(x y:C)(h:bF):Option (List Nat):=
 match x,y with
 |.fy _ a _ _,.fy _ b _ _=>match aB h a,aB h b with|some (.aM _ _),some (.cap _ _ cp)=>if a≠b/\0<cp then some [a,b]else none|_,_=>none
 |_,_=>none
def mE(sz:Nat)(dst src:C)(h:bF):Option (Int×fF×List Nat):=
 match jk sz h src,dst with
 |some (_,aA),.d (.lit (.slice none 0 0))=>some (0,[],aA)
 |some (new,aA),.fy sz' id off len=>
  match aB h id with
  |some (.aM _ aq)=>
   if sz'=sz/\off+len<=aq.length then
    some ((min new.length len:Nat),[(id,some (.aM sz (aV aq off (new.take len))))],id::aA)
   else none
  |_=>none
 |_,_=>none
def gD(h:bF):List TV->List Bool->Option (List A×List Nat×List (C×List Nat×List Nat))
 |[],_=>some ([],[],[])
 |v::vs,ms=>
  match gD h vs ms.tail with
  |none=>none
  |some (as,aA,lent)=>
   if ms.headD false then
    match v with
    |.c c=>match eP h 300 c with|some (t,bv,rd)=>some (.mt t::as,aA,(c,bv,rd)::lent)|none=>none
    |_=>none
   else match v with
    |.c c=>match ed h 300 c with|some (x,i)=>some (.d x::as,i++aA,lent)|none=>none
    |.agg cs=>match dW h cs with|some (xs,i)=>some (.agg xs::as,i++aA,lent)|none=>none
    |.iT _=>none
def fc(nxt:Nat):List (C×List Nat×List Nat)->List T->Option (fF×Nat)
 |[],[]=>some ([],nxt)
 |(_,[],_)::r,.d _::ts=>fc nxt r ts
 |(.op id 0,bv,_)::r,.pt ts'::ts=>match fc (iF nxt ts').2.2 r ts with|some (w,k)=>if bv.contains id then some ((id,some (.box (iF nxt ts').1))::(iF nxt ts').2.1++bv.map (fun i=>(i,none))++w,k)else none|none=>none
 |(.fy sz id 0 len,bv,_)::r,.sl sz' aq::ts=>
  if aq.length=len/\sz'=sz/\bv=[id]then
   match fc nxt r ts with|some (w,k)=>some ((id,some (.aM sz aq))::w,k)|none=>none
  else none
 |(.fy sz id 0 len,bv,_)::r,.zU szi aq::ts=>
  if aq.length=len/\sz=1/\bv=[id]then
   match fc nxt r ts with|some (w,k)=>some ((id,some (.nst szi (aq.map mZ)))::w,k)|none=>none
  else none
 |(_,bv,_)::r,.uS::ts=>match fc nxt r ts with|some (w,k)=>some (bv.map (fun i=>(i,none))++w,k)|none=>none
 |_,_=>none
def y8:R->Bool
 |.c (.d (.lit _))=>true
 |.agg ts=>ts.all fun|.d (.lit _)=>true|_=>false
 |_=>false
def ud:List TV->TV
 |[v]=>v
 |vs=>.iT vs
def eM{α:Type}:List (Option α)->Option (List α)
 |[]=>some []
 |some x::r=>match eM r with|some xs=>some (x::xs)|none=>none
 |none::_=>none
def eS(h:bF):List (C×List Nat×List Nat)->Bool
 |[]=>true
 |(.fy _ id off len,_)::r=>(match aB h id with|some (.aM _ aq)=>off==0&&len==aq.length|some (.nst _ slots)=>off==0&&len==slots.length|_=>false)&&eS h r
 |_::r=>eS h r
def uT(call:Call)(ro:Bool)(kh:List Bool)(f:Option TV)(vs:List (Option TV))(h:bF)(nxt:Nat):GZ:=
 match(match f with|some (.c (.d (.fn f caps)))=>some (f,caps.map C.d)|some (.c (.o5 f caps))=>some (f,caps)|_=>none),eM vs with
 |some (f,caps),some vs=>
  match gD h (vs++caps.map TV.c) kh with
  |none=>none
  |some (as,aA,lent)=>
   if eS h lent/\(lent.flatMap (·.2.1)).Nodup/\(lent.flatMap (·.2.1)).all (fun i=>!aA.contains i)then
    match call f as with
    |none=>none
    |some (rs,outs)=>
     if ro then
      if rs.all y8/\lent.isEmpty/\outs.isEmpty then
       let(vs,u,m):=ir nxt rs
       some (ud vs,u,aA,m)
      else none
     else
      match eh h aA aA with
      |none=>none
      |some fu=>
       match fc nxt lent outs with
       |none=>none
       |some (bu,m)=>
        let(vs,u,k):=ir m rs
        some (ud vs,u++bu++fu,aA++lent.flatMap (·.2.2),k)
   else none
 |_,_=>none
def qj:Nat->C->Option Bool
 |0,.d (.lit (.slice none 0 0))=>some true
 |0,.d (.sl _ _)|0,.fy _ _ _ _=>some false
 |1,.d (.lit (.pointer none))=>some true
 |1,.d (.pt _)|1,.ep _ _ _|1,.op _ _=>some false
 |2,.d (.lit .nilFunc)=>some true
 |2,.d (.fn _ _)|2,.o5 _ _=>some false
 |_,_=>none
def zB:List C->Option (List D)
 |[]=>some []
 |.d x::r=>match zB r with|some l=>some (x::l)|none=>none
 |_=>none
abbrev tE:=List Value×List D×Nat
def nh(ks:List Kd)(key:List Value):List tE->Nat->Option (Option Nat)
 |[],_=>some none
 |e::r,i=>match gJ ks key e.1 with|some true=>some (some i)|some false=>nh ks key r (i+1)|none=>none
def pu(va:Bool)(ds:List D):Option TV:=if va then some (.agg (ds.map .d))else match ds with|[x]=>some (.c (.d x))|_=>none
def LL:Kd->Value->Bool
 |.i q,.int k _=>decide (k=q)
 |.b,.bool _=>true
 |.s,.string _=>true
 |_,_=>false
def zX:List Kd->List Value->Bool
 |[],[]=>true
 |k::ks,x::xs=>LL k x&&zX ks xs
 |_,_=>false
def o7(ka:Bool)(ks:List Kd):TV->Option (List Value)
 |.agg cs=>if ka=true/\cs.length=ks.length then(match lS cs with|some l=>if zX ks l=true then some l else none|none=>none)else none
 |.c x=>if ka=false/\ks.length=1 then(match lS [x]with|some l=>if zX ks l=true then some l else none|none=>none)else none
 |.iT _=>none
def iC(ka:Bool)(ks:List Kd)(va:Bool)(zero:List Value)(ok:Bool)(m:C)(k:TV)(h:bF):Option (TV×List Nat):=
 match m,o7 ka ks k with
 |.d (.lit (.map none)),some _=>match pu va (cF zero)with|some v=>some (if ok then .iT [v,lv (.bool false)]else v,[])|none=>none
 |.om id,some key=>
  match aB h id with
  |some (.map ka' va' es _)=>
   if ka'=ka/\va'=va then
    match nh ks key es 0 with
    |some (some i)=>match pu va (es.getD i default).2.1 with|some v=>some (if ok then .iT [v,lv (.bool true)]else v,[id])|none=>none
    |some none=>match pu va (cF zero)with|some v=>some (if ok then .iT [v,lv (.bool false)]else v,[id])|none=>none
    |none=>none
   else none
  |_=>none
 |_,_=>none
def nn(ka:Bool)(ks:List Kd)(va:Bool)(zero:List Value)(m:C)(k:TV)(h:bF):Option (TV×fF×List Nat):=
 match m,o7 ka ks k with
 |.om id,some key=>
  match aB h id with
  |some (.map ka' va' es ft)=>
   if ka'=ka/\va'=va then
    match nh ks key es 0 with
    |some (some i)=>match pu va (es.getD i default).2.1 with|some v=>some (.iT [v,lv (.int .i64 (es.getD i default).2.2)],[(id,some (.map ka va es ft))],[id])|none=>none
    |some none=>match pu va (cF zero)with|some v=>some (.iT [v,lv (.int .i64 ft)],[(id,some (.map ka va (es++[(key,cF zero,ft)]) (ft+1)))],[id])|none=>none
    |none=>none
   else none
  |_=>none
 |_,_=>none
def xS:TV->Bool
 |.agg _=>true
 |_=>false
def nq(va:Bool)(n:Nat)(m:C)(st:Option TV)(x:TV)(h:bF):Option (fF×List Nat):=
 match m,cE st,(cellsOf x).bind zB with
 |.om id,some s,some ds=>
  match aB h id with
  |some (.map ka va' es ft)=>
   if va'=va/\ds.length=n/\xS x=va then
    match es.findIdx? (fun e=>decide ((e.2.2:Int)=s))with|some i=>some ([(id,some (.map ka va (es.set i ((es.getD i default).1,ds,(es.getD i default).2.2)) ft))],[id])|none=>none
   else none
  |_=>none
 |_,_,_=>none
def cQ(call:Call)(k:K)(vs:List (Option TV))(h:bF)(nxt:Nat):GZ:=
 match k,vs with
 |.mv,[some x]=>some (x,[],[],nxt)
 |.pick,[some (.c (.d (.lit (.bool c)))),a,b]=>match(if c then a else b)with|some v=>some (v,[],[],nxt)|none=>none
 |.alloc zero,[]=>some (.c (.op nxt 0),[(nxt,some (.box (fz zero)))],[],nxt+1)
 |.box,[some x]=>match cellsOf x with|some cs=>some (.c (.op nxt 0),[(nxt,some (.box cs))],[],nxt+1)|none=>none
 |.build zero places,vs=>
  match eM vs with
  |some xs=>match nk (fz zero) (places.zip xs)with|some cs=>some (.agg cs,[],[],nxt)|none=>none
  |none=>none
 |.buildSlice sz len zero places,vs=>
  match eM vs with
  |some xs=>
   match nk (fz zero) ((places.map fun i=>(i*sz,sz)).zip xs)with
   |some cs=>
    match dW h cs with
    |some (ds,aA)=>match eh h aA aA with|some u=>some (.c (.fy sz nxt 0 len),(nxt,some (.aM sz (mF sz len ds)))::u,aA,nxt+1)|none=>none
    |none=>none
   |none=>none
  |none=>none
 |.load agg n,[some (.c p)]=>match ig agg n p h with|some (v,aA)=>some (v,[],aA,nxt)|none=>none
 |.uj,[some (.c p)]=>match ig false 1 p h with|some (v,aA)=>some (v,[],aA,nxt)|none=>lI false 1 p h nxt
 |.store n,[some (.c p),some v]=>match mu n p v h with|some (u,aA)=>some (.iT [],u,aA,nxt)|none=>none
 |.nilCheck,[some (.c x)]=>match x with|.d (.pt _)|.d (.fn _ _)|.ep _ _ _|.op _ _|.o5 _ _=>some (.c x,[],[],nxt)|_=>none
 |.Ax op,[some (.c (.d (.lit x))),some (.c (.d (.lit y)))]=>match sx op x y with|some v=>some (lv v,[],[],nxt)|none=>none
 |.uU neg,[some (.c (.d (.lit (.bool x)))),some (.c (.d (.lit (.bool y))))]=>some (lv (.bool (if neg then !(x==y)else x==y)),[],[],nxt)
 |.qY kind neg,[some (.c x)]=>match qj kind x with|some b=>some (lv (.bool (if neg then !b else b)),[],[],nxt)|none=>none
 |.zx neg ks,[some (.agg xs),some (.agg ys)]=>
  match lS xs,lS ys with
  |some xs,some ys=>match gJ ks xs ys with|some b=>some (lv (.bool (if neg then !b else b)),[],[],nxt)|none=>none
  |_,_=>none
 |.un op,[some (.c (.d (.lit x)))]=>match S4 op x with|some v=>some (lv v,[],[],nxt)|none=>none
 |.vJ k,[some (.c (.d (.lit (.int _ n))))]=>some (lv (.int k (k.wrap n)),[],[],nxt)
 |.th,[some (.c (.d (.lit (.string s))))]=>some (lv (.string s),[],[],nxt)
 |.I8 f,vs=>
  match eM vs with
  |some xs=>match eM (xs.map fun|.c c=>some c|_=>none)with|some cs=>some (.c (.o5 f cs),[],[],nxt)|none=>none
  |none=>none
 |.makeSlice zero,[l,c]=>
  match cE l,cE c with
  |some l,some c=>
   if 0<=l/\l<=c/\c<=D1 then
    some (.c (.fy zero.length nxt 0 l.toNat),[(nxt,some (.aM zero.length (az l.toNat (cF zero))))],[],nxt+1)
   else none
  |_,_=>none
 |.A3 szi,[l,c]=>match cE l,cE c with|some l,some c=>if 0<=l/\l<=c/\c<=D1 then some (.c (.fy 1 nxt 0 l.toNat),[(nxt,some (.nst szi (az l.toNat .nil)))],[],nxt+1)else none|_,_=>none
 |.slice str sz lo hi,some (.c x)::r=>
  match lo,hi,r with
  |false,false,[]=>match fV str sz x none none with|some y=>some (.c y,[],[],nxt)|none=>none
  |true,false,[l]=>match cE l with|some l=>(match fV str sz x (some l) none with|some y=>some (.c y,[],[],nxt)|none=>none)|none=>none
  |false,true,[u]=>match cE u with|some u=>(match fV str sz x none (some u)with|some y=>some (.c y,[],[],nxt)|none=>(match nZ str sz x 0 u h with|some (y,aA)=>some (.c y,[],aA,nxt)|none=>none))|none=>none
  |true,true,[l,u]=>
   match cE l,cE u with
   |some l,some u=>match fV str sz x (some l) (some u)with|some y=>some (.c y,[],[],nxt)|none=>(match nZ str sz x l u h with|some (y,aA)=>some (.c y,[],aA,nxt)|none=>none)
   |_,_=>none
  |_,_,_=>none
 |.BQ sz,[some (.c x),l,u,m]=>
  match cE l,cE u,cE m with
  |some l,some u,some m=>match Mt sz x l u m nxt with|some y=>some (.c y,[],[],nxt+1)|none=>none
  |_,_,_=>none
 |.clear zero,[some (.c x)]=>match pi zero x h with|some (u,aA)=>some (.iT [],u,aA,nxt)|none=>none
 |.fieldAddr off n,[some (.c x)]=>match kj off n x with|some y=>some (.c y,[],[],nxt)|none=>none
 |.field agg off n,[some (.agg cs)]=>match D5 agg n (cs.drop off)with|some v=>some (v,[],[],nxt)|none=>none
 |.indexAddr aM sz,[some (.c x),i]=>
  match cE i with
  |some i=>match iM aM sz x i with|some y=>some (.c y,[],[],nxt)|none=>none
  |none=>none
 |.pI,[some (.c (.d (.lit (.string s)))),i]=>
  match cE i with
  |some i=>match(if 0<=i then s[i.toNat]?else none)with|some b=>some (lv (.int .u8 b.toNat),[],[],nxt)|none=>none
  |none=>none
 |.index agg len sz,[some (.agg cs),i]=>
  match cE i with
  |some i=>if 0<=i/\i<len then match D5 agg sz (cs.drop (i.toNat*sz))with|some v=>some (v,[],[],nxt)|none=>none else none
  |none=>none
 |.extract i,[some (.iT xs)]=>match xs[i]?with|some v=>some (v,[],[],nxt)|none=>none
 |.len str,[some (.c x)]=>match uq str x with|some n=>some (lv (.int .i64 n),[],[],nxt)|none=>none
 |.uP m,some (.c (.d (.lit x)))::r=>match Pv m x r with|some v=>some (lv v,[],[],nxt)|none=>none
 |.append sz,[some (.c s),some (.c x)]=>oH sz s x h nxt
 |.copy sz,[some (.c d),some (.c s)]=>match mE sz d s h with|some (i,u,aA)=>some (lv (.int .i64 i),u,aA,nxt)|none=>(match ph sz d s h with|some (i,u,aA)=>some (lv (.int .i64 i),u,aA,nxt)|none=>none)
 |.MY,[some (.c x)]=>match zw x h with|some (n,aA)=>some (lv (.int .i64 n),[],aA,nxt)|none=>none
 |.SV zero,[some (.c x),some (.c (.d (.lit (.int _ k))))]=>Bm zero x k h nxt
 |.Sd,[some (.c x),some (.c y)]=>match zu x y h with|some aA=>some (lv (.bool false),[],aA,nxt)|none=>none
 |.call ro kh,f::vs=>uT call ro kh f vs h nxt
 |.makeMap ka va,[]=>some (.c (.om nxt),[(nxt,some (.map ka va [] 0))],[],nxt+1)
 |.lookup ka ks va zero ok,[some (.c m),some k]=>match iC ka ks va zero ok m k h with|some (v,aA)=>some (v,[],aA,nxt)|none=>none
 |.mapEntry ka ks va zero,[some (.c m),some k]=>match nn ka ks va zero m k h with|some (v,u,aA)=>some (v,u,aA,nxt)|none=>none
 |.entryStore va n,[some (.c m),s,some x]=>match nq va n m s x h with|some (u,aA)=>some (.iT [],u,aA,nxt)|none=>none
 |_,_=>none
def kz(e:jP):Option (Nat×Bool)->Option Bool
 |none=>some true
 |some (t,b)=>match cA e t with|some (.c (.d (.lit (.bool x))))=>some (x==b)|some (.iT [])=>some false|_=>none
def put(e:jP)(dst:Option Nat)(v:TV):jP:=match dst with|some d=>(d,v)::e|none=>e
def drop(e:jP)(dst:Option Nat):jP:=put e dst (.iT [])
def iW:Nat:=1000000
def nr(calls:Nat->Call)(aR:Nat):List ol->Nat->jP->bF->Option (jP×bF×List (List Nat×List Nat))
 |[],_,e,h=>some (e,h,[])
 |o::r,i,e,h=>
  match kz e o.guard with
  |some true=>
   match cQ (calls i) o.k (o.args.map (kU e)) h (aR+iW*i)with
   |some (v,u,aA,n)=>
    if n<=aR+iW*(i+1)then
     match nr calls aR r (i+1) (put e o.dst v) (u++h)with|some (e,h,tr)=>some (e,h,(aA,u.map (·.1))::tr)|none=>none
    else none
   |none=>none
  |some false=>match nr calls aR r (i+1) (drop e o.dst) h with|some (e,h,tr)=>some (e,h,([],[])::tr)|none=>none
  |none=>none
def mj(a b:List Nat×List Nat):Bool:=a.2.all (fun i=>!b.1.contains i&&!b.2.contains i)&&b.2.all (fun i=>!a.1.contains i)
def Fo(tr:List (List Nat×List Nat))(i j:Nat):Bool:=
 match tr[i]?,tr[j]?with
 |some a,some b=>mj a b||(match a with|([id],[])=>((tr.take j).drop (i+1)).all (fun x=>!x.2.contains id)|_=>false)
 |_,_=>true
def Bo(tr:List (List Nat×List Nat))(dyn:List (Nat×Nat)):Bool:=dyn.all fun(i,j)=>if 1000<=j then Fo tr i (j-1000)else match tr[i]?,tr[j]?with|some a,some b=>mj a b|_,_=>true
def eV:C->List Nat
 |.d _=>[]
 |.fy _ id _ _|.ep id _ _|.op id _|.om id=>[id]
 |.o5 _ caps=>mV caps
where mV:List C->List Nat
 |[]=>[]
 |c::r=>eV c++mV r
def me:TV->List Nat
 |.c x=>eV x
 |.agg cs=>eV.mV cs
 |.iT xs=>Am xs
where Am:List TV->List Nat
 |[]=>[]
 |x::r=>me x++Am r
inductive RV where
 |tmp (t:Nat)
 |cell (t:Nat) (agg:Bool) (n:Nat)
 deriving Inhabited
def enter:List A->Nat->Nat->jP×bF×Nat×List C
 |[],_,n=>([],[],n,[])
 |.d x::r,i,n=>let(e,h,m,l):=enter r (i+1) n;((i,.c (.d x))::e,h,m,l)
 |.agg xs::r,i,n=>let(e,h,m,l):=enter r (i+1) n;((i,.agg (xs.map .d))::e,h,m,l)
 |.mt t::r,i,n=>let(c,u,k):=k9 n t;let(e,h,m,l):=enter r (i+1) k;((i,.c c)::e,u++h,m,c::l)
def xd(s:St):RV->Option TV
 |.tmp t=>cA s.dH t
 |.cell t agg n=>match cA s.dH t with|some (.c p)=>(match ig agg n p s.heap with|some (v,_)=>some v|none=>none)|_=>none
def r_(h:bF):TV->Option (R×List Nat)
 |.c c=>match eP h 300 c with|some (t,aA,_)=>some (.c t,aA)|none=>none
 |.agg cs=>match iK h 300 cs with|some (ts,aA,_)=>some (.agg ts,aA)|none=>none
 |.iT _=>none
def uN(h:bF):List TV->Option (List R×List Nat)
 |[]=>some ([],[])
 |v::vs=>match r_ h v,uN h vs with|some (r,a),some (rs,b)=>some (r::rs,a++b)|_,_=>none
structure Fn where
 np:Nat
 ntmps:Nat
 kN:List RV
 body:CC
 deriving Inhabited
inductive RD(S:Nat->Prop)(w:World):D->Value->Prop
 |lit {v:Value} (h:eu v=true):RD S w (.lit v) v
 |sl {sz:Nat} {aq:List (List D)} {b off cap:Nat} (f:Nat->Nat->Value) (hb:S b) (hsz:0<sz) (hcap:aq.length<=cap)
   (hrow:∀(i:Nat)(r:List D),aq[i]?=some r->r.length=sz)
   (hcell:∀(i:Nat)(r:List D),aq[i]?=some r->∀(j:Nat)(x:D),r[j]?=some x->w.cell? ⟨b,off+i*sz+j,none⟩=some (f i j))
   (hrd:∀(i:Nat)(r:List D),aq[i]?=some r->∀(j:Nat)(x:D),r[j]?=some x->RD S w x (f i j)):
   RD S w (.sl sz aq) (.slice (some ⟨b,off,none⟩) aq.length cap)
 |tK {sz:Nat} {a:Addr} (hsz:0<sz):RD S w (.sl sz []) (.slice (some a) 0 0)
 |pt {cells:List D} {b off:Nat} (f:Nat->Value) (hb:S b)
   (hcell:∀(j:Nat)(x:D),cells[j]?=some x->w.cell? ⟨b,off+j,none⟩=some (f j))
   (hrd:∀(j:Nat)(x:D),cells[j]?=some x->RD S w x (f j)):
   RD S w (.pt cells) (.pointer (some ⟨b,off,none⟩))
 |fn {g:FuncId} {caps:List D} {vs:Array Value} (hlen:caps.length=vs.size)
   (hrd:∀(j:Nat)(x:D),caps[j]?=some x->RD S w x (vs.getD j undef)):
   RD S w (.fn g caps) (.func (.func g) #[] vs)
structure hC(S:Nat->Prop)(w:World)(S':Nat->Prop)(w':World):Prop where
 sub:∀b,S b->S' b
 eC:∀b,S b->w'.heap[b]?=w.heap[b]?
theorem hC.refl(S:Nat->Prop)(w:World):hC S w S w:=⟨fun _ h=>h,fun _ _=>rfl⟩
theorem hC.trans{S S' S'':Nat->Prop}{w w' w'':World}(a:hC S w S' w')(b:hC S' w' S'' w''):hC S w S'' w'':=⟨fun x h=>b.sub x (a.sub x h),fun x h=>(b.eC x (a.sub x h)).trans (a.eC x h)⟩
theorem mG{w w':World}{b:Nat}(h:w'.heap[b]?=w.heap[b]?)(off:Nat):w'.cell? ⟨b,off,none⟩=w.cell? ⟨b,off,none⟩:=by simp[World.cell?,h]
theorem RD.mono{S S':Nat->Prop}{w w':World}(hs:hC S w S' w'){x:D}{v:Value}(h:RD S w x v):RD S' w' x v:=by induction h with|lit h=>exact .lit h|sl f hb hsz hcap hrow hcell hrd ih=>exact .sl f (hs.sub _ hb) hsz hcap hrow (fun i r hi j x hj=>(mG (hs.eC _ hb) _).trans (hcell i r hi j x hj)) ih|tK h=>exact .tK h|pt f hb hcell hrd ih=>exact .pt f (hs.sub _ hb) (fun j x hj=>(mG (hs.eC _ hb) _).trans (hcell j x hj)) ih|fn hlen hrd ih=>exact .fn hlen ih
structure gO where
 bY:Nat
 aR:Nat
 sz:Nat
 ext:Nat
 cap:Nat
 deriving Inhabited
inductive RC(S:Nat->Prop)(w:World)(Kn:Nat->Prop)(φ:Nat->gO):C->Value->Prop
 |d {x:D} {v:Value} (h:RD S w x v):RC S w Kn φ (.d x) v
 |fy {id off len cap addr:Nat} (hk:Kn id) (hcap:len<=cap) (haddr:0<cap->addr=(φ id).aR+off*(φ id).sz) (hext:addr+cap*(φ id).sz<=(φ id).ext) (hc:off+cap=(φ id).cap):
   RC S w Kn φ (.fy (φ id).sz id off len) (.slice (some ⟨(φ id).bY,addr,none⟩) len cap)
 |ep {id dl off:Nat} (hk:Kn id):RC S w Kn φ (.ep id dl off) (.pointer (some ⟨(φ id).bY,(φ id).aR+dl*(φ id).sz+off,none⟩))
 |op {id off:Nat} (hk:Kn id):RC S w Kn φ (.op id off) (.pointer (some ⟨(φ id).bY,(φ id).aR+off,none⟩))
 |o5 {g:FuncId} {caps:List C} {vs:Array Value} (hlen:caps.length=vs.size)
   (hrc:∀(j:Nat)(x:C),caps[j]?=some x->RC S w Kn φ x (vs.getD j undef)):
   RC S w Kn φ (.o5 g caps) (.func (.func g) #[] vs)
 |om {id:Nat} (hk:Kn id):RC S w Kn φ (.om id) (.map (some (φ id).bY))
structure Ren(Kn:Nat->Prop)(φ:Nat->gO)(Kn':Nat->Prop)(φ':Nat->gO):Prop where
 sub:∀i,Kn i->Kn' i
 eC:∀i,Kn i->φ' i=φ i
theorem Ren.refl(Kn:Nat->Prop)(φ:Nat->gO):Ren Kn φ Kn φ:=⟨fun _ h=>h,fun _ _=>rfl⟩
theorem RC.mono{S S':Nat->Prop}{w w':World}{Kn Kn':Nat->Prop}{φ φ':Nat->gO}(hs:hC S w S' w')(hr:Ren Kn φ Kn' φ'){x:C}{v:Value}
  (h:RC S w Kn φ x v):RC S' w' Kn' φ' x v:=by
 induction h with|d h=>exact .d (h.mono hs)|fy hk hcap haddr hext hc=>rw[<-hr.eC _ hk]at hext haddr hc|-;exact .fy (hr.sub _ hk) hcap haddr hext hc|ep hk=>rw[<-hr.eC _ hk];exact .ep (hr.sub _ hk)|op hk=>rw[<-hr.eC _ hk];exact .op (hr.sub _ hk)|o5 hlen hrc ih=>exact .o5 hlen ih|om hk=>rw[<-hr.eC _ hk];exact .om (hr.sub _ hk)
inductive gr(S:Nat->Prop)(w:World)(Kn:Nat->Prop)(φ:Nat->gO):TV->Value->Prop
 |c {x:C} {v:Value} (h:RC S w Kn φ x v):gr S w Kn φ (.c x) v
 |agg {cs:List C} {aM:Array Value} (hlen:cs.length=aM.size) (h:∀(i:Nat)(x:C),cs[i]?=some x->RC S w Kn φ x (aM.getD i undef)):gr S w Kn φ (.agg cs) (.agg aM)
 |iT {xs:List TV} {aM:Array Value} (hlen:xs.length=aM.size) (h:∀(i:Nat)(x:TV),xs[i]?=some x->gr S w Kn φ x (aM.getD i undef)):gr S w Kn φ (.iT xs) (.tuple aM)
theorem gr.mono{S S':Nat->Prop}{w w':World}{Kn Kn':Nat->Prop}{φ φ':Nat->gO}(hs:hC S w S' w')(hr:Ren Kn φ Kn' φ'){x:TV}{v:Value}
  (h:gr S w Kn φ x v):gr S' w' Kn' φ' x v:=by
 induction h with|c h=>exact .c (h.mono hs hr)|agg hlen h=>exact .agg hlen fun i x hi=>(h i x hi).mono hs hr|iT hlen h ih=>exact .iT hlen ih
def one:Value->Bool
 |.agg _|.tuple _=>false
 |_=>true
theorem vr{v:Value}(h:eu v=true):one v=true:=by cases v<;>simp_all[eu,one]
theorem RD.one{S:Nat->Prop}{w:World}{x:D}{v:Value}(h:RD S w x v):one v=true:=by cases h with|lit h=>exact vr h|_=>rfl
theorem RC.one{S:Nat->Prop}{w:World}{Kn:Nat->Prop}{φ:Nat->gO}{x:C}{v:Value}(h:RC S w Kn φ x v):one v=true:=by cases h with|d h=>exact h.one|_=>rfl
theorem vL{v:Value}(h:one v=true):v.cells= #[v]:=by cases v<;>simp_all[Ev.one,Value.cells]
def nw(w:World)(b:Nat)(aM:Array Value):Prop:=∃t,w.heap[b]?=some (.cells aM t (0,0))
theorem nw.cell{w:World}{b:Nat}{aM:Array Value}(h:nw w b aM)(i:Nat):w.cell? ⟨b,i,none⟩=aM[i]?:=by obtain⟨t,h⟩:=h;simp[World.cell?,h]
theorem nw.lt{w:World}{b:Nat}{aM:Array Value}(h:nw w b aM):b<w.heap.size:=by obtain⟨t,h⟩:=h;exact(bi.1 h).1
theorem nw.frozen{w:World}{b:Nat}{aM:Array Value}(h:nw w b aM)(i:Nat)(s:Option Nat):w.frozen? ⟨b,i,s⟩=false:=by obtain⟨t,h⟩:=h;simp[World.frozen?,h]
theorem nw.mq{w w':World}{b:Nat}{aM:Array Value}(h:nw w b aM)(hs:w'.heap[b]?=w.heap[b]?):nw w' b aM:=by obtain⟨t,h⟩:=h;exact⟨t,hs.trans h⟩
def cW(S:Nat->Prop)(w:World)(sz:Nat)(get:Nat->Option Value)(aR:Nat)(aq:List (List D)):Prop:=
 (∀(i:Nat)(r:List D),aq[i]?=some r->r.length=sz)/\
 ∀(i:Nat)(r:List D),aq[i]?=some r->∀(j:Nat)(x:D),r[j]?=some x->∃v,get (aR+i*sz+j)=some v/\RD S w x v
def cX:Ob->Bool
 |.aM _ _|.box _|.map _ _ _ _|.cap _ _ _|.nst _ _=>true
 |_=>false
def H5(S:Nat->Prop)(w:World)(sz:Nat)(aq:List (List D))(v:Value)(b:Nat):Prop:=∃(addr cap:Nat)(aM:Array Value),v=.slice (some ⟨b,addr,none⟩) aq.length cap/\0<sz/\nw w b aM/\aq.length<=cap/\addr+cap*sz<=aM.size/\cW S w sz (fun i=>aM[i]?) addr aq
inductive zQ(S K:Nat->Prop)(w:World)(Kn:Nat->Prop)(φ:Nat->gO)(sz:Nat):k8->Value->Prop
 |nil:zQ S K w Kn φ sz .nil (.slice none 0 0)
 |bv {aq:List (List D)} {v:Value} {b:Nat} (h:H5 S w sz aq v b) (hS:¬S b) (hK:¬K b):zQ S K w Kn φ sz (.bv aq) v
 |eg {id len:Nat} {v:Value} (h:RC S w Kn φ (.fy sz id 0 len) v):zQ S K w Kn φ sz (.eg id len) v
def xF:Value->Option Nat
 |.slice (some a) _ _=>some a.block
 |_=>none
def sj(w:World)(l:gO)(slots:List k8)(k x:Nat):Prop:=∃aq v,slots[k]?=some (.bv aq)/\w.cell? ⟨l.bY,l.aR+k,none⟩=some v/\xF v=some x
def J7(ka:Bool)(k:List Value)(v:Value):Prop:=(∀x∈k,eu x=true)/\if ka then v=.agg k.toArray else k=[v]
def wX(S:Nat->Prop)(w:World)(va:Bool)(ds:List D)(v:Value):Prop:=if va then∃aM:Array Value,v=.agg aM/\ds.length=aM.size/\∀(i:Nat)(x:D),ds[i]?=some x->RD S w x (aM.getD i undef)else∃x,ds=[x]/\RD S w x v
theorem wX.mono{S S':Nat->Prop}{w w':World}(hs:hC S w S' w'){va:Bool}{ds:List D}{v:Value}(h:wX S w va ds v):wX S' w' va ds v:=by
 unfold wX at h|-;split
 .rename_i hv;rw[if_pos hv]at h;obtain⟨aM,h1,h2,h3⟩:=h;exact⟨aM,h1,h2,fun i x hi=>(h3 i x hi).mono hs⟩
 .rename_i hv;rw[if_neg hv]at h;obtain⟨x,h1,h2⟩:=h;exact⟨x,h1,h2.mono hs⟩
inductive RO(S:Nat->Prop)(K:Nat->Prop)(w:World)(Kn:Nat->Prop)(φ:Nat->gO)(l:gO):Ob->Prop
 |aM {sz:Nat} {aq:List (List D)} {aM:Array Value} (hsz:0<sz) (hl:l.sz=sz) (hS:¬S l.bY) (hK:¬K l.bY) (ho:nw w l.bY aM) (hext:aM.size=l.ext)
   (hfit:l.aR+aq.length*sz<=l.ext) (hr:cW S w sz (fun i=>aM[i]?) l.aR aq) (hv:aq.length<=l.cap):RO S K w Kn φ l (.aM sz aq)
 |pJ {sz:Nat} {aq:List (List D)} (hsz:0<sz) (hl:l.sz=sz) (hS:S l.bY)
   (hr:cW S w sz (fun i=>w.cell? ⟨l.bY,i,none⟩) l.aR aq):RO S K w Kn φ l (.pJ sz aq)
 |box {cells:List C} {aM:Array Value} (hb:l.aR=0) (hS:¬S l.bY) (hK:¬K l.bY) (ho:nw w l.bY aM) (hlen:cells.length=aM.size)
   (hr:∀(i:Nat)(x:C),cells[i]?=some x->RC S w Kn φ x (aM.getD i undef)):RO S K w Kn φ l (.box cells)
 |oF {cells:List D} (hb:l.aR=0) (hS:S l.bY)
   (hr:∀(i:Nat)(x:D),cells[i]?=some x->∃v,w.cell? ⟨l.bY,i,none⟩=some v/\RD S w x v):RO S K w Kn φ l (.oF cells)
 |map {ka va:Bool} {es:List (List Value×List D×Nat)} {ft:Nat} {ms:Array MapEntry} (hS:¬S l.bY) (hK:¬K l.bY) (ho:w.heap[l.bY]?=some (.map ms ft)) (hlen:es.length=ms.size)
   (hr:∀(i:Nat)(e:List Value×List D×Nat)(m:MapEntry),es[i]?=some e->ms[i]?=some m->J7 ka e.1 m.key/\wX S w va e.2.1 m.val/\m.born=e.2.2):RO S K w Kn φ l (.map ka va es ft)
 |cap {sz:Nat} {aq:List (List D)} {cp:Nat} {aM:Array Value} (hsz:0<sz) (hl:l.sz=sz) (hS:¬S l.bY) (hK:¬K l.bY) (ho:nw w l.bY aM) (hext:aM.size=l.ext)
   (hfit:l.aR+cp*sz<=l.ext) (hr:cW S w sz (fun i=>aM[i]?) l.aR aq) (hv:aq.length<=cp) (hc:l.cap=cp):RO S K w Kn φ l (.cap sz aq cp)
 |nst {sz:Nat} {slots:List k8} {aM:Array Value} (hsz:0<sz) (hl:l.sz=1) (hS:¬S l.bY) (hK:¬K l.bY) (ho:nw w l.bY aM) (hext:aM.size=l.ext)
   (hfit:l.aR+slots.length<=l.ext) (hr:∀(i:Nat)(s:k8),slots[i]?=some s->∃v,aM[l.aR+i]?=some v/\zQ S K w Kn φ sz s v) (hv:slots.length<=l.cap):RO S K w Kn φ l (.nst sz slots)
theorem cW.mono{S S':Nat->Prop}{w w':World}(hs:hC S w S' w'){sz aR:Nat}{get:Nat->Option Value}{aq:List (List D)}(h:cW S w sz get aR aq):
  cW S' w' sz get aR aq:=
 ⟨h.1,fun i r hi j x hj=>let⟨v,hg,hr⟩:=h.2 i r hi j x hj;⟨v,hg,hr.mono hs⟩⟩
def RE(S':Nat->Prop)(w w':World)(l:gO)(o:Ob):Prop:=∀sz slots,o=.nst sz slots->∀k x,sj w l slots k x->w'.heap[x]?=w.heap[x]?/\¬S' x
theorem H5.mono{S S':Nat->Prop}{w w':World}(hs:hC S w S' w'){sz b:Nat}{aq:List (List D)}{v:Value}(hb:w'.heap[b]?=w.heap[b]?)(h:H5 S w sz aq v b):H5 S' w' sz aq v b:=by obtain⟨a,c,aM,h1,h2,h3,h4,h5,h6⟩:=h;exact⟨a,c,aM,h1,h2,h3.mq hb,h4,h5,h6.mono hs⟩
theorem H5.bY{S:Nat->Prop}{w:World}{sz b:Nat}{aq:List (List D)}{v:Value}(h:H5 S w sz aq v b):xF v=some b:=by obtain⟨a,c,aM,rfl,_⟩:=h;rfl
theorem H5.bv{S:Nat->Prop}{w:World}{sz b:Nat}{aq:List (List D)}{v:Value}(h:H5 S w sz aq v b):∃aM,nw w b aM:=by obtain⟨a,c,aM,_,_,h,_⟩:=h;exact⟨aM,h⟩
theorem RO.mono{S S' K:Nat->Prop}{w w':World}{Kn Kn':Nat->Prop}{φ φ':Nat->gO}{l:gO}(hs:hC S w S' w')(hr:Ren Kn φ Kn' φ'){o:Ob}
  (hsame:cX o=true->w'.heap[l.bY]?=w.heap[l.bY]?/\¬S' l.bY) (hkp:RE S' w w' l o) (h:RO S K w Kn φ l o):RO S' K w' Kn' φ' l o:=by
 cases h with
 |aM hsz hl hS hK ho hext hfit hrr hv=>exact .aM hsz hl (hsame rfl).2 hK (ho.mq (hsame rfl).1) hext hfit (hrr.mono hs) hv
 |pJ hsz hl hS hrr=>refine .pJ hsz hl (hs.sub _ hS) ⟨hrr.1,fun i r hi j x hj=>?_⟩;obtain⟨v,hg,h⟩:=hrr.2 i r hi j x hj;exact⟨v,(mG (hs.eC _ hS) _).trans hg,h.mono hs⟩
 |box hb hS hK ho hlen hrr=>exact .box hb (hsame rfl).2 hK (ho.mq (hsame rfl).1) hlen fun i x hi=>(hrr i x hi).mono hs hr
 |oF hb hS hrr=>refine .oF hb (hs.sub _ hS) fun i x hi=>?_;obtain⟨v,hg,h⟩:=hrr i x hi;exact⟨v,(mG (hs.eC _ hS) _).trans hg,h.mono hs⟩
 |map hS hK ho hlen hrr=>exact .map (hsame rfl).2 hK ((hsame rfl).1.trans ho) hlen fun i e m hi hm=>let⟨h1,h2,h3⟩:=hrr i e m hi hm;⟨h1,h2.mono hs,h3⟩
 |cap hsz hl hS hK ho hext hfit hrr hv hc=>exact .cap hsz hl (hsame rfl).2 hK (ho.mq (hsame rfl).1) hext hfit (hrr.mono hs) hv hc
 |nst hsz hl hS hK ho hext hfit hrr hv=>refine .nst hsz hl (hsame rfl).2 hK (ho.mq (hsame rfl).1) hext hfit (fun i s hi=>?_) hv;obtain⟨v,h1,h2⟩:=hrr i s hi;refine⟨v,h1,?_⟩;cases h2 with|nil=>exact .nil|@bv aq _ b h hS hK=>obtain⟨k1,k2⟩:=hkp _ _ rfl i b ⟨aq,v,hi,(ho.cell _).trans h1,h.bY⟩;exact .bv (h.mono hs k1) k2 hK|eg h=>exact .eg (h.mono hs hr)
def Io(w0 w:World):Prop:=w.os=w0.os/\w.output=w0.output/\w.tape=w0.tape/\w0.drawn<=w.drawn
theorem Io.trans{a b c:World}(h:Io a b)(h2:Io b c):Io a c:=⟨h2.1.trans h.1,h2.2.1.trans h.2.1,h2.2.2.1.trans h.2.2.1,fq h.2.2.2 h2.2.2.2⟩
theorem Io.refl(w:World):Io w w:=⟨rfl,rfl,rfl,au _⟩
structure G2(K:Nat->Prop)(w0 w:World):Prop where
 Gb:∀b,K b->b<w0.heap.size
 nc:∀b,K b->w.heap[b]?=w0.heap[b]?
 grow:w0.heap.size<=w.heap.size
 Bc:∀a,a.block<w0.heap.size->w.frozen? a=w0.frozen? a
 bv:∀b aM,nw w0 b aM->∃arr',nw w b arr'/\arr'.size=aM.size
 io:Io w0 w
def u4(S:Nat->Prop)(w:World):Prop:=∀g d,QO g=some d->RD S w d (.pointer (some ⟨g,0,none⟩))
theorem u4.mono{S S':Nat->Prop}{w w':World}(h:u4 S w)(hs:hC S w S' w'):u4 S' w':=fun g d hg=>(h g d hg).mono hs
def U5(w:World)(φ:Nat->gO)(hf:Nat->Option Ob):Prop:=∀i sz sl k x,hf i=some (.nst sz sl)->sj w (φ i) sl k x->
 (∀j b,hf j=some b->cX b=true->(φ j).bY≠x)/\∀j sz' sl' k',hf j=some (.nst sz' sl')->sj w (φ j) sl' k' x->j=i/\k'=k
structure Inv(S K:Nat->Prop)(w0:World)(Kn:Nat->Prop)(φ:Nat->gO)(hf:Nat->Option Ob)(w:World):Prop where
 u6:∀b,S b->b<w.heap.size
 sk:∀b,S b->¬K b
 nB:G2 K w0 w
 iR:∀id o,hf id=some o->Kn id/\RO S K w Kn φ (φ id) o
 eR:∀i j a b,hf i=some a->hf j=some b->cX a=true->cX b=true->i≠j->(φ i).bY≠(φ j).bY
 Ce:u4 S w
 xe:U5 w φ hf
def bm(u:fF)(hf:Nat->Option Ob)(id:Nat):Option Ob:=match cA u id with|some o=>o|none=>hf id
theorem gV{α:Type}(a b:List (Nat×α))(k:Nat):cA (a++b) k=match cA a k with|some x=>some x|none=>cA b k:=by induction a with|nil=>rfl|cons p r ih=>obtain⟨i,x⟩:=p;simp only[List.cons_append,cA];cases h:(i==k)<;>simp[ih]
theorem gK(u:fF)(h:bF):aB (u++h)=bm u (aB h):=by funext id;simp only[aB,bm,gV];cases cA u id<;>simp
theorem fP(hf:Nat->Option Ob):bm [] hf=hf:=rfl
theorem bT(i:Nat)(o:Option Ob)(u:fF)(hf:Nat->Option Ob)(id:Nat):bm ((i,o)::u) hf id=if i=id then o else bm u hf id:=by
 simp only[bm,cA];by_cases h:i=id
 .simp [h]
 .have e:(i==id)=false:=by simpa using h
  simp[h,e]
theorem eD(u v:fF)(hf:Nat->Option Ob):bm (u++v) hf=bm u (bm v hf):=by funext id;simp only[bm,gV];cases cA u id<;>simp
theorem Inv.vb{S S' K:Nat->Prop}{w0 w w':World}{Kn Kn':Nat->Prop}{φ φ':Nat->gO}{hf hf':Nat->Option Ob}(h:Inv S K w0 Kn φ hf w)
  (hs:hC S w S' w') (hr:Ren Kn φ Kn' φ') (hslt:∀b,S' b->b<w'.heap.size) (hsk:∀b,S' b->¬K b) (hfrm:G2 K w0 w')
  (hobj:∀id o,hf' id=some o->(hf id=some o/\(cX o=true->w'.heap[(φ id).bY]?=w.heap[(φ id).bY]?/\¬S' (φ id).bY)/\RE S' w w' (φ id) o)\/(Kn' id/\RO S' K w' Kn' φ' (φ' id) o))
  (hdist:∀i j a b,hf' i=some a->hf' j=some b->cX a=true->cX b=true->i≠j->(φ' i).bY≠(φ' j).bY) (hprv:U5 w' φ' hf'):
  Inv S' K w0 Kn' φ' hf' w' where
 u6:=hslt
 sk:=hsk
 nB:=hfrm
 eR:=hdist
 Ce:=h.Ce.mono hs
 xe:=hprv
 iR id o ho:=by
  rcases hobj id o ho with⟨h1,h2,h3⟩|h1
  .obtain ⟨hk,hro⟩:=h.iR id o h1;refine⟨hr.sub _ hk,?_⟩;rw[hr.eC _ hk];exact hro.mono hs hr h2 h3
  .exact h1
theorem sj.eC{w w':World}{l:gO}{sl:List k8}{k x:Nat}(h:w'.heap[l.bY]?=w.heap[l.bY]?):sj w' l sl k x<->sj w l sl k x:=by unfold sj;rw[show∀i,w'.cell? ⟨l.bY,i,none⟩=w.cell? ⟨l.bY,i,none⟩from fun i=>mG h i]
theorem RO.IK{S K:Nat->Prop}{w:World}{Kn:Nat->Prop}{φ:Nat->gO}{l:gO}{sz:Nat}{sl:List k8}{k x:Nat}(h:RO S K w Kn φ l (.nst sz sl))(hp:sj w l sl k x):
  ¬S x/\¬K x/\x<w.heap.size/\∃aq v,sl[k]?=some (.bv aq)/\w.cell? ⟨l.bY,l.aR+k,none⟩=some v/\H5 S w sz aq v x:=by
 cases h with
 |nst hsz hl hS hK ho hext hfit hr hv=>
  obtain⟨aq,v,h1,h2,h3⟩:=hp;obtain⟨v',h4,h5⟩:=hr k _ h1;obtain rfl:v'=v:=by rw[ho.cell,h4]at h2;exact aa h2
  cases h5 with
  |@bv _ _ b h6 hS hK=>
   obtain rfl:b=x:=by rw[h6.bY]at h3;exact aa h3
   obtain⟨aM,h7⟩:=h6.bv;exact⟨hS,hK,h7.lt,aq,v',h1,h2,h6⟩
theorem Inv.IK{S K:Nat->Prop}{w0 w:World}{Kn:Nat->Prop}{φ:Nat->gO}{hf:Nat->Option Ob}(h:Inv S K w0 Kn φ hf w){i sz k x:Nat}{sl:List k8}(hi:hf i=some (.nst sz sl))(hp:sj w (φ i) sl k x):
  ¬S x/\¬K x/\x<w.heap.size/\∃aq v,sl[k]?=some (.bv aq)/\w.cell? ⟨(φ i).bY,(φ i).aR+k,none⟩=some v/\H5 S w sz aq v x:=(h.iR i _ hi).2.IK hp
def RB(S':Nat->Prop)(w w':World)(φ φ':Nat->gO)(hf hf':Nat->Option Ob):Prop:=∀id sz sl,hf' id=some (.nst sz sl)->hf id=some (.nst sz sl)/\w'.heap[(φ id).bY]?=w.heap[(φ id).bY]?/\
 ∀k x,sj w (φ id) sl k x->w'.heap[x]?=w.heap[x]?/\¬S' x/\∀j b,hf' j=some b->cX b=true->(φ' j).bY≠x
theorem Inv.kM{S S' K:Nat->Prop}{w0 w w':World}{Kn Kn':Nat->Prop}{φ φ':Nat->gO}{hf hf':Nat->Option Ob}(h:Inv S K w0 Kn φ hf w)
  (hs:hC S w S' w') (hr:Ren Kn φ Kn' φ') (hslt:∀b,S' b->b<w'.heap.size) (hsk:∀b,S' b->¬K b) (hfrm:G2 K w0 w')
  (hobj:∀id o,hf' id=some o->(hf id=some o/\(cX o=true->w'.heap[(φ id).bY]?=w.heap[(φ id).bY]?/\¬S' (φ id).bY))\/(Kn' id/\RO S' K w' Kn' φ' (φ' id) o))
  (hdist:∀i j a b,hf' i=some a->hf' j=some b->cX a=true->cX b=true->i≠j->(φ' i).bY≠(φ' j).bY) (hrest:RB S' w w' φ φ' hf hf'):
  Inv S' K w0 Kn' φ' hf' w':=by
 have e:∀id sz sl,hf' id=some (.nst sz sl)->φ' id=φ id:=fun id sz sl hi=>hr.eC _ (h.iR id _ (hrest id sz sl hi).1).1;have hpat:∀id sz sl k x,hf' id=some (.nst sz sl)->sj w' (φ' id) sl k x->sj w (φ id) sl k x:=fun id sz sl k x hi hp=>by rw[e id sz sl hi]at hp;exact(sj.eC (hrest id sz sl hi).2.1).1 hp
 refine h.vb hs hr hslt hsk hfrm (fun id o ho=>?_) hdist fun i sz sl k x hi hp=>?_
 .rcases hobj id o ho with⟨h1,h2⟩|h1
  .exact .inl ⟨h1,h2,fun sz sl eo k x hp=>by subst eo;obtain⟨a,b,_⟩:=(hrest id sz sl ho).2.2 k x hp;exact⟨a,b⟩⟩
  .exact .inr h1
 .have hp':=hpat i sz sl k x hi hp;refine⟨((hrest i sz sl hi).2.2 k x hp').2.2,fun j sz' sl' k' hj hpj=>?_⟩;exact(h.xe i sz sl k x (hrest i sz sl hi).1 hp').2 j sz' sl' k' (hrest j sz' sl' hj).1 (hpat j sz' sl' k' x hj hpj)
theorem iO{w:World}{o:Obj}{b:Nat}(h:b<w.heap.size):({w with heap:=w.heap.push o}:World).heap[b]?=w.heap[b]?:=by simp[Array.getElem?_push,Nat.ne_of_lt h]
theorem Dx(w:World)(aM:Array Value)(t:TypeId):nw {w with heap:=w.heap.push (.cells aM t)} w.heap.size aM:=⟨t,by simp⟩
theorem Ef(w:World)(aM:Array Value)(t:TypeId)(a:Addr):({w with heap:=w.heap.push (.cells aM t)}:World).frozen? a=w.frozen? a:=by
 unfold World.frozen?;rcases nz a.block w.heap.size with h|h|h
 .rw [iO h]
 .simp [h]
 .rw [fN (by simp;omega),fN (by omega)]
theorem G2.push{K:Nat->Prop}{w0 w:World}(h:G2 K w0 w)(aM:Array Value)(t:TypeId):G2 K w0 {w with heap:=w.heap.push (.cells aM t)}where
 Gb:=h.Gb
 nc b hb:=(iO (cn (h.Gb b hb) h.grow)).trans (h.nc b hb)
 grow:=by have:=h.grow;simp;omega
 Bc a ha:=(Ef w aM t a).trans (h.Bc a ha)
 bv b a ha:=let⟨a',h1,h2⟩:=h.bv b a ha;⟨a',h1.mq (iO h1.lt),h2⟩
 io:=h.io
theorem G2.yK{K:Nat->Prop}{w0 w w':World}(h:G2 K w0 w){c:Nat}(hother:∀b,b≠c->w'.heap[b]?=w.heap[b]?)
  (hsz:∀aM,nw w c aM->∃arr',nw w' c arr'/\arr'.size=aM.size) (b:Nat) (aM:Array Value) (ho:nw w0 b aM):∃arr',nw w' b arr'/\arr'.size=aM.size:=by
 obtain⟨a,h1,h2⟩:=h.bv b aM ho;by_cases e:b=c
 .subst e;obtain⟨a',h3,h4⟩:=hsz a h1;exact⟨a',h3,h4.trans h2⟩
 .exact ⟨a,h1.mq (hother b e),h2⟩
theorem G2.xD{K:Nat->Prop}{w0 w:World}(h:G2 K w0 w)(n:Nat)(hn:w.drawn<=n):G2 K w0 {w with drawn:=n}:=⟨h.Gb,h.nc,h.grow,h.Bc,h.bv,h.io.1,h.io.2.1,h.io.2.2.1,fq h.io.2.2.2 hn⟩
theorem hC.push{S:Nat->Prop}{w:World}(hs:∀b,S b->b<w.heap.size)(o:Obj):hC S w S {w with heap:=w.heap.push o}:=⟨fun _ h=>h,fun b h=>iO (hs b h)⟩
theorem hC.xD(S:Nat->Prop)(w:World)(n:Nat):hC S w S {w with drawn:=n}:=⟨fun _ h=>h,fun _ _=>rfl⟩
theorem Inv.Dl{S K:Nat->Prop}{w0 w w':World}{Kn Kn':Nat->Prop}{φ φ':Nat->gO}{hf:Nat->Option Ob}(h:Inv S K w0 Kn φ hf w)(hr:Ren Kn φ Kn' φ')(hs:∀b,b<w.heap.size->w'.heap[b]?=w.heap[b]?):RB S w w' φ φ' hf hf:=fun id sz sl hi=>by
 obtain⟨_,h1⟩:=h.iR id _ hi;have hlt:(φ id).bY<w.heap.size:=by cases h1 with|nst _ _ _ _ ho=>exact ho.lt
 refine⟨hi,hs _ hlt,fun k x hp=>?_⟩;obtain⟨h2,_,h3,_⟩:=h.IK hi hp;refine⟨hs x h3,h2,fun j b hj hb=>?_⟩;rw[hr.eC j (h.iR j b hj).1];exact(h.xe id sz sl k x hi hp).1 j b hj hb
theorem Inv.AR{S K:Nat->Prop}{w0 w w':World}{Kn:Nat->Prop}{φ:Nat->gO}{hf:Nat->Option Ob}(h:Inv S K w0 Kn φ hf w)(hs:∀b,b<w.heap.size->w'.heap[b]?=w.heap[b]?):RB S w w' φ φ hf hf:=h.Dl (Ren.refl _ _) hs
theorem Inv.xD{S K:Nat->Prop}{w0 w:World}{Kn:Nat->Prop}{φ:Nat->gO}{hf:Nat->Option Ob}(h:Inv S K w0 Kn φ hf w)(n:Nat)(hn:w.drawn<=n):
  Inv S K w0 Kn φ hf {w with drawn:=n}:=
 h.kM (hC.xD S w n) (Ren.refl _ _) h.u6 h.sk (h.nB.xD n hn) (fun id o ho=>.inl ⟨ho,fun hown=>⟨rfl,by obtain⟨_,hro⟩:=h.iR id o ho;cases hro<;>simp_all[cX]⟩⟩) h.eR (h.AR fun _ _=>rfl)
theorem RO.bv{S K:Nat->Prop}{w:World}{Kn:Nat->Prop}{φ:Nat->gO}{l:gO}{o:Ob}(h:RO S K w Kn φ l o)(ho:cX o=true):
  ¬S l.bY/\¬K l.bY/\l.bY<w.heap.size:=by
 cases h with|aM hsz hl hS hK hown=>exact⟨hS,hK,hown.lt⟩|box hb hS hK hown=>exact⟨hS,hK,hown.lt⟩|map hS hK hmp=>exact⟨hS,hK,(bi.1 hmp).1⟩|cap hsz hl hS hK hown=>exact⟨hS,hK,hown.lt⟩|nst hsz hl hS hK hown=>exact⟨hS,hK,hown.lt⟩|_=>simp[cX]at ho
def ext(φ:Nat->gO)(i:Nat)(l:gO):Nat->gO:=fun j=>if j=i then l else φ j
theorem jQ{Kn:Nat->Prop}{φ:Nat->gO}{i:Nat}(l:gO)(hi:¬Kn i):Ren Kn φ (fun j=>Kn j\/j=i) (ext φ i l):=⟨fun _ h=>.inl h,fun j h=>by simp only[ext];rw[if_neg];rintro rfl;exact hi h⟩
abbrev H6(o:Ob):Prop:=∀sz sl(k:Nat)aq,o=.nst sz sl->sl[k]?≠some (k8.bv aq)
theorem Inv.Ht{S K:Nat->Prop}{w0 w w':World}{Kn:Nat->Prop}{φ:Nat->gO}{hf:Nat->Option Ob}(h:Inv S K w0 Kn φ hf w){i:Nat}{l:gO}{o:Ob}(hno:H6 o)
  (hsame:∀b,b<w.heap.size->w'.heap[b]?=w.heap[b]?) (hl:cX o=true->∀id sz sl k x,hf id=some (.nst sz sl)->sj w (φ id) sl k x->l.bY≠x):U5 w' (ext φ i l) (bm [(i,some o)] hf):=by
 have key:∀a sz sl k x,bm [(i,some o)] hf a=some (.nst sz sl)->sj w' (ext φ i l a) sl k x->hf a=some (.nst sz sl)/\sj w (φ a) sl k x:=by
  intro a sz sl k x ha hp;rw[bT]at ha;by_cases e:i=a
  .rw [if_pos e]at ha;obtain rfl:=aa ha;obtain⟨aq,v,h1,_⟩:=hp;exact absurd h1 (hno _ _ _ _ rfl)
  .rw [if_neg e,fP]at ha;refine⟨ha,?_⟩;have e1:ext φ i l a=φ a:=by simp only[ext];rw[if_neg (fun q=>e q.symm)]
   rw[e1]at hp;obtain⟨_,h1⟩:=h.iR a _ ha;exact(sj.eC (hsame _ (by cases h1 with|nst _ _ _ _ ho=>exact ho.lt))).1 hp
 intro a sz sl k x ha hp;obtain⟨h1,h2⟩:=key a sz sl k x ha hp;obtain⟨p1,p2⟩:=h.xe a sz sl k x h1 h2;refine⟨fun j b hj hown=>?_,fun j sz' sl' k' hj hpj=>?_⟩
 .rw [bT]at hj;by_cases e:i=j
  .rw [if_pos e]at hj;obtain rfl:=aa hj;simp only[ext];rw[if_pos e.symm];exact hl hown a sz sl k x h1 h2
  .rw [if_neg e,fP]at hj;simp only[ext];rw[if_neg (fun q=>e q.symm)];exact p1 j b hj hown
 .obtain ⟨h3,h4⟩:=key j sz' sl' k' x hj hpj;exact p2 j sz' sl' k' h3 h4
theorem Inv.D9{S K:Nat->Prop}{w0 w w':World}{Kn:Nat->Prop}{φ:Nat->gO}{hf:Nat->Option Ob}(h:Inv S K w0 Kn φ hf w){id:Nat}{o:Ob}(ho:hf id=some o)(hsame:∀b,b<w.heap.size->w'.heap[b]?=w.heap[b]?):RE S w w' (φ id) o:=by intro sz sl e k x hp;subst e;obtain⟨h1,_,h2,_⟩:=h.IK ho hp;exact⟨hsame x h2,h1⟩
theorem Inv.alloc{S K:Nat->Prop}{w0 w:World}{Kn:Nat->Prop}{φ:Nat->gO}{hf:Nat->Option Ob}(h:Inv S K w0 Kn φ hf w){i:Nat}(hi:¬Kn i)
  (aM:Array Value) (t:TypeId) (sz c:Nat) (o:Ob)
  (hro:RO S K {w with heap:=w.heap.push (.cells aM t)} (fun j=>Kn j\/j=i) (ext φ i ⟨w.heap.size,0,sz,aM.size,c⟩) ⟨w.heap.size,0,sz,aM.size,c⟩ o) (hno:H6 o:=by intro _ _ _ _ e;cases e):
  Inv S K w0 (fun j=>Kn j\/j=i) (ext φ i ⟨w.heap.size,0,sz,aM.size,c⟩) (bm [(i,some o)] hf) {w with heap:=w.heap.push (.cells aM t)}:=by
 refine h.vb (hC.push h.u6 _) (jQ _ hi) (fun b hb=>by have:=h.u6 b hb;simp;omega) h.sk (h.nB.push aM t) ?_ ?_ (h.Ht hno (fun b hb=>iO hb) fun _ id sz sl k x ha hp e=>by have:=(h.IK ha hp).2.2.1;simp only at e;omega)
 .intro id o' ho;rw[bT]at ho;by_cases e:i=id
  .subst e;rw[if_pos rfl]at ho;obtain rfl:o=o':=by simpa using ho
   refine .inr ⟨.inr rfl,?_⟩;simpa[ext]using hro
  .rw [if_neg e,fP]at ho;refine .inl ⟨ho,fun hown=>?_,h.D9 ho fun b hb=>iO hb⟩;obtain⟨_,h2⟩:=h.iR id o' ho;obtain⟨a,b,c⟩:=h2.bv hown;exact⟨iO c,a⟩
 .have key:∀j b,j≠i->hf j=some b->cX b=true->(ext φ i ⟨w.heap.size,0,sz,aM.size,c⟩ j).bY<w.heap.size:=by intro j b hj hb hown;obtain⟨_,h2⟩:=h.iR j b hb;simpa[ext,hj]using(h2.bv hown).2.2
  intro a b oa ob ha hb hoa hob hne;rw[bT]at ha hb;by_cases ea:i=a
  .by_cases eb:i=b
   .exact absurd (ea.symm.trans eb) hne
   .rw [if_neg eb,fP]at hb;have:=key b ob (fun e=>eb e.symm) hb hob;have e1:(ext φ i ⟨w.heap.size,0,sz,aM.size,c⟩ a).bY=w.heap.size:=by simp[ext,ea]
    omega
  .rw [if_neg ea,fP]at ha;have h1:=key a oa (fun e=>ea e.symm) ha hoa;by_cases eb:i=b
   .have e1:(ext φ i ⟨w.heap.size,0,sz,aM.size,c⟩ b).bY=w.heap.size:=by simp[ext,eb]
    omega
   .rw [if_neg eb,fP]at hb;have:=h.eR a b oa ob ha hb hoa hob hne;have e1:¬a=i:=fun e=>ea e.symm;have e2:¬b=i:=fun e=>eb e.symm;simpa[ext,e1,e2]using this
theorem Ci{w:World}{o:Obj}(ho:∀c t r,o≠.cells c t r)(a:Addr):({w with heap:=w.heap.push o}:World).frozen? a=w.frozen? a:=by
 unfold World.frozen?;rcases nz a.block w.heap.size with h|h|h
 .rw [iO h]
 .rw [h];simp only[Array.getElem?_push_size,fN (au _)];cases o with|cells c t r=>exact absurd rfl (ho c t r)|_=>rfl
 .rw [fN (by simp;omega),fN (by omega)]
theorem Inv.Rt{S K:Nat->Prop}{w0 w:World}{Kn:Nat->Prop}{φ:Nat->gO}{hf:Nat->Option Ob}(h:Inv S K w0 Kn φ hf w){i:Nat}(hi:¬Kn i)
  {ob:Obj} (hob:∀c t r,ob≠.cells c t r) (l:gO) (hl:l.bY=w.heap.size) (o:Ob)
  (hro:RO S K {w with heap:=w.heap.push ob} (fun j=>Kn j\/j=i) (ext φ i l) l o) (hno:H6 o:=by intro _ _ _ _ e;cases e):
  Inv S K w0 (fun j=>Kn j\/j=i) (ext φ i l) (bm [(i,some o)] hf) {w with heap:=w.heap.push ob}:=by
 have hfrm:G2 K w0 {w with heap:=w.heap.push ob}:=
  ⟨h.nB.Gb,fun b hb=>(iO (cn (h.nB.Gb b hb) h.nB.grow)).trans (h.nB.nc b hb),by have:=h.nB.grow;simp;omega,fun a ha=>(Ci hob a).trans (h.nB.Bc a ha),
   fun b a ha=>let⟨a',h1,h2⟩:=h.nB.bv b a ha;⟨a',h1.mq (iO h1.lt),h2⟩,h.nB.io⟩
 refine h.vb (hC.push h.u6 _) (jQ _ hi) (fun b hb=>by have:=h.u6 b hb;simp;omega) h.sk hfrm ?_ ?_ (h.Ht hno (fun b hb=>iO hb) fun _ id sz sl k x ha hp e=>by have:=(h.IK ha hp).2.2.1;omega)
 .intro id o' ho;rw[bT]at ho;by_cases e:i=id
  .subst e;rw[if_pos rfl]at ho;obtain rfl:o=o':=by simpa using ho
   refine .inr ⟨.inr rfl,?_⟩;simpa[ext]using hro
  .rw [if_neg e,fP]at ho;refine .inl ⟨ho,fun hown=>?_,h.D9 ho fun b hb=>iO hb⟩;obtain⟨_,h2⟩:=h.iR id o' ho;obtain⟨a,b,c⟩:=h2.bv hown;exact⟨iO c,a⟩
 .have key:∀j b,j≠i->hf j=some b->cX b=true->(ext φ i l j).bY<w.heap.size:=by intro j b hj hb hown;obtain⟨_,h2⟩:=h.iR j b hb;simpa[ext,hj]using(h2.bv hown).2.2
  intro a b oa ob ha hb hoa hob hne;rw[bT]at ha hb;by_cases ea:i=a
  .by_cases eb:i=b
   .exact absurd (ea.symm.trans eb) hne
   .rw [if_neg eb,fP]at hb;have:=key b ob (fun e=>eb e.symm) hb hob;have e1:(ext φ i l a).bY=w.heap.size:=by simp[ext,ea,hl]
    omega
  .rw [if_neg ea,fP]at ha;have h1:=key a oa (fun e=>ea e.symm) ha hoa;by_cases eb:i=b
   .have e1:(ext φ i l b).bY=w.heap.size:=by simp[ext,eb,hl]
    omega
   .rw [if_neg eb,fP]at hb;have:=h.eR a b oa ob ha hb hoa hob hne;have e1:¬a=i:=fun e=>ea e.symm;have e2:¬b=i:=fun e=>eb e.symm;simpa[ext,e1,e2]using this
theorem Inv.md{S K:Nat->Prop}{w0 w:World}{Kn:Nat->Prop}{φ:Nat->gO}{hf hf':Nat->Option Ob}(h:Inv S K w0 Kn φ hf w)(hsub:∀id o,hf' id=some o->hf id=some o):
  Inv S K w0 Kn φ hf' w:=
 ⟨h.u6,h.sk,h.nB,fun id o ho=>h.iR id o (hsub id o ho),fun i j a b ha hb=>h.eR i j a b (hsub _ _ ha) (hsub _ _ hb),h.Ce,
  fun i sz sl k x hi hp=>let⟨a,b⟩:=h.xe i sz sl k x (hsub _ _ hi) hp;⟨fun j b hj=>a j b (hsub _ _ hj),fun j sz' sl' k' hj=>b j sz' sl' k' (hsub _ _ hj)⟩⟩
theorem Inv.set{S K:Nat->Prop}{w0 w w':World}{Kn:Nat->Prop}{φ:Nat->gO}{hf:Nat->Option Ob}(h:Inv S K w0 Kn φ hf w){id:Nat}{o o':Ob}
  (ho:hf id=some o) (hown:cX o=true) (hother:∀b,b≠(φ id).bY->w'.heap[b]?=w.heap[b]?) (hsize:w'.heap.size=w.heap.size)
  (hfrz:∀a,w'.frozen? a=w.frozen? a) (hsz:∀aM,nw w (φ id).bY aM->∃arr',nw w' (φ id).bY arr'/\arr'.size=aM.size) (hio:Io w w') (hro:hC S w S w'->RO S K w' Kn φ (φ id) o') (hn:∀sz sl,o'≠.nst sz sl:=by intro _ _ e;cases e):
  hC S w S w'/\Inv S K w0 Kn φ (bm [(id,some o')] hf) w':=by
 obtain⟨hk,h0⟩:=h.iR id o ho;obtain⟨hS,hK,hlt⟩:=h0.bv hown;have hs:hC S w S w':=⟨fun _ h=>h,fun b hb=>hother b (fun e=>hS (e▸hb))⟩
 have fix:∀i a,bm [(id,some o')] hf i=some a->cX a=true->∃a',hf i=some a'/\cX a'=true:=by
  intro i a ha hoa;rw[bT]at ha;by_cases e:id=i
  .subst e;exact⟨o,ho,hown⟩
  .rw [if_neg e,fP]at ha;exact⟨a,ha,hoa⟩
 refine⟨hs,h.kM hs (Ren.refl _ _) (fun b hb=>hsize▸h.u6 b hb) h.sk ?_ ?_ ?_ ?_⟩
 .exact ⟨h.nB.Gb,fun b hb=>(hother b (fun e=>hK (e▸hb))).trans (h.nB.nc b hb),hsize▸h.nB.grow,fun a ha=>(hfrz a).trans (h.nB.Bc a ha),h.nB.yK hother hsz,h.nB.io.trans hio⟩
 .intro i x hx;rw[bT]at hx;by_cases e:id=i
  .subst e;rw[if_pos rfl]at hx;obtain rfl:o'=x:=by simpa using hx
   exact .inr ⟨hk,hro hs⟩
  .rw [if_neg e,fP]at hx;refine .inl ⟨hx,fun hox=>⟨hother _ ?_,((h.iR i x hx).2.bv hox).1⟩⟩;exact(h.eR i id x o hx ho hox hown (fun e'=>e e'.symm))
 .intro i j a b ha hb hoa hob hne;obtain⟨a',ha',hoa'⟩:=fix i a ha hoa;obtain⟨b',hb',hob'⟩:=fix j b hb hob;exact h.eR i j a' b' ha' hb' hoa' hob' hne
 .intro a sz sl ha;rw[bT]at ha;by_cases e:id=a
  .rw [if_pos e]at ha;exact absurd (aa ha) (hn _ _)
  .rw [if_neg e,fP]at ha;refine⟨ha,hother _ (h.eR a id _ o ha ho rfl hown fun q=>e q.symm),fun k x hp=>?_⟩;obtain⟨p1,_⟩:=h.xe a sz sl k x ha hp;refine⟨hother x fun q=>p1 id o ho hown q.symm,(h.IK ha hp).1,fun j b hj hb=>?_⟩;obtain⟨b',hb',hob'⟩:=fix j b hj hb;exact p1 j b' hb' hob'
variable{P:Program}
def fQ(P:Program)(t:TypeId):Option Nat:=(P.info? t).map (·.size)
def fW(P:Program)(t:TypeId):Option Bool:=(P.underlying t).map fun|.struct _|.array _ _=>true|_=>false
def jX(P:Program)(t:TypeId):Option (List Value):=match(P.info? t).bind (·.zero)with|some z=>if z.cells.toList.all eu then some z.cells.toList else none|none=>none
theorem pR(b off n:Nat):(⟨b,off,none⟩:Addr).add n=⟨b,off+n,none⟩:=by unfold Addr.add;split<;>simp_all
theorem ic{t:TypeId}{n:Nat}(h:fQ P t=some n)(w:World):(sizeOf t).run P w=.ok n w:=by simp only[fQ,aF]at h;obtain⟨i,hi,rfl⟩:=h;simp[sizeOf,typeInfo,hi]
theorem cg{t:TypeId}{d:TypeDesc}(h:P.underlying t=some d)(w:World):(underlying t).run P w=.ok d w:=by simp[underlying,h]
theorem tM{t:TypeId}{g:Bool}(h:fW P t=some g)(w:World):(isAgg t).run P w=.ok g w:=by simp only[fW,aF]at h;obtain⟨d,hd,rfl⟩:=h;simp only[isAgg,Sem.run_bind,cg hd,Result.andThen_ok];cases d<;>rfl
theorem py{t:TypeId}{z:List Value}(h:jX P t=some z)(w:World):
  ∃v,(zeroValue t).run P w=.ok v w/\v.cells.toList=z/\∀x∈z,eu x=true:=by
 simp only[jX]at h;split at h
 .rename_i v hv;split at h
  .rename_i hp;obtain rfl:=aa h;obtain⟨i,hi,hz⟩:=fw.1 hv;exact⟨v,by simp[zeroValue,typeInfo,hi,hz],rfl,fun x hx=>bd.1 hp x hx⟩
  .simp at h
 .simp at h
section
variable{S K:Nat->Prop}{w0 w:World}{Kn:Nat->Prop}{φ:Nat->gO}{hf:Nat->Option Ob}
theorem Ga(agg:Bool)(n:Nat)(cells:List D):Py agg n cells=D5 agg n (cells.map .d):=by
 unfold Py D5;cases agg
 .cases cells<;>rfl
 .simp [List.map_take]
theorem wh{t:TypeId}{agg:Bool}{n:Nat}(ha:fW P t=some agg)(hn:fQ P t=some n){cells:List C}{b o:Nat}{v:TV}
  (hc:∀(j:Nat)(x:C),cells[j]?=some x->∃u,w.cell? ⟨b,o+j,none⟩=some u/\RC S w Kn φ x u) (h:D5 agg n cells=some v):
  ∃val,(loadVar t ⟨b,o,none⟩).run P w=.ok val w/\gr S w Kn φ v val:=by
 unfold D5 at h;cases agg
 .simp only[aT,if_false]at h;cases cells with
  |nil=>simp at h
  |cons x r=>
   obtain rfl:TV.c x=v:=by simpa using h
   obtain⟨u,hu,hr⟩:=hc 0 x rfl;refine⟨u,?_,.c hr⟩;simp only[loadVar,Sem.run_bind,tM ha,Result.andThen_ok,aT,if_false,run_load];simp only[dT]at hu;simp[hu]
 .simp only[if_true]at h;split at h
  .rename_i hle;obtain rfl:=aa h
   have hcell:∀j,j<n->w.cell? ((⟨b,o,none⟩:Addr).add j)=some ((w.cell? ⟨b,o+j,none⟩).getD undef):=by
    intro j hj;have hj':j<cells.length:=by omega
    obtain⟨u,hu,_⟩:=hc j cells[j] (by simp[hj']);rw[pR,hu];rfl
   refine⟨.agg ((aL n).map fun j=>(w.cell? ⟨b,o+j,none⟩).getD undef).toArray,?_,.agg (by simp;omega) ?_⟩
   .simp only[loadVar,Sem.run_bind,tM ha,Result.andThen_ok,if_true,ic hn,run_loadCells w _ n _ hcell,Sem.run_pure]
   .intro i x hi;rw[eO]at hi;split at hi
    .rename_i hin;obtain⟨u,hu,hr⟩:=hc i x hi;have:((aL n).map fun j=>(w.cell? ⟨b,o+j,none⟩).getD undef).toArray.getD i undef=u:=by simp[jM,hin,hu]
     rw[this];exact hr
    .simp at hi
  .simp at h
theorem Cs{id dl:Nat}{sz:Nat}{aq:List (List D)}(hI:Inv S K w0 Kn φ hf w)(ho:hf id=some (.aM sz aq)\/hf id=some (.pJ sz aq)){r:List D}(hr:aq[dl]?=some r)(off:Nat):
  (φ id).sz=sz/\r.length=sz/\∀(j:Nat)(x:C),((r.drop off).map C.d)[j]?=some x->∃u,w.cell? ⟨(φ id).bY,(φ id).aR+dl*(φ id).sz+off+j,none⟩=some u/\RC S w Kn φ x u:=by
 rcases ho with ho|ho
 .obtain ⟨hk,h0⟩:=hI.iR _ _ ho;cases h0 with|aM hsz hl hS hK hown hext hfit hrr=>refine⟨hl,hrr.1 _ _ hr,fun j x hj=>?_⟩;rw[aH,bQ]at hj;obtain⟨d,hd,rfl⟩:=aF.1 hj;obtain⟨u,hu,hrd⟩:=hrr.2 dl r hr (off+j) d hd;refine⟨u,?_,.d hrd⟩;rw[hown.cell,hl,<-hu];show _=_;congr 1;omega
 .obtain ⟨hk,h0⟩:=hI.iR _ _ ho;cases h0 with|pJ hsz hl hS hrr=>refine⟨hl,hrr.1 _ _ hr,fun j x hj=>?_⟩;rw[aH,bQ]at hj;obtain⟨d,hd,rfl⟩:=aF.1 hj;obtain⟨u,hu,hrd⟩:=hrr.2 dl r hr (off+j) d hd;refine⟨u,?_,.d hrd⟩;rw[hl,<-hu];simp only[cP]
theorem yy{t:TypeId}{agg:Bool}{n:Nat}(ha:fW P t=some agg)(hn:fQ P t=some n){p:C}{H:bF}{v:TV}{aA:List Nat}{pv:Value}
  (hI:Inv S K w0 Kn φ (aB H) w) (hp:RC S w Kn φ p pv) (h:ig agg n p H=some (v,aA)):
  ∃val,(Instr.loadAt t pv).run P w=.ok val w/\gr S w Kn φ v val:=by
 unfold ig at h;split at h
 .rename_i cells;split at h
  .rename_i v' hv;obtain⟨rfl,rfl⟩:v'=v/\[]=aA:=by simpa using h
   rw[Ga]at hv;cases hp with
   |d hd=>cases hd with|pt f hb hcell hrd=>obtain⟨val,h1,h2⟩:=wh (Kn:=Kn) (φ:=φ) (S:=S) ha hn (cells:=cells.map .d) (fun j x hj=>by rw[aH]at hj;obtain⟨d,hd,rfl⟩:=aF.1 hj;exact⟨_,hcell j d hd,.d (hrd j d hd)⟩) hv;exact⟨val,by simp[Instr.loadAt,Instr.sureAddr,h1],h2⟩
  .simp at h
 .rename_i id dl off
  have key:∀sz aq,(aB H id=some (.aM sz aq)\/aB H id=some (.pJ sz aq))->
    (match aq[dl]?with|some r=>(match Py agg n (r.drop off)with|some v=>some (v,[id])|none=>none)|none=>none)=some (v,aA)->
    ∃val,(Instr.loadAt t pv).run P w=.ok val w/\gr S w Kn φ v val:=by
   intro sz aq ho h;split at h
   .rename_i r hr;split at h
    .rename_i v' hv;obtain⟨rfl,rfl⟩:v'=v/\[id]=aA:=by simpa using h
     rw[Ga]at hv;obtain⟨hl,hrl,hc⟩:=Cs hI ho hr off;cases hp with|ep hk=>obtain⟨val,h1,h2⟩:=wh ha hn hc hv;exact⟨val,by simp[Instr.loadAt,Instr.sureAddr,h1],h2⟩
    .simp at h
   .simp at h
  split at h
  .rename_i sz aq ho;exact key sz aq (.inl ho) h
  .rename_i sz aq ho;exact key sz aq (.inr ho) h
  .simp at h
 .rename_i id off;split at h
  .rename_i cells ho;split at h
   .rename_i v' hv;obtain⟨rfl,rfl⟩:v'=v/\[id]=aA:=by simpa using h
    obtain⟨hk,h0⟩:=hI.iR _ _ ho;cases h0 with
    |box hb hS hK hown hlen hrr=>cases hp with|op hk=>obtain⟨val,h1,h2⟩:=wh (S:=S) (Kn:=Kn) (φ:=φ) ha hn (cells:=cells.drop off) (b:=(φ id).bY) (o:=(φ id).aR+off) (fun j x hj=>by rw[bQ]at hj;have hlt:=(ak.1 hj).1;rw[hlen]at hlt;refine⟨_,?_,hrr _ _ hj⟩;rw[hown.cell,hb];simp[jM,hlt]) hv;exact⟨val,by simp[Instr.loadAt,Instr.sureAddr,h1],h2⟩
   .simp at h
  .rename_i cells ho;split at h
   .rename_i v' hv;obtain⟨rfl,rfl⟩:v'=v/\[id]=aA:=by simpa using h
    rw[Ga]at hv;obtain⟨hk,h0⟩:=hI.iR _ _ ho;cases h0 with
    |oF hb hS hrr=>cases hp with|op hk=>obtain⟨val,h1,h2⟩:=wh (S:=S) (Kn:=Kn) (φ:=φ) ha hn (cells:=(cells.drop off).map .d) (b:=(φ id).bY) (o:=(φ id).aR+off) (fun j x hj=>by rw[aH,bQ]at hj;obtain⟨d,hd,rfl⟩:=aF.1 hj;obtain⟨u,hu,hr⟩:=hrr _ _ hd;exact⟨u,by rw[hb,<-hu];simp,.d hr⟩) hv;exact⟨val,by simp[Instr.loadAt,Instr.sureAddr,h1],h2⟩
   .simp at h
  .simp at h
 .simp at h
theorem As{w:World}{b:Nat}{old aM:Array Value}(h:nw w b old)(a:Addr):(w.setRow b aM).frozen? a=w.frozen? a:=by
 obtain⟨t,h⟩:=h;unfold World.frozen?;by_cases e:a.block=b
 .rw [e,setRow_heap w b old aM t _ h,h]
 .rw [setRow_other w b _ _ e]
theorem yL{w:World}{b:Nat}{old aM:Array Value}(h:nw w b old):nw (w.setRow b aM) b aM:=by obtain⟨t,h⟩:=h;exact⟨t,setRow_heap w b old aM t _ h⟩
theorem pD(v:Value):v.oneCell'=one v:=by cases v<;>rfl
theorem gr.cells{S:Nat->Prop}{w:World}{Kn:Nat->Prop}{φ:Nat->gO}{v:TV}{val:Value}{cs:List C}(h:gr S w Kn φ v val)(hc:cellsOf v=some cs):
  cs.length=val.cells.size/\(∀(i:Nat)(x:C),cs[i]?=some x->RC S w Kn φ x (val.cells.getD i undef))/\∀x∈val.cells.toList,one x=true:=by
 cases h with
 |@c x v h=>
  obtain rfl:[x]=cs:=by simpa[cellsOf]using hc
  have e:=vL h.one;refine⟨by rw[e];rfl,fun i y hi=>?_,fun y hy=>?_⟩
  .cases i with
   |zero=>
    rw[e];obtain rfl:x=y:=by simpa using hi
    exact h
   |succ i=>simp at hi
  .rw [e]at hy;obtain rfl:y=val:=by simpa using hy
   exact h.one
 |@agg cs' aM hlen h=>
  obtain rfl:cs'=cs:=by simpa[cellsOf]using hc
  refine⟨hlen,h,fun y hy=>?_⟩;obtain⟨i,hi,rfl⟩:=cu hy;have hi':i<aM.size:=by simpa[Value.cells]using hi
  have:=(h i (cs'[i]'(by omega)) (by simp[hlen,hi'])).one;simpa[jM,hi',Value.cells]using this
 |iT hlen h=>simp[cellsOf]at hc
theorem NU{t:TypeId}{n:Nat}(hn:fQ P t=some n){b o:Nat}{aM:Array Value}{val:Value}(ho:nw w b aM)(hlen:val.cells.size=n)(hfit:o+n<=aM.size)
  (hone:∀x∈val.cells.toList,one x=true):
  (storeVar t ⟨b,o,none⟩ val).run P w=.ok () (w.setRow b (aM.toList.take o++val.cells.toList++aM.toList.drop (o+n)).toArray):=by
 obtain⟨ty,hb⟩:=ho;have:=run_storeCells_at P b o ty val.cells.toList 0 aM w hb (by simp;omega) (fun v hv=>by rw[pD];exact hone v hv);have e:val.cells.toList.length=n:=by simpa using hlen
 rw[e]at this;simp only[dT]at this;simp only[storeVar,Sem.run_bind,ic hn,Result.andThen_ok,hlen,ne_eq,not_true_eq_false,if_false];exact this
theorem jD{α:Type}(l:List α)(off:Nat)(p:List α)(hfit:off+p.length<=l.length)(i:Nat):
  (aV l off p)[i]?=if i<off then l[i]?else if i<off+p.length then p[i-off]?else l[i]?:=by
 unfold aV;by_cases h1:i<off
 .rw [List.append_assoc,bO (by simp;omega)];simp[h1]
 .by_cases h2:i<off+p.length
  .rw [bO (by simp;omega),bR (by simp;omega)];simp only[b_,h1,h2,if_true,if_false];congr 1;omega
  .rw [bR (by simp;omega)];simp only[List.length_append,b_,bQ,h1,h2,if_false];congr 1;omega
theorem eU{α:Type}(l:List α)(off:Nat)(p:List α)(hfit:off+p.length<=l.length):(aV l off p).length=l.length:=by unfold aV;simp;omega
theorem Qh{aM:Array Value}{vs:List Value}{o n:Nat}(hn:vs.length=n):aM.toList.take o++vs++aM.toList.drop (o+n)=aV aM.toList o vs:=by rw[<-hn];rfl
end
section
variable{S K:Nat->Prop}{w0 w:World}{Kn:Nat->Prop}{φ:Nat->gO}{hf:Nat->Option Ob}
theorem RD.AN{sz:Nat}{aq:List (List D)}{b off len cap:Nat}(hb:S b)(hsz:0<sz)(hlen:aq.length=len)(hcap:len<=cap)
  (h:cW S w sz (fun i=>w.cell? ⟨b,i,none⟩) off aq):RD S w (.sl sz aq) (.slice (some ⟨b,off,none⟩) len cap):=by
 subst hlen;refine .sl (fun i j=>(w.cell? ⟨b,off+i*sz+j,none⟩).getD undef) hb hsz hcap h.1 (fun i r hi j x hj=>?_) (fun i r hi j x hj=>?_)
 .obtain ⟨v,hv,_⟩:=h.2 i r hi j x hj;simp only at hv;rw[hv];rfl
 .obtain ⟨v,hv,hr⟩:=h.2 i r hi j x hj;simp only at hv;rw[hv];exact hr
theorem RD.yG{cells:List D}{b off:Nat}(hb:S b)(h:∀(j:Nat)(x:D),cells[j]?=some x->∃v,w.cell? ⟨b,off+j,none⟩=some v/\RD S w x v):
  RD S w (.pt cells) (.pointer (some ⟨b,off,none⟩)):=by
 refine .pt (fun j=>(w.cell? ⟨b,off+j,none⟩).getD undef) hb (fun j x hj=>?_) (fun j x hj=>?_)
 .obtain ⟨v,hv,_⟩:=h j x hj;rw[hv];rfl
 .obtain ⟨v,hv,hr⟩:=h j x hj;rw[hv];exact hr
def rC(w:World)(l:gO):List k8->Nat->List Nat
 |[],_=>[]
 |.bv _::r,k=>(match(w.cell? ⟨l.bY,l.aR+k,none⟩).bind xF with|some b=>b::rC w l r (k+1)|none=>rC w l r (k+1))
 |_::r,k=>rC w l r (k+1)
def iw(w:World)(φ:Nat->gO)(hf:Nat->Option Ob)(i:Nat):List Nat:=(φ i).bY::(match hf i with|some (.nst _ sl)=>rC w (φ i) sl 0|_=>[])
theorem Dn{l:gO}{x:Nat}:∀{sl:List k8}{k0:Nat},x∈rC w l sl k0<->∃k aq v,sl[k]?=some (.bv aq)/\w.cell? ⟨l.bY,l.aR+(k0+k),none⟩=some v/\xF v=some x:=by
 intro sl;induction sl with
 |nil=>intro k0;simp[rC]
 |cons s sl ih=>
  intro k0;have tl:(∃k aq v,sl[k]?=some (.bv aq)/\w.cell? ⟨l.bY,l.aR+(k0+1+k),none⟩=some v/\xF v=some x)->∃k aq v,(s::sl)[k]?=some (.bv aq)/\w.cell? ⟨l.bY,l.aR+(k0+k),none⟩=some v/\xF v=some x:=by rintro⟨k,aq,v,h1,h2,h3⟩;exact⟨k+1,aq,v,by simpa using h1,by rw[<-h2,show k0+(k+1)=k0+1+k by omega],h3⟩
  have key:(∀aq,s≠.bv aq)->((∃k aq v,(s::sl)[k]?=some (.bv aq)/\w.cell? ⟨l.bY,l.aR+(k0+k),none⟩=some v/\xF v=some x)->∃k aq v,sl[k]?=some (.bv aq)/\w.cell? ⟨l.bY,l.aR+(k0+1+k),none⟩=some v/\xF v=some x):=by rintro hs ⟨k,aq,v,h1,h2,h3⟩;cases k with|zero=>exact absurd (by simpa using h1) (hs aq)|succ k=>exact⟨k,aq,v,by simpa using h1,by rw[<-h2,show k0+(k+1)=k0+1+k by omega],h3⟩
  cases s with
  |nil=>exact ih.trans ⟨tl,key fun _ e=>by cases e⟩
  |eg id len=>exact ih.trans ⟨tl,key fun _ e=>by cases e⟩
  |bv rows0=>
   simp only[rC];constructor
   .intro hx;split at hx
    .rename_i b hb;rcases aN.1 hx with rfl|hx
     .obtain ⟨v,h1,h2⟩:=fw.1 hb;exact⟨0,rows0,v,rfl,h1,h2⟩
     .exact tl (ih.1 hx)
    .exact tl (ih.1 hx)
   .rintro ⟨k,aq,v,h1,h2,h3⟩;cases k with
    |zero=>
     have e:(w.cell? ⟨l.bY,l.aR+k0,none⟩).bind xF=some x:=by rw[show l.aR+k0=l.aR+(k0+0)from rfl,h2];exact h3
     rw[e];simp
    |succ k=>
     have hm:=ih.2 ⟨k,aq,v,by simpa using h1,by rw[<-h2,show k0+(k+1)=k0+1+k by omega],h3⟩;split
     .exact aC _ hm
     .exact hm
theorem Hh{l:gO}{x:Nat}{sl:List k8}:x∈rC w l sl 0<->∃k,sj w l sl k x:=by rw[Dn];simp only[bL];exact Iff.rfl
theorem FJ{l:gO}:∀{sl:List k8}{k0:Nat},(∀k k' x aq rows' v v',sl[k]?=some (.bv aq)->w.cell? ⟨l.bY,l.aR+(k0+k),none⟩=some v->xF v=some x->sl[k']?=some (.bv rows')->w.cell? ⟨l.bY,l.aR+(k0+k'),none⟩=some v'->xF v'=some x->k=k')->(rC w l sl k0).Nodup:=by
 intro sl;induction sl with
 |nil=>intro k0 _;exact fY
 |cons s sl ih=>
  intro k0 h;have h':(rC w l sl (k0+1)).Nodup:=ih fun k k' x aq rows' v v' h1 h2 h3 h4 h5 h6=>by have:=h (k+1) (k'+1) x aq rows' v v' (by simpa using h1) (by rw[<-h2,show k0+(k+1)=k0+1+k by omega]) h3 (by simpa using h4) (by rw[<-h5,show k0+(k'+1)=k0+1+k' by omega]) h6;omega
  cases s with
  |nil=>exact h'
  |eg id len=>exact h'
  |bv rows0=>
   simp only[rC];split
   .rename_i b hb;refine fZ.2 ⟨fun hm=>?_,h'⟩;obtain⟨v0,h1,h2⟩:=fw.1 hb;obtain⟨k,aq,v,h3,h4,h5⟩:=Dn.1 hm;have:=h 0 (k+1) b rows0 aq v0 v rfl h1 h2 (by simpa using h3) (by rw[<-h4,show k0+(k+1)=k0+1+k by omega]) h5;omega
   .exact h'
theorem dX{i x:Nat}:x∈iw w φ hf i<->x=(φ i).bY\/∃sz sl k,hf i=some (.nst sz sl)/\sj w (φ i) sl k x:=by
 unfold iw;rw[aN];refine or_congr_right ?_;split
 .rename_i sz sl h;rw[Hh];exact⟨fun⟨k,hk⟩=>⟨sz,sl,k,h,hk⟩,fun⟨_,_,k,h1,hk⟩=>by rw[h]at h1;cases h1;exact⟨k,hk⟩⟩
 .rename_i h;exact⟨fun hx=>by simp at hx,fun⟨sz,sl,k,h1,_⟩=>(h sz sl h1).elim⟩
theorem oJ(hI:Inv S K w0 Kn φ hf w){i:Nat}{o:Ob}(ho:hf i=some o)(hown:cX o=true){x:Nat}(hx:x∈iw w φ hf i):¬S x/\¬K x/\x<w.heap.size:=by
 rcases dX.1 hx with rfl|⟨sz,sl,k,h1,h2⟩
 .exact (hI.iR i o ho).2.bv hown
 .obtain ⟨a,b,c,_⟩:=hI.IK h1 h2;exact⟨a,b,c⟩
theorem od(hI:Inv S K w0 Kn φ hf w){i j:Nat}{a b:Ob}(hi:hf i=some a)(hj:hf j=some b)(ha:cX a=true)(hb:cX b=true)(hne:i≠j){x:Nat}(hx:x∈iw w φ hf i):x∉iw w φ hf j:=by
 intro hy;rcases dX.1 hx with rfl|⟨sz,sl,k,h1,h2⟩<;>rcases dX.1 hy with e|⟨sz',sl',k',h3,h4⟩
 .exact hI.eR i j a b hi hj ha hb hne e
 .exact (hI.xe j sz' sl' k' _ h3 h4).1 i a hi ha rfl
 .subst e;exact(hI.xe i sz sl k _ h1 h2).1 j b hj hb rfl
 .exact hne (((hI.xe i sz sl k x h1 h2).2 j sz' sl' k' h3 h4).1).symm
theorem GT(hI:Inv S K w0 Kn φ hf w){i:Nat}{o:Ob}(ho:hf i=some o)(hown:cX o=true):(iw w φ hf i).Nodup:=by
 unfold iw;refine fZ.2 ⟨fun hm=>?_,?_⟩
 .split at hm
  .rename_i sz sl h;obtain⟨k,hk⟩:=Hh.1 hm;exact(hI.xe i sz sl k _ h hk).1 i o ho hown rfl
  .simp at hm
 .split
  .rename_i sz sl h;refine FJ fun k k' x aq rows' v v' h1 h2 h3 h4 h5 h6=>?_;rw[bL]at h2 h5;exact(((hI.xe i sz sl k x h ⟨aq,v,h1,h2,h3⟩).2 i sz sl k' h ⟨rows',v',h4,h5,h6⟩).2).symm
  .exact fY
theorem kW(i:Nat):(φ i).bY∈iw w φ hf i:=dX.2 (.inl rfl)
def SB(S:Nat->Prop)(w:World)(φ:Nat->gO)(hf:Nat->Option Ob)(aA:List Nat)(b:Nat):Prop:=S b\/∃i∈aA,b∈iw w φ hf i
theorem SB.CL(a b:List Nat)(h:∀i∈a,i∈b):hC (SB S w φ hf a) w (SB S w φ hf b) w:=⟨fun _ hb=>hb.imp id fun⟨i,hi,e⟩=>⟨i,h i hi,e⟩,fun _ _=>rfl⟩
theorem SB.uC(b:List Nat):hC S w (SB S w φ hf b) w:=⟨fun _ hb=>.inl hb,fun _ _=>rfl⟩
theorem H5.rd{sz b:Nat}{aq:List (List D)}{v:Value}(h:H5 S w sz aq v b){T:Nat->Prop}(hT:hC S w T w)(hb:T b):RD T w (.sl sz aq) v:=by obtain⟨addr,cap,aM,rfl,h2,h3,h4,_,h6⟩:=h;exact .AN hb h2 rfl h4 ⟨h6.1,fun i r hi j x hj=>let⟨v,hv,hr⟩:=h6.2 i r hi j x hj;⟨v,(h3.cell _).trans hv,hr.mono hT⟩⟩
theorem DL{l:gO}{szi:Nat}{slots:List k8}(h:RO S K w Kn φ l (.nst szi slots)){aq:List (List D)}(hd:qr szi slots=some aq){T:Nat->Prop}(hT:hC S w T w)(hp:∀k x,sj w l slots k x->T x):
  aq.length=slots.length/\cW T w 1 (fun i=>w.cell? ⟨l.bY,i,none⟩) l.aR aq:=by
 have key:∀(slots:List k8)(aq:List (List D)),qr szi slots=some aq->aq.length=slots.length/\∀(i:Nat)(r:List D),aq[i]?=some r->∃s x,slots[i]?=some s/\Kz szi s=some x/\r=[x]:=by
  intro slots;induction slots with
  |nil=>intro aq h;obtain rfl:=aa h;exact⟨rfl,fun i r hi=>by simp at hi⟩
  |cons s slots ih=>
   intro aq h;simp only[qr]at h;split at h
   .rename_i x l hx hl;obtain rfl:=aa h;obtain⟨h1,h2⟩:=ih l hl;refine⟨by simp[h1],fun i r hi=>?_⟩;cases i with|zero=>exact⟨s,x,rfl,hx,(by simpa using hi:[x]=r).symm⟩|succ i=>obtain⟨s',x',e1,e2,e3⟩:=h2 i r (by simpa using hi);exact⟨s',x',by simpa using e1,e2,e3⟩
   .simp at h
 obtain⟨k1,k2⟩:=key slots aq hd;cases h with
 |nst hsz hl hS hK ho hext hfit hr hv=>
  refine⟨k1,fun i r hi=>by obtain⟨_,_,_,_,rfl⟩:=k2 i r hi;rfl,fun i r hi j x hj=>?_⟩;obtain⟨s,y,e1,e2,rfl⟩:=k2 i r hi;cases j with
  |succ j=>simp at hj
  |zero=>
   obtain rfl:y=x:=by simpa using hj
   obtain⟨v,h1,h2⟩:=hr i s e1;refine⟨v,by rw[ly,dT];exact(ho.cell _).trans h1,?_⟩;cases h2 with|nil=>obtain rfl:=aa e2;exact .lit rfl|@bv rows' _ b h3 _ _=>obtain rfl:=aa e2;exact h3.rd hT (hp i b ⟨rows',v,e1,(ho.cell _).trans h1,h3.bY⟩)|eg _=>simp[Kz]at e2
theorem nM{id sz:Nat}{aq:List (List D)}(hI:Inv S K w0 Kn φ hf w)(ho:hf id=some (.aM sz aq)\/hf id=some (.pJ sz aq)):
  0<sz/\(φ id).sz=sz/\cW S w sz (fun i=>w.cell? ⟨(φ id).bY,i,none⟩) (φ id).aR aq:=by
 rcases ho with ho|ho
 .obtain ⟨_,h0⟩:=hI.iR _ _ ho;cases h0 with|aM hsz hl hS hK hown hext hfit hrr=>exact⟨hsz,hl,hrr.1,fun i r hi j x hj=>let⟨v,hv,hr⟩:=hrr.2 i r hi j x hj;⟨v,(hown.cell _).trans hv,hr⟩⟩
 .obtain ⟨_,h0⟩:=hI.iR _ _ ho;cases h0 with|pJ hsz hl hS hrr=>exact⟨hsz,hl,hrr⟩
theorem cW.sub{sz aR:Nat}{get:Nat->Option Value}{aq:List (List D)}(h:cW S w sz get aR aq)(off len:Nat):
  cW S w sz get (aR+off*sz) ((aq.drop off).take len):=by
 have key:∀i(r:List D),((aq.drop off).take len)[i]?=some r->aq[off+i]?=some r:=by
  intro i r hi;rw[eO]at hi;split at hi
  .rwa [bQ]at hi
  .simp at hi
 refine⟨fun i r hi=>h.1 _ _ (key i r hi),fun i r hi j x hj=>?_⟩;obtain⟨v,hv,hr⟩:=h.2 _ _ (key i r hi) j x hj;refine⟨v,?_,hr⟩;rw[<-hv];congr 1;rw[Nat.add_mul];omega
theorem cW.xx{sz aR addr:Nat}{get:Nat->Option Value}{aq:List (List D)}(h:cW S w sz get aR aq)(off len:Nat)(ha:0<len->addr=aR+off*sz):
  cW S w sz get addr ((aq.drop off).take len):=by
 cases len with|zero=>exact⟨fun i r hi=>by simp at hi,fun i r hi=>by simp at hi⟩|succ n=>rw[ha (Nat.succ_pos _)];exact h.sub off _
theorem CS{sz id off len:Nat}{aq:List (List D)}{v:Value}{szo:Nat}(hI:Inv S K w0 Kn φ hf w)(hc:RC S w Kn φ (.fy sz id off len) v)
  (ho:hf id=some (.aM szo aq)\/hf id=some (.pJ szo aq)) (hle:off+len<=aq.length) {T:Nat->Prop} (hT:hC S w T w) (hb:T (φ id).bY):
  RD T w (.sl sz ((aq.drop off).take len)) v:=by
 obtain⟨hsz,hl,hr⟩:=nM hI ho;subst hl;cases hc with|fy hk hcap haddr hext=>exact .AN hb hsz (by simp;omega) hcap ((hr.xx off len fun h=>haddr (by omega)).mono hT)
theorem ND{id dl off sz:Nat}{aq:List (List D)}{r:List D}{v:Value}(hI:Inv S K w0 Kn φ hf w)(hc:RC S w Kn φ (.ep id dl off) v)
  (ho:hf id=some (.aM sz aq)\/hf id=some (.pJ sz aq)) (hr:aq[dl]?=some r) {T:Nat->Prop} (hT:hC S w T w) (hb:T (φ id).bY):
  RD T w (.pt (r.drop off)) v:=by
 obtain⟨hsz,hl,hrr⟩:=nM hI ho;cases hc with|ep hk=>refine .yG hb fun j x hj=>?_;rw[bQ]at hj;obtain⟨u,hu,hd⟩:=hrr.2 dl r hr (off+j) x hj;refine⟨u,?_,hd.mono hT⟩;rw[<-hu,hl];simp only[cP]
theorem AG{H:bF}(hI:Inv S K w0 Kn φ (aB H) w)(n:Nat)(c:C)(x:D)(aA:List Nat)(v:Value)(hleaf:match c with|.op _ _|.o5 _ _=>False|_=>True)
  (h:ed H n c=some (x,aA)) (hc:RC S w Kn φ c v):RD (SB S w φ (aB H) aA) w x v:=by
 cases c with
 |d y=>simp only[ed,bn,Prod.mk.injEq]at h;obtain⟨rfl,rfl⟩:=h;cases hc with|d hd=>exact hd.mono (SB.uC _)
 |fy sz id off len=>
  simp only[ed]at h
  have key:∀szo aq,(aB H id=some (.aM szo aq)\/aB H id=some (.pJ szo aq))->(if off+len<=aq.length then some (D.sl sz ((aq.drop off).take len),[id])else none)=some (x,aA)->RD (SB S w φ (aB H) aA) w x v:=by
   intro szo aq ho h;split at h
   .rename_i hle;obtain⟨rfl,rfl⟩:=ad (aa h);exact CS hI hc ho hle (SB.uC _) (.inr ⟨_,by simp,kW _⟩)
   .simp at h
  split at h
  .exact key _ _ (.inl (by assumption)) h
  .exact key _ _ (.inr (by assumption)) h
  .rename_i szi slots ho;split at h
   .rename_i he;obtain⟨rfl,rfl⟩:=he;split at h
    .rename_i aq hd;obtain⟨rfl,rfl⟩:=ad (aa h);obtain⟨_,hro⟩:=hI.iR _ _ ho;obtain⟨h1,h2⟩:=DL hro hd (SB.uC (hf:=aB H) (φ:=φ) [id]) fun k x hp=>.inr ⟨id,by simp,dX.2 (.inr ⟨szi,slots,k,ho,hp⟩)⟩;cases hro with
     |nst hsz hl=>
      cases hc with
      |fy hk hcap haddr hext=>rw[hl];refine .AN (.inr ⟨id,by simp,kW id⟩) Nat.one_pos h1 hcap ?_;cases hs:slots with|nil=>have:aq=[]:=List.length_eq_zero_iff.1 (by rw[h1,hs];rfl);rw[this];exact⟨fun i r hi=>by simp at hi,fun i r hi=>by simp at hi⟩|cons s r=>rw[hs]at hcap;have:=haddr (by simp at hcap;omega);rw[this,hl,jA,dT];exact h2
    .simp at h
   .simp at h
  .simp at h
 |ep id dl off=>
  simp only[ed]at h
  have key:∀szo aq,(aB H id=some (.aM szo aq)\/aB H id=some (.pJ szo aq))->
    (match aq[dl]?with|some r=>if off<=r.length then some (D.pt (r.drop off),[id])else none|none=>none)=some (x,aA)->RD (SB S w φ (aB H) aA) w x v:=by
   intro szo aq ho h;split at h
   .rename_i r hr;split at h
    .obtain ⟨rfl,rfl⟩:=ad (aa h);exact ND hI hc ho hr (SB.uC _) (.inr ⟨_,by simp,kW _⟩)
    .simp at h
   .simp at h
  split at h
  .exact key _ _ (.inl (by assumption)) h
  .exact key _ _ (.inr (by assumption)) h
  .simp at h
 |op id off=>exact hleaf.elim
 |o5 f caps=>exact hleaf.elim
 |om id=>cases n<;>simp[ed]at h
theorem uy{H:bF}(hI:Inv S K w0 Kn φ (aB H) w):∀n,
  (∀c x aA v,ed H n c=some (x,aA)->RC S w Kn φ c v->RD (SB S w φ (aB H) aA) w x v)/\
  (∀cs xs aA,f_ H n cs=some (xs,aA)->∀(get:Nat->Option Value),(∀(i:Nat)(c:C),cs[i]?=some c->∃v,get i=some v/\RC S w Kn φ c v)->
   xs.length=cs.length/\∀(i:Nat)(x:D),xs[i]?=some x->∃v,get i=some v/\RD (SB S w φ (aB H) aA) w x v):=by
 intro n;induction n with
 |zero=>
  refine⟨fun c x aA v h hc=>?_,fun cs xs aA h get hg=>?_⟩
  .cases c with|op id off=>simp[ed]at h|o5 f caps=>simp[ed]at h|_=>exact AG hI 0 _ x aA v trivial h hc
  .cases cs with
   |nil=>
    obtain⟨rfl,rfl⟩:[]=xs/\[]=aA:=by simpa[f_]using h
    exact⟨rfl,fun i x hi=>by simp at hi⟩
   |cons c cs=>simp[f_]at h
 |succ n ih=>
  obtain⟨ihc,ihl⟩:=ih;refine⟨fun c x aA v h hc=>?_,fun cs xs aA h get hg=>?_⟩
  .cases c with
   |op id off=>
    simp only[ed]at h;split at h
    .rename_i cells ho;split at h
     .obtain ⟨rfl,rfl⟩:=ad (aa h);obtain⟨_,h0⟩:=hI.iR _ _ ho;cases h0 with
      |oF hb hS hr=>cases hc with|op hk=>refine .yG (.inl hS) fun j x hj=>?_;rw[bQ]at hj;obtain⟨u,hu,hd⟩:=hr _ _ hj;exact⟨u,by rw[<-hu,hb,bL],hd.mono (SB.uC _)⟩
     .simp at h
    .rename_i cells ho;split at h
     .rename_i ds ids' hv;split at h
      .obtain ⟨rfl,rfl⟩:=ad (aa h);obtain⟨_,h0⟩:=hI.iR _ _ ho;cases h0 with
       |@box _ aM hb hS hK hown hlen hr=>cases hc with|op hk=>obtain⟨h1,h2⟩:=ihl cells ds ids' hv (fun i=>w.cell? ⟨(φ id).bY,i,none⟩) (fun i c hi=>by have hlt:=(ak.1 hi).1;rw[hlen]at hlt;exact⟨aM.getD i undef,by rw[hown.cell];simp[jM,hlt],hr i c hi⟩);refine .yG (.inr ⟨id,by simp,kW _⟩) fun j x hj=>?_;rw[bQ]at hj;obtain⟨u,hu,hd⟩:=h2 _ _ hj;exact⟨u,by rw[<-hu,hb,bL],hd.mono (SB.CL _ _ fun i hi=>by simp[hi])⟩
      .simp at h
     .simp at h
    .simp at h
   |o5 f caps=>
    simp only[ed]at h;split at h
    .rename_i ds ids' hv;obtain⟨rfl,rfl⟩:=ad (aa h);cases hc with
     |@o5 _ _ vs hlen hr=>
      obtain⟨h1,h2⟩:=ihl caps ds ids' hv (fun i=>vs[i]?) (fun i c hi=>by have hlt:=(ak.1 hi).1;rw[hlen]at hlt;exact⟨vs.getD i undef,by simp[jM,hlt],hr i c hi⟩);refine .fn (h1.trans hlen) fun j x hj=>?_;obtain⟨u,hu,hd⟩:=h2 j x hj;have hu':vs[j]?=some u:=hu;have:vs.getD j undef=u:=by simp[hu']
      rw[this];exact hd
    .simp at h
   |_=>exact AG hI (n+1) _ x aA v trivial h hc
  .cases cs with
   |nil=>
    obtain⟨rfl,rfl⟩:[]=xs/\[]=aA:=by simpa[f_]using h
    exact⟨rfl,fun i x hi=>by simp at hi⟩
   |cons c cs=>
    simp only[f_]at h;split at h
    .rename_i x0 a xs0 b hx hxs;obtain⟨rfl,rfl⟩:=ad (aa h);obtain⟨v0,hv0,hc0⟩:=hg 0 c rfl;have h0:=ihc c x0 a v0 hx hc0;obtain⟨h1,h2⟩:=ihl cs xs0 b hxs (fun i=>get (i+1)) (fun i c hi=>hg (i+1) c (by simpa using hi));refine⟨by simp[h1],fun i x hi=>?_⟩;cases i with
     |zero=>
      obtain rfl:x0=x:=by simpa using hi
      exact⟨v0,hv0,h0.mono (SB.CL _ _ fun i hi=>by simp[hi])⟩
     |succ i=>obtain⟨u,hu,hd⟩:=h2 i x (by simpa using hi);exact⟨u,hu,hd.mono (SB.CL _ _ fun i hi=>by simp[hi])⟩
    .simp at h
theorem rl{H:bF}(hI:Inv S K w0 Kn φ (aB H) w):∀cs xs aA,dW H cs=some (xs,aA)->∀(get:Nat->Option Value),(∀(i:Nat)(c:C),cs[i]?=some c->∃v,get i=some v/\RC S w Kn φ c v)->
   xs.length=cs.length/\∀(i:Nat)(x:D),xs[i]?=some x->∃v,get i=some v/\RD (SB S w φ (aB H) aA) w x v:=by
 intro cs;induction cs with
 |nil=>
  intro xs aA h get hg;obtain⟨rfl,rfl⟩:[]=xs/\[]=aA:=by simpa[dW]using h
  exact⟨rfl,fun i x hi=>by simp at hi⟩
 |cons c cs ih=>
  intro xs aA h get hg;simp only[dW]at h;split at h
  .rename_i x0 a xs0 b hx hxs;obtain⟨rfl,rfl⟩:=ad (aa h);obtain⟨v0,hv0,hc0⟩:=hg 0 c rfl;have h0:=(uy hI 300).1 c x0 a v0 hx hc0;obtain⟨h1,h2⟩:=ih xs0 b hxs (fun i=>get (i+1)) (fun i c hi=>hg (i+1) c (by simpa using hi));refine⟨by simp[h1],fun i x hi=>?_⟩;cases i with
   |zero=>
    obtain rfl:x0=x:=by simpa using hi
    exact⟨v0,hv0,h0.mono (SB.CL _ _ fun i hi=>by simp[hi])⟩
   |succ i=>obtain⟨u,hu,hd⟩:=h2 i x (by simpa using hi);exact⟨u,hu,hd.mono (SB.CL _ _ fun i hi=>by simp[hi])⟩
  .simp at h
theorem lp{H:bF}{all:List Nat}:∀(l:List Nat)(u:fF),eh H all l=some u->
  ∀id,(id∈l->∃o,ke H all id=some o/\cA u id=some (some o))/\(id∉l->cA u id=none):=by
 intro l;induction l with
 |nil=>
  intro u h id;obtain rfl:[]=u:=by simpa[eh]using h
  exact⟨fun h=>by simp at h,fun _=>rfl⟩
 |cons a l ih=>
  intro u h id;simp only[eh]at h;split at h
  .rename_i o u' ho hu;obtain rfl:=aa h;by_cases e:a=id
   .subst e;exact⟨fun _=>⟨o,ho,by simp[cA]⟩,fun hn=>absurd (List.mem_cons_self ..) hn⟩
   .obtain ⟨h1,h2⟩:=ih u' hu id;have e':(a==id)=false:=by simpa using e
    refine⟨fun hm=>?_,fun hn=>?_⟩
    .obtain ⟨o',ho',hf'⟩:=h1 ((aN.1 hm).resolve_left (fun e2=>e e2.symm));exact⟨o',ho',by simp[cA,e',hf']⟩
    .simp only[cA,e',cond_false];exact h2 (fun hm=>hn (aC _ hm))
  .simp at h
theorem Be{H:bF}{all:List Nat}{id:Nat}{o:Ob}(hI:Inv S K w0 Kn φ (aB H) w)(hmem:id∈all)(h:ke H all id=some o):
  cX o=false/\(∃o0,aB H id=some o0)/\RO (SB S w φ (aB H) all) K w Kn φ (φ id) o:=by
 unfold ke at h;have hb:SB S w φ (aB H) all (φ id).bY:=.inr ⟨id,hmem,kW _⟩;split at h
 .rename_i sz aq ho;obtain rfl:=aa h;obtain⟨hsz,hl,hr⟩:=nM hI (.inl ho);exact⟨rfl,⟨_,ho⟩,.pJ hsz hl hb (hr.mono (SB.uC _))⟩
 .rename_i sz aq ho;obtain rfl:=aa h;obtain⟨hsz,hl,hr⟩:=nM hI (.inr ho);exact⟨rfl,⟨_,ho⟩,.pJ hsz hl hb (hr.mono (SB.uC _))⟩
 .rename_i cells ho;obtain rfl:=aa h;obtain⟨_,h0⟩:=hI.iR _ _ ho;cases h0 with|oF hbase hS hr=>exact⟨rfl,⟨_,ho⟩,.oF hbase hb fun i x hi=>let⟨v,hv,hd⟩:=hr i x hi;⟨v,hv,hd.mono (SB.uC _)⟩⟩
 .rename_i cells ho;split at h
  .rename_i ds aA hv;split at h
   .rename_i hall;obtain rfl:=aa h;obtain⟨_,h0⟩:=hI.iR _ _ ho;cases h0 with|@box _ aM hbase hS hK hown hlen hr=>obtain⟨h1,h2⟩:=(uy hI 300).2 cells ds aA hv (fun i=>w.cell? ⟨(φ id).bY,i,none⟩) (fun i c hi=>by have hlt:=(ak.1 hi).1;rw[hlen]at hlt;exact⟨aM.getD i undef,by rw[hown.cell];simp[jM,hlt],hr i c hi⟩);refine⟨rfl,⟨_,ho⟩,.oF hbase hb fun i x hi=>?_⟩;obtain⟨u,hu,hd⟩:=h2 i x hi;exact⟨u,hu,hd.mono (SB.CL _ _ fun i hi=>by simpa using bd.1 hall i hi)⟩
   .simp at h
  .simp at h
 .simp at h
 .simp at h
 .rename_i szi slots ho;split at h
  .rename_i aq hd;obtain rfl:=aa h;obtain⟨_,hro⟩:=hI.iR _ _ ho;obtain⟨_,h2⟩:=DL hro hd (SB.uC (hf:=aB H) (φ:=φ) all) fun k x hp=>.inr ⟨id,hmem,dX.2 (.inr ⟨szi,slots,k,ho,hp⟩)⟩;cases hro with|nst hsz hl=>exact⟨rfl,⟨_,ho⟩,.pJ Nat.one_pos hl hb h2⟩
  .simp at h
 .simp at h
theorem Inv.Gs{H:bF}{aA:List Nat}{u:fF}(hI:Inv S K w0 Kn φ (aB H) w)(h:eh H aA aA=some u):
  Inv (SB S w φ (aB H) aA) K w0 Kn φ (bm u (aB H)) w:=by
 have hfr:∀id∈aA,∃o,cA u id=some (some o)/\cX o=false/\(∃o0,aB H id=some o0)/\RO (SB S w φ (aB H) aA) K w Kn φ (φ id) o:=by
  intro id hid;obtain⟨o,ho,hfn⟩:=((lp aA u h id).1 hid)
  exact⟨o,hfn,Be hI hid ho⟩
 have hold:∀id o,bm u (aB H) id=some o->cX o=true->id∉aA/\aB H id=some o:=by
  intro id o ho hown;by_cases hm:id∈aA
  .obtain ⟨o',hfn,hno,_⟩:=hfr id hm;simp only[bm,hfn]at ho;obtain rfl:=aa ho;rw[hno]at hown;simp at hown
  .refine ⟨hm,?_⟩;simpa only[bm,(lp aA u h id).2 hm]using ho
 have hnb:∀id o,aB H id=some o->cX o=true->id∉aA->∀x∈iw w φ (aB H) id,¬SB S w φ (aB H) aA x:=by
  intro id o ho hown hm x hx hb;have hx1:=(oJ hI ho hown hx).1;rcases hb with hb|⟨i,hi,e⟩
  .exact hx1 hb
  .obtain ⟨_,_,_,⟨o0,ho0⟩,_⟩:=hfr i hi;by_cases hoi:cX o0=true
   .exact od hI ho ho0 hown hoi (fun e'=>hm (e'▸hi)) hx e
   .obtain ⟨_,h1⟩:=hI.iR i o0 ho0;rcases dX.1 e with rfl|⟨sz,sl,k,h2,_⟩
    .exact hx1 (by
      cases h1 with
      |pJ hsz hl hS _=>exact hS
      |oF hb hS _=>exact hS
      |_=>simp[cX]at hoi)
    .rw [ho0]at h2;obtain rfl:=aa h2;simp[cX]at hoi
 refine hI.kM (SB.uC _) (Ren.refl _ _) ?_ ?_ hI.nB ?_ ?_ ?_
 .intro b hb;rcases hb with hb|⟨i,hi,hb⟩
  .exact hI.u6 b hb
  .obtain ⟨_,_,_,⟨o0,ho0⟩,_⟩:=hfr i hi;by_cases hoi:cX o0=true
   .exact (oJ hI ho0 hoi hb).2.2
   .obtain ⟨_,h1⟩:=hI.iR i o0 ho0;rcases dX.1 hb with rfl|⟨sz,sl,k,h2,h3⟩
    .cases h1 with|pJ hsz hl hS=>exact hI.u6 _ hS|oF hb hS=>exact hI.u6 _ hS|_=>simp[cX]at hoi
    .exact (hI.IK h2 h3).2.2.1
 .intro b hb;rcases hb with hb|⟨i,hi,hb⟩
  .exact hI.sk b hb
  .obtain ⟨_,_,_,⟨o0,ho0⟩,_⟩:=hfr i hi;by_cases hoi:cX o0=true
   .exact (oJ hI ho0 hoi hb).2.1
   .obtain ⟨_,h1⟩:=hI.iR i o0 ho0;rcases dX.1 hb with rfl|⟨sz,sl,k,h2,h3⟩
    .cases h1 with|pJ hsz hl hS=>exact hI.sk _ hS|oF hb hS=>exact hI.sk _ hS|_=>simp[cX]at hoi
    .exact (hI.IK h2 h3).2.1
 .intro id o ho;by_cases hm:id∈aA
  .obtain ⟨o',hfn,hno,⟨o0,ho0⟩,hro⟩:=hfr id hm;simp only[bm,hfn]at ho;obtain rfl:=aa ho;exact .inr ⟨(hI.iR id o0 ho0).1,hro⟩
  .have ho':aB H id=some o:=by simpa only[bm,(lp aA u h id).2 hm]using ho
   exact .inl ⟨ho',fun hown=>⟨rfl,hnb id o ho' hown hm _ (kW _)⟩⟩
 .intro i j a b ha hb hoa hob hne;exact hI.eR i j a b (hold i a ha hoa).2 (hold j b hb hob).2 hoa hob hne
 .intro id sz sl hi;obtain⟨h1,h2⟩:=hold id _ hi rfl;refine⟨h2,rfl,fun k x hp=>⟨rfl,hnb id _ h2 rfl h1 x (dX.2 (.inr ⟨sz,sl,k,h2,hp⟩)),fun j b hj hb=>?_⟩⟩;exact(hI.xe id sz sl k x h2 hp).1 j b (hold j b hj hb).2 hb
end
def CK(S:Nat->Prop)(w:World)(sz:Nat):Option (List (List D))->Value->List Nat->Prop
 |none,v,fp=>v=.slice none 0 0/\fp=[]
 |some aq,v,fp=>∃b,fp=[b]/\H5 S w sz aq v b
inductive RT(S:Nat->Prop)(w:World):T->Value->List Nat->Prop
 |d {x:D} {v:Value} (h:RD S w x v):RT S w (.d x) v []
 |sl {sz:Nat} {aq:List (List D)} {b off len cap:Nat} {aM:Array Value} (hsz:0<sz) (ho:nw w b aM) (hlen:aq.length=len) (hcap:len<=cap)
   (hext:off+cap*sz<=aM.size) (hr:cW S w sz (fun i=>aM[i]?) off aq):RT S w (.sl sz aq) (.slice (some ⟨b,off,none⟩) len cap) [b]
 |pt {ts:List T} {b:Nat} {aM:Array Value} {fps:List (List Nat)} (ho:nw w b aM) (hlen:ts.length=aM.size) (hfl:fps.length=ts.length)
   (h:∀(i:Nat)(t:T)(fp:List Nat),ts[i]?=some t->fps[i]?=some fp->RT S w t (aM.getD i undef) fp):
   RT S w (.pt ts) (.pointer (some ⟨b,0,none⟩)) (b::fps.flatten)
 |zU {sz:Nat} {aq:List (Option (List (List D)))} {b off cap:Nat} {aM:Array Value} {fps:List (List Nat)} (hsz:0<sz) (ho:nw w b aM) (hcap:aq.length<=cap) (hext:off+cap<=aM.size) (hfl:fps.length=aq.length)
   (h:∀(i:Nat)(r:Option (List (List D)))(fp:List Nat),aq[i]?=some r->fps[i]?=some fp->∃v,aM[off+i]?=some v/\CK S w sz r v fp):
   RT S w (.zU sz aq) (.slice (some ⟨b,off,none⟩) aq.length cap) (b::fps.flatten)
theorem CK.mono{S S':Nat->Prop}{w w':World}(hs:hC S w S' w'){sz:Nat}{r:Option (List (List D))}{v:Value}{fp:List Nat}(h:CK S w sz r v fp)(hb:∀b∈fp,w'.heap[b]?=w.heap[b]?):CK S' w' sz r v fp:=by cases r with|none=>exact h|some aq=>obtain⟨b,rfl,h⟩:=h;exact⟨b,rfl,h.mono hs (hb b (by simp))⟩
theorem CK.lt{S:Nat->Prop}{w:World}{sz:Nat}{r:Option (List (List D))}{v:Value}{fp:List Nat}(h:CK S w sz r v fp):∀b∈fp,b<w.heap.size:=by cases r with|none=>obtain⟨_,rfl⟩:=h;intro b hb;simp at hb|some aq=>obtain⟨b,rfl,h⟩:=h;intro b' hb;obtain rfl:=ao.1 hb;obtain⟨aM,h⟩:=h.bv;exact h.lt
theorem RT.mono{S S':Nat->Prop}{w w':World}(hs:hC S w S' w'){t:T}{v:Value}{fp:List Nat}(h:RT S w t v fp)(hb:∀b∈fp,w'.heap[b]?=w.heap[b]?):RT S' w' t v fp:=by induction h with|d h=>exact .d (h.mono hs)|sl hsz ho hlen hcap hext hr=>exact .sl hsz (ho.mq (hb _ (by simp))) hlen hcap hext (hr.mono hs)|pt ho hlen hfl h ih=>refine .pt (ho.mq (hb _ (by simp))) hlen hfl fun i t fp hi hf=>ih i t fp hi hf fun b hbm=>hb b ?_;exact aC _ (dO.2 ⟨fp,aX hf,hbm⟩)|zU hsz ho hcap hext hfl h=>refine .zU hsz (ho.mq (hb _ (by simp))) hcap hext hfl fun i r fp hi hf=>?_;obtain⟨v,h1,h2⟩:=h i r fp hi hf;exact⟨v,h1,h2.mono hs fun b hbm=>hb b (aC _ (dO.2 ⟨fp,aX hf,hbm⟩))⟩
theorem RT.lt{S:Nat->Prop}{w:World}{t:T}{v:Value}{fp:List Nat}(h:RT S w t v fp):∀b∈fp,b<w.heap.size:=by
 induction h with
 |d h=>intro b hb;simp at hb
 |sl hsz ho=>intro b hb;obtain rfl:=ao.1 hb;exact ho.lt
 |pt ho hlen hfl h ih=>
  intro b hb;rcases aN.1 hb with rfl|hb
  .exact ho.lt
  .obtain ⟨fp,hfp,hbf⟩:=dO.1 hb;obtain⟨i,hi,rfl⟩:=cu hfp;exact ih i _ _ (aw (by omega:i<_)) (aw hi) b hbf
 |zU hsz ho hcap hext hfl h=>
  intro b hb;rcases aN.1 hb with rfl|hb
  .exact ho.lt
  .obtain ⟨fp,hfp,hbf⟩:=dO.1 hb;obtain⟨i,hi,rfl⟩:=cu hfp;obtain⟨v,_,h2⟩:=h i _ _ (aw (by omega:i<_)) (aw hi);exact h2.lt b hbf
section
variable{S K:Nat->Prop}{w0 w:World}{Kn:Nat->Prop}{φ:Nat->gO}{hf:Nat->Option Ob}
theorem pQ{id:Nat}(h:∀sz sl,hf id≠some (.nst sz sl)):iw w φ hf id=[(φ id).bY]:=by
 unfold iw;split
 .rename_i sz sl e;exact absurd e (h sz sl)
 .rfl
theorem It{l:gO}{sz:Nat}{get:Nat->Option Value}(hget:∀i,w.cell? ⟨l.bY,i,none⟩=get i):∀(slots:List k8)(k0:Nat)(aq:List (Option (List (List D)))),(∀(i:Nat)(s:k8),slots[i]?=some s->∃v,get (l.aR+(k0+i))=some v/\zQ S K w Kn φ sz s v)->uF slots=some aq->
  aq.length=slots.length/\∃fps:List (List Nat),fps.length=aq.length/\fps.flatten=rC w l slots k0/\∀(i:Nat)(r:Option (List (List D)))(fp:List Nat),aq[i]?=some r->fps[i]?=some fp->∃v,get (l.aR+(k0+i))=some v/\CK S w sz r v fp:=by
 intro slots;induction slots with
 |nil=>intro k0 aq _ h;obtain rfl:=aa h;exact⟨rfl,[],rfl,rfl,fun i r fp hi=>by simp at hi⟩
 |cons s slots ih=>
  intro k0 aq hr h;simp only[uF]at h;split at h
  .rename_i x rs hx hrs;obtain rfl:=aa h;obtain⟨h1,fps,h2,h3,h4⟩:=ih (k0+1) rs (fun i s hi=>by obtain⟨v,e1,e2⟩:=hr (i+1) s (by simpa using hi);exact⟨v,by rw[<-e1,show k0+(i+1)=k0+1+i by omega],e2⟩) hrs;obtain⟨v,e1,e2⟩:=hr 0 s rfl
   have fin:∀fp0,CK S w sz x v fp0->fp0++rC w l slots (k0+1)=rC w l (s::slots) k0->(x::rs).length=(s::slots).length/\∃fps:List (List Nat),fps.length=(x::rs).length/\fps.flatten=rC w l (s::slots) k0/\∀(i:Nat)(r:Option (List (List D)))(fp:List Nat),(x::rs)[i]?=some r->fps[i]?=some fp->∃v,get (l.aR+(k0+i))=some v/\CK S w sz r v fp:=by
    intro fp0 h5 h6;refine⟨by simp[h1],fp0::fps,by simp[h2],by rw[ez,h3,h6],fun i r fp hi hf=>?_⟩;cases i with
    |zero=>
     obtain rfl:x=r:=by simpa using hi
     obtain rfl:fp0=fp:=by simpa using hf
     exact⟨v,e1,h5⟩
    |succ i=>obtain⟨v',q1,q2⟩:=h4 i r fp (by simpa using hi) (by simpa using hf);exact⟨v',by rw[<-q1,show k0+(i+1)=k0+1+i by omega],q2⟩
   cases e2 with|nil=>obtain rfl:=aa hx;exact fin [] ⟨rfl,rfl⟩ rfl|@bv rows0 _ b q1 _ _=>obtain rfl:=aa hx;refine fin [b] ⟨b,rfl,q1⟩ ?_;simp only[rC];rw[show l.aR+k0=l.aR+(k0+0)from rfl,hget,e1];simp only[Option.bind_some,q1.bY,List.singleton_append]|eg _=>simp[Pp]at hx
  .simp at h
theorem Dt{H:bF}{sz id off len:Nat}{t:T}{bv rd:List Nat}{v:Value}(hI:Inv S K w0 Kn φ (aB H) w)(hc:RC S w Kn φ (.fy sz id off len) v)
  (h:(match aB H id with
  |some (.aM _ aq)=>if off+len<=aq.length then some (T.sl sz ((aq.drop off).take len),[id],[id])else none
  |some (.pJ _ aq)=>if off+len<=aq.length then some (.d (.sl sz ((aq.drop off).take len)),[],[id])else none
  |some (.nst szi slots)=>if off=0/\len=slots.length then(match uF slots with|some aq=>some (.zU szi aq,[id],[id])|none=>none)else none
  |_=>none)=some (t,bv,rd)):
  RT S w t v (bv.flatMap (iw w φ (aB H)))/\∀i∈bv,∃o,aB H i=some o/\cX o=true:=by
 split at h
 .rename_i szo aq ho;split at h
  .rename_i hle;obtain⟨rfl,rfl,rfl⟩:T.sl sz ((aq.drop off).take len)=t/\[id]=bv/\[id]=rd:=by simpa using h
   obtain⟨hk,h0⟩:=hI.iR _ _ ho;cases h0 with
   |aM hsz hl hS hK hown hext hfit hr=>
    subst hl;cases hc with
    |fy hk hcap haddr hx=>
     rw[bk,List.flatMap_nil,bC,pQ fun _ _ e=>by rw[ho]at e;cases e];refine⟨.sl hsz hown (by simp;omega) hcap (by omega) (hr.xx off len fun h=>haddr (by omega)),fun i hi=>?_⟩
     .obtain rfl:=ao.1 hi;exact⟨_,ho,rfl⟩
  .simp at h
 .rename_i szo aq ho;split at h
  .rename_i hle;obtain⟨rfl,rfl,rfl⟩:T.d (.sl sz ((aq.drop off).take len))=t/\[]=bv/\[id]=rd:=by simpa using h
   obtain⟨hk,h0⟩:=hI.iR _ _ ho;have hS:S (φ id).bY:=by cases h0 with|pJ hsz hl hS _=>exact hS
   exact⟨.d (CS hI hc (.inr ho) hle (hC.refl _ _) hS),fun i hi=>by simp at hi⟩
  .simp at h
 .rename_i szi slots ho;split at h
  .rename_i he;obtain⟨rfl,rfl⟩:=he;split at h
   .rename_i aq hrows;obtain⟨rfl,rfl,rfl⟩:T.zU szi aq=t/\[id]=bv/\[id]=rd:=by simpa using h
    obtain⟨hk,h0⟩:=hI.iR _ _ ho;cases h0 with
    |@nst _ _ aM hsz hl hS hK hown hext hfit hr hv=>
     obtain⟨h1,fps,h2,h3,h4⟩:=It (get:=fun i=>aM[i]?) hown.cell slots 0 aq (fun i s hi=>by rw[bL];exact hr i s hi) hrows;cases hc with
     |@fy _ _ _ cap addr hk hcap haddr hx hcc=>
      rw[bk,List.flatMap_nil,bC];have e:iw w φ (aB H) id=(φ id).bY::fps.flatten:=by unfold iw;rw[ho,h3]
      rw[e,<-h1];refine⟨.zU (sz:=szi) (aq:=aq) hsz hown (by omega) (by rw[hl,ly]at hx;omega) h2 fun i r fp hi hf=>?_,fun i hi=>?_⟩
      .obtain ⟨v,q1,q2⟩:=h4 i r fp hi hf;have hlt:=(ak.1 hi).1;rw[bL]at q1;exact⟨v,by rw[haddr (by omega),jA,dT];exact q1,q2⟩
      .obtain rfl:=ao.1 hi;exact⟨_,ho,rfl⟩
   .simp at h
  .simp at h
 .simp at h
theorem rD{H:bF}(hI:Inv S K w0 Kn φ (aB H) w):∀n,
  (∀c t bv rd v,eP H n c=some (t,bv,rd)->RC S w Kn φ c v->RT S w t v (bv.flatMap (iw w φ (aB H)))/\∀i∈bv,∃o,aB H i=some o/\cX o=true)/\
  (∀cs ts bv rd,iK H n cs=some (ts,bv,rd)->∀(get:Nat->Value),(∀(i:Nat)(c:C),cs[i]?=some c->RC S w Kn φ c (get i))->
   ts.length=cs.length/\(∃fps:List (List Nat),fps.length=ts.length/\fps.flatten=bv.flatMap (iw w φ (aB H))/\
    ∀(i:Nat)(t:T)(fp:List Nat),ts[i]?=some t->fps[i]?=some fp->RT S w t (get i) fp)/\∀i∈bv,∃o,aB H i=some o/\cX o=true):=by
 intro n;induction n with
 |zero=>
  refine⟨fun c t bv rd v h hc=>?_,fun cs ts bv rd h get hg=>?_⟩
  .cases c with
   |d x=>
    obtain⟨rfl,rfl,rfl⟩:T.d x=t/\[]=bv/\[]=rd:=by simpa[eP]using h
    cases hc with|d hd=>exact⟨.d hd,fun i hi=>by simp at hi⟩
   |fy sz id off len=>simp only[eP]at h;exact Dt hI hc h
   |_=>simp[eP]at h
  .cases cs with
   |nil=>
    obtain⟨rfl,rfl,rfl⟩:[]=ts/\[]=bv/\[]=rd:=by simpa[iK]using h
    exact⟨rfl,⟨[],rfl,rfl,fun i t fp hi=>by simp at hi⟩,fun i hi=>by simp at hi⟩
   |cons c cs=>simp[iK]at h
 |succ n ih=>
  obtain⟨ihc,ihl⟩:=ih;refine⟨fun c t bv rd v h hc=>?_,fun cs ts bv rd h get hg=>?_⟩
  .cases c with
   |d x=>
    obtain⟨rfl,rfl,rfl⟩:T.d x=t/\[]=bv/\[]=rd:=by simpa[eP]using h
    cases hc with|d hd=>exact⟨.d hd,fun i hi=>by simp at hi⟩
   |fy sz id off len=>simp only[eP]at h;exact Dt hI hc h
   |op id off=>
    cases off with
    |succ off=>simp[eP]at h
    |zero=>
     simp only[eP]at h;split at h
     .rename_i cells ho;split at h
      .rename_i ts own' rd' hp;obtain⟨rfl,rfl,rfl⟩:T.pt ts=t/\id::own'=bv/\id::rd'=rd:=by simpa using h
       obtain⟨hk,h0⟩:=hI.iR _ _ ho;cases h0 with
       |@box _ aM hb hS hK hown hlen hr=>
        obtain⟨h1,⟨fps,h2,h3,h4⟩,h5⟩:=ihl cells ts own' rd' hp (fun i=>aM.getD i undef) hr;cases hc with
        |op hk=>
         rw[hb];refine⟨?_,fun i hi=>?_⟩
         .rw [bk,<-h3,pQ fun _ _ e=>by rw[ho]at e;cases e];exact .pt hown (h1.trans hlen) h2 h4
         .rcases aN.1 hi with rfl|hi
          .exact ⟨_,ho,rfl⟩
          .exact h5 i hi
      .simp at h
     .rename_i cells ho;obtain⟨rfl,rfl,rfl⟩:T.d (.pt cells)=t/\[]=bv/\[id]=rd:=by simpa using h
      obtain⟨hk,h0⟩:=hI.iR _ _ ho;cases h0 with
      |oF hb hS hr=>cases hc with|op hk=>exact⟨.d (.yG hS fun j x hj=>by obtain⟨u,hu,hd⟩:=hr j x hj;exact⟨u,by rw[<-hu,hb];simp,hd⟩),fun i hi=>by simp at hi⟩
     .simp at h
   |ep id dl off=>simp[eP]at h
   |o5 f caps=>simp[eP]at h
   |om id=>simp[eP]at h
  .cases cs with
   |nil=>
    obtain⟨rfl,rfl,rfl⟩:[]=ts/\[]=bv/\[]=rd:=by simpa[iK]using h
    exact⟨rfl,⟨[],rfl,rfl,fun i t fp hi=>by simp at hi⟩,fun i hi=>by simp at hi⟩
   |cons c cs=>
    simp only[iK]at h;split at h
    .rename_i t0 a i0 ts0 b j0 hx hxs;obtain⟨rfl,rfl,rfl⟩:t0::ts0=ts/\a++b=bv/\i0++j0=rd:=by simpa using h
     obtain⟨p1,p2⟩:=ihc c t0 a i0 (get 0) hx (hg 0 c rfl);obtain⟨h1,⟨fps,h2,h3,h4⟩,h5⟩:=ihl cs ts0 b j0 hxs (fun i=>get (i+1)) (fun i c hi=>hg (i+1) c (by simpa using hi));refine⟨by simp[h1],⟨(a.flatMap (iw w φ (aB H)))::fps,by simp[h2],by simp[h3],fun i t fp hi hfp=>?_⟩,fun i hi=>?_⟩
     .cases i with
      |zero=>
       obtain rfl:t0=t:=by simpa using hi
       obtain rfl:(a.flatMap (iw w φ (aB H)))=fp:=by simpa using hfp
       exact p1
      |succ i=>exact h4 i t fp (by simpa using hi) (by simpa using hfp)
     .rcases ap.1 hi with hi|hi
      .exact p2 i hi
      .exact h5 i hi
    .simp at h
theorem BA{bv:List Nat}(hI:Inv S K w0 Kn φ hf w)(hn:bv.Nodup)(ho:∀i∈bv,∃o,hf i=some o/\cX o=true):(bv.flatMap (iw w φ hf)).Nodup:=by induction bv with|nil=>exact fY|cons a l ih=>rw[fZ]at hn;obtain⟨o1,h1,h2⟩:=ho a (by simp);rw[bk,bZ];refine⟨GT hI h1 h2,ih hn.2 fun i hi=>ho i (aC _ hi),fun x hx y hy e=>?_⟩;subst e;obtain⟨i,hi,hy⟩:=List.mem_flatMap.1 hy;obtain⟨o2,h3,h4⟩:=ho i (aC _ hi);exact od hI h1 h3 h2 h4 (fun e'=>hn.1 (e'▸hi)) hx hy
def pn(Kn:Nat->Prop)(a b:Nat)(j:Nat):Prop:=Kn j\/(a<=j/\j<b)
theorem Inv.name(h:Inv S K w0 Kn φ hf w){i:Nat}(hi:¬Kn i)(l:gO)(o:Ob)(hfree:cX o=true->∀j b,hf j=some b->cX b=true->l.bY∉iw w φ hf j)
  (hro:RO S K w (fun j=>Kn j\/j=i) (ext φ i l) l o)
  (hp:∀sz sl k x,o=.nst sz sl->sj w l sl k x->x≠l.bY/\(∀j b,hf j=some b->cX b=true->x∉iw w φ hf j)/\∀k',sj w l sl k' x->k'=k:=by intro _ _ _ _ e;cases e):
  Inv S K w0 (fun j=>Kn j\/j=i) (ext φ i l) (bm [(i,some o)] hf) w:=by
 have hold:∀j b,bm [(i,some o)] hf j=some b->(j=i/\b=o/\ext φ i l j=l)\/(j≠i/\hf j=some b/\ext φ i l j=φ j):=by
  intro j b hj;rw[bT]at hj;by_cases e:i=j
  .rw [if_pos e]at hj;exact .inl ⟨e.symm,(aa hj).symm,by simp[ext,e]⟩
  .rw [if_neg e,fP]at hj;have e1:¬j=i:=fun q=>e q.symm;exact .inr ⟨e1,hj,by simp[ext,e1]⟩
 refine h.vb (hC.refl _ _) (jQ _ hi) h.u6 h.sk h.nB ?_ ?_ ?_
 .intro id o' ho;rcases hold id o' ho with⟨rfl,rfl,e⟩|⟨_,ho,_⟩
  .exact .inr ⟨.inr rfl,by rw[e];exact hro⟩
  .exact .inl ⟨ho,fun hown=>⟨rfl,((h.iR id o' ho).2.bv hown).1⟩,h.D9 ho fun _ _=>rfl⟩
 .intro a b oa ob ha hb hoa hob hne;rcases hold a oa ha with⟨h1,h2,e1⟩|⟨_,ha',e1⟩<;>rcases hold b ob hb with⟨h3,h4,e2⟩|⟨_,hb',e2⟩
  .exact absurd (h1.trans h3.symm) hne
  .rw [e1,e2];exact fun e=>hfree (h2▸hoa) b ob hb' hob (dX.2 (.inl e))
  .rw [e1,e2];exact fun e=>hfree (h4▸hob) a oa ha' hoa (dX.2 (.inl e.symm))
  .rw [e1,e2];exact h.eR a b oa ob ha' hb' hoa hob hne
 .intro a sz sl k x ha hpa;rcases hold a _ ha with⟨ea,eo,e1⟩|⟨hne,ha',e1⟩<;>rw[e1]at hpa
  .obtain ⟨p1,p2,p3⟩:=hp sz sl k x eo.symm hpa;refine⟨fun j b hj hown=>?_,fun j sz' sl' k' hj hpj=>?_⟩
   .rcases hold j b hj with⟨_,_,e2⟩|⟨_,hj',e2⟩<;>rw[e2]
    .exact fun e=>p1 e.symm
    .exact fun e=>p2 j b hj' hown (dX.2 (.inl e.symm))
   .rcases hold j _ hj with⟨ej,eo2,e2⟩|⟨_,hj',e2⟩<;>rw[e2]at hpj
    .rw [<-eo]at eo2;cases eo2;exact⟨ej.trans ea.symm,p3 k' hpj⟩
    .exact absurd (dX.2 (.inr ⟨sz',sl',k',hj',hpj⟩)) (p2 j _ hj' rfl)
  .obtain ⟨p1,p2⟩:=h.xe a sz sl k x ha' hpa;refine⟨fun j b hj hown=>?_,fun j sz' sl' k' hj hpj=>?_⟩
   .rcases hold j b hj with⟨_,eo,e2⟩|⟨_,hj',e2⟩<;>rw[e2]
    .exact fun e=>hfree (eo▸hown) a _ ha' rfl (dX.2 (.inr ⟨sz,sl,k,ha',e▸hpa⟩))
    .exact p1 j b hj' hown
   .rcases hold j _ hj with⟨_,eo,e2⟩|⟨_,hj',e2⟩<;>rw[e2]at hpj
    .exact absurd (dX.2 (.inr ⟨sz,sl,k,ha',hpa⟩)) ((hp sz' sl' k' x eo.symm hpj).2.1 a _ ha' rfl)
    .exact p2 j sz' sl' k' hj' hpj
theorem Inv.kn{Kn':Nat->Prop}(h:Inv S K w0 Kn φ hf w)(hs:∀i,Kn i->Kn' i):Inv S K w0 Kn' φ hf w:=h.kM (hC.refl _ _) ⟨hs,fun _ _=>rfl⟩ h.u6 h.sk h.nB (fun id o ho=>.inl ⟨ho,fun hown=>⟨rfl,((h.iR id o ho).2.bv hown).1⟩⟩) h.eR (h.AR fun _ _=>rfl)
structure rW(S K:Nat->Prop)(w0 w:World)(Kn:Nat->Prop)(φ:Nat->gO)(hf:Nat->Option Ob)(fp:List Nat)(nxt m:Nat)(u:fF)(φ':Nat->gO):Prop where
 le:nxt<=m
 sB:Ren Kn φ (pn Kn nxt m) φ'
 inv:Inv S K w0 (pn Kn nxt m) φ' (bm u hf) w
 gM:∀p∈u,nxt<=p.1/\p.1<m
 bY:∀p∈u,∀x∈iw w φ' (bm u hf) p.1,x∈fp
theorem tP(a b:Nat):Ren Kn φ (pn Kn a b) φ:=⟨fun _ h=>.inl h,fun _ _=>rfl⟩
theorem rW.nil(h:Inv S K w0 Kn φ hf w)(fp:List Nat)(n:Nat):rW S K w0 w Kn φ hf fp n n [] φ:=⟨au _,tP _ _,h.kn fun _ hi=>.inl hi,fun p hp=>by simp at hp,fun p hp=>by simp at hp⟩
theorem rW.skip(h:Inv S K w0 Kn φ hf w)(fp:List Nat)(n:Nat):rW S K w0 w Kn φ hf fp n (n+1) [] φ:=⟨bH _,tP _ _,h.kn fun _ hi=>.inl hi,fun p hp=>by simp at hp,fun p hp=>by simp at hp⟩
theorem lm{α:Type}{u:List (Nat×α)}{id:Nat}(h:∀p∈u,p.1≠id):cA u id=none:=by
 induction u with
 |nil=>rfl
 |cons p r ih=>
  obtain⟨i,x⟩:=p;have e:(i==id)=false:=by simpa using h (i,x) (by simp)
  simp only[cA,e,cond_false];exact ih fun q hq=>h q (by simp[hq])
def ja(w:World)(φ:Nat->gO)(hf:Nat->Option Ob)(fp:List Nat):Prop:=∀j b,hf j=some b->cX b=true->∀x∈iw w φ hf j,x∉fp
theorem rF{a b c:Nat}(h1:a<=b)(h2:b<=c)(j:Nat):pn (pn Kn a b) b c j<->pn Kn a c j:=by
 unfold pn;constructor
 .rintro ((h|h)|h)
  .exact .inl h
  .exact .inr (by omega)
  .exact .inr (by omega)
 .rintro (h|h)
  .exact .inl (.inl h)
  .by_cases e:j<b
   .exact .inl (.inr (by omega))
   .exact .inr (by omega)
theorem Inv.xA{Kn':Nat->Prop}(h:Inv S K w0 Kn φ hf w)(hs:∀i,Kn i<->Kn' i):Inv S K w0 Kn' φ hf w:=h.kn fun i hi=>(hs i).1 hi
theorem RC.kn{Kn':Nat->Prop}{c:C}{v:Value}(h:RC S w Kn φ c v)(hs:∀i,Kn i->Kn' i):RC S w Kn' φ c v:=h.mono (hC.refl _ _) ⟨hs,fun _ _=>rfl⟩
theorem gF{φ':Nat->gO}{hf':Nat->Option Ob}{i:Nat}(h1:φ i=φ' i)(h2:hf i=hf' i):iw w φ hf i=iw w φ' hf' i:=by unfold iw;rw[h1,h2]
theorem rW.pY{fa fb:List Nat}{n m k:Nat}{u v:fF}{φ1 φ2:Nat->gO}(a:rW S K w0 w Kn φ hf fa n m u φ1)(b:rW S K w0 w (pn Kn n m) φ1 (bm u hf) fb m k v φ2):
  rW S K w0 w Kn φ hf (fa++fb) n k (v++u) φ2 where
 le:=fq a.le b.le
 sB:=⟨fun i h=>.inl h,fun i h=>(b.sB.eC i (.inl h)).trans (a.sB.eC i h)⟩
 inv:=by rw[eD];exact b.inv.xA fun i=>rF a.le b.le i
 gM p hp:=by
  have:=a.le;have:=b.le;rcases ap.1 hp with h|h
  .have:=b.gM p h;omega
  .have:=a.gM p h;omega
 bY p hp:=by
  intro x hx;rcases ap.1 hp with h|h
  .rw [eD]at hx;exact List.mem_append_right _ (b.bY p h x hx)
  .have hn:cA v p.1=none:=lm fun q hq e=>by have:=a.gM p h;have:=b.gM q hq;omega
   have e:bm (v++u) hf p.1=bm u hf p.1:=by simp only[bm,gV,hn]
   have e2:=gF (w:=w) (b.sB.eC p.1 (.inr (a.gM p h))) e;rw[e2]at hx;exact List.mem_append_left _ (a.bY p h x hx)
theorem mJ{u v:fF}(h:∀p∈u,∀q∈v,p.1≠q.1):bm (u++v) hf=bm (v++u) hf:=by
 funext id;simp only[bm,gV];cases hu:cA u id with
 |none=>cases cA v id<;>simp
 |some x=>
  have:cA v id=none:=by
   refine lm fun q hq e=>?_
   have hm:∃p∈u,p.1=id:=by
    clear h;induction u with
    |nil=>simp[cA]at hu
    |cons p r ih=>
     obtain⟨i,y⟩:=p;by_cases e':i=id
     .exact ⟨(i,y),by simp,e'⟩
     .have e2:(i==id)=false:=by simpa using e'
      simp only[cA,e2,cond_false]at hu;obtain⟨p,hp,hpe⟩:=ih hu;exact⟨p,by simp[hp],hpe⟩
   obtain⟨p,hp,hpe⟩:=hm;exact h p hp q hq (hpe.trans e.symm)
  simp[this]
theorem qn(nxt:Nat)(ts:List T):k9 nxt (.pt ts)=(.op nxt 0,(nxt,some (.box (iF (nxt+1) ts).1))::(iF (nxt+1) ts).2.1,(iF (nxt+1) ts).2.2):=rfl
theorem qJ(nxt:Nat)(t:T)(ts:List T):iF nxt (t::ts)=((k9 nxt t).1::(iF (k9 nxt t).2.2 ts).1,(k9 nxt t).2.1++(iF (k9 nxt t).2.2 ts).2.1,(iF (k9 nxt t).2.2 ts).2.2):=rfl
theorem Ej{x:Nat}:∀{fps:List (List Nat)}{k k':Nat},fps.flatten.Nodup->fps[k]?=some [x]->fps[k']?=some [x]->k=k':=by
 intro fps;induction fps with
 |nil=>intro k k' _ h;simp at h
 |cons fp fps ih=>
  intro k k' hn h1 h2;rw[ez,bZ]at hn;have hm:∀k,fps[k]?=some [x]->x∈fps.flatten:=fun k h=>dO.2 ⟨[x],aX h,by simp⟩;cases k with
  |zero=>
   obtain rfl:fp=[x]:=by simpa using h1
   cases k' with|zero=>rfl|succ k'=>exact absurd rfl (hn.2.2 x (by simp) x (hm k' (by simpa using h2)))
  |succ k=>
   cases k' with
   |zero=>
    obtain rfl:fp=[x]:=by simpa using h2
    exact absurd rfl (hn.2.2 x (by simp) x (hm k (by simpa using h1)))
   |succ k'=>exact congrArg Nat.succ (ih hn.2.1 (by simpa using h1) (by simpa using h2))
mutual
theorem Kj(t:T):∀nxt,nxt<=(k9 nxt t).2.2:=by intro nxt;cases t with|d x=>exact bH _|uS=>exact bH _|sl sz aq=>exact bH _|zU sz aq=>exact bH _|pt ts=>rw[qn];exact Nat.le_of_succ_le (vV ts (nxt+1))
theorem vV(ts:List T):∀nxt,nxt<=(iF nxt ts).2.2:=by intro nxt;cases ts with|nil=>exact au _|cons t ts=>rw[qJ];exact fq (Kj t nxt) (vV ts _)
end
mutual
theorem vW(t:T):∀{Kn:Nat->Prop}{φ:Nat->gO}{hf:Nat->Option Ob}(nxt:Nat)(v:Value)(fp:List Nat),Inv S K w0 Kn φ hf w->(∀j,nxt<=j->j<(k9 nxt t).2.2->¬Kn j)->
  RT S w t v fp->fp.Nodup->(∀b∈fp,¬S b/\¬K b)->ja w φ hf fp->
  ∃φ',rW S K w0 w Kn φ hf fp nxt (k9 nxt t).2.2 (k9 nxt t).2.1 φ'/\RC S w (pn Kn nxt (k9 nxt t).2.2) φ' (k9 nxt t).1 v:=by
 intro Kn φ hf nxt v fp hI hfr hr hnd hSK haw;cases t with
 |uS=>cases hr
 |d x=>cases hr with|d hd=>exact⟨φ,rW.skip hI _ _,.d hd⟩
 |sl sz aq=>
  cases hr with
  |@sl _ _ b off len cap aM hsz ho hlen hcap hext hrr=>
   have hnx:¬Kn nxt:=hfr nxt (au _) (aY _);refine⟨ext φ nxt ⟨b,off,sz,aM.size,cap⟩,?_,?_⟩
   .have hin:=hI.name (hnx) ⟨b,off,sz,aM.size,cap⟩ (.aM sz aq) (fun _ j o hj hown hm=>haw j o hj hown _ hm (by simp))
     (.aM hsz rfl (hSK b (by simp)).1 (hSK b (by simp)).2 ho rfl (by have:aq.length*sz<=cap*sz:=aI _ (by omega);simp only;omega) hrr (by simp only;omega))
    refine⟨bH _,⟨fun i h=>.inl h,(jQ _ (hnx)).eC⟩,hin.xA fun i=>?_,fun p hp=>?_,fun p hp=>?_⟩
    .simp only[pn,k9];constructor
     .rintro (h|rfl)
      .exact .inl h
      .exact .inr (by omega)
     .rintro (h|h)
      .exact .inl h
      .exact .inr (by omega)
    .obtain rfl:p=_:=by simpa[k9]using hp
     simp[k9]
    .obtain rfl:p=_:=by simpa[k9]using hp
     rw[pQ fun _ _ e=>by simp[k9,bm,cA]at e];simp[ext]
   .have e:(ext φ nxt ⟨b,off,sz,aM.size,cap⟩) nxt=⟨b,off,sz,aM.size,cap⟩:=by simp[ext]
    have:=RC.fy (S:=S) (w:=w) (Kn:=pn Kn nxt (nxt+1)) (φ:=ext φ nxt ⟨b,off,sz,aM.size,cap⟩) (id:=nxt) (off:=0) (len:=aq.length) (cap:=cap) (addr:=off) (.inr (by omega)) (by omega) (by rw[e];simp) (by rw[e];simpa using hext) (by rw[e];simp);rw[e]at this;simpa[k9,hlen]using this
 |zU sz aq=>
  cases hr with
  |@zU _ _ b off cap aM fps hsz ho hcap hext hfl hrr=>
   have hnx:¬Kn nxt:=hfr nxt (au _) (aY _);rw[fZ]at hnd;have hget:∀i,w.cell? ⟨b,i,none⟩=aM[i]?:=ho.cell;have hpat:∀k x,sj w ⟨b,off,1,aM.size,cap⟩ (aq.map mZ) k x->∃fp,fps[k]?=some fp/\fp=[x]:=by rintro k x ⟨rs,v,h1,h2,h3⟩;rw[aH]at h1;obtain⟨r,hr1,hr2⟩:=aF.1 h1;have hlt:=(ak.1 hr1).1;have hf:fps[k]?=some fps[k]:=aw (by omega);obtain⟨v',q1,q2⟩:=hrr k r fps[k] hr1 hf;simp only[hget,q1,bn]at h2;subst h2;cases r with|none=>cases hr2|some rows'=>obtain⟨b',q3,q4⟩:=q2;rw[q4.bY]at h3;obtain rfl:=aa h3;exact⟨_,hf,q3⟩
   have hmem:∀k x,sj w ⟨b,off,1,aM.size,cap⟩ (aq.map mZ) k x->x∈fps.flatten:=fun k x hp=>by obtain⟨fp,h1,rfl⟩:=hpat k x hp;exact dO.2 ⟨[x],aX h1,by simp⟩
   have hin:=hI.name (hnx) ⟨b,off,1,aM.size,cap⟩ (.nst sz (aq.map mZ)) (fun _ j o hj hown hm=>haw j o hj hown _ hm (by simp))
    (.nst hsz rfl (hSK b (by simp)).1 (hSK b (by simp)).2 ho rfl (by simp only[aO];omega) (fun i s hi=>by
     rw[aH]at hi;obtain⟨r,hr1,rfl⟩:=aF.1 hi;have hlt:=(ak.1 hr1).1;have hf:fps[i]?=some fps[i]:=aw (by omega);obtain⟨v,q1,q2⟩:=hrr i r fps[i] hr1 hf;refine⟨v,q1,?_⟩;cases r with
     |none=>obtain⟨rfl,_⟩:=q2;exact .nil
     |some rows'=>obtain⟨b',q3,q4⟩:=q2;have hm:b'∈fps.flatten:=dO.2 ⟨fps[i],List.getElem_mem _,by rw[q3];simp⟩;exact .bv q4 (hSK b' (aC _ hm)).1 (hSK b' (aC _ hm)).2) (by simp only[aO];omega))
    (fun sz' sl' k x eo hp=>by cases eo;have hm:=hmem k x hp;refine⟨fun e=>hnd.1 (by have e:x=b:=e;rw[<-e];exact hm),fun j b' hj hown hx=>haw j b' hj hown x hx (aC _ hm),fun k' hp'=>?_⟩;obtain⟨fp,h1,rfl⟩:=hpat k x hp;obtain⟨fp',h2,rfl⟩:=hpat k' x hp';exact Ej hnd.2 h2 h1)
   refine⟨ext φ nxt ⟨b,off,1,aM.size,cap⟩,?_,?_⟩
   .refine ⟨bH _,⟨fun i h=>.inl h,(jQ _ (hnx)).eC⟩,hin.xA fun i=>?_,fun p hp=>?_,fun p hp x hx=>?_⟩
    .simp only[pn,k9];constructor
     .rintro (h|rfl)
      .exact .inl h
      .exact .inr (by omega)
     .rintro (h|h)
      .exact .inl h
      .exact .inr (by omega)
    .obtain rfl:p=_:=by simpa[k9]using hp
     simp[k9]
    .obtain rfl:p=_:=by simpa[k9]using hp
     have e:bm (k9 nxt (T.zU sz aq)).2.1 hf nxt=some (.nst sz (aq.map mZ)):=by simp[k9,bm,cA]
     rcases dX.1 hx with rfl|⟨sz',sl',k,h1,h2⟩
     .simp [ext]
     .rw [e]at h1;cases h1;simp only[ext,if_true]at h2;exact aC _ (hmem k x h2)
   .have e:(ext φ nxt ⟨b,off,1,aM.size,cap⟩) nxt=⟨b,off,1,aM.size,cap⟩:=by simp[ext]
    have:=RC.fy (S:=S) (w:=w) (Kn:=pn Kn nxt (nxt+1)) (φ:=ext φ nxt ⟨b,off,1,aM.size,cap⟩) (id:=nxt) (off:=0) (len:=aq.length) (cap:=cap) (addr:=off) (.inr (by omega)) (by omega) (by rw[e];simp) (by rw[e];simpa using hext) (by rw[e];simp);rw[e]at this;simpa[k9]using this
 |pt ts=>
  cases hr with
  |@pt _ b aM fps ho hlen hfl h=>
   rw[fZ]at hnd;have hnx:¬Kn nxt:=hfr nxt (au _) (by rw[qn];exact vV ts (nxt+1))
   obtain⟨φ1,hL,hrc⟩:=tF ts (Kn:=Kn) (φ:=φ) (hf:=hf) (nxt+1) (fun i=>aM.getD i undef) fps hI (fun j hj hj2=>hfr j (by omega) (by rw[qn];exact hj2)) hfl h hnd.2
    (fun b' hb'=>hSK b' (by simp[hb'])) (fun j o hj hown x hx hm=>haw j o hj hown x hx (aC _ hm))
   have hm:=hL.le
   have hnk:¬pn Kn (nxt+1) (iF (nxt+1) ts).2.2 nxt:=by
    rintro(h|h)
    .exact hnx h
    .omega
   refine⟨ext φ1 nxt ⟨b,0,1,aM.size,0⟩,?_,?_⟩
   .have hin:=hL.inv.name hnk ⟨b,0,1,aM.size,0⟩ (.box (iF (nxt+1) ts).1) (fun _ j o hj hown hm=>by
      by_cases hu:∃p∈(iF (nxt+1) ts).2.1,p.1=j
      .obtain ⟨p,hp,rfl⟩:=hu;exact hnd.1 (hL.bY p hp _ hm)
      .have hfn:cA (iF (nxt+1) ts).2.1 j=none:=lm fun p hp e=>hu ⟨p,hp,e⟩;have hj':=hj;simp only[bm,hfn]at hj';have hk:=(hI.iR j o hj').1;rw[gF (hL.sB.eC j hk) (hj.trans hj'.symm)]at hm;exact haw j o hj' hown _ hm (by simp))
     (.box rfl (hSK b (by simp)).1 (hSK b (by simp)).2 ho (hrc.1.trans hlen) fun i c hi=>(hrc.2 i c hi).mono (hC.refl _ _) (jQ _ hnk))
    refine⟨?_,⟨fun i h=>.inl h,fun i hi=>?_⟩,?_,fun p hp=>?_,fun p hp=>?_⟩
    .simp only[qn];exact Nat.le_of_succ_le hm
    .have:i≠nxt:=fun e=>hnx (e▸hi);simp only[ext,this,if_false];exact hL.sB.eC i hi
    .have e:bm (k9 nxt (.pt ts)).2.1 hf=bm [(nxt,some (.box (iF (nxt+1) ts).1))] (bm (iF (nxt+1) ts).2.1 hf):=by rw[<-eD];rfl
     rw[e];refine hin.xA fun i=>?_;simp only[pn,qn];constructor
     .rintro ((h|h)|rfl)
      .exact .inl h
      .exact .inr (by omega)
      .exact .inr (by omega)
     .rintro (h|h)
      .exact .inl (.inl h)
      .by_cases e:i=nxt
       .exact .inr e
       .exact .inl (.inr (by omega))
    .simp only[qn]at hp|-;rcases aN.1 hp with rfl|hp
     .simp only;omega
     .have:=hL.gM p hp;omega
    .simp only[qn]at hp;rcases aN.1 hp with rfl|hp
     .rw [pQ fun _ _ e=>by simp[qn,bm,cA]at e];simp[ext]
     .have hne:¬p.1=nxt:=by have:=hL.gM p hp;omega
      have hne':(nxt==p.1)=false:=by simpa using fun e=>hne e.symm
      intro x hx;rw[gF (φ':=φ1) (hf':=bm (iF (nxt+1) ts).2.1 hf) (by simp only[ext,hne,if_false]) (by simp only[qn,bm,cA,hne',cond_false])]at hx;exact aC _ (hL.bY p hp x hx)
   .have:=RC.op (S:=S) (w:=w) (Kn:=pn Kn nxt (iF (nxt+1) ts).2.2) (φ:=ext φ1 nxt ⟨b,0,1,aM.size,0⟩) (id:=nxt) (off:=0) (.inr (by omega));simpa[qn,ext]using this
theorem tF(ts:List T):∀{Kn:Nat->Prop}{φ:Nat->gO}{hf:Nat->Option Ob}(nxt:Nat)(get:Nat->Value)(fps:List (List Nat)),Inv S K w0 Kn φ hf w->(∀j,nxt<=j->j<(iF nxt ts).2.2->¬Kn j)->
  fps.length=ts.length->(∀(i:Nat)(t:T)(fp:List Nat),ts[i]?=some t->fps[i]?=some fp->RT S w t (get i) fp)->fps.flatten.Nodup->(∀b∈fps.flatten,¬S b/\¬K b)->ja w φ hf fps.flatten->
  ∃φ',rW S K w0 w Kn φ hf fps.flatten nxt (iF nxt ts).2.2 (iF nxt ts).2.1 φ'/\(iF nxt ts).1.length=ts.length/\
   ∀(i:Nat)(c:C),(iF nxt ts).1[i]?=some c->RC S w (pn Kn nxt (iF nxt ts).2.2) φ' c (get i):=by
 intro Kn φ hf nxt get fps hI hfr hfl hr hnd hSK haw;cases ts with
 |nil=>exact⟨φ,rW.nil hI _ _,rfl,fun i c hi=>by simp[iF]at hi⟩
 |cons t ts=>
  cases fps with
  |nil=>simp at hfl
  |cons fp fps=>
   rw[ez,bZ]at hnd;obtain⟨hn1,hn2,hn3⟩:=hnd;simp only[ez,ap]at hSK
   obtain⟨φ1,hL1,hc1⟩:=vW t (Kn:=Kn) (φ:=φ) (hf:=hf) nxt (get 0) fp hI (fun j hj hj2=>hfr j hj (by rw[qJ];exact cn hj2 (vV ts _))) (hr 0 t fp rfl rfl) hn1 (fun b hb=>hSK b (.inl hb))
    (fun j o hj hown x hx hm=>haw j o hj hown x hx (by simp[hm]))
   obtain⟨φ2,hL2,hlen,hc2⟩:=tF ts (Kn:=pn Kn nxt (k9 nxt t).2.2) (φ:=φ1) (hf:=bm (k9 nxt t).2.1 hf) (k9 nxt t).2.2 (fun i=>get (i+1)) fps hL1.inv
    (fun j hj hj2 hk=>by
     rcases hk with hk|hk
     .have:=hL1.le;exact hfr j (by omega) (by rw[qJ];exact hj2) hk
     .omega) (by simpa using hfl) (fun i t fp hi hfp=>hr (i+1) t fp (by simpa using hi) (by simpa using hfp)) hn2 (fun b hb=>hSK b (.inr hb))
    (fun j o hj hown x hx hm=>by
     by_cases hu:∃p∈(k9 nxt t).2.1,p.1=j
     .obtain ⟨p,hp,rfl⟩:=hu;exact hn3 _ (hL1.bY p hp x hx) _ hm rfl
     .have hfn:cA (k9 nxt t).2.1 j=none:=lm fun p hp e=>hu ⟨p,hp,e⟩;have hj':=hj;simp only[bm,hfn]at hj';have hk:=(hI.iR j o hj').1;rw[gF (hL1.sB.eC j hk) (hj.trans hj'.symm)]at hx;exact haw j o hj' hown x hx (by simp[hm]))
   have hcomp:=hL1.pY hL2;have hcm:bm ((iF (k9 nxt t).2.2 ts).2.1++(k9 nxt t).2.1) hf=bm ((k9 nxt t).2.1++(iF (k9 nxt t).2.2 ts).2.1) hf:=mJ fun p hp q hq e=>by have h1:=hL2.gM p hp;have h2:=hL1.gM q hq;omega
   refine⟨φ2,?_,by simp[qJ,hlen],fun i c hi=>?_⟩
   .simp only[qJ,ez];have hsw:∀{p:Nat×Option Ob}{a b:fF},p∈a++b->p∈b++a:=fun hp=>ap.2 (ap.1 hp).symm;exact⟨hcomp.le,hcomp.sB,hcm▸hcomp.inv,fun p hp=>hcomp.gM p (hsw hp),fun p hp x hx=>hcomp.bY p (hsw hp) x (hcm.symm▸hx)⟩
   .have hsub:∀i,pn (pn Kn nxt (k9 nxt t).2.2) (k9 nxt t).2.2 (iF (k9 nxt t).2.2 ts).2.2 i->pn Kn nxt (iF (k9 nxt t).2.2 ts).2.2 i:=fun i=>(rF hL1.le hL2.le i).1;cases i with
    |zero=>
     obtain rfl:(k9 nxt t).1=c:=by simpa[iF]using hi
     exact(hc1.mono (hC.refl _ _) hL2.sB).kn hsub
    |succ i=>exact(hc2 i c (by simpa[qJ]using hi)).kn hsub
end
theorem tL{α:Type}{l:List α}{k i:Nat}{x y:α}(h:(l.set k x)[i]?=some y):(k=i/\y=x/\i<l.length)\/(k≠i/\l[i]?=some y):=by
 rw[List.getElem?_set]at h;split at h
 .rename_i e;split at h
  .rename_i hlt;exact .inl ⟨e,(aa h).symm,e▸hlt⟩
  .simp at h
 .rename_i e;exact .inr ⟨e,h⟩
theorem Inv.Tf(h:Inv S K w0 Kn φ hf w){id:Nat}{o o':Ob}(ho:hf id=some o)(hown:cX o=true)(hno:H6 o')(hro:RO S K w Kn φ (φ id) o'):Inv S K w0 Kn φ (bm [(id,some o')] hf) w:=by
 have hold:∀j b,bm [(id,some o')] hf j=some b->(j=id/\b=o')\/(j≠id/\hf j=some b):=by
  intro j b hj;rw[bT]at hj;by_cases e:id=j
  .rw [if_pos e]at hj;exact .inl ⟨e.symm,(aa hj).symm⟩
  .rw [if_neg e,fP]at hj;exact .inr ⟨fun q=>e q.symm,hj⟩
 have was:∀j b,bm [(id,some o')] hf j=some b->cX b=true->∃b',hf j=some b'/\cX b'=true:=by
  intro j b hj hb;rcases hold j b hj with⟨rfl,rfl⟩|⟨_,hj'⟩
  .exact ⟨o,ho,hown⟩
  .exact ⟨b,hj',hb⟩
 refine h.vb (hC.refl _ _) (Ren.refl _ _) h.u6 h.sk h.nB ?_ ?_ ?_
 .intro i x hx;rcases hold i x hx with⟨rfl,rfl⟩|⟨_,hx'⟩
  .exact .inr ⟨(h.iR i o ho).1,hro⟩
  .exact .inl ⟨hx',fun hown=>⟨rfl,((h.iR i x hx').2.bv hown).1⟩,h.D9 hx' fun _ _=>rfl⟩
 .intro i j a b ha hb hoa hob hne;obtain⟨a',h1,h2⟩:=was i a ha hoa;obtain⟨b',h3,h4⟩:=was j b hb hob;exact h.eR i j a' b' h1 h3 h2 h4 hne
 .intro i sz sl k x hi hp;rcases hold i _ hi with⟨rfl,e⟩|⟨_,hi'⟩
  .obtain ⟨aq,v,h1,_⟩:=hp;exact absurd h1 (hno sz sl k aq e.symm)
  .obtain ⟨p1,p2⟩:=h.xe i sz sl k x hi' hp;refine⟨fun j b hj hb=>?_,fun j sz' sl' k' hj hpj=>?_⟩
   .obtain ⟨b',h1,h2⟩:=was j b hj hb;exact p1 j b' h1 h2
   .rcases hold j _ hj with⟨rfl,e⟩|⟨_,hj'⟩
    .obtain ⟨aq,v,h1,_⟩:=hpj;exact absurd h1 (hno sz' sl' k' aq e.symm)
    .exact p2 j sz' sl' k' hj' hpj
theorem Inv.split(h:Inv S K w0 Kn φ hf w){id nxt sz dl:Nat}{slots:List k8}{aq:List (List D)}(ho:hf id=some (.nst sz slots))(hs:slots[dl]?=some (.bv aq))(hn:¬Kn nxt):
  ∃l v,w.cell? ⟨(φ id).bY,(φ id).aR+dl,none⟩=some v/\RC S w (fun j=>Kn j\/j=nxt) (ext φ nxt l) (.fy sz nxt 0 aq.length) v/\
   Inv S K w0 (fun j=>Kn j\/j=nxt) (ext φ nxt l) (bm [(nxt,some (.aM sz aq)),(id,some (.nst sz (slots.set dl (.eg nxt aq.length))))] hf) w:=by
 obtain⟨hk,hro⟩:=h.iR id _ ho;have hne:id≠nxt:=fun e=>hn (e▸hk);cases hro with
 |@nst _ _ aM hsz hl hS hK hown hext hfit hr hv=>
  obtain⟨v,h1,h2⟩:=hr dl _ hs;cases h2 with
  |@bv _ _ b hrw hbS hbK=>
   obtain⟨addr,cap,ba,rfl,_,hbo,hcap,hfx,hrr⟩:=hrw;have hcell:w.cell? ⟨(φ id).bY,(φ id).aR+dl,none⟩=some (.slice (some ⟨b,addr,none⟩) aq.length cap):=(hown.cell _).trans h1;have hpat:sj w (φ id) slots dl b:=⟨aq,_,hs,hcell,rfl⟩
   obtain⟨p1,p2⟩:=h.xe id sz slots dl b ho hpat;have he:ext φ nxt ⟨b,addr,sz,ba.size,cap⟩ nxt=⟨b,addr,sz,ba.size,cap⟩:=by simp[ext]
   have heo:∀j,j≠nxt->ext φ nxt ⟨b,addr,sz,ba.size,cap⟩ j=φ j:=fun j hj=>by simp[ext,hj]
   have hren:=jQ (φ:=φ) (⟨b,addr,sz,ba.size,cap⟩:gO) hn;have hrc:RC S w (fun j=>Kn j\/j=nxt) (ext φ nxt ⟨b,addr,sz,ba.size,cap⟩) (.fy sz nxt 0 aq.length) (.slice (some ⟨b,addr,none⟩) aq.length cap):=by have:=RC.fy (S:=S) (w:=w) (Kn:=fun j=>Kn j\/j=nxt) (φ:=ext φ nxt ⟨b,addr,sz,ba.size,cap⟩) (id:=nxt) (off:=0) (len:=aq.length) (cap:=cap) (addr:=addr) (.inr rfl) (by omega) (by rw[he];simp) (by rw[he];simpa using hfx) (by rw[he];simp);rw[he]at this;exact this
   refine⟨⟨b,addr,sz,ba.size,cap⟩,_,hcell,hrc,?_⟩
   have hold:∀j c,bm [(nxt,some (.aM sz aq)),(id,some (.nst sz (slots.set dl (.eg nxt aq.length))))] hf j=some c->(j=nxt/\c=.aM sz aq)\/(j=id/\c=.nst sz (slots.set dl (.eg nxt aq.length)))\/(j≠nxt/\j≠id/\hf j=some c):=by
    intro j c hj;rw[bT]at hj;by_cases e:nxt=j
    .rw [if_pos e]at hj;exact .inl ⟨e.symm,(aa hj).symm⟩
    .rw [if_neg e,bT]at hj;by_cases e2:id=j
     .rw [if_pos e2]at hj;exact .inr (.inl ⟨e2.symm,(aa hj).symm⟩)
     .rw [if_neg e2,fP]at hj;exact .inr (.inr ⟨fun q=>e q.symm,fun q=>e2 q.symm,hj⟩)
   have hpat2:∀j sz' sl' k x,bm [(nxt,some (.aM sz aq)),(id,some (.nst sz (slots.set dl (.eg nxt aq.length))))] hf j=some (.nst sz' sl')->sj w (ext φ nxt ⟨b,addr,sz,ba.size,cap⟩ j) sl' k x->∃tK,hf j=some (.nst sz' tK)/\sj w (φ j) tK k x/\x≠b:=by
    intro j sz' sl' k x hj hp;rcases hold j _ hj with⟨_,e⟩|⟨rfl,e⟩|⟨e1,e2,hj'⟩
    .cases e
    .cases e;rw[heo _ hne]at hp;obtain⟨rows',v',q1,q2,q3⟩:=hp;rcases tL q1 with⟨_,e,_⟩|⟨hk',q1'⟩
     .cases e
     .have hp':sj w (φ j) slots k x:=⟨rows',v',q1',q2,q3⟩
      exact⟨slots,ho,hp',fun e=>hk' (by rw[((p2 j sz slots k ho (e▸hp')).2)])⟩
    .rw [heo _ e1]at hp;exact⟨sl',hj',hp,fun e=>e2 ((p2 j sz' sl' k hj' (e▸hp)).1)⟩
   refine h.vb (hC.refl _ _) hren h.u6 h.sk h.nB ?_ ?_ ?_
   .intro j c hj;rcases hold j c hj with⟨rfl,rfl⟩|⟨rfl,rfl⟩|⟨e1,_,hj'⟩
    .refine .inr ⟨.inr rfl,?_⟩;rw[he];exact .aM (by assumption) rfl hbS hbK hbo rfl (by have:=aI sz hcap;simp only;omega) hrr hcap
    .refine .inr ⟨.inl hk,?_⟩;rw[heo _ hne];refine .nst hsz hl hS hK hown hext (by rw[dP];exact hfit) (fun i s hi=>?_) (by rw[dP];exact hv);rcases tL hi with⟨rfl,rfl,_⟩|⟨_,hi'⟩
     .exact ⟨_,h1,.eg hrc⟩
     .obtain ⟨v',q1,q2⟩:=hr i s hi';refine⟨v',q1,?_⟩;cases q2 with|nil=>exact .nil|bv h hS hK=>exact .bv h hS hK|eg h=>exact .eg (h.mono (hC.refl _ _) hren)
    .exact .inl ⟨hj',fun hown=>⟨rfl,((h.iR j c hj').2.bv hown).1⟩,h.D9 hj' fun _ _=>rfl⟩
   .intro i j a c ha hc hoa hoc hij
    have key:∀j c,bm [(nxt,some (.aM sz aq)),(id,some (.nst sz (slots.set dl (.eg nxt aq.length))))] hf j=some c->cX c=true->j≠nxt->(∃c',hf j=some c'/\cX c'=true)/\ext φ nxt ⟨b,addr,sz,ba.size,cap⟩ j=φ j:=by
     intro j c hj hc hjn;rcases hold j c hj with⟨e,_⟩|⟨rfl,rfl⟩|⟨_,_,hj'⟩
     .exact absurd e hjn
     .exact ⟨⟨_,ho,rfl⟩,heo _ hjn⟩
     .exact ⟨⟨c,hj',hc⟩,heo _ hjn⟩
    by_cases hi:i=nxt
    .subst hi;obtain⟨⟨c',q1,q2⟩,q3⟩:=key j c hc hoc fun e=>hij e.symm;rw[he,q3];exact fun e=>p1 j c' q1 q2 e.symm
    .obtain ⟨⟨a',q1,q2⟩,q3⟩:=key i a ha hoa hi;by_cases hj:j=nxt
     .subst hj;rw[he,q3];exact p1 i a' q1 q2
     .obtain ⟨⟨c',q4,q5⟩,q6⟩:=key j c hc hoc hj;rw[q3,q6];exact h.eR i j a' c' q1 q4 q2 q5 hij
   .intro j sz' sl' k x hj hp;obtain⟨tK,q1,q2,q3⟩:=hpat2 j sz' sl' k x hj hp;obtain⟨r1,r2⟩:=h.xe j sz' tK k x q1 q2;refine⟨fun i c hi hc=>?_,fun i sz2 sl2 k' hi hpi=>?_⟩
    .rcases hold i c hi with⟨rfl,rfl⟩|⟨rfl,rfl⟩|⟨e1,_,hi'⟩
     .rw [he];exact fun e=>q3 e.symm
     .rw [heo _ hne];exact r1 i _ ho rfl
     .rw [heo _ e1];exact r1 i c hi' hc
    .obtain ⟨sl3,q4,q5,_⟩:=hpat2 i sz2 sl2 k' x hi hpi;exact r2 i sz2 sl3 k' q4 q5
theorem Inv.Nb(h:Inv S K w0 Kn φ hf w){id id2 sz sz2 dl:Nat}{slots:List k8}{aq:List (List D)}(ho:hf id=some (.nst sz slots))(hs:slots[dl]?=some (.eg id2 aq.length))(h2:hf id2=some (.aM sz2 aq)):
  Inv S K w0 Kn φ (bm [(id,some (.nst sz (slots.set dl (.bv aq)))),(id2,none)] hf) w:=by
 obtain⟨hk,hro⟩:=h.iR id _ ho;obtain⟨hk2,hro2⟩:=h.iR id2 _ h2;have hne:id2≠id:=fun e=>by rw[e,ho]at h2;cases h2
 have hold:∀j c,bm [(id,some (.nst sz (slots.set dl (.bv aq)))),(id2,none)] hf j=some c->(j=id/\c=.nst sz (slots.set dl (.bv aq)))\/(j≠id/\j≠id2/\hf j=some c):=by
  intro j c hj;rw[bT]at hj;by_cases e:id=j
  .rw [if_pos e]at hj;exact .inl ⟨e.symm,(aa hj).symm⟩
  .rw [if_neg e,bT]at hj;by_cases e2:id2=j
   .rw [if_pos e2]at hj;cases hj
   .rw [if_neg e2,fP]at hj;exact .inr ⟨fun q=>e q.symm,fun q=>e2 q.symm,hj⟩
 have was:∀j c,bm [(id,some (.nst sz (slots.set dl (.bv aq)))),(id2,none)] hf j=some c->cX c=true->j≠id2/\∃c',hf j=some c'/\cX c'=true:=by
  intro j c hj hc;rcases hold j c hj with⟨rfl,rfl⟩|⟨_,e,hj'⟩
  .exact ⟨hne.symm,_,ho,rfl⟩
  .exact ⟨e,c,hj',hc⟩
 cases hro with
 |@nst _ _ aM hsz hl hS hK hown hext hfit hr hv=>
  obtain⟨v,h1,hsl⟩:=hr dl _ hs;have hcell:w.cell? ⟨(φ id).bY,(φ id).aR+dl,none⟩=some v:=(hown.cell _).trans h1
  obtain⟨hvb,hrw⟩:xF v=some (φ id2).bY/\H5 S w sz aq v (φ id2).bY:=by
   cases hsl with
   |eg hrc=>
    cases hro2 with
    |@aM _ _ ba hsz2 hl2 hS2 hK2 hown2 hext2 hfit2 hr2 hv2=>cases hrc with|@fy _ _ _ cap addr hk' hcap haddr hx hcc=>refine⟨rfl,addr,cap,ba,rfl,by rw[hl2];exact hsz2,hown2,hcap,by omega,?_⟩;have:=hr2.xx (addr:=addr) 0 aq.length (fun hlt=>by rw[haddr (by omega),hl2]);rw[hl2];simpa using this
  obtain⟨hS2,hK2,_⟩:=hro2.bv rfl
  have hpat2:∀j sz' sl' k x,bm [(id,some (.nst sz (slots.set dl (.bv aq)))),(id2,none)] hf j=some (.nst sz' sl')->sj w (φ j) sl' k x->(j=id/\k=dl/\x=(φ id2).bY)\/∃tK,hf j=some (.nst sz' tK)/\sj w (φ j) tK k x:=by
   intro j sz' sl' k x hj hp;rcases hold j _ hj with⟨rfl,e⟩|⟨e1,e2,hj'⟩
   .cases e;obtain⟨rows',v',q1,q2,q3⟩:=hp;rcases tL q1 with⟨rfl,_,_⟩|⟨hk',q1'⟩
    .refine .inl ⟨rfl,rfl,?_⟩;rw[hcell]at q2;obtain rfl:=aa q2;rw[hvb]at q3;exact(aa q3).symm
    .exact .inr ⟨slots,ho,rows',v',q1',q2,q3⟩
   .exact .inr ⟨sl',hj',hp⟩
  refine h.vb (hC.refl _ _) (Ren.refl _ _) h.u6 h.sk h.nB ?_ ?_ ?_
  .intro j c hj;rcases hold j c hj with⟨rfl,rfl⟩|⟨_,_,hj'⟩
   .refine .inr ⟨hk,.nst hsz hl hS hK hown hext (by rw[dP];exact hfit) (fun i s hi=>?_) (by rw[dP];exact hv)⟩;rcases tL hi with⟨rfl,rfl,_⟩|⟨_,hi'⟩
    .exact ⟨v,h1,.bv hrw hS2 hK2⟩
    .exact hr i s hi'
   .exact .inl ⟨hj',fun hown=>⟨rfl,((h.iR j c hj').2.bv hown).1⟩,h.D9 hj' fun _ _=>rfl⟩
  .intro i j a c ha hc hoa hoc hij;obtain⟨_,a',q1,q2⟩:=was i a ha hoa;obtain⟨_,c',q3,q4⟩:=was j c hc hoc;exact h.eR i j a' c' q1 q3 q2 q4 hij
  .intro j sz' sl' k x hj hp;refine⟨fun i c hi hc=>?_,fun i sz3 sl3 k' hi hpi=>?_⟩
   .obtain ⟨hi2,c',q1,q2⟩:=was i c hi hc;rcases hpat2 j sz' sl' k x hj hp with⟨_,_,rfl⟩|⟨tK,q3,q4⟩
    .exact h.eR i id2 c' _ q1 h2 q2 rfl hi2
    .exact (h.xe j sz' tK k x q3 q4).1 i c' q1 q2
   .rcases hpat2 j sz' sl' k x hj hp with⟨e1,e2,e3⟩|⟨tK,q3,q4⟩<;>rcases hpat2 i sz3 sl3 k' x hi hpi with⟨e4,e5,e6⟩|⟨sl4,q5,q6⟩
    .exact ⟨e4.trans e1.symm,e5.trans e2.symm⟩
    .exact absurd e3.symm ((h.xe i sz3 sl4 k' x q5 q6).1 id2 _ h2 rfl)
    .exact absurd e6.symm ((h.xe j sz' tK k x q3 q4).1 id2 _ h2 rfl)
    .exact (h.xe j sz' tK k x q3 q4).2 i sz3 sl4 k' q5 q6
theorem Inv.T7{w':World}(h:Inv S K w0 Kn φ hf w){id sz dl:Nat}{slots:List k8}{s':k8}{v:Value}{aM arr':Array Value}(ho:hf id=some (.nst sz slots))(hown:nw w (φ id).bY aM)(hown':nw w' (φ id).bY arr')(hsize':arr'.size=aM.size)
  (hother:∀b,b≠(φ id).bY->w'.heap[b]?=w.heap[b]?) (hsize:w'.heap.size=w.heap.size) (hfrz:∀a,w'.frozen? a=w.frozen? a) (hio:Io w w')
  (hget:∀i,i≠(φ id).aR+dl->arr'[i]?=aM[i]?) (hv:dl<slots.length->arr'[(φ id).aR+dl]?=some v) (hslot:hC S w S w'->zQ S K w' Kn φ sz s' v) (hs':∀aq,s'≠.bv aq):
  hC S w S w'/\Inv S K w0 Kn φ (bm [(id,some (.nst sz (slots.set dl s')))] hf) w':=by
 obtain⟨hk,h0⟩:=h.iR id _ ho;obtain⟨hS,hK,hlt⟩:=h0.bv rfl;have hs:hC S w S w':=⟨fun _ h=>h,fun b hb=>hother b (fun e=>hS (e▸hb))⟩
 have hold:∀j c,bm [(id,some (.nst sz (slots.set dl s')))] hf j=some c->(j=id/\c=.nst sz (slots.set dl s'))\/(j≠id/\hf j=some c):=by
  intro j c hj;rw[bT]at hj;by_cases e:id=j
  .rw [if_pos e]at hj;exact .inl ⟨e.symm,(aa hj).symm⟩
  .rw [if_neg e,fP]at hj;exact .inr ⟨fun q=>e q.symm,hj⟩
 have was:∀j c,bm [(id,some (.nst sz (slots.set dl s')))] hf j=some c->cX c=true->∃c',hf j=some c'/\cX c'=true:=by
  intro j c hj hc;rcases hold j c hj with⟨rfl,rfl⟩|⟨_,hj'⟩
  .exact ⟨_,ho,rfl⟩
  .exact ⟨c,hj',hc⟩
 have hpat2:∀j sz' sl' k x,bm [(id,some (.nst sz (slots.set dl s')))] hf j=some (.nst sz' sl')->sj w' (φ j) sl' k x->∃tK,hf j=some (.nst sz' tK)/\sj w (φ j) tK k x:=by
  intro j sz' sl' k x hj hp;rcases hold j _ hj with⟨rfl,e⟩|⟨e1,hj'⟩
  .cases e;obtain⟨rows',v',q1,q2,q3⟩:=hp;rcases tL q1 with⟨_,e,_⟩|⟨hk',q1'⟩
   .exact absurd e.symm (hs' rows')
   .refine ⟨slots,ho,rows',v',q1',?_,q3⟩;rw[hown.cell,<-hget _ (by omega),<-hown'.cell];exact q2
  .exact ⟨sl',hj',(sj.eC (hother _ (h.eR j id _ _ hj' ho rfl rfl e1))).1 hp⟩
 have hkeep:∀j sz' sl' k x,hf j=some (.nst sz' sl')->sj w (φ j) sl' k x->w'.heap[x]?=w.heap[x]?/\¬S x:=fun j sz' sl' k x hj hp=>⟨hother x fun e=>(h.xe j sz' sl' k x hj hp).1 id _ ho rfl e.symm,(h.IK hj hp).1⟩;refine⟨hs,h.vb hs (Ren.refl _ _) (fun b hb=>hsize▸h.u6 b hb) h.sk ?_ ?_ ?_ ?_⟩
 .exact ⟨h.nB.Gb,fun b hb=>(hother b (fun e=>hK (e▸hb))).trans (h.nB.nc b hb),hsize▸h.nB.grow,fun a ha=>(hfrz a).trans (h.nB.Bc a ha),h.nB.yK hother (fun a ha=>⟨arr',hown',by obtain⟨t1,e1⟩:=ha;obtain⟨t2,e2⟩:=hown;rw[e1]at e2;rw[hsize'];cases e2;rfl⟩),h.nB.io.trans hio⟩
 .intro j c hj;rcases hold j c hj with⟨rfl,rfl⟩|⟨e1,hj'⟩
  .refine .inr ⟨hk,?_⟩;cases h0 with
   |@nst _ _ arr0 hsz hl hS hK hown0 hext hfit hr hv0=>
    have ea:arr0=aM:=by obtain⟨t1,e1⟩:=hown0;obtain⟨t2,e2⟩:=hown;rw[e1]at e2;cases e2;rfl
    subst ea;refine .nst hsz hl hS hK hown' (hsize'.trans hext) (by rw[dP];exact hfit) (fun i s hi=>?_) (by rw[dP];exact hv0);rcases tL hi with⟨rfl,rfl,hlt⟩|⟨hne,hi'⟩
    .exact ⟨v,hv hlt,hslot hs⟩
    .obtain ⟨v',q1,q2⟩:=hr i s hi';refine⟨v',(hget _ (by omega)).trans q1,?_⟩;cases q2 with|nil=>exact .nil|@bv aq _ b q3 q4 q5=>exact .bv (q3.mono hs (hkeep j sz slots i b ho ⟨aq,v',hi',(hown.cell _).trans q1,q3.bY⟩).1) q4 q5|eg q3=>exact .eg (q3.mono hs (Ren.refl _ _))
  .exact .inl ⟨hj',fun hox=>⟨hother _ (h.eR j id c _ hj' ho hox rfl e1),((h.iR j c hj').2.bv hox).1⟩,fun sz' sl' eo k x hp=>by subst eo;exact hkeep j sz' sl' k x hj' hp⟩
 .intro i j a c ha hc hoa hoc hij;obtain⟨a',q1,q2⟩:=was i a ha hoa;obtain⟨c',q3,q4⟩:=was j c hc hoc;exact h.eR i j a' c' q1 q3 q2 q4 hij
 .intro j sz' sl' k x hj hp;obtain⟨tK,q1,q2⟩:=hpat2 j sz' sl' k x hj hp;obtain⟨r1,r2⟩:=h.xe j sz' tK k x q1 q2;refine⟨fun i c hi hc=>?_,fun i sz3 sl3 k' hi hpi=>?_⟩
  .obtain ⟨c',q3,q4⟩:=was i c hi hc;exact r1 i c' q3 q4
  .obtain ⟨sl4,q5,q6⟩:=hpat2 i sz3 sl3 k' x hi hpi;exact r2 i sz3 sl4 k' q5 q6
end
end Go.Ev
