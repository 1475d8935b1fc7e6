/- The abstract machine: deep data, cells, owned objects, operations and code, and their evaluation. Conditions: none, these are definitions. -/
import Derived.Orders
import Derived.Laws.CopyRow
open Array renaming getD->jG,getElem?_eq_none->fE,getElem?_eq_some_iff->bg
open BitVec renaming ofInt->bB
open Bool renaming false_eq_true->aS
open List renaming all_eq_true->bc,append_nil->bC,flatMap_cons->bi,flatten_cons->ed,getElem?_append_left->bM,getElem?_append_right->bP,getElem?_drop->bO,getElem?_eq_getElem->av,getElem?_eq_some_iff->ak,getElem?_map->aG,getElem?_take->eG,getElem_of_mem->cj,length_map->aN,length_set->ft,length_take->cF,map->l5,mem_append->ap,mem_cons->aM,mem_cons_of_mem->aC,mem_flatten->dH,mem_of_getElem?->aW,mem_singleton->am,nodup_append->bV,nodup_cons->fR,nodup_nil->fQ,range->aK,replicate->aw
open Nat renaming add_assoc->cM,add_zero->dM,le_refl->au,le_succ->bH,le_trans->e_,lt_of_lt_of_le->cg,lt_succ_self->aX,lt_trichotomy->m_,mul_le_mul_right->aI,mul_one->lj,zero_add->bK,zero_mul->jt
open Option renaming bind_eq_some_iff->ff,map_eq_some_iff->aF
open Option.some renaming inj->aa,injEq->bl
open Prod.mk renaming inj->ad
namespace Go.Ev
inductive D where
 |lit (v:Value)
 |sl (sz:Nat) (ao:List (List D))
 |pt (cells:List D)
 |fn (f:FuncId) (caps:List D)
 deriving Inhabited
inductive C where
 |d (x:D)
 |fh (sz id off len:Nat)
 |ep (id di off:Nat)
 |op (id off:Nat)
 |oN (f:FuncId) (caps:List C)
 |om (id:Nat)
 deriving Inhabited
inductive TV where
 |c (x:C)
 |agg (cells:List C)
 |iN (xs:List TV)
 deriving Inhabited
inductive kT where
 |nil
 |bq (ao:List (List D))
 |dX (id len:Nat)
 deriving Inhabited
inductive Ob where
 |aL (sz:Nat) (ao:List (List D))
 |py (sz:Nat) (ao:List (List D))
 |box (cells:List C)
 |oe (cells:List D)
 |map (ka va:Bool) (es:List (List Value×List D×Nat)) (fc:Nat)
 |cap (sz:Nat) (ao:List (List D)) (cp:Nat)
 |nst (sz:Nat) (slots:List kT)
 deriving Inhabited
inductive T where
 |d (x:D)
 |sl (sz:Nat) (ao:List (List D))
 |pt (cells:List T)
 |zD (sz:Nat) (ao:List (Option (List (List D))))
 |uE
 deriving Inhabited
inductive A where
 |d (x:D)
 |agg (cells:List D)
 |mt (t:T)
 deriving Inhabited
inductive R where
 |c (t:T)
 |agg (cells:List T)
 deriving Inhabited
def d_:Value->Bool
 |.bool _|.int _ _|.float _ _|.string _|.pointer none|.slice none 0 0|.map none|.nilFunc|.nilIface=>true
 |_=>false
def DG:Nat:=2147483648
def cq{α:Type}:List (Nat×α)->Nat->Option α
 |[],_=>none
 |(a,x)::r,k=>bif a==k then some x else cq r k
abbrev jJ:=List (Nat×TV)
abbrev bF:=List (Nat×Option Ob)
abbrev fx:=List (Nat×Option Ob)
def aB(h:bF)(id:Nat):Option Ob:=(cq h id).join
inductive Kd where
 |b
 |i (k:IntKind)
 |s
 deriving Inhabited,DecidableEq
inductive K where
 |mv
 |pick
 |alloc (zero:List Value)
 |box
 |build (zero:List Value) (places:List (Nat×Nat))
 |buildSlice (sz len:Nat) (zero:List Value) (places:List Nat)
 |load (agg:Bool) (n:Nat)
 |store (n:Nat)
 |nilCheck
 |Ad (op:BinOp)
 |uG (neg:Bool)
 |qL (kind:Nat) (neg:Bool)
 |zf (neg:Bool) (ks:List Kd)
 |un (op:UnOp)
 |vw (k:IntKind)
 |sP
 |IF (f:FuncId)
 |makeSlice (zero:List Value)
 |slice (str:Bool) (sz:Nat) (lo hi:Bool)
 |fieldAddr (off n:Nat)
 |field (agg:Bool) (off n:Nat)
 |indexAddr (aL:Option Nat) (sz:Nat)
 |px
 |index (agg:Bool) (len sz:Nat)
 |extract (i:Nat)
 |len (str:Bool)
 |uB (isMax:Bool)
 |append (sz:Nat)
 |copy (sz:Nat)
 |clear (zero:List Value)
 |Bv (sz:Nat)
 |MA
 |Ss (zero:List Value)
 |RL
 |call (ro:Bool) (j8:List Bool)
 |makeMap (ka va:Bool)
 |lookup (ka:Bool) (ks:List Kd) (va:Bool) (zero:List Value) (ok:Bool)
 |mapEntry (ka:Bool) (ks:List Kd) (va:Bool) (zero:List Value)
 |entryStore (va:Bool) (m:Nat)
 |AI (szi:Nat)
 |t7
 |gj
 deriving Inhabited
structure nQ where
 dst:Option Nat
 k:K
 args:List Operand
 guard:Option (Nat×Bool)
 deriving Inhabited
inductive CC where
 |skip
 |region (ops:List nQ) (mQ:List Nat)
 |drawn (ops:List nQ) (dyn:List (Nat×Nat)) (mQ:List Nat)
 |seq (a b:CC)
 |cond (c:Operand) (a b:CC)
 |block (id:Nat) (a:CC)
 |loop (mQ:List Nat) (a:CC)
 |exit (id:Nat)
 |ret
 |gj
 deriving Inhabited
structure St where
 dD:jJ
 heap:bF
 next:Nat
 gh:List C
 deriving Inhabited
inductive rU where
 |normal
 |exit (id:Nat)
 |ret
 deriving Inhabited,DecidableEq
def Qu:Nat->Option D:=fun g => if g = 0 then some (.pt ([0, 1, 28, 2, 29, 14, 24, 3, 30, 22, 20, 15, 25, 17, 4, 8, 31, 27, 13, 23, 21, 19, 16, 7, 26, 12, 18, 6, 11, 5, 10, 9].map fun (x : Int) => .lit (.int .u8 x))) else none
def cv:Value->Option TV
 |.agg cs=>if cs.toList.all d_ then some (.agg (cs.toList.map fun v=>.d (.lit v)))else none
 |v=>if d_ v then some (.c (.d (.lit v)))else none
def kM(e:jJ):Operand->Option TV
 |.tmp t=>cq e t
 |.const v=>cv v
 |.global g=>(Qu g).map fun d=>.c (.d d)
 |.func f=>some (.c (.d (.fn f [])))
def cellsOf:TV->Option (List C)
 |.c x=>some [x]
 |.agg cs=>some cs
 |.iN _=>none
def fk:List Value->List C:=l5 fun v=>.d (.lit v)
def cB:List Value->List D:=l5 D.lit
def aU{α:Type}(l:List α)(off:Nat)(p:List α):List α:=l.take off++p++l.drop (off+p.length)
def mU(cells:List C):List ((Nat×Nat)×TV)->Option (List C)
 |[]=>some cells
 |((off,n),v)::r=>match cellsOf v with|some cs=>if cs.length=n/\off+n<=cells.length then mU (aU cells off cs) r else none|none=>none
def mo{α:Type}(sz:Nat):Nat->List α->List (List α)
 |0,_=>[]
 |n+1,l=>l.take sz::mo sz n (l.drop sz)
def J8(sz:Nat):kT->Option D
 |.nil=>some (.lit (.slice none 0 0))
 |.bq ao=>some (.sl sz ao)
 |.dX _ _=>none
def qd(sz:Nat):List kT->Option (List (List D))
 |[]=>some []
 |s::r=>match J8 sz s,qd sz r with|some x,some l=>some ([x]::l)|_,_=>none
def O3:kT->Option (Option (List (List D)))
 |.nil=>some none
 |.bq ao=>some (some ao)
 |.dX _ _=>none
def uq:List kT->Option (List (Option (List (List D))))
 |[]=>some []
 |s::r=>match O3 s,uq r with|some x,some l=>some (x::l)|_,_=>none
def mK:Option (List (List D))->kT
 |none=>.nil
 |some ao=>.bq ao
mutual
def dV(h:bF):Nat->C->Option (D×List Nat)
 |_,.d x=>some (x,[])
 |_,.fh sz id off len=>match aB h id with|some (.aL _ ao)|some (.py _ ao)=>if off+len<=ao.length then some (.sl sz ((ao.drop off).take len),[id])else none|some (.nst szi slots)=>if off=0/\len=slots.length then(match qd szi slots with|some ao=>some (.sl sz ao,[id])|none=>none)else none|_=>none
 |_,.ep id di off=>
  match aB h id with
  |some (.aL _ ao)|some (.py _ ao)=>match ao[di]?with|some r=>if off<=r.length then some (.pt (r.drop off),[id])else none|none=>none
  |_=>none
 |0,_=>none
 |n+1,.op id off=>
  match aB h id with
  |some (.oe cells)=>if off<=cells.length then some (.pt (cells.drop off),[id])else none
  |some (.box cells)=>match fS h n cells with|some (ds,aA)=>if off<=ds.length then some (.pt (ds.drop off),id::aA)else none|none=>none
  |_=>none
 |n+1,.oN f caps=>match fS h n caps with|some (ds,aA)=>some (.fn f ds,aA)|none=>none
 |_+1,.om _=>none
def fS(h:bF):Nat->List C->Option (List D×List Nat)
 |_,[]=>some ([],[])
 |0,_=>none
 |n+1,c::cs=>match dV h n c,fS h n cs with|some (x,a),some (xs,b)=>some (x::xs,a++b)|_,_=>none
end
def j5(h:bF)(all:List Nat)(id:Nat):Option Ob:=
 match aB h id with
 |some (.aL sz ao)=>some (.py sz ao)
 |some (.py sz ao)=>some (.py sz ao)
 |some (.oe cells)=>some (.oe cells)
 |some (.box cells)=>match fS h 300 cells with|some (ds,aA)=>if aA.all (fun i=>all.contains i)then some (.oe ds)else none|none=>none
 |some (.map _ _ _ _)=>none
 |some (.cap _ _ _)=>none
 |some (.nst szi slots)=>match qd szi slots with|some ao=>some (.py 1 ao)|none=>none
 |none=>none
def dW(h:bF)(all:List Nat):List Nat->Option fx
 |[]=>some []
 |id::r=>match j5 h all id,dW h all r with|some o,some u=>some ((id,some o)::u)|_,_=>none
def dP(h:bF):List C->Option (List D×List Nat)
 |[]=>some ([],[])
 |c::cs=>match dV h 300 c,dP h cs with|some (x,a),some (xs,b)=>some (x::xs,a++b)|_,_=>none
mutual
def eH(h:bF):Nat->C->Option (T×List Nat×List Nat)
 |_,.d x=>some (.d x,[],[])
 |_,.fh sz id off len=>match aB h id with|some (.aL _ ao)=>if off+len<=ao.length then some (.sl sz ((ao.drop off).take len),[id],[id])else none|some (.py _ ao)=>if off+len<=ao.length then some (.d (.sl sz ((ao.drop off).take len)),[],[id])else none|some (.nst szi slots)=>if off=0/\len=slots.length then(match uq slots with|some ao=>some (.zD szi ao,[id],[id])|none=>none)else none|_=>none
 |0,_=>none
 |n+1,.op id 0=>
  match aB h id with
  |some (.box cells)=>match iE h n cells with|some (ts,bq,aA)=>some (.pt ts,id::bq,id::aA)|none=>none
  |some (.oe cells)=>some (.d (.pt cells),[],[id])
  |_=>none
 |_+1,_=>none
def iE(h:bF):Nat->List C->Option (List T×List Nat×List Nat)
 |_,[]=>some ([],[],[])
 |0,_=>none
 |n+1,c::cs=>match eH h n c,iE h n cs with|some (x,a,i),some (xs,b,j)=>some (x::xs,a++b,i++j)|_,_=>none
end
mutual
def kU(nxt:Nat):T->C×fx×Nat
 |.d x=>(.d x,[],nxt+1)
 |.uE=>(.d (.lit .nilFunc),[],nxt+1)
 |.sl sz ao=>(.fh sz nxt 0 ao.length,[(nxt,some (.aL sz ao))],nxt+1)
 |.zD sz ao=>(.fh 1 nxt 0 ao.length,[(nxt,some (.nst sz (ao.map mK)))],nxt+1)
 |.pt ts=>let(cs,u,m):=iA (nxt+1) ts;(.op nxt 0,(nxt,some (.box cs))::u,m)
def iA(nxt:Nat):List T->List C×fx×Nat
 |[]=>([],[],nxt)
 |t::ts=>let(c,u,m):=kU nxt t;let(cs,v,k):=iA m ts;(c::cs,u++v,k)
end
def wN(nxt:Nat):R->TV×fx×Nat
 |.c t=>let(c,u,m):=kU nxt t;(.c c,u,m)
 |.agg ts=>let(cs,u,m):=iA nxt ts;(.agg cs,u,m)
def ij(nxt:Nat):List R->List TV×fx×Nat
 |[]=>([],[],nxt)
 |r::rs=>let(v,u,m):=wN nxt r;let(vs,w,k):=ij m rs;(v::vs,u++w,k)
abbrev Call:=FuncId->List A->Option (List R×List T)
abbrev GC:=Option (TV×fx×List Nat×Nat)
def lv(v:Value):TV:=.c (.d (.lit v))
def rZ(op:BinOp):Value->Value->Option Value
 |.int k a,.int k' b=>
  match op with
  |.shl=>if b<0 then none else some (.int k (k.wrap (a*2^(min b.toNat k.bits))))
  |.shr=>if b<0 then none else some (.int k (a.fdiv (2^(min b.toNat k.bits))))
  |op=>if k=k' then
   (match op with
   |.add=>some (.int k (k.wrap (a+b)))
   |.sub=>some (.int k (k.wrap (a-b)))
   |.mul=>some (.int k (k.wrap (a*b)))
   |.quo=>if b=0 then none else some (.int k (k.wrap (a.tdiv b)))
   |.rem=>if b=0 then none else some (.int k (a.tmod b))
   |.and=>some (.int k (k.wrap (bB k.bits a&&&bB k.bits b).toNat))
   |.or=>some (.int k (k.wrap (bB k.bits a|||bB k.bits b).toNat))
   |.xor=>some (.int k (k.wrap (bB k.bits a^^^bB k.bits b).toNat))
   |.andNot=>some (.int k (k.wrap (bB k.bits a&&&~~~bB k.bits b).toNat))
   |.eql=>some (.bool (a==b))
   |.neq=>some (.bool (a !=b))
   |.lss=>some (.bool (a<b))
   |.leq=>some (.bool (a<=b))
   |.gtr=>some (.bool (a>b))
   |.geq=>some (.bool (a>=b))
   |_=>none)else none
 |.float k a,.float k' b=>
  if k=k' then
   match op with|.add=>(k.format.add a b).map (.float k)|.sub=>(k.format.sub a b).map (.float k)|.mul=>(k.format.mul a b).map (.float k)|.quo=>(k.format.div a b).map (.float k)|.eql=>some (.bool (k.format.order a b==some .eq))|.neq=>some (.bool (k.format.order a b !=some .eq))|.lss=>some (.bool (k.format.order a b==some .lt))|.leq=>some (.bool (k.format.order a b==some .lt||k.format.order a b==some .eq))|.gtr=>some (.bool (k.format.order a b==some .gt))|.geq=>some (.bool (k.format.order a b==some .gt||k.format.order a b==some .eq))|_=>none
  else none
 |.string x,.string y=>match op with|.add=>if((x.size+y.size:Nat):Int)>IntKind.i64.max then none else some (.string (x++y))|.eql=>some (.bool (x.toList==y.toList))|.neq=>some (.bool !(x.toList==y.toList))|.lss=>some (.bool (Op.bytesLess x.toList y.toList))|.leq=>some (.bool (Op.bytesLess x.toList y.toList||x.toList==y.toList))|.gtr=>some (.bool !(Op.bytesLess x.toList y.toList||x.toList==y.toList))|.geq=>some (.bool !(Op.bytesLess x.toList y.toList))|_=>none
 |_,_=>none
def Sz(op:UnOp):Value->Option Value
 |.bool b=>match op with|.not=>some (.bool !b)|_=>none
 |.int k n=>match op with|.neg=>some (.int k (k.wrap (0-n)))|.xor=>some (.int k (k.wrap (bB k.bits (if k.signed then-1 else k.max)^^^bB k.bits n).toNat))|_=>none
 |.float k b=>match op with|.neg=>some (.float k (Op.negFloat k b))|_=>none
 |_=>none
def EG:Kd->Value->Value->Option Bool
 |.i q,.int k a,.int k' b=>if k=q/\k'=q then some (a==b)else none
 |.b,.bool a,.bool b=>some (a==b)
 |.s,.string a,.string b=>some (a==b)
 |_,_,_=>none
def gB:List Kd->List Value->List Value->Option Bool
 |[],[],[]=>some true
 |k::ks,x::xs,y::ys=>match EG k x y,gB ks xs ys with|some a,some b=>some (a&&b)|_,_=>none
 |_,_,_=>none
def lJ:List C->Option (List Value)
 |[]=>some []
 |.d (.lit v)::r=>match lJ r with|some l=>some (v::l)|none=>none
 |_=>none
def SE(isMax:Bool):Value->Value->Option Value
 |.int k x,.int k' y=>if k=k' then some (.int k (if isMax then(if y>x then y else x)else(if y<x then y else x)))else none
 |.float k x,.float k' y=>
  if k=k' then match k.format.order x y with|none=>none|some .lt=>some (.float k (if isMax then y else x))|some .gt=>some (.float k (if isMax then x else y))|some .eq=>some (.float k (if isMax then(if(k.decode x).neg then y else x)else(if(k.decode x).neg then x else y)))
  else none
 |_,_=>none
def O9(isMax:Bool):Value->List (Option TV)->Option Value
 |x,[]=>some x
 |x,some (.c (.d (.lit y)))::r=>match SE isMax x y with|some z=>O9 isMax z r|none=>none
 |_,_=>none
def DJ(agg:Bool)(n:Nat)(cells:List C):Option TV:=if agg then(if n<=cells.length then some (.agg (cells.take n))else none)else match cells with|x::_=>some (.c x)|[]=>none
def Pb(agg:Bool)(n:Nat)(cells:List D):Option TV:=if agg then(if n<=cells.length then some (.agg ((cells.take n).map .d))else none)else match cells with|x::_=>some (.c (.d x))|[]=>none
def h_(agg:Bool)(n:Nat)(p:C)(h:bF):Option (TV×List Nat):=
 match p with
 |.d (.pt cells)=>match Pb agg n cells with|some v=>some (v,[])|none=>none
 |.ep id di off=>
  match aB h id with
  |some (.aL _ ao)|some (.py _ ao)=>
   match ao[di]?with
   |some r=>match Pb agg n (r.drop off)with|some v=>some (v,[id])|none=>none
   |none=>none
  |_=>none
 |.op id off=>
  match aB h id with
  |some (.box cells)=>match DJ agg n (cells.drop off)with|some v=>some (v,[id])|none=>none
  |some (.oe cells)=>match Pb agg n (cells.drop off)with|some v=>some (v,[id])|none=>none
  |_=>none
 |_=>none
def rB(id di sz:Nat)(slots:List kT)(cs:List C)(h:bF):Option (fx×List Nat):=
 match cs with
 |[.d (.lit (.slice none 0 0))]=>some ([(id,some (.nst sz (slots.set di .nil)))],[id])
 |[.fh sz' id2 0 len]=>match aB h id2 with|some (.aL _ ao)=>if sz'=sz/\len=ao.length/\id2≠id then some ([(id,some (.nst sz (slots.set di (.bq ao)))),(id2,none)],[id,id2])else none|_=>none
 |_=>none
def lA(agg:Bool)(n:Nat)(p:C)(h:bF)(nxt:Nat):GC:=
 match p with
 |.ep id di 0=>
  match aB h id with
  |some (.nst sz slots)=>if agg=false/\n=1 then
   (match slots[di]?with
   |some .nil=>some (.c (.d (.lit (.slice none 0 0))),[],[id],nxt)
   |some (.bq ao)=>some (.c (.fh sz nxt 0 ao.length),[(nxt,some (.aL sz ao)),(id,some (.nst sz (slots.set di (.dX nxt ao.length))))],[id],nxt+1)
   |_=>none)else none
  |_=>none
 |_=>none
def mb(n:Nat)(p:C)(v:TV)(h:bF):Option (fx×List Nat):=
 match cellsOf v with
 |none=>none
 |some cs=>
  if cs.length=n then
   match p with
   |.ep id di off=>
    match aB h id with
    |some (.aL sz ao)=>
     match ao[di]?,dP h cs with
     |some r,some (ds,aA)=>match dW h aA aA with|some u=>if off+n<=r.length/\aA.contains id=false then some ((id,some (.aL sz (ao.set di (aU r off ds))))::u,id::aA)else none|none=>none
     |_,_=>none
    |some (.nst sz slots)=>if off=0/\n=1/\di<slots.length then rB id di sz slots cs h else none
    |_=>none
   |.op id off=>match aB h id with|some (.box cells)=>if off+n<=cells.length then some ([(id,some (.box (aU cells off cs)))],[id])else none|_=>none
   |_=>none
  else none
def cA:Option TV->Option Int
 |some (.c (.d (.lit (.int _ n))))=>some n
 |_=>none
def fL(str:Bool)(sz:Nat)(x:C)(lo hi:Option Int):Option C:=
 if str then match x with
 |.d (.lit (.string s))=>
  let h:=hi.getD s.size;let l:=lo.getD 0
  if 0<=l/\l<=h/\h<=s.size then some (.d (.lit (.string (s.extract l.toNat h.toNat))))else none
 |_=>none
 else match x with
 |.d (.lit (.slice none 0 0))=>if 0<=lo.getD 0/\lo.getD 0<=hi.getD 0/\hi.getD 0<=0 then some x else none
 |.fh sz' id off len=>
  let h:=hi.getD len;let l:=lo.getD 0
  if sz'=sz/\0<=l/\l<=h/\h<=len then some (.fh sz id (off+l.toNat) (h.toNat-l.toNat))else none
 |.d (.sl sz' ao)=>
  let h:=hi.getD ao.length;let l:=lo.getD 0
  if sz'=sz/\0<=l/\l<=h/\h<=ao.length then some (.d (.sl sz ((ao.drop l.toNat).take (h.toNat-l.toNat))))else none
 |_=>none
def nL(str:Bool)(sz:Nat)(x:C)(l u:Int)(h:bF):Option (C×List Nat):=
 match str,x with
 |false,.fh sz' id off _=>match aB h id with|some (.aL _ ao)=>if sz'=sz/\0<=l/\l<=u/\off+u.toNat<=ao.length then some (.fh sz id (off+l.toNat) (u.toNat-l.toNat),[id])else none|some (.cap _ _ cp)=>if sz'=sz/\0<=l/\l<=u/\off+u.toNat<=cp then some (.fh sz id (off+l.toNat) (u.toNat-l.toNat),[id])else none|_=>none
 |_,_=>none
def L3(sz:Nat)(x:C)(l u m:Int)(nxt:Nat):Option C:=match x with|.fh sz' _ _ len=>if sz'=sz/\0<=l/\l<=u/\u<=m/\m<=len then some (.fh sz nxt 0 (u.toNat-l.toNat))else none|_=>none
def oY(zero:List Value)(x:C)(h:bF):Option (fx×List Nat):=
 match x with
 |.fh sz id off len=>match aB h id with|some (.aL _ ao)=>if sz=zero.length/\off+len<=ao.length then some ([(id,some (.aL sz (aU ao off (aw len (cB zero)))))],[id])else none|_=>none
 |_=>none
def j_(off n:Nat):C->Option C
 |.op id o=>some (.op id (o+off))
 |.ep id r o=>some (.ep id r (o+off))
 |.d (.pt cells)=>if off+n<=cells.length then some (.d (.pt ((cells.drop off).take n)))else none
 |_=>none
def iH(aL:Option Nat)(sz:Nat)(x:C)(i:Int):Option C:=
 match aL with
 |none=>match x with|.fh sz' id off len=>if 0<=i/\i<len/\sz'=sz then some (.ep id (off+i.toNat) 0)else none|.d (.sl sz' ao)=>if 0<=i/\sz'=sz then(match ao[i.toNat]?with|some r=>some (.d (.pt r))|none=>none)else none|_=>none
 |some n=>
  if 0<=i/\i<n then
   match x with|.op id o=>some (.op id (o+i.toNat*sz))|.ep id r o=>some (.ep id r (o+i.toNat*sz))|.d (.pt cells)=>if i.toNat*sz+sz<=cells.length then some (.d (.pt ((cells.drop (i.toNat*sz)).take sz)))else none|_=>none
  else none
def ud:Bool->C->Option Int
 |true,.d (.lit (.string s))=>some s.size
 |false,.d (.lit (.slice none 0 0))=>some 0
 |false,.fh _ _ _ len=>some len
 |false,.d (.sl _ ao)=>some ao.length
 |_,_=>none
def jb(sz:Nat)(h:bF):C->Option (List (List D)×List Nat)
 |.d (.lit (.slice none 0 0))=>some ([],[])
 |.d (.sl sz' ao)=>if sz'=sz then some (ao,[])else none
 |.fh sz' id off len=>match aB h id with|some (.aL _ ao)|some (.py _ ao)=>if sz'=sz/\off+len<=ao.length then some ((ao.drop off).take len,[id])else none|_=>none
 |_=>none
def oh(sz:Nat)(s x:C)(h:bF)(nxt:Nat):GC:=
 match jb sz h x with
 |none=>none
 |some (new,aA)=>
  match s with
  |.d (.lit (.slice none 0 0))=>
   if new.length<=DG then
    match new with|[]=>some (.c s,[],aA,nxt)|new=>some (.c (.fh sz nxt 0 new.length),[(nxt,some (.aL sz new))],aA,nxt+1)
   else none
  |.fh sz' id off len=>
   match aB h id with
   |some (.aL _ ao)=>
    if sz'=sz/\off+len<=ao.length/\len+new.length<=DG then
     some (.c (.fh sz nxt 0 (len+new.length)),[(id,none),(nxt,some (.aL sz ((ao.drop off).take len++new++ao.drop (off+len+new.length))))],id::aA,nxt+1)
    else none
   |_=>none
  |_=>none
def oX(sz:Nat)(dst src:C)(h:bF):Option (Int×fx×List Nat):=
 match dst,src with
 |.fh sz' id off len,.fh sz2 id2 off2 len2=>
  match aB h id,aB h id2 with
  |some (.cap _ ao cp),some (.aL _ rows2)=>
   if sz'=sz/\sz2=sz/\off<=ao.length/\off2+min len2 len<=rows2.length then
    some ((min len2 len:Nat),[(id,some (.cap sz (aU ao off ((rows2.drop off2).take (min len2 len))) cp))],[id,id2])
   else none
  |some (.cap _ ao cp),some (.cap _ rows2 _)=>
   if sz'=sz/\sz2=sz/\off<=ao.length/\off2+min len2 len<=rows2.length then
    some ((min len2 len:Nat),[(id,some (.cap sz (aU ao off ((rows2.drop off2).take (min len2 len))) cp))],[id,id2])
   else none
  |_,_=>none
 |_,_=>none
def A0(zero:List Value)(x:C)(k:Int)(h:bF)(nxt:Nat):GC:=
 match x with
 |.fh sz' id off len=>
  match aB h id with
  |some (.cap _ ao cp)=>
   if sz'=zero.length/\0<=k/\len+k.toNat<=DG/\off+len<=ao.length/\cp<off+len+k.toNat then
    some (.c (.fh zero.length nxt 0 (len+k.toNat)),[(nxt,some (.aL zero.length ((ao.drop off).take len++aw k.toNat (cB zero))))],[id],nxt+1)
   else none
  |_=>none
 |_=>none
def ze(x:C)(h:bF):Option (Nat×List Nat):=
 match x with
 |.fh _ id off _=>match aB h id with|some (.cap _ _ cp)=>some (cp-off,[id])|_=>none
 |_=>none
def zd(x y:C)(h:bF):Option (List Nat):=
 match x,y with
 |.fh _ a _ _,.fh _ b _ _=>match aB h a,aB h b with|some (.aL _ _),some (.cap _ _ cp)=>if a≠b/\0<cp then some [a,b]else none|_,_=>none
 |_,_=>none
def mn(sz:Nat)(dst src:C)(h:bF):Option (Int×fx×List Nat):=
 match jb sz h src,dst with
 |some (_,aA),.d (.lit (.slice none 0 0))=>some (0,[],aA)
 |some (new,aA),.fh sz' id off len=>
  match aB h id with
  |some (.aL _ ao)=>
   if sz'=sz/\off+len<=ao.length then
    some ((min new.length len:Nat),[(id,some (.aL sz (aU ao off (new.take len))))],id::aA)
   else none
  |_=>none
 |_,_=>none
def gu(h:bF):List TV->List Bool->Option (List A×List Nat×List (C×List Nat×List Nat))
 |[],_=>some ([],[],[])
 |v::vs,ms=>
  match gu h vs ms.tail with
  |none=>none
  |some (as,aA,lent)=>
   if ms.headD false then
    match v with
    |.c c=>match eH h 300 c with|some (t,bq,rd)=>some (.mt t::as,aA,(c,bq,rd)::lent)|none=>none
    |_=>none
   else match v with
    |.c c=>match dV h 300 c with|some (x,i)=>some (.d x::as,i++aA,lent)|none=>none
    |.agg cs=>match dP h cs with|some (xs,i)=>some (.agg xs::as,i++aA,lent)|none=>none
    |.iN _=>none
def eV(nxt:Nat):List (C×List Nat×List Nat)->List T->Option (fx×Nat)
 |[],[]=>some ([],nxt)
 |(_,[],_)::r,.d _::ts=>eV nxt r ts
 |(.op id 0,bq,_)::r,.pt ts'::ts=>match eV (iA nxt ts').2.2 r ts with|some (w,k)=>if bq.contains id then some ((id,some (.box (iA nxt ts').1))::(iA nxt ts').2.1++bq.map (fun i=>(i,none))++w,k)else none|none=>none
 |(.fh sz id 0 len,bq,_)::r,.sl sz' ao::ts=>
  if ao.length=len/\sz'=sz/\bq=[id]then
   match eV nxt r ts with|some (w,k)=>some ((id,some (.aL sz ao))::w,k)|none=>none
  else none
 |(.fh sz id 0 len,bq,_)::r,.zD szi ao::ts=>
  if ao.length=len/\sz=1/\bq=[id]then
   match eV nxt r ts with|some (w,k)=>some ((id,some (.nst szi (ao.map mK)))::w,k)|none=>none
  else none
 |(_,bq,_)::r,.uE::ts=>match eV nxt r ts with|some (w,k)=>some (bq.map (fun i=>(i,none))++w,k)|none=>none
 |_,_=>none
def yM:R->Bool
 |.c (.d (.lit _))=>true
 |.agg ts=>ts.all fun|.d (.lit _)=>true|_=>false
 |_=>false
def tU:List TV->TV
 |[v]=>v
 |vs=>.iN vs
def eF{α:Type}:List (Option α)->Option (List α)
 |[]=>some []
 |some x::r=>match eF r with|some xs=>some (x::xs)|none=>none
 |none::_=>none
def eL(h:bF):List (C×List Nat×List Nat)->Bool
 |[]=>true
 |(.fh _ id off len,_)::r=>(match aB h id with|some (.aL _ ao)=>off==0&&len==ao.length|some (.nst _ slots)=>off==0&&len==slots.length|_=>false)&&eL h r
 |_::r=>eL h r
def uF(call:Call)(ro:Bool)(j8:List Bool)(f:Option TV)(vs:List (Option TV))(h:bF)(nxt:Nat):GC:=
 match(match f with|some (.c (.d (.fn f caps)))=>some (f,caps.map C.d)|some (.c (.oN f caps))=>some (f,caps)|_=>none),eF vs with
 |some (f,caps),some vs=>
  match gu h (vs++caps.map TV.c) j8 with
  |none=>none
  |some (as,aA,lent)=>
   if eL h lent/\(lent.flatMap (·.2.1)).Nodup/\(lent.flatMap (·.2.1)).all (fun i=>!aA.contains i)then
    match call f as with
    |none=>none
    |some (rs,outs)=>
     if ro then
      if rs.all yM/\lent.isEmpty/\outs.isEmpty then
       let(vs,u,m):=ij nxt rs
       some (tU vs,u,aA,m)
      else none
     else
      match dW h aA aA with
      |none=>none
      |some fu=>
       match eV nxt lent outs with
       |none=>none
       |some (bu,m)=>
        let(vs,u,k):=ij m rs
        some (tU vs,u++bu++fu,aA++lent.flatMap (·.2.2),k)
   else none
 |_,_=>none
def p6:Nat->C->Option Bool
 |0,.d (.lit (.slice none 0 0))=>some true
 |0,.d (.sl _ _)|0,.fh _ _ _ _=>some false
 |1,.d (.lit (.pointer none))=>some true
 |1,.d (.pt _)|1,.ep _ _ _|1,.op _ _=>some false
 |2,.d (.lit .nilFunc)=>some true
 |2,.d (.fn _ _)|2,.oN _ _=>some false
 |_,_=>none
def zi:List C->Option (List D)
 |[]=>some []
 |.d x::r=>match zi r with|some l=>some (x::l)|none=>none
 |_=>none
abbrev sY:=List Value×List D×Nat
def mT(ks:List Kd)(key:List Value):List sY->Nat->Option (Option Nat)
 |[],_=>some none
 |e::r,i=>match gB ks key e.1 with|some true=>some (some i)|some false=>mT ks key r (i+1)|none=>none
def pf(va:Bool)(ds:List D):Option TV:=if va then some (.agg (ds.map .d))else match ds with|[x]=>some (.c (.d x))|_=>none
def Lk:Kd->Value->Bool
 |.i q,.int k _=>decide (k=q)
 |.b,.bool _=>true
 |.s,.string _=>true
 |_,_=>false
def zG:List Kd->List Value->Bool
 |[],[]=>true
 |k::ks,x::xs=>Lk k x&&zG ks xs
 |_,_=>false
def oQ(ka:Bool)(ks:List Kd):TV->Option (List Value)
 |.agg cs=>if ka=true/\cs.length=ks.length then(match lJ cs with|some l=>if zG ks l=true then some l else none|none=>none)else none
 |.c x=>if ka=false/\ks.length=1 then(match lJ [x]with|some l=>if zG ks l=true then some l else none|none=>none)else none
 |.iN _=>none
def iv(ka:Bool)(ks:List Kd)(va:Bool)(zero:List Value)(ok:Bool)(m:C)(k:TV)(h:bF):Option (TV×List Nat):=
 match m,oQ ka ks k with
 |.d (.lit (.map none)),some _=>match pf va (cB zero)with|some v=>some (if ok then .iN [v,lv (.bool false)]else v,[])|none=>none
 |.om id,some key=>
  match aB h id with
  |some (.map ka' va' es _)=>
   if ka'=ka/\va'=va then
    match mT ks key es 0 with
    |some (some i)=>match pf va (es.getD i default).2.1 with|some v=>some (if ok then .iN [v,lv (.bool true)]else v,[id])|none=>none
    |some none=>match pf va (cB zero)with|some v=>some (if ok then .iN [v,lv (.bool false)]else v,[id])|none=>none
    |none=>none
   else none
  |_=>none
 |_,_=>none
def mW(ka:Bool)(ks:List Kd)(va:Bool)(zero:List Value)(m:C)(k:TV)(h:bF):Option (TV×fx×List Nat):=
 match m,oQ ka ks k with
 |.om id,some key=>
  match aB h id with
  |some (.map ka' va' es fc)=>
   if ka'=ka/\va'=va then
    match mT ks key es 0 with
    |some (some i)=>match pf va (es.getD i default).2.1 with|some v=>some (.iN [v,lv (.int .i64 (es.getD i default).2.2)],[(id,some (.map ka va es fc))],[id])|none=>none
    |some none=>match pf va (cB zero)with|some v=>some (.iN [v,lv (.int .i64 fc)],[(id,some (.map ka va (es++[(key,cB zero,fc)]) (fc+1)))],[id])|none=>none
    |none=>none
   else none
  |_=>none
 |_,_=>none
def xD:TV->Bool
 |.agg _=>true
 |_=>false
def mX(va:Bool)(n:Nat)(m:C)(st:Option TV)(x:TV)(h:bF):Option (fx×List Nat):=
 match m,cA st,(cellsOf x).bind zi with
 |.om id,some s,some ds=>
  match aB h id with
  |some (.map ka va' es fc)=>
   if va'=va/\ds.length=n/\xD x=va then
    match es.findIdx? (fun e=>decide ((e.2.2:Int)=s))with|some i=>some ([(id,some (.map ka va (es.set i ((es.getD i default).1,ds,(es.getD i default).2.2)) fc))],[id])|none=>none
   else none
  |_=>none
 |_,_,_=>none
def cN(call:Call)(k:K)(vs:List (Option TV))(h:bF)(nxt:Nat):GC:=
 match k,vs with
 |.mv,[some x]=>some (x,[],[],nxt)
 |.pick,[some (.c (.d (.lit (.bool c)))),a,b]=>match(if c then a else b)with|some v=>some (v,[],[],nxt)|none=>none
 |.alloc zero,[]=>some (.c (.op nxt 0),[(nxt,some (.box (fk zero)))],[],nxt+1)
 |.box,[some x]=>match cellsOf x with|some cs=>some (.c (.op nxt 0),[(nxt,some (.box cs))],[],nxt+1)|none=>none
 |.build zero places,vs=>
  match eF vs with
  |some xs=>match mU (fk zero) (places.zip xs)with|some cs=>some (.agg cs,[],[],nxt)|none=>none
  |none=>none
 |.buildSlice sz len zero places,vs=>
  match eF vs with
  |some xs=>
   match mU (fk zero) ((places.map fun i=>(i*sz,sz)).zip xs)with
   |some cs=>
    match dP h cs with
    |some (ds,aA)=>match dW h aA aA with|some u=>some (.c (.fh sz nxt 0 len),(nxt,some (.aL sz (mo sz len ds)))::u,aA,nxt+1)|none=>none
    |none=>none
   |none=>none
  |none=>none
 |.load agg n,[some (.c p)]=>match h_ agg n p h with|some (v,aA)=>some (v,[],aA,nxt)|none=>none
 |.t7,[some (.c p)]=>match h_ false 1 p h with|some (v,aA)=>some (v,[],aA,nxt)|none=>lA false 1 p h nxt
 |.store n,[some (.c p),some v]=>match mb n p v h with|some (u,aA)=>some (.iN [],u,aA,nxt)|none=>none
 |.nilCheck,[some (.c x)]=>match x with|.d (.pt _)|.d (.fn _ _)|.ep _ _ _|.op _ _|.oN _ _=>some (.c x,[],[],nxt)|_=>none
 |.Ad op,[some (.c (.d (.lit x))),some (.c (.d (.lit y)))]=>match rZ op x y with|some v=>some (lv v,[],[],nxt)|none=>none
 |.uG neg,[some (.c (.d (.lit (.bool x)))),some (.c (.d (.lit (.bool y))))]=>some (lv (.bool (if neg then !(x==y)else x==y)),[],[],nxt)
 |.qL kind neg,[some (.c x)]=>match p6 kind x with|some b=>some (lv (.bool (if neg then !b else b)),[],[],nxt)|none=>none
 |.zf neg ks,[some (.agg xs),some (.agg ys)]=>
  match lJ xs,lJ ys with
  |some xs,some ys=>match gB ks xs ys with|some b=>some (lv (.bool (if neg then !b else b)),[],[],nxt)|none=>none
  |_,_=>none
 |.un op,[some (.c (.d (.lit x)))]=>match Sz op x with|some v=>some (lv v,[],[],nxt)|none=>none
 |.vw k,[some (.c (.d (.lit (.int _ n))))]=>some (lv (.int k (k.wrap n)),[],[],nxt)
 |.sP,[some (.c (.d (.lit (.string s))))]=>some (lv (.string s),[],[],nxt)
 |.IF f,vs=>
  match eF vs with
  |some xs=>match eF (xs.map fun|.c c=>some c|_=>none)with|some cs=>some (.c (.oN f cs),[],[],nxt)|none=>none
  |none=>none
 |.makeSlice zero,[l,c]=>
  match cA l,cA c with
  |some l,some c=>
   if 0<=l/\l<=c/\c<=DG then
    some (.c (.fh zero.length nxt 0 l.toNat),[(nxt,some (.aL zero.length (aw l.toNat (cB zero))))],[],nxt+1)
   else none
  |_,_=>none
 |.AI szi,[l,c]=>match cA l,cA c with|some l,some c=>if 0<=l/\l<=c/\c<=DG then some (.c (.fh 1 nxt 0 l.toNat),[(nxt,some (.nst szi (aw l.toNat .nil)))],[],nxt+1)else none|_,_=>none
 |.slice str sz lo hi,some (.c x)::r=>
  match lo,hi,r with
  |false,false,[]=>match fL str sz x none none with|some y=>some (.c y,[],[],nxt)|none=>none
  |true,false,[l]=>match cA l with|some l=>(match fL str sz x (some l) none with|some y=>some (.c y,[],[],nxt)|none=>none)|none=>none
  |false,true,[u]=>match cA u with|some u=>(match fL str sz x none (some u)with|some y=>some (.c y,[],[],nxt)|none=>(match nL str sz x 0 u h with|some (y,aA)=>some (.c y,[],aA,nxt)|none=>none))|none=>none
  |true,true,[l,u]=>
   match cA l,cA u with
   |some l,some u=>match fL str sz x (some l) (some u)with|some y=>some (.c y,[],[],nxt)|none=>(match nL str sz x l u h with|some (y,aA)=>some (.c y,[],aA,nxt)|none=>none)
   |_,_=>none
  |_,_,_=>none
 |.Bv sz,[some (.c x),l,u,m]=>
  match cA l,cA u,cA m with
  |some l,some u,some m=>match L3 sz x l u m nxt with|some y=>some (.c y,[],[],nxt+1)|none=>none
  |_,_,_=>none
 |.clear zero,[some (.c x)]=>match oY zero x h with|some (u,aA)=>some (.iN [],u,aA,nxt)|none=>none
 |.fieldAddr off n,[some (.c x)]=>match j_ off n x with|some y=>some (.c y,[],[],nxt)|none=>none
 |.field agg off n,[some (.agg cs)]=>match DJ agg n (cs.drop off)with|some v=>some (v,[],[],nxt)|none=>none
 |.indexAddr aL sz,[some (.c x),i]=>
  match cA i with
  |some i=>match iH aL sz x i with|some y=>some (.c y,[],[],nxt)|none=>none
  |none=>none
 |.px,[some (.c (.d (.lit (.string s)))),i]=>
  match cA i with
  |some i=>match(if 0<=i then s[i.toNat]?else none)with|some b=>some (lv (.int .u8 b.toNat),[],[],nxt)|none=>none
  |none=>none
 |.index agg len sz,[some (.agg cs),i]=>
  match cA i with
  |some i=>if 0<=i/\i<len then match DJ agg sz (cs.drop (i.toNat*sz))with|some v=>some (v,[],[],nxt)|none=>none else none
  |none=>none
 |.extract i,[some (.iN xs)]=>match xs[i]?with|some v=>some (v,[],[],nxt)|none=>none
 |.len str,[some (.c x)]=>match ud str x with|some n=>some (lv (.int .i64 n),[],[],nxt)|none=>none
 |.uB m,some (.c (.d (.lit x)))::r=>match O9 m x r with|some v=>some (lv v,[],[],nxt)|none=>none
 |.append sz,[some (.c s),some (.c x)]=>oh sz s x h nxt
 |.copy sz,[some (.c d),some (.c s)]=>match mn sz d s h with|some (i,u,aA)=>some (lv (.int .i64 i),u,aA,nxt)|none=>(match oX sz d s h with|some (i,u,aA)=>some (lv (.int .i64 i),u,aA,nxt)|none=>none)
 |.MA,[some (.c x)]=>match ze x h with|some (n,aA)=>some (lv (.int .i64 n),[],aA,nxt)|none=>none
 |.Ss zero,[some (.c x),some (.c (.d (.lit (.int _ k))))]=>A0 zero x k h nxt
 |.RL,[some (.c x),some (.c y)]=>match zd x y h with|some aA=>some (lv (.bool false),[],aA,nxt)|none=>none
 |.call ro j8,f::vs=>uF call ro j8 f vs h nxt
 |.makeMap ka va,[]=>some (.c (.om nxt),[(nxt,some (.map ka va [] 0))],[],nxt+1)
 |.lookup ka ks va zero ok,[some (.c m),some k]=>match iv ka ks va zero ok m k h with|some (v,aA)=>some (v,[],aA,nxt)|none=>none
 |.mapEntry ka ks va zero,[some (.c m),some k]=>match mW ka ks va zero m k h with|some (v,u,aA)=>some (v,u,aA,nxt)|none=>none
 |.entryStore va n,[some (.c m),s,some x]=>match mX va n m s x h with|some (u,aA)=>some (.iN [],u,aA,nxt)|none=>none
 |_,_=>none
def kp(e:jJ):Option (Nat×Bool)->Option Bool
 |none=>some true
 |some (t,b)=>match cq e t with|some (.c (.d (.lit (.bool x))))=>some (x==b)|some (.iN [])=>some false|_=>none
def put(e:jJ)(dst:Option Nat)(v:TV):jJ:=match dst with|some d=>(d,v)::e|none=>e
def drop(e:jJ)(dst:Option Nat):jJ:=put e dst (.iN [])
def iQ:Nat:=1000000
def mY(calls:Nat->Call)(aQ:Nat):List nQ->Nat->jJ->bF->Option (jJ×bF×List (List Nat×List Nat))
 |[],_,e,h=>some (e,h,[])
 |o::r,i,e,h=>
  match kp e o.guard with
  |some true=>
   match cN (calls i) o.k (o.args.map (kM e)) h (aQ+iQ*i)with
   |some (v,u,aA,n)=>
    if n<=aQ+iQ*(i+1)then
     match mY calls aQ r (i+1) (put e o.dst v) (u++h)with|some (e,h,tr)=>some (e,h,(aA,u.map (·.1))::tr)|none=>none
    else none
   |none=>none
  |some false=>match mY calls aQ r (i+1) (drop e o.dst) h with|some (e,h,tr)=>some (e,h,([],[])::tr)|none=>none
  |none=>none
def lZ(a b:List Nat×List Nat):Bool:=a.2.all (fun i=>!b.1.contains i&&!b.2.contains i)&&b.2.all (fun i=>!a.1.contains i)
def EZ(tr:List (List Nat×List Nat))(i j:Nat):Bool:=
 match tr[i]?,tr[j]?with
 |some a,some b=>lZ a b||(match a with|([id],[])=>((tr.take j).drop (i+1)).all (fun x=>!x.2.contains id)|_=>false)
 |_,_=>true
def A2(tr:List (List Nat×List Nat))(dyn:List (Nat×Nat)):Bool:=dyn.all fun(i,j)=>if 1000<=j then EZ tr i (j-1000)else match tr[i]?,tr[j]?with|some a,some b=>lZ a b|_,_=>true
def eO:C->List Nat
 |.d _=>[]
 |.fh _ id _ _|.ep id _ _|.op id _|.om id=>[id]
 |.oN _ caps=>mG caps
where mG:List C->List Nat
 |[]=>[]
 |c::r=>eO c++mG r
def lW:TV->List Nat
 |.c x=>eO x
 |.agg cs=>eO.mG cs
 |.iN xs=>zY xs
where zY:List TV->List Nat
 |[]=>[]
 |x::r=>lW x++zY r
inductive RV where
 |tmp (t:Nat)
 |cell (t:Nat) (agg:Bool) (n:Nat)
 deriving Inhabited
def enter:List A->Nat->Nat->jJ×bF×Nat×List C
 |[],_,n=>([],[],n,[])
 |.d x::r,i,n=>let(e,h,m,l):=enter r (i+1) n;((i,.c (.d x))::e,h,m,l)
 |.agg xs::r,i,n=>let(e,h,m,l):=enter r (i+1) n;((i,.agg (xs.map .d))::e,h,m,l)
 |.mt t::r,i,n=>let(c,u,k):=kU n t;let(e,h,m,l):=enter r (i+1) k;((i,.c c)::e,u++h,m,c::l)
def wS(s:St):RV->Option TV
 |.tmp t=>cq s.dD t
 |.cell t agg n=>match cq s.dD t with|some (.c p)=>(match h_ agg n p s.heap with|some (v,_)=>some v|none=>none)|_=>none
def rN(h:bF):TV->Option (R×List Nat)
 |.c c=>match eH h 300 c with|some (t,aA,_)=>some (.c t,aA)|none=>none
 |.agg cs=>match iE h 300 cs with|some (ts,aA,_)=>some (.agg ts,aA)|none=>none
 |.iN _=>none
def uA(h:bF):List TV->Option (List R×List Nat)
 |[]=>some ([],[])
 |v::vs=>match rN h v,uA h vs with|some (r,a),some (rs,b)=>some (r::rs,a++b)|_,_=>none
structure Fn where
 np:Nat
 ntmps:Nat
 kF:List RV
 body:CC
 deriving Inhabited
inductive RD(S:Nat->Prop)(w:World):D->Value->Prop
 |lit {v:Value} (h:d_ v=true):RD S w (.lit v) v
 |sl {sz:Nat} {ao:List (List D)} {b off cap:Nat} (f:Nat->Nat->Value) (hb:S b) (hsz:0<sz) (hcap:ao.length<=cap)
   (hrow:∀(i:Nat)(r:List D),ao[i]?=some r->r.length=sz)
   (hcell:∀(i:Nat)(r:List D),ao[i]?=some r->∀(j:Nat)(x:D),r[j]?=some x->w.cell? ⟨b,off+i*sz+j,none⟩=some (f i j))
   (hrd:∀(i:Nat)(r:List D),ao[i]?=some r->∀(j:Nat)(x:D),r[j]?=some x->RD S w x (f i j)):
   RD S w (.sl sz ao) (.slice (some ⟨b,off,none⟩) ao.length cap)
 |tg {sz:Nat} {a:Addr} (hsz:0<sz):RD S w (.sl sz []) (.slice (some a) 0 0)
 |pt {cells:List D} {b off:Nat} (f:Nat->Value) (hb:S b)
   (hcell:∀(j:Nat)(x:D),cells[j]?=some x->w.cell? ⟨b,off+j,none⟩=some (f j))
   (hrd:∀(j:Nat)(x:D),cells[j]?=some x->RD S w x (f j)):
   RD S w (.pt cells) (.pointer (some ⟨b,off,none⟩))
 |fn {g:FuncId} {caps:List D} {vs:Array Value} (hlen:caps.length=vs.size)
   (hrd:∀(j:Nat)(x:D),caps[j]?=some x->RD S w x (vs.getD j undef)):
   RD S w (.fn g caps) (.func (.func g) #[] vs)
structure gV(S:Nat->Prop)(w:World)(S':Nat->Prop)(w':World):Prop where
 sub:∀b,S b->S' b
 eh:∀b,S b->w'.heap[b]?=w.heap[b]?
theorem gV.refl(S:Nat->Prop)(w:World):gV S w S w:=⟨fun _ h=>h,fun _ _=>rfl⟩
theorem gV.trans{S S' S'':Nat->Prop}{w w' w'':World}(a:gV S w S' w')(b:gV S' w' S'' w''):gV S w S'' w'':=⟨fun x h=>b.sub x (a.sub x h),fun x h=>(b.eh x (a.sub x h)).trans (a.eh x h)⟩
theorem mq{w w':World}{b:Nat}(h:w'.heap[b]?=w.heap[b]?)(off:Nat):w'.cell? ⟨b,off,none⟩=w.cell? ⟨b,off,none⟩:=by simp[World.cell?,h]
theorem RD.mono{S S':Nat->Prop}{w w':World}(hs:gV S w S' w'){x:D}{v:Value}(h:RD S w x v):RD S' w' x v:=by induction h with|lit h=>exact .lit h|sl f hb hsz hcap hrow hcell hrd ih=>exact .sl f (hs.sub _ hb) hsz hcap hrow (fun i r hi j x hj=>(mq (hs.eh _ hb) _).trans (hcell i r hi j x hj)) ih|tg h=>exact .tg h|pt f hb hcell hrd ih=>exact .pt f (hs.sub _ hb) (fun j x hj=>(mq (hs.eh _ hb) _).trans (hcell j x hj)) ih|fn hlen hrd ih=>exact .fn hlen ih
structure gF where
 bU:Nat
 aQ:Nat
 sz:Nat
 ext:Nat
 cap:Nat
 deriving Inhabited
inductive RC(S:Nat->Prop)(w:World)(Kn:Nat->Prop)(φ:Nat->gF):C->Value->Prop
 |d {x:D} {v:Value} (h:RD S w x v):RC S w Kn φ (.d x) v
 |fh {id off len cap addr:Nat} (hk:Kn id) (hcap:len<=cap) (haddr:0<cap->addr=(φ id).aQ+off*(φ id).sz) (hext:addr+cap*(φ id).sz<=(φ id).ext) (hc:off+cap=(φ id).cap):
   RC S w Kn φ (.fh (φ id).sz id off len) (.slice (some ⟨(φ id).bU,addr,none⟩) len cap)
 |ep {id di off:Nat} (hk:Kn id):RC S w Kn φ (.ep id di off) (.pointer (some ⟨(φ id).bU,(φ id).aQ+di*(φ id).sz+off,none⟩))
 |op {id off:Nat} (hk:Kn id):RC S w Kn φ (.op id off) (.pointer (some ⟨(φ id).bU,(φ id).aQ+off,none⟩))
 |oN {g:FuncId} {caps:List C} {vs:Array Value} (hlen:caps.length=vs.size)
   (hrc:∀(j:Nat)(x:C),caps[j]?=some x->RC S w Kn φ x (vs.getD j undef)):
   RC S w Kn φ (.oN g caps) (.func (.func g) #[] vs)
 |om {id:Nat} (hk:Kn id):RC S w Kn φ (.om id) (.map (some (φ id).bU))
structure Ren(Kn:Nat->Prop)(φ:Nat->gF)(Kn':Nat->Prop)(φ':Nat->gF):Prop where
 sub:∀i,Kn i->Kn' i
 eh:∀i,Kn i->φ' i=φ i
theorem Ren.refl(Kn:Nat->Prop)(φ:Nat->gF):Ren Kn φ Kn φ:=⟨fun _ h=>h,fun _ _=>rfl⟩
theorem RC.mono{S S':Nat->Prop}{w w':World}{Kn Kn':Nat->Prop}{φ φ':Nat->gF}(hs:gV S w S' w')(hr:Ren Kn φ Kn' φ'){x:C}{v:Value}
  (h:RC S w Kn φ x v):RC S' w' Kn' φ' x v:=by
 induction h with|d h=>exact .d (h.mono hs)|fh hk hcap haddr hext hc=>rw[<-hr.eh _ hk]at hext haddr hc|-;exact .fh (hr.sub _ hk) hcap haddr hext hc|ep hk=>rw[<-hr.eh _ hk];exact .ep (hr.sub _ hk)|op hk=>rw[<-hr.eh _ hk];exact .op (hr.sub _ hk)|oN hlen hrc ih=>exact .oN hlen ih|om hk=>rw[<-hr.eh _ hk];exact .om (hr.sub _ hk)
inductive gf(S:Nat->Prop)(w:World)(Kn:Nat->Prop)(φ:Nat->gF):TV->Value->Prop
 |c {x:C} {v:Value} (h:RC S w Kn φ x v):gf S w Kn φ (.c x) v
 |agg {cs:List C} {aL:Array Value} (hlen:cs.length=aL.size) (h:∀(i:Nat)(x:C),cs[i]?=some x->RC S w Kn φ x (aL.getD i undef)):gf S w Kn φ (.agg cs) (.agg aL)
 |iN {xs:List TV} {aL:Array Value} (hlen:xs.length=aL.size) (h:∀(i:Nat)(x:TV),xs[i]?=some x->gf S w Kn φ x (aL.getD i undef)):gf S w Kn φ (.iN xs) (.tuple aL)
theorem gf.mono{S S':Nat->Prop}{w w':World}{Kn Kn':Nat->Prop}{φ φ':Nat->gF}(hs:gV S w S' w')(hr:Ren Kn φ Kn' φ'){x:TV}{v:Value}
  (h:gf S w Kn φ x v):gf S' w' Kn' φ' x v:=by
 induction h with|c h=>exact .c (h.mono hs hr)|agg hlen h=>exact .agg hlen fun i x hi=>(h i x hi).mono hs hr|iN hlen h ih=>exact .iN hlen ih
def one:Value->Bool
 |.agg _|.tuple _=>false
 |_=>true
theorem vb{v:Value}(h:d_ v=true):one v=true:=by cases v<;>simp_all[d_,one]
theorem RD.one{S:Nat->Prop}{w:World}{x:D}{v:Value}(h:RD S w x v):one v=true:=by cases h with|lit h=>exact vb h|_=>rfl
theorem RC.one{S:Nat->Prop}{w:World}{Kn:Nat->Prop}{φ:Nat->gF}{x:C}{v:Value}(h:RC S w Kn φ x v):one v=true:=by cases h with|d h=>exact h.one|_=>rfl
theorem vx{v:Value}(h:one v=true):v.cells= #[v]:=by cases v<;>simp_all[Ev.one,Value.cells]
def m8(w:World)(b:Nat)(aL:Array Value):Prop:=∃t,w.heap[b]?=some (.cells aL t (0,0))
theorem m8.cell{w:World}{b:Nat}{aL:Array Value}(h:m8 w b aL)(i:Nat):w.cell? ⟨b,i,none⟩=aL[i]?:=by obtain⟨t,h⟩:=h;simp[World.cell?,h]
theorem m8.lt{w:World}{b:Nat}{aL:Array Value}(h:m8 w b aL):b<w.heap.size:=by obtain⟨t,h⟩:=h;exact(bg.1 h).1
theorem m8.frozen{w:World}{b:Nat}{aL:Array Value}(h:m8 w b aL)(i:Nat)(s:Option Nat):w.frozen? ⟨b,i,s⟩=false:=by obtain⟨t,h⟩:=h;simp[World.frozen?,h]
theorem m8.l_{w w':World}{b:Nat}{aL:Array Value}(h:m8 w b aL)(hs:w'.heap[b]?=w.heap[b]?):m8 w' b aL:=by obtain⟨t,h⟩:=h;exact⟨t,hs.trans h⟩
def cS(S:Nat->Prop)(w:World)(sz:Nat)(get:Nat->Option Value)(aQ:Nat)(ao:List (List D)):Prop:=
 (∀(i:Nat)(r:List D),ao[i]?=some r->r.length=sz)/\
 ∀(i:Nat)(r:List D),ao[i]?=some r->∀(j:Nat)(x:D),r[j]?=some x->∃v,get (aQ+i*sz+j)=some v/\RD S w x v
def cT:Ob->Bool
 |.aL _ _|.box _|.map _ _ _ _|.cap _ _ _|.nst _ _=>true
 |_=>false
def Hz(S:Nat->Prop)(w:World)(sz:Nat)(ao:List (List D))(v:Value)(b:Nat):Prop:=∃(addr cap:Nat)(aL:Array Value),v=.slice (some ⟨b,addr,none⟩) ao.length cap/\0<sz/\m8 w b aL/\ao.length<=cap/\addr+cap*sz<=aL.size/\cS S w sz (fun i=>aL[i]?) addr ao
inductive zy(S K:Nat->Prop)(w:World)(Kn:Nat->Prop)(φ:Nat->gF)(sz:Nat):kT->Value->Prop
 |nil:zy S K w Kn φ sz .nil (.slice none 0 0)
 |bq {ao:List (List D)} {v:Value} {b:Nat} (h:Hz S w sz ao v b) (hS:¬S b) (hK:¬K b):zy S K w Kn φ sz (.bq ao) v
 |dX {id len:Nat} {v:Value} (h:RC S w Kn φ (.fh sz id 0 len) v):zy S K w Kn φ sz (.dX id len) v
def xn:Value->Option Nat
 |.slice (some a) _ _=>some a.block
 |_=>none
def rT(w:World)(l:gF)(slots:List kT)(k x:Nat):Prop:=∃ao v,slots[k]?=some (.bq ao)/\w.cell? ⟨l.bU,l.aQ+k,none⟩=some v/\xn v=some x
def JE(ka:Bool)(k:List Value)(v:Value):Prop:=(∀x∈k,d_ x=true)/\if ka then v=.agg k.toArray else k=[v]
def wK(S:Nat->Prop)(w:World)(va:Bool)(ds:List D)(v:Value):Prop:=if va then∃aL:Array Value,v=.agg aL/\ds.length=aL.size/\∀(i:Nat)(x:D),ds[i]?=some x->RD S w x (aL.getD i undef)else∃x,ds=[x]/\RD S w x v
theorem wK.mono{S S':Nat->Prop}{w w':World}(hs:gV S w S' w'){va:Bool}{ds:List D}{v:Value}(h:wK S w va ds v):wK S' w' va ds v:=by
 unfold wK at h|-;split
 .rename_i hv;rw[if_pos hv]at h;obtain⟨aL,h1,h2,h3⟩:=h;exact⟨aL,h1,h2,fun i x hi=>(h3 i x hi).mono hs⟩
 .rename_i hv;rw[if_neg hv]at h;obtain⟨x,h1,h2⟩:=h;exact⟨x,h1,h2.mono hs⟩
inductive RO(S:Nat->Prop)(K:Nat->Prop)(w:World)(Kn:Nat->Prop)(φ:Nat->gF)(l:gF):Ob->Prop
 |aL {sz:Nat} {ao:List (List D)} {aL:Array Value} (hsz:0<sz) (hl:l.sz=sz) (hS:¬S l.bU) (hK:¬K l.bU) (ho:m8 w l.bU aL) (hext:aL.size=l.ext)
   (hfit:l.aQ+ao.length*sz<=l.ext) (hr:cS S w sz (fun i=>aL[i]?) l.aQ ao) (hv:ao.length<=l.cap):RO S K w Kn φ l (.aL sz ao)
 |py {sz:Nat} {ao:List (List D)} (hsz:0<sz) (hl:l.sz=sz) (hS:S l.bU)
   (hr:cS S w sz (fun i=>w.cell? ⟨l.bU,i,none⟩) l.aQ ao):RO S K w Kn φ l (.py sz ao)
 |box {cells:List C} {aL:Array Value} (hb:l.aQ=0) (hS:¬S l.bU) (hK:¬K l.bU) (ho:m8 w l.bU aL) (hlen:cells.length=aL.size)
   (hr:∀(i:Nat)(x:C),cells[i]?=some x->RC S w Kn φ x (aL.getD i undef)):RO S K w Kn φ l (.box cells)
 |oe {cells:List D} (hb:l.aQ=0) (hS:S l.bU)
   (hr:∀(i:Nat)(x:D),cells[i]?=some x->∃v,w.cell? ⟨l.bU,i,none⟩=some v/\RD S w x v):RO S K w Kn φ l (.oe cells)
 |map {ka va:Bool} {es:List (List Value×List D×Nat)} {fc:Nat} {ms:Array MapEntry} (hS:¬S l.bU) (hK:¬K l.bU) (ho:w.heap[l.bU]?=some (.map ms fc)) (hlen:es.length=ms.size)
   (hr:∀(i:Nat)(e:List Value×List D×Nat)(m:MapEntry),es[i]?=some e->ms[i]?=some m->JE ka e.1 m.key/\wK S w va e.2.1 m.val/\m.born=e.2.2):RO S K w Kn φ l (.map ka va es fc)
 |cap {sz:Nat} {ao:List (List D)} {cp:Nat} {aL:Array Value} (hsz:0<sz) (hl:l.sz=sz) (hS:¬S l.bU) (hK:¬K l.bU) (ho:m8 w l.bU aL) (hext:aL.size=l.ext)
   (hfit:l.aQ+cp*sz<=l.ext) (hr:cS S w sz (fun i=>aL[i]?) l.aQ ao) (hv:ao.length<=cp) (hc:l.cap=cp):RO S K w Kn φ l (.cap sz ao cp)
 |nst {sz:Nat} {slots:List kT} {aL:Array Value} (hsz:0<sz) (hl:l.sz=1) (hS:¬S l.bU) (hK:¬K l.bU) (ho:m8 w l.bU aL) (hext:aL.size=l.ext)
   (hfit:l.aQ+slots.length<=l.ext) (hr:∀(i:Nat)(s:kT),slots[i]?=some s->∃v,aL[l.aQ+i]?=some v/\zy S K w Kn φ sz s v) (hv:slots.length<=l.cap):RO S K w Kn φ l (.nst sz slots)
theorem cS.mono{S S':Nat->Prop}{w w':World}(hs:gV S w S' w'){sz aQ:Nat}{get:Nat->Option Value}{ao:List (List D)}(h:cS S w sz get aQ ao):
  cS S' w' sz get aQ ao:=
 ⟨h.1,fun i r hi j x hj=>let⟨v,hg,hr⟩:=h.2 i r hi j x hj;⟨v,hg,hr.mono hs⟩⟩
def Rh(S':Nat->Prop)(w w':World)(l:gF)(o:Ob):Prop:=∀sz slots,o=.nst sz slots->∀k x,rT w l slots k x->w'.heap[x]?=w.heap[x]?/\¬S' x
theorem Hz.mono{S S':Nat->Prop}{w w':World}(hs:gV S w S' w'){sz b:Nat}{ao:List (List D)}{v:Value}(hb:w'.heap[b]?=w.heap[b]?)(h:Hz S w sz ao v b):Hz S' w' sz ao v b:=by obtain⟨a,c,aL,h1,h2,h3,h4,h5,h6⟩:=h;exact⟨a,c,aL,h1,h2,h3.l_ hb,h4,h5,h6.mono hs⟩
theorem Hz.bU{S:Nat->Prop}{w:World}{sz b:Nat}{ao:List (List D)}{v:Value}(h:Hz S w sz ao v b):xn v=some b:=by obtain⟨a,c,aL,rfl,_⟩:=h;rfl
theorem Hz.bq{S:Nat->Prop}{w:World}{sz b:Nat}{ao:List (List D)}{v:Value}(h:Hz S w sz ao v b):∃aL,m8 w b aL:=by obtain⟨a,c,aL,_,_,h,_⟩:=h;exact⟨aL,h⟩
theorem RO.mono{S S' K:Nat->Prop}{w w':World}{Kn Kn':Nat->Prop}{φ φ':Nat->gF}{l:gF}(hs:gV S w S' w')(hr:Ren Kn φ Kn' φ'){o:Ob}
  (hsame:cT o=true->w'.heap[l.bU]?=w.heap[l.bU]?/\¬S' l.bU) (hkp:Rh S' w w' l o) (h:RO S K w Kn φ l o):RO S' K w' Kn' φ' l o:=by
 cases h with
 |aL hsz hl hS hK ho hext hfit hrr hv=>exact .aL hsz hl (hsame rfl).2 hK (ho.l_ (hsame rfl).1) hext hfit (hrr.mono hs) hv
 |py hsz hl hS hrr=>refine .py hsz hl (hs.sub _ hS) ⟨hrr.1,fun i r hi j x hj=>?_⟩;obtain⟨v,hg,h⟩:=hrr.2 i r hi j x hj;exact⟨v,(mq (hs.eh _ hS) _).trans hg,h.mono hs⟩
 |box hb hS hK ho hlen hrr=>exact .box hb (hsame rfl).2 hK (ho.l_ (hsame rfl).1) hlen fun i x hi=>(hrr i x hi).mono hs hr
 |oe hb hS hrr=>refine .oe hb (hs.sub _ hS) fun i x hi=>?_;obtain⟨v,hg,h⟩:=hrr i x hi;exact⟨v,(mq (hs.eh _ hS) _).trans hg,h.mono hs⟩
 |map hS hK ho hlen hrr=>exact .map (hsame rfl).2 hK ((hsame rfl).1.trans ho) hlen fun i e m hi hm=>let⟨h1,h2,h3⟩:=hrr i e m hi hm;⟨h1,h2.mono hs,h3⟩
 |cap hsz hl hS hK ho hext hfit hrr hv hc=>exact .cap hsz hl (hsame rfl).2 hK (ho.l_ (hsame rfl).1) hext hfit (hrr.mono hs) hv hc
 |nst hsz hl hS hK ho hext hfit hrr hv=>refine .nst hsz hl (hsame rfl).2 hK (ho.l_ (hsame rfl).1) hext hfit (fun i s hi=>?_) hv;obtain⟨v,h1,h2⟩:=hrr i s hi;refine⟨v,h1,?_⟩;cases h2 with|nil=>exact .nil|@bq ao _ b h hS hK=>obtain⟨k1,k2⟩:=hkp _ _ rfl i b ⟨ao,v,hi,(ho.cell _).trans h1,h.bU⟩;exact .bq (h.mono hs k1) k2 hK|dX h=>exact .dX (h.mono hs hr)
def Io(w0 w:World):Prop:=w.os=w0.os/\w.output=w0.output/\w.tape=w0.tape/\w0.drawn<=w.drawn
theorem Io.trans{a b c:World}(h:Io a b)(h2:Io b c):Io a c:=⟨h2.1.trans h.1,h2.2.1.trans h.2.1,h2.2.2.1.trans h.2.2.1,e_ h.2.2.2 h2.2.2.2⟩
theorem Io.refl(w:World):Io w w:=⟨rfl,rfl,rfl,au _⟩
structure GE(K:Nat->Prop)(w0 w:World):Prop where
 FO:∀b,K b->b<w0.heap.size
 mQ:∀b,K b->w.heap[b]?=w0.heap[b]?
 grow:w0.heap.size<=w.heap.size
 AS:∀a,a.block<w0.heap.size->w.frozen? a=w0.frozen? a
 bq:∀b aL,m8 w0 b aL->∃arr',m8 w b arr'/\arr'.size=aL.size
 io:Io w0 w
def uM(S:Nat->Prop)(w:World):Prop:=∀g d,Qu g=some d->RD S w d (.pointer (some ⟨g,0,none⟩))
theorem uM.mono{S S':Nat->Prop}{w w':World}(h:uM S w)(hs:gV S w S' w'):uM S' w':=fun g d hg=>(h g d hg).mono hs
def UJ(w:World)(φ:Nat->gF)(hf:Nat->Option Ob):Prop:=∀i sz sl k x,hf i=some (.nst sz sl)->rT w (φ i) sl k x->
 (∀j b,hf j=some b->cT b=true->(φ j).bU≠x)/\∀j sz' sl' k',hf j=some (.nst sz' sl')->rT w (φ j) sl' k' x->j=i/\k'=k
structure Inv(S K:Nat->Prop)(w0:World)(Kn:Nat->Prop)(φ:Nat->gF)(hf:Nat->Option Ob)(w:World):Prop where
 uO:∀b,S b->b<w.heap.size
 sk:∀b,S b->¬K b
 ng:GE K w0 w
 iL:∀id o,hf id=some o->Kn id/\RO S K w Kn φ (φ id) o
 eJ:∀i j a b,hf i=some a->hf j=some b->cT a=true->cT b=true->i≠j->(φ i).bU≠(φ j).bU
 BU:uM S w
 wT:UJ w φ hf
def bk(u:fx)(hf:Nat->Option Ob)(id:Nat):Option Ob:=match cq u id with|some o=>o|none=>hf id
theorem gM{α:Type}(a b:List (Nat×α))(k:Nat):cq (a++b) k=match cq a k with|some x=>some x|none=>cq b k:=by induction a with|nil=>rfl|cons p r ih=>obtain⟨i,x⟩:=p;simp only[List.cons_append,cq];cases h:(i==k)<;>simp[ih]
theorem gC(u:fx)(h:bF):aB (u++h)=bk u (aB h):=by funext id;simp only[aB,bk,gM];cases cq u id<;>simp
theorem fF(hf:Nat->Option Ob):bk [] hf=hf:=rfl
theorem bQ(i:Nat)(o:Option Ob)(u:fx)(hf:Nat->Option Ob)(id:Nat):bk ((i,o)::u) hf id=if i=id then o else bk u hf id:=by
 simp only[bk,cq];by_cases h:i=id
 .simp [h]
 .have e:(i==id)=false:=by simpa using h
  simp[h,e]
theorem ei(u v:fx)(hf:Nat->Option Ob):bk (u++v) hf=bk u (bk v hf):=by funext id;simp only[bk,gM];cases cq u id<;>simp
theorem Inv.uS{S S' K:Nat->Prop}{w0 w w':World}{Kn Kn':Nat->Prop}{φ φ':Nat->gF}{hf hf':Nat->Option Ob}(h:Inv S K w0 Kn φ hf w)
  (hs:gV S w S' w') (hr:Ren Kn φ Kn' φ') (hslt:∀b,S' b->b<w'.heap.size) (hsk:∀b,S' b->¬K b) (hfrm:GE K w0 w')
  (hobj:∀id o,hf' id=some o->(hf id=some o/\(cT o=true->w'.heap[(φ id).bU]?=w.heap[(φ id).bU]?/\¬S' (φ id).bU)/\Rh S' w w' (φ id) o)\/(Kn' id/\RO S' K w' Kn' φ' (φ' id) o))
  (hdist:∀i j a b,hf' i=some a->hf' j=some b->cT a=true->cT b=true->i≠j->(φ' i).bU≠(φ' j).bU) (hprv:UJ w' φ' hf'):
  Inv S' K w0 Kn' φ' hf' w' where
 uO:=hslt
 sk:=hsk
 ng:=hfrm
 eJ:=hdist
 BU:=h.BU.mono hs
 wT:=hprv
 iL id o ho:=by
  rcases hobj id o ho with⟨h1,h2,h3⟩|h1
  .obtain ⟨hk,hro⟩:=h.iL id o h1;refine⟨hr.sub _ hk,?_⟩;rw[hr.eh _ hk];exact hro.mono hs hr h2 h3
  .exact h1
theorem rT.eh{w w':World}{l:gF}{sl:List kT}{k x:Nat}(h:w'.heap[l.bU]?=w.heap[l.bU]?):rT w' l sl k x<->rT w l sl k x:=by unfold rT;rw[show∀i,w'.cell? ⟨l.bU,i,none⟩=w.cell? ⟨l.bU,i,none⟩from fun i=>mq h i]
theorem RO.Ig{S K:Nat->Prop}{w:World}{Kn:Nat->Prop}{φ:Nat->gF}{l:gF}{sz:Nat}{sl:List kT}{k x:Nat}(h:RO S K w Kn φ l (.nst sz sl))(hp:rT w l sl k x):
  ¬S x/\¬K x/\x<w.heap.size/\∃ao v,sl[k]?=some (.bq ao)/\w.cell? ⟨l.bU,l.aQ+k,none⟩=some v/\Hz S w sz ao v x:=by
 cases h with
 |nst hsz hl hS hK ho hext hfit hr hv=>
  obtain⟨ao,v,h1,h2,h3⟩:=hp;obtain⟨v',h4,h5⟩:=hr k _ h1;obtain rfl:v'=v:=by rw[ho.cell,h4]at h2;exact aa h2
  cases h5 with
  |@bq _ _ b h6 hS hK=>
   obtain rfl:b=x:=by rw[h6.bU]at h3;exact aa h3
   obtain⟨aL,h7⟩:=h6.bq;exact⟨hS,hK,h7.lt,ao,v',h1,h2,h6⟩
theorem Inv.Ig{S K:Nat->Prop}{w0 w:World}{Kn:Nat->Prop}{φ:Nat->gF}{hf:Nat->Option Ob}(h:Inv S K w0 Kn φ hf w){i sz k x:Nat}{sl:List kT}(hi:hf i=some (.nst sz sl))(hp:rT w (φ i) sl k x):
  ¬S x/\¬K x/\x<w.heap.size/\∃ao v,sl[k]?=some (.bq ao)/\w.cell? ⟨(φ i).bU,(φ i).aQ+k,none⟩=some v/\Hz S w sz ao v x:=(h.iL i _ hi).2.Ig hp
def Re(S':Nat->Prop)(w w':World)(φ φ':Nat->gF)(hf hf':Nat->Option Ob):Prop:=∀id sz sl,hf' id=some (.nst sz sl)->hf id=some (.nst sz sl)/\w'.heap[(φ id).bU]?=w.heap[(φ id).bU]?/\
 ∀k x,rT w (φ id) sl k x->w'.heap[x]?=w.heap[x]?/\¬S' x/\∀j b,hf' j=some b->cT b=true->(φ' j).bU≠x
theorem Inv.kE{S S' K:Nat->Prop}{w0 w w':World}{Kn Kn':Nat->Prop}{φ φ':Nat->gF}{hf hf':Nat->Option Ob}(h:Inv S K w0 Kn φ hf w)
  (hs:gV S w S' w') (hr:Ren Kn φ Kn' φ') (hslt:∀b,S' b->b<w'.heap.size) (hsk:∀b,S' b->¬K b) (hfrm:GE K w0 w')
  (hobj:∀id o,hf' id=some o->(hf id=some o/\(cT o=true->w'.heap[(φ id).bU]?=w.heap[(φ id).bU]?/\¬S' (φ id).bU))\/(Kn' id/\RO S' K w' Kn' φ' (φ' id) o))
  (hdist:∀i j a b,hf' i=some a->hf' j=some b->cT a=true->cT b=true->i≠j->(φ' i).bU≠(φ' j).bU) (hrest:Re S' w w' φ φ' hf hf'):
  Inv S' K w0 Kn' φ' hf' w':=by
 have e:∀id sz sl,hf' id=some (.nst sz sl)->φ' id=φ id:=fun id sz sl hi=>hr.eh _ (h.iL id _ (hrest id sz sl hi).1).1;have hpat:∀id sz sl k x,hf' id=some (.nst sz sl)->rT w' (φ' id) sl k x->rT w (φ id) sl k x:=fun id sz sl k x hi hp=>by rw[e id sz sl hi]at hp;exact(rT.eh (hrest id sz sl hi).2.1).1 hp
 refine h.uS hs hr hslt hsk hfrm (fun id o ho=>?_) hdist fun i sz sl k x hi hp=>?_
 .rcases hobj id o ho with⟨h1,h2⟩|h1
  .exact .inl ⟨h1,h2,fun sz sl eo k x hp=>by subst eo;obtain⟨a,b,_⟩:=(hrest id sz sl ho).2.2 k x hp;exact⟨a,b⟩⟩
  .exact .inr h1
 .have hp':=hpat i sz sl k x hi hp;refine⟨((hrest i sz sl hi).2.2 k x hp').2.2,fun j sz' sl' k' hj hpj=>?_⟩;exact(h.wT i sz sl k x (hrest i sz sl hi).1 hp').2 j sz' sl' k' (hrest j sz' sl' hj).1 (hpat j sz' sl' k' x hj hpj)
theorem iJ{w:World}{o:Obj}{b:Nat}(h:b<w.heap.size):({w with heap:=w.heap.push o}:World).heap[b]?=w.heap[b]?:=by simp[Array.getElem?_push,Nat.ne_of_lt h]
theorem Dd(w:World)(aL:Array Value)(t:TypeId):m8 {w with heap:=w.heap.push (.cells aL t)} w.heap.size aL:=⟨t,by simp⟩
theorem DS(w:World)(aL:Array Value)(t:TypeId)(a:Addr):({w with heap:=w.heap.push (.cells aL t)}:World).frozen? a=w.frozen? a:=by
 unfold World.frozen?;rcases m_ a.block w.heap.size with h|h|h
 .rw [iJ h]
 .simp [h]
 .rw [fE (by simp;omega),fE (by omega)]
theorem GE.push{K:Nat->Prop}{w0 w:World}(h:GE K w0 w)(aL:Array Value)(t:TypeId):GE K w0 {w with heap:=w.heap.push (.cells aL t)}where
 FO:=h.FO
 mQ b hb:=(iJ (cg (h.FO b hb) h.grow)).trans (h.mQ b hb)
 grow:=by have:=h.grow;simp;omega
 AS a ha:=(DS w aL t a).trans (h.AS a ha)
 bq b a ha:=let⟨a',h1,h2⟩:=h.bq b a ha;⟨a',h1.l_ (iJ h1.lt),h2⟩
 io:=h.io
theorem GE.yu{K:Nat->Prop}{w0 w w':World}(h:GE K w0 w){c:Nat}(hother:∀b,b≠c->w'.heap[b]?=w.heap[b]?)
  (hsz:∀aL,m8 w c aL->∃arr',m8 w' c arr'/\arr'.size=aL.size) (b:Nat) (aL:Array Value) (ho:m8 w0 b aL):∃arr',m8 w' b arr'/\arr'.size=aL.size:=by
 obtain⟨a,h1,h2⟩:=h.bq b aL ho;by_cases e:b=c
 .subst e;obtain⟨a',h3,h4⟩:=hsz a h1;exact⟨a',h3,h4.trans h2⟩
 .exact ⟨a,h1.l_ (hother b e),h2⟩
theorem GE.xl{K:Nat->Prop}{w0 w:World}(h:GE K w0 w)(n:Nat)(hn:w.drawn<=n):GE K w0 {w with drawn:=n}:=⟨h.FO,h.mQ,h.grow,h.AS,h.bq,h.io.1,h.io.2.1,h.io.2.2.1,e_ h.io.2.2.2 hn⟩
theorem gV.push{S:Nat->Prop}{w:World}(hs:∀b,S b->b<w.heap.size)(o:Obj):gV S w S {w with heap:=w.heap.push o}:=⟨fun _ h=>h,fun b h=>iJ (hs b h)⟩
theorem gV.xl(S:Nat->Prop)(w:World)(n:Nat):gV S w S {w with drawn:=n}:=⟨fun _ h=>h,fun _ _=>rfl⟩
theorem Inv.C0{S K:Nat->Prop}{w0 w w':World}{Kn Kn':Nat->Prop}{φ φ':Nat->gF}{hf:Nat->Option Ob}(h:Inv S K w0 Kn φ hf w)(hr:Ren Kn φ Kn' φ')(hs:∀b,b<w.heap.size->w'.heap[b]?=w.heap[b]?):Re S w w' φ φ' hf hf:=fun id sz sl hi=>by
 obtain⟨_,h1⟩:=h.iL id _ hi;have hlt:(φ id).bU<w.heap.size:=by cases h1 with|nst _ _ _ _ ho=>exact ho.lt
 refine⟨hi,hs _ hlt,fun k x hp=>?_⟩;obtain⟨h2,_,h3,_⟩:=h.Ig hi hp;refine⟨hs x h3,h2,fun j b hj hb=>?_⟩;rw[hr.eh j (h.iL j b hj).1];exact(h.wT id sz sl k x hi hp).1 j b hj hb
theorem Inv.Aw{S K:Nat->Prop}{w0 w w':World}{Kn:Nat->Prop}{φ:Nat->gF}{hf:Nat->Option Ob}(h:Inv S K w0 Kn φ hf w)(hs:∀b,b<w.heap.size->w'.heap[b]?=w.heap[b]?):Re S w w' φ φ hf hf:=h.C0 (Ren.refl _ _) hs
theorem Inv.xl{S K:Nat->Prop}{w0 w:World}{Kn:Nat->Prop}{φ:Nat->gF}{hf:Nat->Option Ob}(h:Inv S K w0 Kn φ hf w)(n:Nat)(hn:w.drawn<=n):
  Inv S K w0 Kn φ hf {w with drawn:=n}:=
 h.kE (gV.xl S w n) (Ren.refl _ _) h.uO h.sk (h.ng.xl n hn) (fun id o ho=>.inl ⟨ho,fun hown=>⟨rfl,by obtain⟨_,hro⟩:=h.iL id o ho;cases hro<;>simp_all[cT]⟩⟩) h.eJ (h.Aw fun _ _=>rfl)
theorem RO.bq{S K:Nat->Prop}{w:World}{Kn:Nat->Prop}{φ:Nat->gF}{l:gF}{o:Ob}(h:RO S K w Kn φ l o)(ho:cT o=true):
  ¬S l.bU/\¬K l.bU/\l.bU<w.heap.size:=by
 cases h with|aL hsz hl hS hK hown=>exact⟨hS,hK,hown.lt⟩|box hb hS hK hown=>exact⟨hS,hK,hown.lt⟩|map hS hK hmp=>exact⟨hS,hK,(bg.1 hmp).1⟩|cap hsz hl hS hK hown=>exact⟨hS,hK,hown.lt⟩|nst hsz hl hS hK hown=>exact⟨hS,hK,hown.lt⟩|_=>simp[cT]at ho
def ext(φ:Nat->gF)(i:Nat)(l:gF):Nat->gF:=fun j=>if j=i then l else φ j
theorem jK{Kn:Nat->Prop}{φ:Nat->gF}{i:Nat}(l:gF)(hi:¬Kn i):Ren Kn φ (fun j=>Kn j\/j=i) (ext φ i l):=⟨fun _ h=>.inl h,fun j h=>by simp only[ext];rw[if_neg];rintro rfl;exact hi h⟩
abbrev HA(o:Ob):Prop:=∀sz sl(k:Nat)ao,o=.nst sz sl->sl[k]?≠some (kT.bq ao)
theorem Inv.G6{S K:Nat->Prop}{w0 w w':World}{Kn:Nat->Prop}{φ:Nat->gF}{hf:Nat->Option Ob}(h:Inv S K w0 Kn φ hf w){i:Nat}{l:gF}{o:Ob}(hno:HA o)
  (hsame:∀b,b<w.heap.size->w'.heap[b]?=w.heap[b]?) (hl:cT o=true->∀id sz sl k x,hf id=some (.nst sz sl)->rT w (φ id) sl k x->l.bU≠x):UJ w' (ext φ i l) (bk [(i,some o)] hf):=by
 have key:∀a sz sl k x,bk [(i,some o)] hf a=some (.nst sz sl)->rT w' (ext φ i l a) sl k x->hf a=some (.nst sz sl)/\rT w (φ a) sl k x:=by
  intro a sz sl k x ha hp;rw[bQ]at ha;by_cases e:i=a
  .rw [if_pos e]at ha;obtain rfl:=aa ha;obtain⟨ao,v,h1,_⟩:=hp;exact absurd h1 (hno _ _ _ _ rfl)
  .rw [if_neg e,fF]at ha;refine⟨ha,?_⟩;have e1:ext φ i l a=φ a:=by simp only[ext];rw[if_neg (fun q=>e q.symm)]
   rw[e1]at hp;obtain⟨_,h1⟩:=h.iL a _ ha;exact(rT.eh (hsame _ (by cases h1 with|nst _ _ _ _ ho=>exact ho.lt))).1 hp
 intro a sz sl k x ha hp;obtain⟨h1,h2⟩:=key a sz sl k x ha hp;obtain⟨p1,p2⟩:=h.wT a sz sl k x h1 h2;refine⟨fun j b hj hown=>?_,fun j sz' sl' k' hj hpj=>?_⟩
 .rw [bQ]at hj;by_cases e:i=j
  .rw [if_pos e]at hj;obtain rfl:=aa hj;simp only[ext];rw[if_pos e.symm];exact hl hown a sz sl k x h1 h2
  .rw [if_neg e,fF]at hj;simp only[ext];rw[if_neg (fun q=>e q.symm)];exact p1 j b hj hown
 .obtain ⟨h3,h4⟩:=key j sz' sl' k' x hj hpj;exact p2 j sz' sl' k' h3 h4
theorem Inv.DN{S K:Nat->Prop}{w0 w w':World}{Kn:Nat->Prop}{φ:Nat->gF}{hf:Nat->Option Ob}(h:Inv S K w0 Kn φ hf w){id:Nat}{o:Ob}(ho:hf id=some o)(hsame:∀b,b<w.heap.size->w'.heap[b]?=w.heap[b]?):Rh S w w' (φ id) o:=by intro sz sl e k x hp;subst e;obtain⟨h1,_,h2,_⟩:=h.Ig ho hp;exact⟨hsame x h2,h1⟩
theorem Inv.alloc{S K:Nat->Prop}{w0 w:World}{Kn:Nat->Prop}{φ:Nat->gF}{hf:Nat->Option Ob}(h:Inv S K w0 Kn φ hf w){i:Nat}(hi:¬Kn i)
  (aL:Array Value) (t:TypeId) (sz c:Nat) (o:Ob)
  (hro:RO S K {w with heap:=w.heap.push (.cells aL t)} (fun j=>Kn j\/j=i) (ext φ i ⟨w.heap.size,0,sz,aL.size,c⟩) ⟨w.heap.size,0,sz,aL.size,c⟩ o) (hno:HA o:=by intro _ _ _ _ e;cases e):
  Inv S K w0 (fun j=>Kn j\/j=i) (ext φ i ⟨w.heap.size,0,sz,aL.size,c⟩) (bk [(i,some o)] hf) {w with heap:=w.heap.push (.cells aL t)}:=by
 refine h.uS (gV.push h.uO _) (jK _ hi) (fun b hb=>by have:=h.uO b hb;simp;omega) h.sk (h.ng.push aL t) ?_ ?_ (h.G6 hno (fun b hb=>iJ hb) fun _ id sz sl k x ha hp e=>by have:=(h.Ig ha hp).2.2.1;simp only at e;omega)
 .intro id o' ho;rw[bQ]at ho;by_cases e:i=id
  .subst e;rw[if_pos rfl]at ho;obtain rfl:o=o':=by simpa using ho
   refine .inr ⟨.inr rfl,?_⟩;simpa[ext]using hro
  .rw [if_neg e,fF]at ho;refine .inl ⟨ho,fun hown=>?_,h.DN ho fun b hb=>iJ hb⟩;obtain⟨_,h2⟩:=h.iL id o' ho;obtain⟨a,b,c⟩:=h2.bq hown;exact⟨iJ c,a⟩
 .have key:∀j b,j≠i->hf j=some b->cT b=true->(ext φ i ⟨w.heap.size,0,sz,aL.size,c⟩ j).bU<w.heap.size:=by intro j b hj hb hown;obtain⟨_,h2⟩:=h.iL j b hb;simpa[ext,hj]using(h2.bq hown).2.2
  intro a b oa ob ha hb hoa hob hne;rw[bQ]at ha hb;by_cases ea:i=a
  .by_cases eb:i=b
   .exact absurd (ea.symm.trans eb) hne
   .rw [if_neg eb,fF]at hb;have:=key b ob (fun e=>eb e.symm) hb hob;have e1:(ext φ i ⟨w.heap.size,0,sz,aL.size,c⟩ a).bU=w.heap.size:=by simp[ext,ea]
    omega
  .rw [if_neg ea,fF]at ha;have h1:=key a oa (fun e=>ea e.symm) ha hoa;by_cases eb:i=b
   .have e1:(ext φ i ⟨w.heap.size,0,sz,aL.size,c⟩ b).bU=w.heap.size:=by simp[ext,eb]
    omega
   .rw [if_neg eb,fF]at hb;have:=h.eJ a b oa ob ha hb hoa hob hne;have e1:¬a=i:=fun e=>ea e.symm;have e2:¬b=i:=fun e=>eb e.symm;simpa[ext,e1,e2]using this
theorem BY{w:World}{o:Obj}(ho:∀c t r,o≠.cells c t r)(a:Addr):({w with heap:=w.heap.push o}:World).frozen? a=w.frozen? a:=by
 unfold World.frozen?;rcases m_ a.block w.heap.size with h|h|h
 .rw [iJ h]
 .rw [h];simp only[Array.getElem?_push_size,fE (au _)];cases o with|cells c t r=>exact absurd rfl (ho c t r)|_=>rfl
 .rw [fE (by simp;omega),fE (by omega)]
theorem Inv.Q8{S K:Nat->Prop}{w0 w:World}{Kn:Nat->Prop}{φ:Nat->gF}{hf:Nat->Option Ob}(h:Inv S K w0 Kn φ hf w){i:Nat}(hi:¬Kn i)
  {ob:Obj} (hob:∀c t r,ob≠.cells c t r) (l:gF) (hl:l.bU=w.heap.size) (o:Ob)
  (hro:RO S K {w with heap:=w.heap.push ob} (fun j=>Kn j\/j=i) (ext φ i l) l o) (hno:HA o:=by intro _ _ _ _ e;cases e):
  Inv S K w0 (fun j=>Kn j\/j=i) (ext φ i l) (bk [(i,some o)] hf) {w with heap:=w.heap.push ob}:=by
 have hfrm:GE K w0 {w with heap:=w.heap.push ob}:=
  ⟨h.ng.FO,fun b hb=>(iJ (cg (h.ng.FO b hb) h.ng.grow)).trans (h.ng.mQ b hb),by have:=h.ng.grow;simp;omega,fun a ha=>(BY hob a).trans (h.ng.AS a ha),
   fun b a ha=>let⟨a',h1,h2⟩:=h.ng.bq b a ha;⟨a',h1.l_ (iJ h1.lt),h2⟩,h.ng.io⟩
 refine h.uS (gV.push h.uO _) (jK _ hi) (fun b hb=>by have:=h.uO b hb;simp;omega) h.sk hfrm ?_ ?_ (h.G6 hno (fun b hb=>iJ hb) fun _ id sz sl k x ha hp e=>by have:=(h.Ig ha hp).2.2.1;omega)
 .intro id o' ho;rw[bQ]at ho;by_cases e:i=id
  .subst e;rw[if_pos rfl]at ho;obtain rfl:o=o':=by simpa using ho
   refine .inr ⟨.inr rfl,?_⟩;simpa[ext]using hro
  .rw [if_neg e,fF]at ho;refine .inl ⟨ho,fun hown=>?_,h.DN ho fun b hb=>iJ hb⟩;obtain⟨_,h2⟩:=h.iL id o' ho;obtain⟨a,b,c⟩:=h2.bq hown;exact⟨iJ c,a⟩
 .have key:∀j b,j≠i->hf j=some b->cT b=true->(ext φ i l j).bU<w.heap.size:=by intro j b hj hb hown;obtain⟨_,h2⟩:=h.iL j b hb;simpa[ext,hj]using(h2.bq hown).2.2
  intro a b oa ob ha hb hoa hob hne;rw[bQ]at ha hb;by_cases ea:i=a
  .by_cases eb:i=b
   .exact absurd (ea.symm.trans eb) hne
   .rw [if_neg eb,fF]at hb;have:=key b ob (fun e=>eb e.symm) hb hob;have e1:(ext φ i l a).bU=w.heap.size:=by simp[ext,ea,hl]
    omega
  .rw [if_neg ea,fF]at ha;have h1:=key a oa (fun e=>ea e.symm) ha hoa;by_cases eb:i=b
   .have e1:(ext φ i l b).bU=w.heap.size:=by simp[ext,eb,hl]
    omega
   .rw [if_neg eb,fF]at hb;have:=h.eJ a b oa ob ha hb hoa hob hne;have e1:¬a=i:=fun e=>ea e.symm;have e2:¬b=i:=fun e=>eb e.symm;simpa[ext,e1,e2]using this
theorem Inv.lV{S K:Nat->Prop}{w0 w:World}{Kn:Nat->Prop}{φ:Nat->gF}{hf hf':Nat->Option Ob}(h:Inv S K w0 Kn φ hf w)(hsub:∀id o,hf' id=some o->hf id=some o):
  Inv S K w0 Kn φ hf' w:=
 ⟨h.uO,h.sk,h.ng,fun id o ho=>h.iL id o (hsub id o ho),fun i j a b ha hb=>h.eJ i j a b (hsub _ _ ha) (hsub _ _ hb),h.BU,
  fun i sz sl k x hi hp=>let⟨a,b⟩:=h.wT i sz sl k x (hsub _ _ hi) hp;⟨fun j b hj=>a j b (hsub _ _ hj),fun j sz' sl' k' hj=>b j sz' sl' k' (hsub _ _ hj)⟩⟩
theorem Inv.set{S K:Nat->Prop}{w0 w w':World}{Kn:Nat->Prop}{φ:Nat->gF}{hf:Nat->Option Ob}(h:Inv S K w0 Kn φ hf w){id:Nat}{o o':Ob}
  (ho:hf id=some o) (hown:cT o=true) (hother:∀b,b≠(φ id).bU->w'.heap[b]?=w.heap[b]?) (hsize:w'.heap.size=w.heap.size)
  (hfrz:∀a,w'.frozen? a=w.frozen? a) (hsz:∀aL,m8 w (φ id).bU aL->∃arr',m8 w' (φ id).bU arr'/\arr'.size=aL.size) (hio:Io w w') (hro:gV S w S w'->RO S K w' Kn φ (φ id) o') (hn:∀sz sl,o'≠.nst sz sl:=by intro _ _ e;cases e):
  gV S w S w'/\Inv S K w0 Kn φ (bk [(id,some o')] hf) w':=by
 obtain⟨hk,h0⟩:=h.iL id o ho;obtain⟨hS,hK,hlt⟩:=h0.bq hown;have hs:gV S w S w':=⟨fun _ h=>h,fun b hb=>hother b (fun e=>hS (e▸hb))⟩
 have fix:∀i a,bk [(id,some o')] hf i=some a->cT a=true->∃a',hf i=some a'/\cT a'=true:=by
  intro i a ha hoa;rw[bQ]at ha;by_cases e:id=i
  .subst e;exact⟨o,ho,hown⟩
  .rw [if_neg e,fF]at ha;exact⟨a,ha,hoa⟩
 refine⟨hs,h.kE hs (Ren.refl _ _) (fun b hb=>hsize▸h.uO b hb) h.sk ?_ ?_ ?_ ?_⟩
 .exact ⟨h.ng.FO,fun b hb=>(hother b (fun e=>hK (e▸hb))).trans (h.ng.mQ b hb),hsize▸h.ng.grow,fun a ha=>(hfrz a).trans (h.ng.AS a ha),h.ng.yu hother hsz,h.ng.io.trans hio⟩
 .intro i x hx;rw[bQ]at hx;by_cases e:id=i
  .subst e;rw[if_pos rfl]at hx;obtain rfl:o'=x:=by simpa using hx
   exact .inr ⟨hk,hro hs⟩
  .rw [if_neg e,fF]at hx;refine .inl ⟨hx,fun hox=>⟨hother _ ?_,((h.iL i x hx).2.bq hox).1⟩⟩;exact(h.eJ i id x o hx ho hox hown (fun e'=>e e'.symm))
 .intro i j a b ha hb hoa hob hne;obtain⟨a',ha',hoa'⟩:=fix i a ha hoa;obtain⟨b',hb',hob'⟩:=fix j b hb hob;exact h.eJ i j a' b' ha' hb' hoa' hob' hne
 .intro a sz sl ha;rw[bQ]at ha;by_cases e:id=a
  .rw [if_pos e]at ha;exact absurd (aa ha) (hn _ _)
  .rw [if_neg e,fF]at ha;refine⟨ha,hother _ (h.eJ a id _ o ha ho rfl hown fun q=>e q.symm),fun k x hp=>?_⟩;obtain⟨p1,_⟩:=h.wT a sz sl k x ha hp;refine⟨hother x fun q=>p1 id o ho hown q.symm,(h.Ig ha hp).1,fun j b hj hb=>?_⟩;obtain⟨b',hb',hob'⟩:=fix j b hj hb;exact p1 j b' hb' hob'
variable{P:Program}
def fG(P:Program)(t:TypeId):Option Nat:=(P.info? t).map (·.size)
def fM(P:Program)(t:TypeId):Option Bool:=(P.underlying t).map fun|.struct _|.array _ _=>true|_=>false
def jQ(P:Program)(t:TypeId):Option (List Value):=match(P.info? t).bind (·.zero)with|some z=>if z.cells.toList.all d_ then some z.cells.toList else none|none=>none
theorem pF(b off n:Nat):(⟨b,off,none⟩:Addr).add n=⟨b,off+n,none⟩:=by unfold Addr.add;split<;>simp_all
theorem gZ{t:TypeId}{n:Nat}(h:fG P t=some n)(w:World):(sizeOf t).run P w=.ok n w:=by simp only[fG,aF]at h;obtain⟨i,hi,rfl⟩:=h;simp[sizeOf,typeInfo,hi]
theorem bY{t:TypeId}{d:TypeDesc}(h:P.underlying t=some d)(w:World):(underlying t).run P w=.ok d w:=by simp[underlying,h]
theorem tj{t:TypeId}{g:Bool}(h:fM P t=some g)(w:World):(isAgg t).run P w=.ok g w:=by simp only[fM,aF]at h;obtain⟨d,hd,rfl⟩:=h;simp only[isAgg,Sem.run_bind,bY hd,Result.andThen_ok];cases d<;>rfl
theorem pi{t:TypeId}{z:List Value}(h:jQ P t=some z)(w:World):
  ∃v,(zeroValue t).run P w=.ok v w/\v.cells.toList=z/\∀x∈z,d_ x=true:=by
 simp only[jQ]at h;split at h
 .rename_i v hv;split at h
  .rename_i hp;obtain rfl:=aa h;obtain⟨i,hi,hz⟩:=ff.1 hv;exact⟨v,by simp[zeroValue,typeInfo,hi,hz],rfl,fun x hx=>bc.1 hp x hx⟩
  .simp at h
 .simp at h
section
variable{S K:Nat->Prop}{w0 w:World}{Kn:Nat->Prop}{φ:Nat->gF}{hf:Nat->Option Ob}
theorem FN(agg:Bool)(n:Nat)(cells:List D):Pb agg n cells=DJ agg n (cells.map .d):=by
 unfold Pb DJ;cases agg
 .cases cells<;>rfl
 .simp [List.map_take]
theorem vU{t:TypeId}{agg:Bool}{n:Nat}(ha:fM P t=some agg)(hn:fG P t=some n){cells:List C}{b o:Nat}{v:TV}
  (hc:∀(j:Nat)(x:C),cells[j]?=some x->∃u,w.cell? ⟨b,o+j,none⟩=some u/\RC S w Kn φ x u) (h:DJ agg n cells=some v):
  ∃val,(loadVar t ⟨b,o,none⟩).run P w=.ok val w/\gf S w Kn φ v val:=by
 unfold DJ at h;cases agg
 .simp only[aS,if_false]at h;cases cells with
  |nil=>simp at h
  |cons x r=>
   obtain rfl:TV.c x=v:=by simpa using h
   obtain⟨u,hu,hr⟩:=hc 0 x rfl;refine⟨u,?_,.c hr⟩;simp only[loadVar,Sem.run_bind,tj ha,Result.andThen_ok,aS,if_false,run_load];simp only[dM]at hu;simp[hu]
 .simp only[if_true]at h;split at h
  .rename_i hle;obtain rfl:=aa h
   have hcell:∀j,j<n->w.cell? ((⟨b,o,none⟩:Addr).add j)=some ((w.cell? ⟨b,o+j,none⟩).getD undef):=by
    intro j hj;have hj':j<cells.length:=by omega
    obtain⟨u,hu,_⟩:=hc j cells[j] (by simp[hj']);rw[pF,hu];rfl
   refine⟨.agg ((aK n).map fun j=>(w.cell? ⟨b,o+j,none⟩).getD undef).toArray,?_,.agg (by simp;omega) ?_⟩
   .simp only[loadVar,Sem.run_bind,tj ha,Result.andThen_ok,if_true,gZ hn,run_loadCells w _ n _ hcell,Sem.run_pure]
   .intro i x hi;rw[eG]at hi;split at hi
    .rename_i hin;obtain⟨u,hu,hr⟩:=hc i x hi;have:((aK n).map fun j=>(w.cell? ⟨b,o+j,none⟩).getD undef).toArray.getD i undef=u:=by simp[jG,hin,hu]
     rw[this];exact hr
    .simp at hi
  .simp at h
theorem B8{id di:Nat}{sz:Nat}{ao:List (List D)}(hI:Inv S K w0 Kn φ hf w)(ho:hf id=some (.aL sz ao)\/hf id=some (.py sz ao)){r:List D}(hr:ao[di]?=some r)(off:Nat):
  (φ id).sz=sz/\r.length=sz/\∀(j:Nat)(x:C),((r.drop off).map C.d)[j]?=some x->∃u,w.cell? ⟨(φ id).bU,(φ id).aQ+di*(φ id).sz+off+j,none⟩=some u/\RC S w Kn φ x u:=by
 rcases ho with ho|ho
 .obtain ⟨hk,h0⟩:=hI.iL _ _ ho;cases h0 with|aL hsz hl hS hK hown hext hfit hrr=>refine⟨hl,hrr.1 _ _ hr,fun j x hj=>?_⟩;rw[aG,bO]at hj;obtain⟨d,hd,rfl⟩:=aF.1 hj;obtain⟨u,hu,hrd⟩:=hrr.2 di r hr (off+j) d hd;refine⟨u,?_,.d hrd⟩;rw[hown.cell,hl,<-hu];show _=_;congr 1;omega
 .obtain ⟨hk,h0⟩:=hI.iL _ _ ho;cases h0 with|py hsz hl hS hrr=>refine⟨hl,hrr.1 _ _ hr,fun j x hj=>?_⟩;rw[aG,bO]at hj;obtain⟨d,hd,rfl⟩:=aF.1 hj;obtain⟨u,hu,hrd⟩:=hrr.2 di r hr (off+j) d hd;refine⟨u,?_,.d hrd⟩;rw[hl,<-hu];simp only[cM]
theorem yg{t:TypeId}{agg:Bool}{n:Nat}(ha:fM P t=some agg)(hn:fG P t=some n){p:C}{H:bF}{v:TV}{aA:List Nat}{pv:Value}
  (hI:Inv S K w0 Kn φ (aB H) w) (hp:RC S w Kn φ p pv) (h:h_ agg n p H=some (v,aA)):
  ∃val,(Instr.loadAt t pv).run P w=.ok val w/\gf S w Kn φ v val:=by
 unfold h_ at h;split at h
 .rename_i cells;split at h
  .rename_i v' hv;obtain⟨rfl,rfl⟩:v'=v/\[]=aA:=by simpa using h
   rw[FN]at hv;cases hp with
   |d hd=>cases hd with|pt f hb hcell hrd=>obtain⟨val,h1,h2⟩:=vU (Kn:=Kn) (φ:=φ) (S:=S) ha hn (cells:=cells.map .d) (fun j x hj=>by rw[aG]at hj;obtain⟨d,hd,rfl⟩:=aF.1 hj;exact⟨_,hcell j d hd,.d (hrd j d hd)⟩) hv;exact⟨val,by simp[Instr.loadAt,Instr.sureAddr,h1],h2⟩
  .simp at h
 .rename_i id di off
  have key:∀sz ao,(aB H id=some (.aL sz ao)\/aB H id=some (.py sz ao))->
    (match ao[di]?with|some r=>(match Pb agg n (r.drop off)with|some v=>some (v,[id])|none=>none)|none=>none)=some (v,aA)->
    ∃val,(Instr.loadAt t pv).run P w=.ok val w/\gf S w Kn φ v val:=by
   intro sz ao ho h;split at h
   .rename_i r hr;split at h
    .rename_i v' hv;obtain⟨rfl,rfl⟩:v'=v/\[id]=aA:=by simpa using h
     rw[FN]at hv;obtain⟨hl,hrl,hc⟩:=B8 hI ho hr off;cases hp with|ep hk=>obtain⟨val,h1,h2⟩:=vU ha hn hc hv;exact⟨val,by simp[Instr.loadAt,Instr.sureAddr,h1],h2⟩
    .simp at h
   .simp at h
  split at h
  .rename_i sz ao ho;exact key sz ao (.inl ho) h
  .rename_i sz ao ho;exact key sz ao (.inr ho) h
  .simp at h
 .rename_i id off;split at h
  .rename_i cells ho;split at h
   .rename_i v' hv;obtain⟨rfl,rfl⟩:v'=v/\[id]=aA:=by simpa using h
    obtain⟨hk,h0⟩:=hI.iL _ _ ho;cases h0 with
    |box hb hS hK hown hlen hrr=>cases hp with|op hk=>obtain⟨val,h1,h2⟩:=vU (S:=S) (Kn:=Kn) (φ:=φ) ha hn (cells:=cells.drop off) (b:=(φ id).bU) (o:=(φ id).aQ+off) (fun j x hj=>by rw[bO]at hj;have hlt:=(ak.1 hj).1;rw[hlen]at hlt;refine⟨_,?_,hrr _ _ hj⟩;rw[hown.cell,hb];simp[jG,hlt]) hv;exact⟨val,by simp[Instr.loadAt,Instr.sureAddr,h1],h2⟩
   .simp at h
  .rename_i cells ho;split at h
   .rename_i v' hv;obtain⟨rfl,rfl⟩:v'=v/\[id]=aA:=by simpa using h
    rw[FN]at hv;obtain⟨hk,h0⟩:=hI.iL _ _ ho;cases h0 with
    |oe hb hS hrr=>cases hp with|op hk=>obtain⟨val,h1,h2⟩:=vU (S:=S) (Kn:=Kn) (φ:=φ) ha hn (cells:=(cells.drop off).map .d) (b:=(φ id).bU) (o:=(φ id).aQ+off) (fun j x hj=>by rw[aG,bO]at hj;obtain⟨d,hd,rfl⟩:=aF.1 hj;obtain⟨u,hu,hr⟩:=hrr _ _ hd;exact⟨u,by rw[hb,<-hu];simp,.d hr⟩) hv;exact⟨val,by simp[Instr.loadAt,Instr.sureAddr,h1],h2⟩
   .simp at h
  .simp at h
 .simp at h
theorem z_{w:World}{b:Nat}{old aL:Array Value}(h:m8 w b old)(a:Addr):(w.setRow b aL).frozen? a=w.frozen? a:=by
 obtain⟨t,h⟩:=h;unfold World.frozen?;by_cases e:a.block=b
 .rw [e,setRow_heap w b old aL t _ h,h]
 .rw [setRow_other w b _ _ e]
theorem yv{w:World}{b:Nat}{old aL:Array Value}(h:m8 w b old):m8 (w.setRow b aL) b aL:=by obtain⟨t,h⟩:=h;exact⟨t,setRow_heap w b old aL t _ h⟩
theorem po(v:Value):v.oneCell'=one v:=by cases v<;>rfl
theorem gf.cells{S:Nat->Prop}{w:World}{Kn:Nat->Prop}{φ:Nat->gF}{v:TV}{val:Value}{cs:List C}(h:gf S w Kn φ v val)(hc:cellsOf v=some cs):
  cs.length=val.cells.size/\(∀(i:Nat)(x:C),cs[i]?=some x->RC S w Kn φ x (val.cells.getD i undef))/\∀x∈val.cells.toList,one x=true:=by
 cases h with
 |@c x v h=>
  obtain rfl:[x]=cs:=by simpa[cellsOf]using hc
  have e:=vx h.one;refine⟨by rw[e];rfl,fun i y hi=>?_,fun y hy=>?_⟩
  .cases i with
   |zero=>
    rw[e];obtain rfl:x=y:=by simpa using hi
    exact h
   |succ i=>simp at hi
  .rw [e]at hy;obtain rfl:y=val:=by simpa using hy
   exact h.one
 |@agg cs' aL hlen h=>
  obtain rfl:cs'=cs:=by simpa[cellsOf]using hc
  refine⟨hlen,h,fun y hy=>?_⟩;obtain⟨i,hi,rfl⟩:=cj hy;have hi':i<aL.size:=by simpa[Value.cells]using hi
  have:=(h i (cs'[i]'(by omega)) (by simp[hlen,hi'])).one;simpa[jG,hi',Value.cells]using this
 |iN hlen h=>simp[cellsOf]at hc
theorem Nu{t:TypeId}{n:Nat}(hn:fG P t=some n){b o:Nat}{aL:Array Value}{val:Value}(ho:m8 w b aL)(hlen:val.cells.size=n)(hfit:o+n<=aL.size)
  (hone:∀x∈val.cells.toList,one x=true):
  (storeVar t ⟨b,o,none⟩ val).run P w=.ok () (w.setRow b (aL.toList.take o++val.cells.toList++aL.toList.drop (o+n)).toArray):=by
 obtain⟨ty,hb⟩:=ho;have:=run_storeCells_at P b o ty val.cells.toList 0 aL w hb (by simp;omega) (fun v hv=>by rw[po];exact hone v hv);have e:val.cells.toList.length=n:=by simpa using hlen
 rw[e]at this;simp only[dM]at this;simp only[storeVar,Sem.run_bind,gZ hn,Result.andThen_ok,hlen,ne_eq,not_true_eq_false,if_false];exact this
theorem jx{α:Type}(l:List α)(off:Nat)(p:List α)(hfit:off+p.length<=l.length)(i:Nat):
  (aU l off p)[i]?=if i<off then l[i]?else if i<off+p.length then p[i-off]?else l[i]?:=by
 unfold aU;by_cases h1:i<off
 .rw [List.append_assoc,bM (by simp;omega)];simp[h1]
 .by_cases h2:i<off+p.length
  .rw [bM (by simp;omega),bP (by simp;omega)];simp only[cF,h1,h2,if_true,if_false];congr 1;omega
  .rw [bP (by simp;omega)];simp only[List.length_append,cF,bO,h1,h2,if_false];congr 1;omega
theorem eN{α:Type}(l:List α)(off:Nat)(p:List α)(hfit:off+p.length<=l.length):(aU l off p).length=l.length:=by unfold aU;simp;omega
theorem PZ{aL:Array Value}{vs:List Value}{o n:Nat}(hn:vs.length=n):aL.toList.take o++vs++aL.toList.drop (o+n)=aU aL.toList o vs:=by rw[<-hn];rfl
end
section
variable{S K:Nat->Prop}{w0 w:World}{Kn:Nat->Prop}{φ:Nat->gF}{hf:Nat->Option Ob}
theorem RD.As{sz:Nat}{ao:List (List D)}{b off len cap:Nat}(hb:S b)(hsz:0<sz)(hlen:ao.length=len)(hcap:len<=cap)
  (h:cS S w sz (fun i=>w.cell? ⟨b,i,none⟩) off ao):RD S w (.sl sz ao) (.slice (some ⟨b,off,none⟩) len cap):=by
 subst hlen;refine .sl (fun i j=>(w.cell? ⟨b,off+i*sz+j,none⟩).getD undef) hb hsz hcap h.1 (fun i r hi j x hj=>?_) (fun i r hi j x hj=>?_)
 .obtain ⟨v,hv,_⟩:=h.2 i r hi j x hj;simp only at hv;rw[hv];rfl
 .obtain ⟨v,hv,hr⟩:=h.2 i r hi j x hj;simp only at hv;rw[hv];exact hr
theorem RD.yp{cells:List D}{b off:Nat}(hb:S b)(h:∀(j:Nat)(x:D),cells[j]?=some x->∃v,w.cell? ⟨b,off+j,none⟩=some v/\RD S w x v):
  RD S w (.pt cells) (.pointer (some ⟨b,off,none⟩)):=by
 refine .pt (fun j=>(w.cell? ⟨b,off+j,none⟩).getD undef) hb (fun j x hj=>?_) (fun j x hj=>?_)
 .obtain ⟨v,hv,_⟩:=h j x hj;rw[hv];rfl
 .obtain ⟨v,hv,hr⟩:=h j x hj;rw[hv];exact hr
def rk(w:World)(l:gF):List kT->Nat->List Nat
 |[],_=>[]
 |.bq _::r,k=>(match(w.cell? ⟨l.bU,l.aQ+k,none⟩).bind xn with|some b=>b::rk w l r (k+1)|none=>rk w l r (k+1))
 |_::r,k=>rk w l r (k+1)
def ip(w:World)(φ:Nat->gF)(hf:Nat->Option Ob)(i:Nat):List Nat:=(φ i).bU::(match hf i with|some (.nst _ sl)=>rk w (φ i) sl 0|_=>[])
theorem C4{l:gF}{x:Nat}:∀{sl:List kT}{k0:Nat},x∈rk w l sl k0<->∃k ao v,sl[k]?=some (.bq ao)/\w.cell? ⟨l.bU,l.aQ+(k0+k),none⟩=some v/\xn v=some x:=by
 intro sl;induction sl with
 |nil=>intro k0;simp[rk]
 |cons s sl ih=>
  intro k0;have tl:(∃k ao v,sl[k]?=some (.bq ao)/\w.cell? ⟨l.bU,l.aQ+(k0+1+k),none⟩=some v/\xn v=some x)->∃k ao v,(s::sl)[k]?=some (.bq ao)/\w.cell? ⟨l.bU,l.aQ+(k0+k),none⟩=some v/\xn v=some x:=by rintro⟨k,ao,v,h1,h2,h3⟩;exact⟨k+1,ao,v,by simpa using h1,by rw[<-h2,show k0+(k+1)=k0+1+k by omega],h3⟩
  have key:(∀ao,s≠.bq ao)->((∃k ao v,(s::sl)[k]?=some (.bq ao)/\w.cell? ⟨l.bU,l.aQ+(k0+k),none⟩=some v/\xn v=some x)->∃k ao v,sl[k]?=some (.bq ao)/\w.cell? ⟨l.bU,l.aQ+(k0+1+k),none⟩=some v/\xn v=some x):=by rintro hs ⟨k,ao,v,h1,h2,h3⟩;cases k with|zero=>exact absurd (by simpa using h1) (hs ao)|succ k=>exact⟨k,ao,v,by simpa using h1,by rw[<-h2,show k0+(k+1)=k0+1+k by omega],h3⟩
  cases s with
  |nil=>exact ih.trans ⟨tl,key fun _ e=>by cases e⟩
  |dX id len=>exact ih.trans ⟨tl,key fun _ e=>by cases e⟩
  |bq rows0=>
   simp only[rk];constructor
   .intro hx;split at hx
    .rename_i b hb;rcases aM.1 hx with rfl|hx
     .obtain ⟨v,h1,h2⟩:=ff.1 hb;exact⟨0,rows0,v,rfl,h1,h2⟩
     .exact tl (ih.1 hx)
    .exact tl (ih.1 hx)
   .rintro ⟨k,ao,v,h1,h2,h3⟩;cases k with
    |zero=>
     have e:(w.cell? ⟨l.bU,l.aQ+k0,none⟩).bind xn=some x:=by rw[show l.aQ+k0=l.aQ+(k0+0)from rfl,h2];exact h3
     rw[e];simp
    |succ k=>
     have hm:=ih.2 ⟨k,ao,v,by simpa using h1,by rw[<-h2,show k0+(k+1)=k0+1+k by omega],h3⟩;split
     .exact aC _ hm
     .exact hm
theorem GU{l:gF}{x:Nat}{sl:List kT}:x∈rk w l sl 0<->∃k,rT w l sl k x:=by rw[C4];simp only[bK];exact Iff.rfl
theorem Fk{l:gF}:∀{sl:List kT}{k0:Nat},(∀k k' x ao rows' v v',sl[k]?=some (.bq ao)->w.cell? ⟨l.bU,l.aQ+(k0+k),none⟩=some v->xn v=some x->sl[k']?=some (.bq rows')->w.cell? ⟨l.bU,l.aQ+(k0+k'),none⟩=some v'->xn v'=some x->k=k')->(rk w l sl k0).Nodup:=by
 intro sl;induction sl with
 |nil=>intro k0 _;exact fQ
 |cons s sl ih=>
  intro k0 h;have h':(rk w l sl (k0+1)).Nodup:=ih fun k k' x ao rows' v v' h1 h2 h3 h4 h5 h6=>by have:=h (k+1) (k'+1) x ao rows' v v' (by simpa using h1) (by rw[<-h2,show k0+(k+1)=k0+1+k by omega]) h3 (by simpa using h4) (by rw[<-h5,show k0+(k'+1)=k0+1+k' by omega]) h6;omega
  cases s with
  |nil=>exact h'
  |dX id len=>exact h'
  |bq rows0=>
   simp only[rk];split
   .rename_i b hb;refine fR.2 ⟨fun hm=>?_,h'⟩;obtain⟨v0,h1,h2⟩:=ff.1 hb;obtain⟨k,ao,v,h3,h4,h5⟩:=C4.1 hm;have:=h 0 (k+1) b rows0 ao v0 v rfl h1 h2 (by simpa using h3) (by rw[<-h4,show k0+(k+1)=k0+1+k by omega]) h5;omega
   .exact h'
theorem dQ{i x:Nat}:x∈ip w φ hf i<->x=(φ i).bU\/∃sz sl k,hf i=some (.nst sz sl)/\rT w (φ i) sl k x:=by
 unfold ip;rw[aM];refine or_congr_right ?_;split
 .rename_i sz sl h;rw[GU];exact⟨fun⟨k,hk⟩=>⟨sz,sl,k,h,hk⟩,fun⟨_,_,k,h1,hk⟩=>by rw[h]at h1;cases h1;exact⟨k,hk⟩⟩
 .rename_i h;exact⟨fun hx=>by simp at hx,fun⟨sz,sl,k,h1,_⟩=>(h sz sl h1).elim⟩
theorem oq(hI:Inv S K w0 Kn φ hf w){i:Nat}{o:Ob}(ho:hf i=some o)(hown:cT o=true){x:Nat}(hx:x∈ip w φ hf i):¬S x/\¬K x/\x<w.heap.size:=by
 rcases dQ.1 hx with rfl|⟨sz,sl,k,h1,h2⟩
 .exact (hI.iL i o ho).2.bq hown
 .obtain ⟨a,b,c,_⟩:=hI.Ig h1 h2;exact⟨a,b,c⟩
theorem nM(hI:Inv S K w0 Kn φ hf w){i j:Nat}{a b:Ob}(hi:hf i=some a)(hj:hf j=some b)(ha:cT a=true)(hb:cT b=true)(hne:i≠j){x:Nat}(hx:x∈ip w φ hf i):x∉ip w φ hf j:=by
 intro hy;rcases dQ.1 hx with rfl|⟨sz,sl,k,h1,h2⟩<;>rcases dQ.1 hy with e|⟨sz',sl',k',h3,h4⟩
 .exact hI.eJ i j a b hi hj ha hb hne e
 .exact (hI.wT j sz' sl' k' _ h3 h4).1 i a hi ha rfl
 .subst e;exact(hI.wT i sz sl k _ h1 h2).1 j b hj hb rfl
 .exact hne (((hI.wT i sz sl k x h1 h2).2 j sz' sl' k' h3 h4).1).symm
theorem Gw(hI:Inv S K w0 Kn φ hf w){i:Nat}{o:Ob}(ho:hf i=some o)(hown:cT o=true):(ip w φ hf i).Nodup:=by
 unfold ip;refine fR.2 ⟨fun hm=>?_,?_⟩
 .split at hm
  .rename_i sz sl h;obtain⟨k,hk⟩:=GU.1 hm;exact(hI.wT i sz sl k _ h hk).1 i o ho hown rfl
  .simp at hm
 .split
  .rename_i sz sl h;refine Fk fun k k' x ao rows' v v' h1 h2 h3 h4 h5 h6=>?_;rw[bK]at h2 h5;exact(((hI.wT i sz sl k x h ⟨ao,v,h1,h2,h3⟩).2 i sz sl k' h ⟨rows',v',h4,h5,h6⟩).2).symm
  .exact fQ
theorem kO(i:Nat):(φ i).bU∈ip w φ hf i:=dQ.2 (.inl rfl)
def SB(S:Nat->Prop)(w:World)(φ:Nat->gF)(hf:Nat->Option Ob)(aA:List Nat)(b:Nat):Prop:=S b\/∃i∈aA,b∈ip w φ hf i
theorem SB.Cn(a b:List Nat)(h:∀i∈a,i∈b):gV (SB S w φ hf a) w (SB S w φ hf b) w:=⟨fun _ hb=>hb.imp id fun⟨i,hi,e⟩=>⟨i,h i hi,e⟩,fun _ _=>rfl⟩
theorem SB.um(b:List Nat):gV S w (SB S w φ hf b) w:=⟨fun _ hb=>.inl hb,fun _ _=>rfl⟩
theorem Hz.rd{sz b:Nat}{ao:List (List D)}{v:Value}(h:Hz S w sz ao v b){T:Nat->Prop}(hT:gV S w T w)(hb:T b):RD T w (.sl sz ao) v:=by obtain⟨addr,cap,aL,rfl,h2,h3,h4,_,h6⟩:=h;exact .As hb h2 rfl h4 ⟨h6.1,fun i r hi j x hj=>let⟨v,hv,hr⟩:=h6.2 i r hi j x hj;⟨v,(h3.cell _).trans hv,hr.mono hT⟩⟩
theorem Dr{l:gF}{szi:Nat}{slots:List kT}(h:RO S K w Kn φ l (.nst szi slots)){ao:List (List D)}(hd:qd szi slots=some ao){T:Nat->Prop}(hT:gV S w T w)(hp:∀k x,rT w l slots k x->T x):
  ao.length=slots.length/\cS T w 1 (fun i=>w.cell? ⟨l.bU,i,none⟩) l.aQ ao:=by
 have key:∀(slots:List kT)(ao:List (List D)),qd szi slots=some ao->ao.length=slots.length/\∀(i:Nat)(r:List D),ao[i]?=some r->∃s x,slots[i]?=some s/\J8 szi s=some x/\r=[x]:=by
  intro slots;induction slots with
  |nil=>intro ao h;obtain rfl:=aa h;exact⟨rfl,fun i r hi=>by simp at hi⟩
  |cons s slots ih=>
   intro ao h;simp only[qd]at h;split at h
   .rename_i x l hx hl;obtain rfl:=aa h;obtain⟨h1,h2⟩:=ih l hl;refine⟨by simp[h1],fun i r hi=>?_⟩;cases i with|zero=>exact⟨s,x,rfl,hx,(by simpa using hi:[x]=r).symm⟩|succ i=>obtain⟨s',x',e1,e2,e3⟩:=h2 i r (by simpa using hi);exact⟨s',x',by simpa using e1,e2,e3⟩
   .simp at h
 obtain⟨k1,k2⟩:=key slots ao hd;cases h with
 |nst hsz hl hS hK ho hext hfit hr hv=>
  refine⟨k1,fun i r hi=>by obtain⟨_,_,_,_,rfl⟩:=k2 i r hi;rfl,fun i r hi j x hj=>?_⟩;obtain⟨s,y,e1,e2,rfl⟩:=k2 i r hi;cases j with
  |succ j=>simp at hj
  |zero=>
   obtain rfl:y=x:=by simpa using hj
   obtain⟨v,h1,h2⟩:=hr i s e1;refine⟨v,by rw[lj,dM];exact(ho.cell _).trans h1,?_⟩;cases h2 with|nil=>obtain rfl:=aa e2;exact .lit rfl|@bq rows' _ b h3 _ _=>obtain rfl:=aa e2;exact h3.rd hT (hp i b ⟨rows',v,e1,(ho.cell _).trans h1,h3.bU⟩)|dX _=>simp[J8]at e2
theorem nz{id sz:Nat}{ao:List (List D)}(hI:Inv S K w0 Kn φ hf w)(ho:hf id=some (.aL sz ao)\/hf id=some (.py sz ao)):
  0<sz/\(φ id).sz=sz/\cS S w sz (fun i=>w.cell? ⟨(φ id).bU,i,none⟩) (φ id).aQ ao:=by
 rcases ho with ho|ho
 .obtain ⟨_,h0⟩:=hI.iL _ _ ho;cases h0 with|aL hsz hl hS hK hown hext hfit hrr=>exact⟨hsz,hl,hrr.1,fun i r hi j x hj=>let⟨v,hv,hr⟩:=hrr.2 i r hi j x hj;⟨v,(hown.cell _).trans hv,hr⟩⟩
 .obtain ⟨_,h0⟩:=hI.iL _ _ ho;cases h0 with|py hsz hl hS hrr=>exact⟨hsz,hl,hrr⟩
theorem cS.sub{sz aQ:Nat}{get:Nat->Option Value}{ao:List (List D)}(h:cS S w sz get aQ ao)(off len:Nat):
  cS S w sz get (aQ+off*sz) ((ao.drop off).take len):=by
 have key:∀i(r:List D),((ao.drop off).take len)[i]?=some r->ao[off+i]?=some r:=by
  intro i r hi;rw[eG]at hi;split at hi
  .rwa [bO]at hi
  .simp at hi
 refine⟨fun i r hi=>h.1 _ _ (key i r hi),fun i r hi j x hj=>?_⟩;obtain⟨v,hv,hr⟩:=h.2 _ _ (key i r hi) j x hj;refine⟨v,?_,hr⟩;rw[<-hv];congr 1;rw[Nat.add_mul];omega
theorem cS.xd{sz aQ addr:Nat}{get:Nat->Option Value}{ao:List (List D)}(h:cS S w sz get aQ ao)(off len:Nat)(ha:0<len->addr=aQ+off*sz):
  cS S w sz get addr ((ao.drop off).take len):=by
 cases len with|zero=>exact⟨fun i r hi=>by simp at hi,fun i r hi=>by simp at hi⟩|succ n=>rw[ha (Nat.succ_pos _)];exact h.sub off _
theorem Cu{sz id off len:Nat}{ao:List (List D)}{v:Value}{szo:Nat}(hI:Inv S K w0 Kn φ hf w)(hc:RC S w Kn φ (.fh sz id off len) v)
  (ho:hf id=some (.aL szo ao)\/hf id=some (.py szo ao)) (hle:off+len<=ao.length) {T:Nat->Prop} (hT:gV S w T w) (hb:T (φ id).bU):
  RD T w (.sl sz ((ao.drop off).take len)) v:=by
 obtain⟨hsz,hl,hr⟩:=nz hI ho;subst hl;cases hc with|fh hk hcap haddr hext=>exact .As hb hsz (by simp;omega) hcap ((hr.xd off len fun h=>haddr (by omega)).mono hT)
theorem Nb{id di off sz:Nat}{ao:List (List D)}{r:List D}{v:Value}(hI:Inv S K w0 Kn φ hf w)(hc:RC S w Kn φ (.ep id di off) v)
  (ho:hf id=some (.aL sz ao)\/hf id=some (.py sz ao)) (hr:ao[di]?=some r) {T:Nat->Prop} (hT:gV S w T w) (hb:T (φ id).bU):
  RD T w (.pt (r.drop off)) v:=by
 obtain⟨hsz,hl,hrr⟩:=nz hI ho;cases hc with|ep hk=>refine .yp hb fun j x hj=>?_;rw[bO]at hj;obtain⟨u,hu,hd⟩:=hrr.2 di r hr (off+j) x hj;refine⟨u,?_,hd.mono hT⟩;rw[<-hu,hl];simp only[cM]
theorem Ak{H:bF}(hI:Inv S K w0 Kn φ (aB H) w)(n:Nat)(c:C)(x:D)(aA:List Nat)(v:Value)(hleaf:match c with|.op _ _|.oN _ _=>False|_=>True)
  (h:dV H n c=some (x,aA)) (hc:RC S w Kn φ c v):RD (SB S w φ (aB H) aA) w x v:=by
 cases c with
 |d y=>simp only[dV,bl,Prod.mk.injEq]at h;obtain⟨rfl,rfl⟩:=h;cases hc with|d hd=>exact hd.mono (SB.um _)
 |fh sz id off len=>
  simp only[dV]at h
  have key:∀szo ao,(aB H id=some (.aL szo ao)\/aB H id=some (.py szo ao))->(if off+len<=ao.length then some (D.sl sz ((ao.drop off).take len),[id])else none)=some (x,aA)->RD (SB S w φ (aB H) aA) w x v:=by
   intro szo ao ho h;split at h
   .rename_i hle;obtain⟨rfl,rfl⟩:=ad (aa h);exact Cu hI hc ho hle (SB.um _) (.inr ⟨_,by simp,kO _⟩)
   .simp at h
  split at h
  .exact key _ _ (.inl (by assumption)) h
  .exact key _ _ (.inr (by assumption)) h
  .rename_i szi slots ho;split at h
   .rename_i he;obtain⟨rfl,rfl⟩:=he;split at h
    .rename_i ao hd;obtain⟨rfl,rfl⟩:=ad (aa h);obtain⟨_,hro⟩:=hI.iL _ _ ho;obtain⟨h1,h2⟩:=Dr hro hd (SB.um (hf:=aB H) (φ:=φ) [id]) fun k x hp=>.inr ⟨id,by simp,dQ.2 (.inr ⟨szi,slots,k,ho,hp⟩)⟩;cases hro with
     |nst hsz hl=>
      cases hc with
      |fh hk hcap haddr hext=>rw[hl];refine .As (.inr ⟨id,by simp,kO id⟩) Nat.one_pos h1 hcap ?_;cases hs:slots with|nil=>have:ao=[]:=List.length_eq_zero_iff.1 (by rw[h1,hs];rfl);rw[this];exact⟨fun i r hi=>by simp at hi,fun i r hi=>by simp at hi⟩|cons s r=>rw[hs]at hcap;have:=haddr (by simp at hcap;omega);rw[this,hl,jt,dM];exact h2
    .simp at h
   .simp at h
  .simp at h
 |ep id di off=>
  simp only[dV]at h
  have key:∀szo ao,(aB H id=some (.aL szo ao)\/aB H id=some (.py szo ao))->
    (match ao[di]?with|some r=>if off<=r.length then some (D.pt (r.drop off),[id])else none|none=>none)=some (x,aA)->RD (SB S w φ (aB H) aA) w x v:=by
   intro szo ao ho h;split at h
   .rename_i r hr;split at h
    .obtain ⟨rfl,rfl⟩:=ad (aa h);exact Nb hI hc ho hr (SB.um _) (.inr ⟨_,by simp,kO _⟩)
    .simp at h
   .simp at h
  split at h
  .exact key _ _ (.inl (by assumption)) h
  .exact key _ _ (.inr (by assumption)) h
  .simp at h
 |op id off=>exact hleaf.elim
 |oN f caps=>exact hleaf.elim
 |om id=>cases n<;>simp[dV]at h
theorem ui{H:bF}(hI:Inv S K w0 Kn φ (aB H) w):∀n,
  (∀c x aA v,dV H n c=some (x,aA)->RC S w Kn φ c v->RD (SB S w φ (aB H) aA) w x v)/\
  (∀cs xs aA,fS H n cs=some (xs,aA)->∀(get:Nat->Option Value),(∀(i:Nat)(c:C),cs[i]?=some c->∃v,get i=some v/\RC S w Kn φ c v)->
   xs.length=cs.length/\∀(i:Nat)(x:D),xs[i]?=some x->∃v,get i=some v/\RD (SB S w φ (aB H) aA) w x v):=by
 intro n;induction n with
 |zero=>
  refine⟨fun c x aA v h hc=>?_,fun cs xs aA h get hg=>?_⟩
  .cases c with|op id off=>simp[dV]at h|oN f caps=>simp[dV]at h|_=>exact Ak hI 0 _ x aA v trivial h hc
  .cases cs with
   |nil=>
    obtain⟨rfl,rfl⟩:[]=xs/\[]=aA:=by simpa[fS]using h
    exact⟨rfl,fun i x hi=>by simp at hi⟩
   |cons c cs=>simp[fS]at h
 |succ n ih=>
  obtain⟨ihc,ihl⟩:=ih;refine⟨fun c x aA v h hc=>?_,fun cs xs aA h get hg=>?_⟩
  .cases c with
   |op id off=>
    simp only[dV]at h;split at h
    .rename_i cells ho;split at h
     .obtain ⟨rfl,rfl⟩:=ad (aa h);obtain⟨_,h0⟩:=hI.iL _ _ ho;cases h0 with
      |oe hb hS hr=>cases hc with|op hk=>refine .yp (.inl hS) fun j x hj=>?_;rw[bO]at hj;obtain⟨u,hu,hd⟩:=hr _ _ hj;exact⟨u,by rw[<-hu,hb,bK],hd.mono (SB.um _)⟩
     .simp at h
    .rename_i cells ho;split at h
     .rename_i ds ids' hv;split at h
      .obtain ⟨rfl,rfl⟩:=ad (aa h);obtain⟨_,h0⟩:=hI.iL _ _ ho;cases h0 with
       |@box _ aL hb hS hK hown hlen hr=>cases hc with|op hk=>obtain⟨h1,h2⟩:=ihl cells ds ids' hv (fun i=>w.cell? ⟨(φ id).bU,i,none⟩) (fun i c hi=>by have hlt:=(ak.1 hi).1;rw[hlen]at hlt;exact⟨aL.getD i undef,by rw[hown.cell];simp[jG,hlt],hr i c hi⟩);refine .yp (.inr ⟨id,by simp,kO _⟩) fun j x hj=>?_;rw[bO]at hj;obtain⟨u,hu,hd⟩:=h2 _ _ hj;exact⟨u,by rw[<-hu,hb,bK],hd.mono (SB.Cn _ _ fun i hi=>by simp[hi])⟩
      .simp at h
     .simp at h
    .simp at h
   |oN f caps=>
    simp only[dV]at h;split at h
    .rename_i ds ids' hv;obtain⟨rfl,rfl⟩:=ad (aa h);cases hc with
     |@oN _ _ vs hlen hr=>
      obtain⟨h1,h2⟩:=ihl caps ds ids' hv (fun i=>vs[i]?) (fun i c hi=>by have hlt:=(ak.1 hi).1;rw[hlen]at hlt;exact⟨vs.getD i undef,by simp[jG,hlt],hr i c hi⟩);refine .fn (h1.trans hlen) fun j x hj=>?_;obtain⟨u,hu,hd⟩:=h2 j x hj;have hu':vs[j]?=some u:=hu;have:vs.getD j undef=u:=by simp[hu']
      rw[this];exact hd
    .simp at h
   |_=>exact Ak hI (n+1) _ x aA v trivial h hc
  .cases cs with
   |nil=>
    obtain⟨rfl,rfl⟩:[]=xs/\[]=aA:=by simpa[fS]using h
    exact⟨rfl,fun i x hi=>by simp at hi⟩
   |cons c cs=>
    simp only[fS]at h;split at h
    .rename_i x0 a xs0 b hx hxs;obtain⟨rfl,rfl⟩:=ad (aa h);obtain⟨v0,hv0,hc0⟩:=hg 0 c rfl;have h0:=ihc c x0 a v0 hx hc0;obtain⟨h1,h2⟩:=ihl cs xs0 b hxs (fun i=>get (i+1)) (fun i c hi=>hg (i+1) c (by simpa using hi));refine⟨by simp[h1],fun i x hi=>?_⟩;cases i with
     |zero=>
      obtain rfl:x0=x:=by simpa using hi
      exact⟨v0,hv0,h0.mono (SB.Cn _ _ fun i hi=>by simp[hi])⟩
     |succ i=>obtain⟨u,hu,hd⟩:=h2 i x (by simpa using hi);exact⟨u,hu,hd.mono (SB.Cn _ _ fun i hi=>by simp[hi])⟩
    .simp at h
theorem qX{H:bF}(hI:Inv S K w0 Kn φ (aB H) w):∀cs xs aA,dP H cs=some (xs,aA)->∀(get:Nat->Option Value),(∀(i:Nat)(c:C),cs[i]?=some c->∃v,get i=some v/\RC S w Kn φ c v)->
   xs.length=cs.length/\∀(i:Nat)(x:D),xs[i]?=some x->∃v,get i=some v/\RD (SB S w φ (aB H) aA) w x v:=by
 intro cs;induction cs with
 |nil=>
  intro xs aA h get hg;obtain⟨rfl,rfl⟩:[]=xs/\[]=aA:=by simpa[dP]using h
  exact⟨rfl,fun i x hi=>by simp at hi⟩
 |cons c cs ih=>
  intro xs aA h get hg;simp only[dP]at h;split at h
  .rename_i x0 a xs0 b hx hxs;obtain⟨rfl,rfl⟩:=ad (aa h);obtain⟨v0,hv0,hc0⟩:=hg 0 c rfl;have h0:=(ui hI 300).1 c x0 a v0 hx hc0;obtain⟨h1,h2⟩:=ih xs0 b hxs (fun i=>get (i+1)) (fun i c hi=>hg (i+1) c (by simpa using hi));refine⟨by simp[h1],fun i x hi=>?_⟩;cases i with
   |zero=>
    obtain rfl:x0=x:=by simpa using hi
    exact⟨v0,hv0,h0.mono (SB.Cn _ _ fun i hi=>by simp[hi])⟩
   |succ i=>obtain⟨u,hu,hd⟩:=h2 i x (by simpa using hi);exact⟨u,hu,hd.mono (SB.Cn _ _ fun i hi=>by simp[hi])⟩
  .simp at h
theorem lc{H:bF}{all:List Nat}:∀(l:List Nat)(u:fx),dW H all l=some u->
  ∀id,(id∈l->∃o,j5 H all id=some o/\cq u id=some (some o))/\(id∉l->cq u id=none):=by
 intro l;induction l with
 |nil=>
  intro u h id;obtain rfl:[]=u:=by simpa[dW]using h
  exact⟨fun h=>by simp at h,fun _=>rfl⟩
 |cons a l ih=>
  intro u h id;simp only[dW]at h;split at h
  .rename_i o u' ho hu;obtain rfl:=aa h;by_cases e:a=id
   .subst e;exact⟨fun _=>⟨o,ho,by simp[cq]⟩,fun hn=>absurd (List.mem_cons_self ..) hn⟩
   .obtain ⟨h1,h2⟩:=ih u' hu id;have e':(a==id)=false:=by simpa using e
    refine⟨fun hm=>?_,fun hn=>?_⟩
    .obtain ⟨o',ho',hf'⟩:=h1 ((aM.1 hm).resolve_left (fun e2=>e e2.symm));exact⟨o',ho',by simp[cq,e',hf']⟩
    .simp only[cq,e',cond_false];exact h2 (fun hm=>hn (aC _ hm))
  .simp at h
theorem AT{H:bF}{all:List Nat}{id:Nat}{o:Ob}(hI:Inv S K w0 Kn φ (aB H) w)(hmem:id∈all)(h:j5 H all id=some o):
  cT o=false/\(∃o0,aB H id=some o0)/\RO (SB S w φ (aB H) all) K w Kn φ (φ id) o:=by
 unfold j5 at h;have hb:SB S w φ (aB H) all (φ id).bU:=.inr ⟨id,hmem,kO _⟩;split at h
 .rename_i sz ao ho;obtain rfl:=aa h;obtain⟨hsz,hl,hr⟩:=nz hI (.inl ho);exact⟨rfl,⟨_,ho⟩,.py hsz hl hb (hr.mono (SB.um _))⟩
 .rename_i sz ao ho;obtain rfl:=aa h;obtain⟨hsz,hl,hr⟩:=nz hI (.inr ho);exact⟨rfl,⟨_,ho⟩,.py hsz hl hb (hr.mono (SB.um _))⟩
 .rename_i cells ho;obtain rfl:=aa h;obtain⟨_,h0⟩:=hI.iL _ _ ho;cases h0 with|oe hbase hS hr=>exact⟨rfl,⟨_,ho⟩,.oe hbase hb fun i x hi=>let⟨v,hv,hd⟩:=hr i x hi;⟨v,hv,hd.mono (SB.um _)⟩⟩
 .rename_i cells ho;split at h
  .rename_i ds aA hv;split at h
   .rename_i hall;obtain rfl:=aa h;obtain⟨_,h0⟩:=hI.iL _ _ ho;cases h0 with|@box _ aL hbase hS hK hown hlen hr=>obtain⟨h1,h2⟩:=(ui hI 300).2 cells ds aA hv (fun i=>w.cell? ⟨(φ id).bU,i,none⟩) (fun i c hi=>by have hlt:=(ak.1 hi).1;rw[hlen]at hlt;exact⟨aL.getD i undef,by rw[hown.cell];simp[jG,hlt],hr i c hi⟩);refine⟨rfl,⟨_,ho⟩,.oe hbase hb fun i x hi=>?_⟩;obtain⟨u,hu,hd⟩:=h2 i x hi;exact⟨u,hu,hd.mono (SB.Cn _ _ fun i hi=>by simpa using bc.1 hall i hi)⟩
   .simp at h
  .simp at h
 .simp at h
 .simp at h
 .rename_i szi slots ho;split at h
  .rename_i ao hd;obtain rfl:=aa h;obtain⟨_,hro⟩:=hI.iL _ _ ho;obtain⟨_,h2⟩:=Dr hro hd (SB.um (hf:=aB H) (φ:=φ) all) fun k x hp=>.inr ⟨id,hmem,dQ.2 (.inr ⟨szi,slots,k,ho,hp⟩)⟩;cases hro with|nst hsz hl=>exact⟨rfl,⟨_,ho⟩,.py Nat.one_pos hl hb h2⟩
  .simp at h
 .simp at h
theorem Inv.F3{H:bF}{aA:List Nat}{u:fx}(hI:Inv S K w0 Kn φ (aB H) w)(h:dW H aA aA=some u):
  Inv (SB S w φ (aB H) aA) K w0 Kn φ (bk u (aB H)) w:=by
 have hfr:∀id∈aA,∃o,cq u id=some (some o)/\cT o=false/\(∃o0,aB H id=some o0)/\RO (SB S w φ (aB H) aA) K w Kn φ (φ id) o:=by
  intro id hid;obtain⟨o,ho,hfn⟩:=((lc aA u h id).1 hid)
  exact⟨o,hfn,AT hI hid ho⟩
 have hold:∀id o,bk u (aB H) id=some o->cT o=true->id∉aA/\aB H id=some o:=by
  intro id o ho hown;by_cases hm:id∈aA
  .obtain ⟨o',hfn,hno,_⟩:=hfr id hm;simp only[bk,hfn]at ho;obtain rfl:=aa ho;rw[hno]at hown;simp at hown
  .refine ⟨hm,?_⟩;simpa only[bk,(lc aA u h id).2 hm]using ho
 have hnb:∀id o,aB H id=some o->cT o=true->id∉aA->∀x∈ip w φ (aB H) id,¬SB S w φ (aB H) aA x:=by
  intro id o ho hown hm x hx hb;have hx1:=(oq hI ho hown hx).1;rcases hb with hb|⟨i,hi,e⟩
  .exact hx1 hb
  .obtain ⟨_,_,_,⟨o0,ho0⟩,_⟩:=hfr i hi;by_cases hoi:cT o0=true
   .exact nM hI ho ho0 hown hoi (fun e'=>hm (e'▸hi)) hx e
   .obtain ⟨_,h1⟩:=hI.iL i o0 ho0;rcases dQ.1 e with rfl|⟨sz,sl,k,h2,_⟩
    .exact hx1 (by
      cases h1 with
      |py hsz hl hS _=>exact hS
      |oe hb hS _=>exact hS
      |_=>simp[cT]at hoi)
    .rw [ho0]at h2;obtain rfl:=aa h2;simp[cT]at hoi
 refine hI.kE (SB.um _) (Ren.refl _ _) ?_ ?_ hI.ng ?_ ?_ ?_
 .intro b hb;rcases hb with hb|⟨i,hi,hb⟩
  .exact hI.uO b hb
  .obtain ⟨_,_,_,⟨o0,ho0⟩,_⟩:=hfr i hi;by_cases hoi:cT o0=true
   .exact (oq hI ho0 hoi hb).2.2
   .obtain ⟨_,h1⟩:=hI.iL i o0 ho0;rcases dQ.1 hb with rfl|⟨sz,sl,k,h2,h3⟩
    .cases h1 with|py hsz hl hS=>exact hI.uO _ hS|oe hb hS=>exact hI.uO _ hS|_=>simp[cT]at hoi
    .exact (hI.Ig h2 h3).2.2.1
 .intro b hb;rcases hb with hb|⟨i,hi,hb⟩
  .exact hI.sk b hb
  .obtain ⟨_,_,_,⟨o0,ho0⟩,_⟩:=hfr i hi;by_cases hoi:cT o0=true
   .exact (oq hI ho0 hoi hb).2.1
   .obtain ⟨_,h1⟩:=hI.iL i o0 ho0;rcases dQ.1 hb with rfl|⟨sz,sl,k,h2,h3⟩
    .cases h1 with|py hsz hl hS=>exact hI.sk _ hS|oe hb hS=>exact hI.sk _ hS|_=>simp[cT]at hoi
    .exact (hI.Ig h2 h3).2.1
 .intro id o ho;by_cases hm:id∈aA
  .obtain ⟨o',hfn,hno,⟨o0,ho0⟩,hro⟩:=hfr id hm;simp only[bk,hfn]at ho;obtain rfl:=aa ho;exact .inr ⟨(hI.iL id o0 ho0).1,hro⟩
  .have ho':aB H id=some o:=by simpa only[bk,(lc aA u h id).2 hm]using ho
   exact .inl ⟨ho',fun hown=>⟨rfl,hnb id o ho' hown hm _ (kO _)⟩⟩
 .intro i j a b ha hb hoa hob hne;exact hI.eJ i j a b (hold i a ha hoa).2 (hold j b hb hob).2 hoa hob hne
 .intro id sz sl hi;obtain⟨h1,h2⟩:=hold id _ hi rfl;refine⟨h2,rfl,fun k x hp=>⟨rfl,hnb id _ h2 rfl h1 x (dQ.2 (.inr ⟨sz,sl,k,h2,hp⟩)),fun j b hj hb=>?_⟩⟩;exact(hI.wT id sz sl k x h2 hp).1 j b (hold j b hj hb).2 hb
end
def Cm(S:Nat->Prop)(w:World)(sz:Nat):Option (List (List D))->Value->List Nat->Prop
 |none,v,fp=>v=.slice none 0 0/\fp=[]
 |some ao,v,fp=>∃b,fp=[b]/\Hz S w sz ao v b
inductive RT(S:Nat->Prop)(w:World):T->Value->List Nat->Prop
 |d {x:D} {v:Value} (h:RD S w x v):RT S w (.d x) v []
 |sl {sz:Nat} {ao:List (List D)} {b off len cap:Nat} {aL:Array Value} (hsz:0<sz) (ho:m8 w b aL) (hlen:ao.length=len) (hcap:len<=cap)
   (hext:off+cap*sz<=aL.size) (hr:cS S w sz (fun i=>aL[i]?) off ao):RT S w (.sl sz ao) (.slice (some ⟨b,off,none⟩) len cap) [b]
 |pt {ts:List T} {b:Nat} {aL:Array Value} {fps:List (List Nat)} (ho:m8 w b aL) (hlen:ts.length=aL.size) (hfl:fps.length=ts.length)
   (h:∀(i:Nat)(t:T)(fp:List Nat),ts[i]?=some t->fps[i]?=some fp->RT S w t (aL.getD i undef) fp):
   RT S w (.pt ts) (.pointer (some ⟨b,0,none⟩)) (b::fps.flatten)
 |zD {sz:Nat} {ao:List (Option (List (List D)))} {b off cap:Nat} {aL:Array Value} {fps:List (List Nat)} (hsz:0<sz) (ho:m8 w b aL) (hcap:ao.length<=cap) (hext:off+cap<=aL.size) (hfl:fps.length=ao.length)
   (h:∀(i:Nat)(r:Option (List (List D)))(fp:List Nat),ao[i]?=some r->fps[i]?=some fp->∃v,aL[off+i]?=some v/\Cm S w sz r v fp):
   RT S w (.zD sz ao) (.slice (some ⟨b,off,none⟩) ao.length cap) (b::fps.flatten)
theorem Cm.mono{S S':Nat->Prop}{w w':World}(hs:gV S w S' w'){sz:Nat}{r:Option (List (List D))}{v:Value}{fp:List Nat}(h:Cm S w sz r v fp)(hb:∀b∈fp,w'.heap[b]?=w.heap[b]?):Cm S' w' sz r v fp:=by cases r with|none=>exact h|some ao=>obtain⟨b,rfl,h⟩:=h;exact⟨b,rfl,h.mono hs (hb b (by simp))⟩
theorem Cm.lt{S:Nat->Prop}{w:World}{sz:Nat}{r:Option (List (List D))}{v:Value}{fp:List Nat}(h:Cm S w sz r v fp):∀b∈fp,b<w.heap.size:=by cases r with|none=>obtain⟨_,rfl⟩:=h;intro b hb;simp at hb|some ao=>obtain⟨b,rfl,h⟩:=h;intro b' hb;obtain rfl:=am.1 hb;obtain⟨aL,h⟩:=h.bq;exact h.lt
theorem RT.mono{S S':Nat->Prop}{w w':World}(hs:gV S w S' w'){t:T}{v:Value}{fp:List Nat}(h:RT S w t v fp)(hb:∀b∈fp,w'.heap[b]?=w.heap[b]?):RT S' w' t v fp:=by induction h with|d h=>exact .d (h.mono hs)|sl hsz ho hlen hcap hext hr=>exact .sl hsz (ho.l_ (hb _ (by simp))) hlen hcap hext (hr.mono hs)|pt ho hlen hfl h ih=>refine .pt (ho.l_ (hb _ (by simp))) hlen hfl fun i t fp hi hf=>ih i t fp hi hf fun b hbm=>hb b ?_;exact aC _ (dH.2 ⟨fp,aW hf,hbm⟩)|zD hsz ho hcap hext hfl h=>refine .zD hsz (ho.l_ (hb _ (by simp))) hcap hext hfl fun i r fp hi hf=>?_;obtain⟨v,h1,h2⟩:=h i r fp hi hf;exact⟨v,h1,h2.mono hs fun b hbm=>hb b (aC _ (dH.2 ⟨fp,aW hf,hbm⟩))⟩
theorem RT.lt{S:Nat->Prop}{w:World}{t:T}{v:Value}{fp:List Nat}(h:RT S w t v fp):∀b∈fp,b<w.heap.size:=by
 induction h with
 |d h=>intro b hb;simp at hb
 |sl hsz ho=>intro b hb;obtain rfl:=am.1 hb;exact ho.lt
 |pt ho hlen hfl h ih=>
  intro b hb;rcases aM.1 hb with rfl|hb
  .exact ho.lt
  .obtain ⟨fp,hfp,hbf⟩:=dH.1 hb;obtain⟨i,hi,rfl⟩:=cj hfp;exact ih i _ _ (av (by omega:i<_)) (av hi) b hbf
 |zD hsz ho hcap hext hfl h=>
  intro b hb;rcases aM.1 hb with rfl|hb
  .exact ho.lt
  .obtain ⟨fp,hfp,hbf⟩:=dH.1 hb;obtain⟨i,hi,rfl⟩:=cj hfp;obtain⟨v,_,h2⟩:=h i _ _ (av (by omega:i<_)) (av hi);exact h2.lt b hbf
section
variable{S K:Nat->Prop}{w0 w:World}{Kn:Nat->Prop}{φ:Nat->gF}{hf:Nat->Option Ob}
theorem pE{id:Nat}(h:∀sz sl,hf id≠some (.nst sz sl)):ip w φ hf id=[(φ id).bU]:=by
 unfold ip;split
 .rename_i sz sl e;exact absurd e (h sz sl)
 .rfl
theorem HW{l:gF}{sz:Nat}{get:Nat->Option Value}(hget:∀i,w.cell? ⟨l.bU,i,none⟩=get i):∀(slots:List kT)(k0:Nat)(ao:List (Option (List (List D)))),(∀(i:Nat)(s:kT),slots[i]?=some s->∃v,get (l.aQ+(k0+i))=some v/\zy S K w Kn φ sz s v)->uq slots=some ao->
  ao.length=slots.length/\∃fps:List (List Nat),fps.length=ao.length/\fps.flatten=rk w l slots k0/\∀(i:Nat)(r:Option (List (List D)))(fp:List Nat),ao[i]?=some r->fps[i]?=some fp->∃v,get (l.aQ+(k0+i))=some v/\Cm S w sz r v fp:=by
 intro slots;induction slots with
 |nil=>intro k0 ao _ h;obtain rfl:=aa h;exact⟨rfl,[],rfl,rfl,fun i r fp hi=>by simp at hi⟩
 |cons s slots ih=>
  intro k0 ao hr h;simp only[uq]at h;split at h
  .rename_i x rs hx hrs;obtain rfl:=aa h;obtain⟨h1,fps,h2,h3,h4⟩:=ih (k0+1) rs (fun i s hi=>by obtain⟨v,e1,e2⟩:=hr (i+1) s (by simpa using hi);exact⟨v,by rw[<-e1,show k0+(i+1)=k0+1+i by omega],e2⟩) hrs;obtain⟨v,e1,e2⟩:=hr 0 s rfl
   have fin:∀fp0,Cm S w sz x v fp0->fp0++rk w l slots (k0+1)=rk w l (s::slots) k0->(x::rs).length=(s::slots).length/\∃fps:List (List Nat),fps.length=(x::rs).length/\fps.flatten=rk w l (s::slots) k0/\∀(i:Nat)(r:Option (List (List D)))(fp:List Nat),(x::rs)[i]?=some r->fps[i]?=some fp->∃v,get (l.aQ+(k0+i))=some v/\Cm S w sz r v fp:=by
    intro fp0 h5 h6;refine⟨by simp[h1],fp0::fps,by simp[h2],by rw[ed,h3,h6],fun i r fp hi hf=>?_⟩;cases i with
    |zero=>
     obtain rfl:x=r:=by simpa using hi
     obtain rfl:fp0=fp:=by simpa using hf
     exact⟨v,e1,h5⟩
    |succ i=>obtain⟨v',q1,q2⟩:=h4 i r fp (by simpa using hi) (by simpa using hf);exact⟨v',by rw[<-q1,show k0+(i+1)=k0+1+i by omega],q2⟩
   cases e2 with|nil=>obtain rfl:=aa hx;exact fin [] ⟨rfl,rfl⟩ rfl|@bq rows0 _ b q1 _ _=>obtain rfl:=aa hx;refine fin [b] ⟨b,rfl,q1⟩ ?_;simp only[rk];rw[show l.aQ+k0=l.aQ+(k0+0)from rfl,hget,e1];simp only[Option.bind_some,q1.bU,List.singleton_append]|dX _=>simp[O3]at hx
  .simp at h
theorem C_{H:bF}{sz id off len:Nat}{t:T}{bq rd:List Nat}{v:Value}(hI:Inv S K w0 Kn φ (aB H) w)(hc:RC S w Kn φ (.fh sz id off len) v)
  (h:(match aB H id with
  |some (.aL _ ao)=>if off+len<=ao.length then some (T.sl sz ((ao.drop off).take len),[id],[id])else none
  |some (.py _ ao)=>if off+len<=ao.length then some (.d (.sl sz ((ao.drop off).take len)),[],[id])else none
  |some (.nst szi slots)=>if off=0/\len=slots.length then(match uq slots with|some ao=>some (.zD szi ao,[id],[id])|none=>none)else none
  |_=>none)=some (t,bq,rd)):
  RT S w t v (bq.flatMap (ip w φ (aB H)))/\∀i∈bq,∃o,aB H i=some o/\cT o=true:=by
 split at h
 .rename_i szo ao ho;split at h
  .rename_i hle;obtain⟨rfl,rfl,rfl⟩:T.sl sz ((ao.drop off).take len)=t/\[id]=bq/\[id]=rd:=by simpa using h
   obtain⟨hk,h0⟩:=hI.iL _ _ ho;cases h0 with
   |aL hsz hl hS hK hown hext hfit hr=>
    subst hl;cases hc with
    |fh hk hcap haddr hx=>
     rw[bi,List.flatMap_nil,bC,pE fun _ _ e=>by rw[ho]at e;cases e];refine⟨.sl hsz hown (by simp;omega) hcap (by omega) (hr.xd off len fun h=>haddr (by omega)),fun i hi=>?_⟩
     .obtain rfl:=am.1 hi;exact⟨_,ho,rfl⟩
  .simp at h
 .rename_i szo ao ho;split at h
  .rename_i hle;obtain⟨rfl,rfl,rfl⟩:T.d (.sl sz ((ao.drop off).take len))=t/\[]=bq/\[id]=rd:=by simpa using h
   obtain⟨hk,h0⟩:=hI.iL _ _ ho;have hS:S (φ id).bU:=by cases h0 with|py hsz hl hS _=>exact hS
   exact⟨.d (Cu hI hc (.inr ho) hle (gV.refl _ _) hS),fun i hi=>by simp at hi⟩
  .simp at h
 .rename_i szi slots ho;split at h
  .rename_i he;obtain⟨rfl,rfl⟩:=he;split at h
   .rename_i ao hrows;obtain⟨rfl,rfl,rfl⟩:T.zD szi ao=t/\[id]=bq/\[id]=rd:=by simpa using h
    obtain⟨hk,h0⟩:=hI.iL _ _ ho;cases h0 with
    |@nst _ _ aL hsz hl hS hK hown hext hfit hr hv=>
     obtain⟨h1,fps,h2,h3,h4⟩:=HW (get:=fun i=>aL[i]?) hown.cell slots 0 ao (fun i s hi=>by rw[bK];exact hr i s hi) hrows;cases hc with
     |@fh _ _ _ cap addr hk hcap haddr hx hcc=>
      rw[bi,List.flatMap_nil,bC];have e:ip w φ (aB H) id=(φ id).bU::fps.flatten:=by unfold ip;rw[ho,h3]
      rw[e,<-h1];refine⟨.zD (sz:=szi) (ao:=ao) hsz hown (by omega) (by rw[hl,lj]at hx;omega) h2 fun i r fp hi hf=>?_,fun i hi=>?_⟩
      .obtain ⟨v,q1,q2⟩:=h4 i r fp hi hf;have hlt:=(ak.1 hi).1;rw[bK]at q1;exact⟨v,by rw[haddr (by omega),jt,dM];exact q1,q2⟩
      .obtain rfl:=am.1 hi;exact⟨_,ho,rfl⟩
   .simp at h
  .simp at h
 .simp at h
theorem rl{H:bF}(hI:Inv S K w0 Kn φ (aB H) w):∀n,
  (∀c t bq rd v,eH H n c=some (t,bq,rd)->RC S w Kn φ c v->RT S w t v (bq.flatMap (ip w φ (aB H)))/\∀i∈bq,∃o,aB H i=some o/\cT o=true)/\
  (∀cs ts bq rd,iE H n cs=some (ts,bq,rd)->∀(get:Nat->Value),(∀(i:Nat)(c:C),cs[i]?=some c->RC S w Kn φ c (get i))->
   ts.length=cs.length/\(∃fps:List (List Nat),fps.length=ts.length/\fps.flatten=bq.flatMap (ip w φ (aB H))/\
    ∀(i:Nat)(t:T)(fp:List Nat),ts[i]?=some t->fps[i]?=some fp->RT S w t (get i) fp)/\∀i∈bq,∃o,aB H i=some o/\cT o=true):=by
 intro n;induction n with
 |zero=>
  refine⟨fun c t bq rd v h hc=>?_,fun cs ts bq rd h get hg=>?_⟩
  .cases c with
   |d x=>
    obtain⟨rfl,rfl,rfl⟩:T.d x=t/\[]=bq/\[]=rd:=by simpa[eH]using h
    cases hc with|d hd=>exact⟨.d hd,fun i hi=>by simp at hi⟩
   |fh sz id off len=>simp only[eH]at h;exact C_ hI hc h
   |_=>simp[eH]at h
  .cases cs with
   |nil=>
    obtain⟨rfl,rfl,rfl⟩:[]=ts/\[]=bq/\[]=rd:=by simpa[iE]using h
    exact⟨rfl,⟨[],rfl,rfl,fun i t fp hi=>by simp at hi⟩,fun i hi=>by simp at hi⟩
   |cons c cs=>simp[iE]at h
 |succ n ih=>
  obtain⟨ihc,ihl⟩:=ih;refine⟨fun c t bq rd v h hc=>?_,fun cs ts bq rd h get hg=>?_⟩
  .cases c with
   |d x=>
    obtain⟨rfl,rfl,rfl⟩:T.d x=t/\[]=bq/\[]=rd:=by simpa[eH]using h
    cases hc with|d hd=>exact⟨.d hd,fun i hi=>by simp at hi⟩
   |fh sz id off len=>simp only[eH]at h;exact C_ hI hc h
   |op id off=>
    cases off with
    |succ off=>simp[eH]at h
    |zero=>
     simp only[eH]at h;split at h
     .rename_i cells ho;split at h
      .rename_i ts own' rd' hp;obtain⟨rfl,rfl,rfl⟩:T.pt ts=t/\id::own'=bq/\id::rd'=rd:=by simpa using h
       obtain⟨hk,h0⟩:=hI.iL _ _ ho;cases h0 with
       |@box _ aL hb hS hK hown hlen hr=>
        obtain⟨h1,⟨fps,h2,h3,h4⟩,h5⟩:=ihl cells ts own' rd' hp (fun i=>aL.getD i undef) hr;cases hc with
        |op hk=>
         rw[hb];refine⟨?_,fun i hi=>?_⟩
         .rw [bi,<-h3,pE fun _ _ e=>by rw[ho]at e;cases e];exact .pt hown (h1.trans hlen) h2 h4
         .rcases aM.1 hi with rfl|hi
          .exact ⟨_,ho,rfl⟩
          .exact h5 i hi
      .simp at h
     .rename_i cells ho;obtain⟨rfl,rfl,rfl⟩:T.d (.pt cells)=t/\[]=bq/\[id]=rd:=by simpa using h
      obtain⟨hk,h0⟩:=hI.iL _ _ ho;cases h0 with
      |oe hb hS hr=>cases hc with|op hk=>exact⟨.d (.yp hS fun j x hj=>by obtain⟨u,hu,hd⟩:=hr j x hj;exact⟨u,by rw[<-hu,hb];simp,hd⟩),fun i hi=>by simp at hi⟩
     .simp at h
   |ep id di off=>simp[eH]at h
   |oN f caps=>simp[eH]at h
   |om id=>simp[eH]at h
  .cases cs with
   |nil=>
    obtain⟨rfl,rfl,rfl⟩:[]=ts/\[]=bq/\[]=rd:=by simpa[iE]using h
    exact⟨rfl,⟨[],rfl,rfl,fun i t fp hi=>by simp at hi⟩,fun i hi=>by simp at hi⟩
   |cons c cs=>
    simp only[iE]at h;split at h
    .rename_i t0 a i0 ts0 b j0 hx hxs;obtain⟨rfl,rfl,rfl⟩:t0::ts0=ts/\a++b=bq/\i0++j0=rd:=by simpa using h
     obtain⟨p1,p2⟩:=ihc c t0 a i0 (get 0) hx (hg 0 c rfl);obtain⟨h1,⟨fps,h2,h3,h4⟩,h5⟩:=ihl cs ts0 b j0 hxs (fun i=>get (i+1)) (fun i c hi=>hg (i+1) c (by simpa using hi));refine⟨by simp[h1],⟨(a.flatMap (ip w φ (aB H)))::fps,by simp[h2],by simp[h3],fun i t fp hi hfp=>?_⟩,fun i hi=>?_⟩
     .cases i with
      |zero=>
       obtain rfl:t0=t:=by simpa using hi
       obtain rfl:(a.flatMap (ip w φ (aB H)))=fp:=by simpa using hfp
       exact p1
      |succ i=>exact h4 i t fp (by simpa using hi) (by simpa using hfp)
     .rcases ap.1 hi with hi|hi
      .exact p2 i hi
      .exact h5 i hi
    .simp at h
theorem Be{bq:List Nat}(hI:Inv S K w0 Kn φ hf w)(hn:bq.Nodup)(ho:∀i∈bq,∃o,hf i=some o/\cT o=true):(bq.flatMap (ip w φ hf)).Nodup:=by induction bq with|nil=>exact fQ|cons a l ih=>rw[fR]at hn;obtain⟨o1,h1,h2⟩:=ho a (by simp);rw[bi,bV];refine⟨Gw hI h1 h2,ih hn.2 fun i hi=>ho i (aC _ hi),fun x hx y hy e=>?_⟩;subst e;obtain⟨i,hi,hy⟩:=List.mem_flatMap.1 hy;obtain⟨o2,h3,h4⟩:=ho i (aC _ hi);exact nM hI h1 h3 h2 h4 (fun e'=>hn.1 (e'▸hi)) hx hy
def o7(Kn:Nat->Prop)(a b:Nat)(j:Nat):Prop:=Kn j\/(a<=j/\j<b)
theorem Inv.name(h:Inv S K w0 Kn φ hf w){i:Nat}(hi:¬Kn i)(l:gF)(o:Ob)(hfree:cT o=true->∀j b,hf j=some b->cT b=true->l.bU∉ip w φ hf j)
  (hro:RO S K w (fun j=>Kn j\/j=i) (ext φ i l) l o)
  (hp:∀sz sl k x,o=.nst sz sl->rT w l sl k x->x≠l.bU/\(∀j b,hf j=some b->cT b=true->x∉ip w φ hf j)/\∀k',rT w l sl k' x->k'=k:=by intro _ _ _ _ e;cases e):
  Inv S K w0 (fun j=>Kn j\/j=i) (ext φ i l) (bk [(i,some o)] hf) w:=by
 have hold:∀j b,bk [(i,some o)] hf j=some b->(j=i/\b=o/\ext φ i l j=l)\/(j≠i/\hf j=some b/\ext φ i l j=φ j):=by
  intro j b hj;rw[bQ]at hj;by_cases e:i=j
  .rw [if_pos e]at hj;exact .inl ⟨e.symm,(aa hj).symm,by simp[ext,e]⟩
  .rw [if_neg e,fF]at hj;have e1:¬j=i:=fun q=>e q.symm;exact .inr ⟨e1,hj,by simp[ext,e1]⟩
 refine h.uS (gV.refl _ _) (jK _ hi) h.uO h.sk h.ng ?_ ?_ ?_
 .intro id o' ho;rcases hold id o' ho with⟨rfl,rfl,e⟩|⟨_,ho,_⟩
  .exact .inr ⟨.inr rfl,by rw[e];exact hro⟩
  .exact .inl ⟨ho,fun hown=>⟨rfl,((h.iL id o' ho).2.bq hown).1⟩,h.DN ho fun _ _=>rfl⟩
 .intro a b oa ob ha hb hoa hob hne;rcases hold a oa ha with⟨h1,h2,e1⟩|⟨_,ha',e1⟩<;>rcases hold b ob hb with⟨h3,h4,e2⟩|⟨_,hb',e2⟩
  .exact absurd (h1.trans h3.symm) hne
  .rw [e1,e2];exact fun e=>hfree (h2▸hoa) b ob hb' hob (dQ.2 (.inl e))
  .rw [e1,e2];exact fun e=>hfree (h4▸hob) a oa ha' hoa (dQ.2 (.inl e.symm))
  .rw [e1,e2];exact h.eJ a b oa ob ha' hb' hoa hob hne
 .intro a sz sl k x ha hpa;rcases hold a _ ha with⟨ea,eo,e1⟩|⟨hne,ha',e1⟩<;>rw[e1]at hpa
  .obtain ⟨p1,p2,p3⟩:=hp sz sl k x eo.symm hpa;refine⟨fun j b hj hown=>?_,fun j sz' sl' k' hj hpj=>?_⟩
   .rcases hold j b hj with⟨_,_,e2⟩|⟨_,hj',e2⟩<;>rw[e2]
    .exact fun e=>p1 e.symm
    .exact fun e=>p2 j b hj' hown (dQ.2 (.inl e.symm))
   .rcases hold j _ hj with⟨ej,eo2,e2⟩|⟨_,hj',e2⟩<;>rw[e2]at hpj
    .rw [<-eo]at eo2;cases eo2;exact⟨ej.trans ea.symm,p3 k' hpj⟩
    .exact absurd (dQ.2 (.inr ⟨sz',sl',k',hj',hpj⟩)) (p2 j _ hj' rfl)
  .obtain ⟨p1,p2⟩:=h.wT a sz sl k x ha' hpa;refine⟨fun j b hj hown=>?_,fun j sz' sl' k' hj hpj=>?_⟩
   .rcases hold j b hj with⟨_,eo,e2⟩|⟨_,hj',e2⟩<;>rw[e2]
    .exact fun e=>hfree (eo▸hown) a _ ha' rfl (dQ.2 (.inr ⟨sz,sl,k,ha',e▸hpa⟩))
    .exact p1 j b hj' hown
   .rcases hold j _ hj with⟨_,eo,e2⟩|⟨_,hj',e2⟩<;>rw[e2]at hpj
    .exact absurd (dQ.2 (.inr ⟨sz,sl,k,ha',hpa⟩)) ((hp sz' sl' k' x eo.symm hpj).2.1 a _ ha' rfl)
    .exact p2 j sz' sl' k' hj' hpj
theorem Inv.kn{Kn':Nat->Prop}(h:Inv S K w0 Kn φ hf w)(hs:∀i,Kn i->Kn' i):Inv S K w0 Kn' φ hf w:=h.kE (gV.refl _ _) ⟨hs,fun _ _=>rfl⟩ h.uO h.sk h.ng (fun id o ho=>.inl ⟨ho,fun hown=>⟨rfl,((h.iL id o ho).2.bq hown).1⟩⟩) h.eJ (h.Aw fun _ _=>rfl)
structure rI(S K:Nat->Prop)(w0 w:World)(Kn:Nat->Prop)(φ:Nat->gF)(hf:Nat->Option Ob)(fp:List Nat)(nxt m:Nat)(u:fx)(φ':Nat->gF):Prop where
 le:nxt<=m
 se:Ren Kn φ (o7 Kn nxt m) φ'
 inv:Inv S K w0 (o7 Kn nxt m) φ' (bk u hf) w
 gD:∀p∈u,nxt<=p.1/\p.1<m
 bU:∀p∈u,∀x∈ip w φ' (bk u hf) p.1,x∈fp
theorem tu(a b:Nat):Ren Kn φ (o7 Kn a b) φ:=⟨fun _ h=>.inl h,fun _ _=>rfl⟩
theorem rI.nil(h:Inv S K w0 Kn φ hf w)(fp:List Nat)(n:Nat):rI S K w0 w Kn φ hf fp n n [] φ:=⟨au _,tu _ _,h.kn fun _ hi=>.inl hi,fun p hp=>by simp at hp,fun p hp=>by simp at hp⟩
theorem rI.skip(h:Inv S K w0 Kn φ hf w)(fp:List Nat)(n:Nat):rI S K w0 w Kn φ hf fp n (n+1) [] φ:=⟨bH _,tu _ _,h.kn fun _ hi=>.inl hi,fun p hp=>by simp at hp,fun p hp=>by simp at hp⟩
theorem k_{α:Type}{u:List (Nat×α)}{id:Nat}(h:∀p∈u,p.1≠id):cq u id=none:=by
 induction u with
 |nil=>rfl
 |cons p r ih=>
  obtain⟨i,x⟩:=p;have e:(i==id)=false:=by simpa using h (i,x) (by simp)
  simp only[cq,e,cond_false];exact ih fun q hq=>h q (by simp[hq])
def iT(w:World)(φ:Nat->gF)(hf:Nat->Option Ob)(fp:List Nat):Prop:=∀j b,hf j=some b->cT b=true->∀x∈ip w φ hf j,x∉fp
theorem rn{a b c:Nat}(h1:a<=b)(h2:b<=c)(j:Nat):o7 (o7 Kn a b) b c j<->o7 Kn a c j:=by
 unfold o7;constructor
 .rintro ((h|h)|h)
  .exact .inl h
  .exact .inr (by omega)
  .exact .inr (by omega)
 .rintro (h|h)
  .exact .inl (.inl h)
  .by_cases e:j<b
   .exact .inl (.inr (by omega))
   .exact .inr (by omega)
theorem Inv.xh{Kn':Nat->Prop}(h:Inv S K w0 Kn φ hf w)(hs:∀i,Kn i<->Kn' i):Inv S K w0 Kn' φ hf w:=h.kn fun i hi=>(hs i).1 hi
theorem RC.kn{Kn':Nat->Prop}{c:C}{v:Value}(h:RC S w Kn φ c v)(hs:∀i,Kn i->Kn' i):RC S w Kn' φ c v:=h.mono (gV.refl _ _) ⟨hs,fun _ _=>rfl⟩
theorem gx{φ':Nat->gF}{hf':Nat->Option Ob}{i:Nat}(h1:φ i=φ' i)(h2:hf i=hf' i):ip w φ hf i=ip w φ' hf' i:=by unfold ip;rw[h1,h2]
theorem rI.pL{fa fb:List Nat}{n m k:Nat}{u v:fx}{φ1 φ2:Nat->gF}(a:rI S K w0 w Kn φ hf fa n m u φ1)(b:rI S K w0 w (o7 Kn n m) φ1 (bk u hf) fb m k v φ2):
  rI S K w0 w Kn φ hf (fa++fb) n k (v++u) φ2 where
 le:=e_ a.le b.le
 se:=⟨fun i h=>.inl h,fun i h=>(b.se.eh i (.inl h)).trans (a.se.eh i h)⟩
 inv:=by rw[ei];exact b.inv.xh fun i=>rn a.le b.le i
 gD p hp:=by
  have:=a.le;have:=b.le;rcases ap.1 hp with h|h
  .have:=b.gD p h;omega
  .have:=a.gD p h;omega
 bU p hp:=by
  intro x hx;rcases ap.1 hp with h|h
  .rw [ei]at hx;exact List.mem_append_right _ (b.bU p h x hx)
  .have hn:cq v p.1=none:=k_ fun q hq e=>by have:=a.gD p h;have:=b.gD q hq;omega
   have e:bk (v++u) hf p.1=bk u hf p.1:=by simp only[bk,gM,hn]
   have e2:=gx (w:=w) (b.se.eh p.1 (.inr (a.gD p h))) e;rw[e2]at hx;exact List.mem_append_left _ (a.bU p h x hx)
theorem mu{u v:fx}(h:∀p∈u,∀q∈v,p.1≠q.1):bk (u++v) hf=bk (v++u) hf:=by
 funext id;simp only[bk,gM];cases hu:cq u id with
 |none=>cases cq v id<;>simp
 |some x=>
  have:cq v id=none:=by
   refine k_ fun q hq e=>?_
   have hm:∃p∈u,p.1=id:=by
    clear h;induction u with
    |nil=>simp[cq]at hu
    |cons p r ih=>
     obtain⟨i,y⟩:=p;by_cases e':i=id
     .exact ⟨(i,y),by simp,e'⟩
     .have e2:(i==id)=false:=by simpa using e'
      simp only[cq,e2,cond_false]at hu;obtain⟨p,hp,hpe⟩:=ih hu;exact⟨p,by simp[hp],hpe⟩
   obtain⟨p,hp,hpe⟩:=hm;exact h p hp q hq (hpe.trans e.symm)
  simp[this]
theorem p_(nxt:Nat)(ts:List T):kU nxt (.pt ts)=(.op nxt 0,(nxt,some (.box (iA (nxt+1) ts).1))::(iA (nxt+1) ts).2.1,(iA (nxt+1) ts).2.2):=rfl
theorem qw(nxt:Nat)(t:T)(ts:List T):iA nxt (t::ts)=((kU nxt t).1::(iA (kU nxt t).2.2 ts).1,(kU nxt t).2.1++(iA (kU nxt t).2.2 ts).2.1,(iA (kU nxt t).2.2 ts).2.2):=rfl
theorem DW{x:Nat}:∀{fps:List (List Nat)}{k k':Nat},fps.flatten.Nodup->fps[k]?=some [x]->fps[k']?=some [x]->k=k':=by
 intro fps;induction fps with
 |nil=>intro k k' _ h;simp at h
 |cons fp fps ih=>
  intro k k' hn h1 h2;rw[ed,bV]at hn;have hm:∀k,fps[k]?=some [x]->x∈fps.flatten:=fun k h=>dH.2 ⟨[x],aW h,by simp⟩;cases k with
  |zero=>
   obtain rfl:fp=[x]:=by simpa using h1
   cases k' with|zero=>rfl|succ k'=>exact absurd rfl (hn.2.2 x (by simp) x (hm k' (by simpa using h2)))
  |succ k=>
   cases k' with
   |zero=>
    obtain rfl:fp=[x]:=by simpa using h2
    exact absurd rfl (hn.2.2 x (by simp) x (hm k (by simpa using h1)))
   |succ k'=>exact congrArg Nat.succ (ih hn.2.1 (by simpa using h1) (by simpa using h2))
mutual
theorem JR(t:T):∀nxt,nxt<=(kU nxt t).2.2:=by intro nxt;cases t with|d x=>exact bH _|uE=>exact bH _|sl sz ao=>exact bH _|zD sz ao=>exact bH _|pt ts=>rw[p_];exact Nat.le_of_succ_le (vI ts (nxt+1))
theorem vI(ts:List T):∀nxt,nxt<=(iA nxt ts).2.2:=by intro nxt;cases ts with|nil=>exact au _|cons t ts=>rw[qw];exact e_ (JR t nxt) (vI ts _)
end
mutual
theorem vJ(t:T):∀{Kn:Nat->Prop}{φ:Nat->gF}{hf:Nat->Option Ob}(nxt:Nat)(v:Value)(fp:List Nat),Inv S K w0 Kn φ hf w->(∀j,nxt<=j->j<(kU nxt t).2.2->¬Kn j)->
  RT S w t v fp->fp.Nodup->(∀b∈fp,¬S b/\¬K b)->iT w φ hf fp->
  ∃φ',rI S K w0 w Kn φ hf fp nxt (kU nxt t).2.2 (kU nxt t).2.1 φ'/\RC S w (o7 Kn nxt (kU nxt t).2.2) φ' (kU nxt t).1 v:=by
 intro Kn φ hf nxt v fp hI hfr hr hnd hSK haw;cases t with
 |uE=>cases hr
 |d x=>cases hr with|d hd=>exact⟨φ,rI.skip hI _ _,.d hd⟩
 |sl sz ao=>
  cases hr with
  |@sl _ _ b off len cap aL hsz ho hlen hcap hext hrr=>
   have hnx:¬Kn nxt:=hfr nxt (au _) (aX _);refine⟨ext φ nxt ⟨b,off,sz,aL.size,cap⟩,?_,?_⟩
   .have hin:=hI.name (hnx) ⟨b,off,sz,aL.size,cap⟩ (.aL sz ao) (fun _ j o hj hown hm=>haw j o hj hown _ hm (by simp))
     (.aL hsz rfl (hSK b (by simp)).1 (hSK b (by simp)).2 ho rfl (by have:ao.length*sz<=cap*sz:=aI _ (by omega);simp only;omega) hrr (by simp only;omega))
    refine⟨bH _,⟨fun i h=>.inl h,(jK _ (hnx)).eh⟩,hin.xh fun i=>?_,fun p hp=>?_,fun p hp=>?_⟩
    .simp only[o7,kU];constructor
     .rintro (h|rfl)
      .exact .inl h
      .exact .inr (by omega)
     .rintro (h|h)
      .exact .inl h
      .exact .inr (by omega)
    .obtain rfl:p=_:=by simpa[kU]using hp
     simp[kU]
    .obtain rfl:p=_:=by simpa[kU]using hp
     rw[pE fun _ _ e=>by simp[kU,bk,cq]at e];simp[ext]
   .have e:(ext φ nxt ⟨b,off,sz,aL.size,cap⟩) nxt=⟨b,off,sz,aL.size,cap⟩:=by simp[ext]
    have:=RC.fh (S:=S) (w:=w) (Kn:=o7 Kn nxt (nxt+1)) (φ:=ext φ nxt ⟨b,off,sz,aL.size,cap⟩) (id:=nxt) (off:=0) (len:=ao.length) (cap:=cap) (addr:=off) (.inr (by omega)) (by omega) (by rw[e];simp) (by rw[e];simpa using hext) (by rw[e];simp);rw[e]at this;simpa[kU,hlen]using this
 |zD sz ao=>
  cases hr with
  |@zD _ _ b off cap aL fps hsz ho hcap hext hfl hrr=>
   have hnx:¬Kn nxt:=hfr nxt (au _) (aX _);rw[fR]at hnd;have hget:∀i,w.cell? ⟨b,i,none⟩=aL[i]?:=ho.cell;have hpat:∀k x,rT w ⟨b,off,1,aL.size,cap⟩ (ao.map mK) k x->∃fp,fps[k]?=some fp/\fp=[x]:=by rintro k x ⟨rs,v,h1,h2,h3⟩;rw[aG]at h1;obtain⟨r,hr1,hr2⟩:=aF.1 h1;have hlt:=(ak.1 hr1).1;have hf:fps[k]?=some fps[k]:=av (by omega);obtain⟨v',q1,q2⟩:=hrr k r fps[k] hr1 hf;simp only[hget,q1,bl]at h2;subst h2;cases r with|none=>cases hr2|some rows'=>obtain⟨b',q3,q4⟩:=q2;rw[q4.bU]at h3;obtain rfl:=aa h3;exact⟨_,hf,q3⟩
   have hmem:∀k x,rT w ⟨b,off,1,aL.size,cap⟩ (ao.map mK) k x->x∈fps.flatten:=fun k x hp=>by obtain⟨fp,h1,rfl⟩:=hpat k x hp;exact dH.2 ⟨[x],aW h1,by simp⟩
   have hin:=hI.name (hnx) ⟨b,off,1,aL.size,cap⟩ (.nst sz (ao.map mK)) (fun _ j o hj hown hm=>haw j o hj hown _ hm (by simp))
    (.nst hsz rfl (hSK b (by simp)).1 (hSK b (by simp)).2 ho rfl (by simp only[aN];omega) (fun i s hi=>by
     rw[aG]at hi;obtain⟨r,hr1,rfl⟩:=aF.1 hi;have hlt:=(ak.1 hr1).1;have hf:fps[i]?=some fps[i]:=av (by omega);obtain⟨v,q1,q2⟩:=hrr i r fps[i] hr1 hf;refine⟨v,q1,?_⟩;cases r with
     |none=>obtain⟨rfl,_⟩:=q2;exact .nil
     |some rows'=>obtain⟨b',q3,q4⟩:=q2;have hm:b'∈fps.flatten:=dH.2 ⟨fps[i],List.getElem_mem _,by rw[q3];simp⟩;exact .bq q4 (hSK b' (aC _ hm)).1 (hSK b' (aC _ hm)).2) (by simp only[aN];omega))
    (fun sz' sl' k x eo hp=>by cases eo;have hm:=hmem k x hp;refine⟨fun e=>hnd.1 (by have e:x=b:=e;rw[<-e];exact hm),fun j b' hj hown hx=>haw j b' hj hown x hx (aC _ hm),fun k' hp'=>?_⟩;obtain⟨fp,h1,rfl⟩:=hpat k x hp;obtain⟨fp',h2,rfl⟩:=hpat k' x hp';exact DW hnd.2 h2 h1)
   refine⟨ext φ nxt ⟨b,off,1,aL.size,cap⟩,?_,?_⟩
   .refine ⟨bH _,⟨fun i h=>.inl h,(jK _ (hnx)).eh⟩,hin.xh fun i=>?_,fun p hp=>?_,fun p hp x hx=>?_⟩
    .simp only[o7,kU];constructor
     .rintro (h|rfl)
      .exact .inl h
      .exact .inr (by omega)
     .rintro (h|h)
      .exact .inl h
      .exact .inr (by omega)
    .obtain rfl:p=_:=by simpa[kU]using hp
     simp[kU]
    .obtain rfl:p=_:=by simpa[kU]using hp
     have e:bk (kU nxt (T.zD sz ao)).2.1 hf nxt=some (.nst sz (ao.map mK)):=by simp[kU,bk,cq]
     rcases dQ.1 hx with rfl|⟨sz',sl',k,h1,h2⟩
     .simp [ext]
     .rw [e]at h1;cases h1;simp only[ext,if_true]at h2;exact aC _ (hmem k x h2)
   .have e:(ext φ nxt ⟨b,off,1,aL.size,cap⟩) nxt=⟨b,off,1,aL.size,cap⟩:=by simp[ext]
    have:=RC.fh (S:=S) (w:=w) (Kn:=o7 Kn nxt (nxt+1)) (φ:=ext φ nxt ⟨b,off,1,aL.size,cap⟩) (id:=nxt) (off:=0) (len:=ao.length) (cap:=cap) (addr:=off) (.inr (by omega)) (by omega) (by rw[e];simp) (by rw[e];simpa using hext) (by rw[e];simp);rw[e]at this;simpa[kU]using this
 |pt ts=>
  cases hr with
  |@pt _ b aL fps ho hlen hfl h=>
   rw[fR]at hnd;have hnx:¬Kn nxt:=hfr nxt (au _) (by rw[p_];exact vI ts (nxt+1))
   obtain⟨φ1,hL,hrc⟩:=sZ ts (Kn:=Kn) (φ:=φ) (hf:=hf) (nxt+1) (fun i=>aL.getD i undef) fps hI (fun j hj hj2=>hfr j (by omega) (by rw[p_];exact hj2)) hfl h hnd.2
    (fun b' hb'=>hSK b' (by simp[hb'])) (fun j o hj hown x hx hm=>haw j o hj hown x hx (aC _ hm))
   have hm:=hL.le
   have hnk:¬o7 Kn (nxt+1) (iA (nxt+1) ts).2.2 nxt:=by
    rintro(h|h)
    .exact hnx h
    .omega
   refine⟨ext φ1 nxt ⟨b,0,1,aL.size,0⟩,?_,?_⟩
   .have hin:=hL.inv.name hnk ⟨b,0,1,aL.size,0⟩ (.box (iA (nxt+1) ts).1) (fun _ j o hj hown hm=>by
      by_cases hu:∃p∈(iA (nxt+1) ts).2.1,p.1=j
      .obtain ⟨p,hp,rfl⟩:=hu;exact hnd.1 (hL.bU p hp _ hm)
      .have hfn:cq (iA (nxt+1) ts).2.1 j=none:=k_ fun p hp e=>hu ⟨p,hp,e⟩;have hj':=hj;simp only[bk,hfn]at hj';have hk:=(hI.iL j o hj').1;rw[gx (hL.se.eh j hk) (hj.trans hj'.symm)]at hm;exact haw j o hj' hown _ hm (by simp))
     (.box rfl (hSK b (by simp)).1 (hSK b (by simp)).2 ho (hrc.1.trans hlen) fun i c hi=>(hrc.2 i c hi).mono (gV.refl _ _) (jK _ hnk))
    refine⟨?_,⟨fun i h=>.inl h,fun i hi=>?_⟩,?_,fun p hp=>?_,fun p hp=>?_⟩
    .simp only[p_];exact Nat.le_of_succ_le hm
    .have:i≠nxt:=fun e=>hnx (e▸hi);simp only[ext,this,if_false];exact hL.se.eh i hi
    .have e:bk (kU nxt (.pt ts)).2.1 hf=bk [(nxt,some (.box (iA (nxt+1) ts).1))] (bk (iA (nxt+1) ts).2.1 hf):=by rw[<-ei];rfl
     rw[e];refine hin.xh fun i=>?_;simp only[o7,p_];constructor
     .rintro ((h|h)|rfl)
      .exact .inl h
      .exact .inr (by omega)
      .exact .inr (by omega)
     .rintro (h|h)
      .exact .inl (.inl h)
      .by_cases e:i=nxt
       .exact .inr e
       .exact .inl (.inr (by omega))
    .simp only[p_]at hp|-;rcases aM.1 hp with rfl|hp
     .simp only;omega
     .have:=hL.gD p hp;omega
    .simp only[p_]at hp;rcases aM.1 hp with rfl|hp
     .rw [pE fun _ _ e=>by simp[p_,bk,cq]at e];simp[ext]
     .have hne:¬p.1=nxt:=by have:=hL.gD p hp;omega
      have hne':(nxt==p.1)=false:=by simpa using fun e=>hne e.symm
      intro x hx;rw[gx (φ':=φ1) (hf':=bk (iA (nxt+1) ts).2.1 hf) (by simp only[ext,hne,if_false]) (by simp only[p_,bk,cq,hne',cond_false])]at hx;exact aC _ (hL.bU p hp x hx)
   .have:=RC.op (S:=S) (w:=w) (Kn:=o7 Kn nxt (iA (nxt+1) ts).2.2) (φ:=ext φ1 nxt ⟨b,0,1,aL.size,0⟩) (id:=nxt) (off:=0) (.inr (by omega));simpa[p_,ext]using this
theorem sZ(ts:List T):∀{Kn:Nat->Prop}{φ:Nat->gF}{hf:Nat->Option Ob}(nxt:Nat)(get:Nat->Value)(fps:List (List Nat)),Inv S K w0 Kn φ hf w->(∀j,nxt<=j->j<(iA nxt ts).2.2->¬Kn j)->
  fps.length=ts.length->(∀(i:Nat)(t:T)(fp:List Nat),ts[i]?=some t->fps[i]?=some fp->RT S w t (get i) fp)->fps.flatten.Nodup->(∀b∈fps.flatten,¬S b/\¬K b)->iT w φ hf fps.flatten->
  ∃φ',rI S K w0 w Kn φ hf fps.flatten nxt (iA nxt ts).2.2 (iA nxt ts).2.1 φ'/\(iA nxt ts).1.length=ts.length/\
   ∀(i:Nat)(c:C),(iA nxt ts).1[i]?=some c->RC S w (o7 Kn nxt (iA nxt ts).2.2) φ' c (get i):=by
 intro Kn φ hf nxt get fps hI hfr hfl hr hnd hSK haw;cases ts with
 |nil=>exact⟨φ,rI.nil hI _ _,rfl,fun i c hi=>by simp[iA]at hi⟩
 |cons t ts=>
  cases fps with
  |nil=>simp at hfl
  |cons fp fps=>
   rw[ed,bV]at hnd;obtain⟨hn1,hn2,hn3⟩:=hnd;simp only[ed,ap]at hSK
   obtain⟨φ1,hL1,hc1⟩:=vJ t (Kn:=Kn) (φ:=φ) (hf:=hf) nxt (get 0) fp hI (fun j hj hj2=>hfr j hj (by rw[qw];exact cg hj2 (vI ts _))) (hr 0 t fp rfl rfl) hn1 (fun b hb=>hSK b (.inl hb))
    (fun j o hj hown x hx hm=>haw j o hj hown x hx (by simp[hm]))
   obtain⟨φ2,hL2,hlen,hc2⟩:=sZ ts (Kn:=o7 Kn nxt (kU nxt t).2.2) (φ:=φ1) (hf:=bk (kU nxt t).2.1 hf) (kU nxt t).2.2 (fun i=>get (i+1)) fps hL1.inv
    (fun j hj hj2 hk=>by
     rcases hk with hk|hk
     .have:=hL1.le;exact hfr j (by omega) (by rw[qw];exact hj2) hk
     .omega) (by simpa using hfl) (fun i t fp hi hfp=>hr (i+1) t fp (by simpa using hi) (by simpa using hfp)) hn2 (fun b hb=>hSK b (.inr hb))
    (fun j o hj hown x hx hm=>by
     by_cases hu:∃p∈(kU nxt t).2.1,p.1=j
     .obtain ⟨p,hp,rfl⟩:=hu;exact hn3 _ (hL1.bU p hp x hx) _ hm rfl
     .have hfn:cq (kU nxt t).2.1 j=none:=k_ fun p hp e=>hu ⟨p,hp,e⟩;have hj':=hj;simp only[bk,hfn]at hj';have hk:=(hI.iL j o hj').1;rw[gx (hL1.se.eh j hk) (hj.trans hj'.symm)]at hx;exact haw j o hj' hown x hx (by simp[hm]))
   have hcomp:=hL1.pL hL2;have hcm:bk ((iA (kU nxt t).2.2 ts).2.1++(kU nxt t).2.1) hf=bk ((kU nxt t).2.1++(iA (kU nxt t).2.2 ts).2.1) hf:=mu fun p hp q hq e=>by have h1:=hL2.gD p hp;have h2:=hL1.gD q hq;omega
   refine⟨φ2,?_,by simp[qw,hlen],fun i c hi=>?_⟩
   .simp only[qw,ed];have hsw:∀{p:Nat×Option Ob}{a b:fx},p∈a++b->p∈b++a:=fun hp=>ap.2 (ap.1 hp).symm;exact⟨hcomp.le,hcomp.se,hcm▸hcomp.inv,fun p hp=>hcomp.gD p (hsw hp),fun p hp x hx=>hcomp.bU p (hsw hp) x (hcm.symm▸hx)⟩
   .have hsub:∀i,o7 (o7 Kn nxt (kU nxt t).2.2) (kU nxt t).2.2 (iA (kU nxt t).2.2 ts).2.2 i->o7 Kn nxt (iA (kU nxt t).2.2 ts).2.2 i:=fun i=>(rn hL1.le hL2.le i).1;cases i with
    |zero=>
     obtain rfl:(kU nxt t).1=c:=by simpa[iA]using hi
     exact(hc1.mono (gV.refl _ _) hL2.se).kn hsub
    |succ i=>exact(hc2 i c (by simpa[qw]using hi)).kn hsub
end
theorem th{α:Type}{l:List α}{k i:Nat}{x y:α}(h:(l.set k x)[i]?=some y):(k=i/\y=x/\i<l.length)\/(k≠i/\l[i]?=some y):=by
 rw[List.getElem?_set]at h;split at h
 .rename_i e;split at h
  .rename_i hlt;exact .inl ⟨e,(aa h).symm,e▸hlt⟩
  .simp at h
 .rename_i e;exact .inr ⟨e,h⟩
theorem Inv.SM(h:Inv S K w0 Kn φ hf w){id:Nat}{o o':Ob}(ho:hf id=some o)(hown:cT o=true)(hno:HA o')(hro:RO S K w Kn φ (φ id) o'):Inv S K w0 Kn φ (bk [(id,some o')] hf) w:=by
 have hold:∀j b,bk [(id,some o')] hf j=some b->(j=id/\b=o')\/(j≠id/\hf j=some b):=by
  intro j b hj;rw[bQ]at hj;by_cases e:id=j
  .rw [if_pos e]at hj;exact .inl ⟨e.symm,(aa hj).symm⟩
  .rw [if_neg e,fF]at hj;exact .inr ⟨fun q=>e q.symm,hj⟩
 have was:∀j b,bk [(id,some o')] hf j=some b->cT b=true->∃b',hf j=some b'/\cT b'=true:=by
  intro j b hj hb;rcases hold j b hj with⟨rfl,rfl⟩|⟨_,hj'⟩
  .exact ⟨o,ho,hown⟩
  .exact ⟨b,hj',hb⟩
 refine h.uS (gV.refl _ _) (Ren.refl _ _) h.uO h.sk h.ng ?_ ?_ ?_
 .intro i x hx;rcases hold i x hx with⟨rfl,rfl⟩|⟨_,hx'⟩
  .exact .inr ⟨(h.iL i o ho).1,hro⟩
  .exact .inl ⟨hx',fun hown=>⟨rfl,((h.iL i x hx').2.bq hown).1⟩,h.DN hx' fun _ _=>rfl⟩
 .intro i j a b ha hb hoa hob hne;obtain⟨a',h1,h2⟩:=was i a ha hoa;obtain⟨b',h3,h4⟩:=was j b hb hob;exact h.eJ i j a' b' h1 h3 h2 h4 hne
 .intro i sz sl k x hi hp;rcases hold i _ hi with⟨rfl,e⟩|⟨_,hi'⟩
  .obtain ⟨ao,v,h1,_⟩:=hp;exact absurd h1 (hno sz sl k ao e.symm)
  .obtain ⟨p1,p2⟩:=h.wT i sz sl k x hi' hp;refine⟨fun j b hj hb=>?_,fun j sz' sl' k' hj hpj=>?_⟩
   .obtain ⟨b',h1,h2⟩:=was j b hj hb;exact p1 j b' h1 h2
   .rcases hold j _ hj with⟨rfl,e⟩|⟨_,hj'⟩
    .obtain ⟨ao,v,h1,_⟩:=hpj;exact absurd h1 (hno sz' sl' k' ao e.symm)
    .exact p2 j sz' sl' k' hj' hpj
theorem Inv.split(h:Inv S K w0 Kn φ hf w){id nxt sz di:Nat}{slots:List kT}{ao:List (List D)}(ho:hf id=some (.nst sz slots))(hs:slots[di]?=some (.bq ao))(hn:¬Kn nxt):
  ∃l v,w.cell? ⟨(φ id).bU,(φ id).aQ+di,none⟩=some v/\RC S w (fun j=>Kn j\/j=nxt) (ext φ nxt l) (.fh sz nxt 0 ao.length) v/\
   Inv S K w0 (fun j=>Kn j\/j=nxt) (ext φ nxt l) (bk [(nxt,some (.aL sz ao)),(id,some (.nst sz (slots.set di (.dX nxt ao.length))))] hf) w:=by
 obtain⟨hk,hro⟩:=h.iL id _ ho;have hne:id≠nxt:=fun e=>hn (e▸hk);cases hro with
 |@nst _ _ aL hsz hl hS hK hown hext hfit hr hv=>
  obtain⟨v,h1,h2⟩:=hr di _ hs;cases h2 with
  |@bq _ _ b hrw hbS hbK=>
   obtain⟨addr,cap,ba,rfl,_,hbo,hcap,hfx,hrr⟩:=hrw;have hcell:w.cell? ⟨(φ id).bU,(φ id).aQ+di,none⟩=some (.slice (some ⟨b,addr,none⟩) ao.length cap):=(hown.cell _).trans h1;have hpat:rT w (φ id) slots di b:=⟨ao,_,hs,hcell,rfl⟩
   obtain⟨p1,p2⟩:=h.wT id sz slots di b ho hpat;have he:ext φ nxt ⟨b,addr,sz,ba.size,cap⟩ nxt=⟨b,addr,sz,ba.size,cap⟩:=by simp[ext]
   have heo:∀j,j≠nxt->ext φ nxt ⟨b,addr,sz,ba.size,cap⟩ j=φ j:=fun j hj=>by simp[ext,hj]
   have hren:=jK (φ:=φ) (⟨b,addr,sz,ba.size,cap⟩:gF) hn;have hrc:RC S w (fun j=>Kn j\/j=nxt) (ext φ nxt ⟨b,addr,sz,ba.size,cap⟩) (.fh sz nxt 0 ao.length) (.slice (some ⟨b,addr,none⟩) ao.length cap):=by have:=RC.fh (S:=S) (w:=w) (Kn:=fun j=>Kn j\/j=nxt) (φ:=ext φ nxt ⟨b,addr,sz,ba.size,cap⟩) (id:=nxt) (off:=0) (len:=ao.length) (cap:=cap) (addr:=addr) (.inr rfl) (by omega) (by rw[he];simp) (by rw[he];simpa using hfx) (by rw[he];simp);rw[he]at this;exact this
   refine⟨⟨b,addr,sz,ba.size,cap⟩,_,hcell,hrc,?_⟩
   have hold:∀j c,bk [(nxt,some (.aL sz ao)),(id,some (.nst sz (slots.set di (.dX nxt ao.length))))] hf j=some c->(j=nxt/\c=.aL sz ao)\/(j=id/\c=.nst sz (slots.set di (.dX nxt ao.length)))\/(j≠nxt/\j≠id/\hf j=some c):=by
    intro j c hj;rw[bQ]at hj;by_cases e:nxt=j
    .rw [if_pos e]at hj;exact .inl ⟨e.symm,(aa hj).symm⟩
    .rw [if_neg e,bQ]at hj;by_cases e2:id=j
     .rw [if_pos e2]at hj;exact .inr (.inl ⟨e2.symm,(aa hj).symm⟩)
     .rw [if_neg e2,fF]at hj;exact .inr (.inr ⟨fun q=>e q.symm,fun q=>e2 q.symm,hj⟩)
   have hpat2:∀j sz' sl' k x,bk [(nxt,some (.aL sz ao)),(id,some (.nst sz (slots.set di (.dX nxt ao.length))))] hf j=some (.nst sz' sl')->rT w (ext φ nxt ⟨b,addr,sz,ba.size,cap⟩ j) sl' k x->∃tg,hf j=some (.nst sz' tg)/\rT w (φ j) tg k x/\x≠b:=by
    intro j sz' sl' k x hj hp;rcases hold j _ hj with⟨_,e⟩|⟨rfl,e⟩|⟨e1,e2,hj'⟩
    .cases e
    .cases e;rw[heo _ hne]at hp;obtain⟨rows',v',q1,q2,q3⟩:=hp;rcases th q1 with⟨_,e,_⟩|⟨hk',q1'⟩
     .cases e
     .have hp':rT w (φ j) slots k x:=⟨rows',v',q1',q2,q3⟩
      exact⟨slots,ho,hp',fun e=>hk' (by rw[((p2 j sz slots k ho (e▸hp')).2)])⟩
    .rw [heo _ e1]at hp;exact⟨sl',hj',hp,fun e=>e2 ((p2 j sz' sl' k hj' (e▸hp)).1)⟩
   refine h.uS (gV.refl _ _) hren h.uO h.sk h.ng ?_ ?_ ?_
   .intro j c hj;rcases hold j c hj with⟨rfl,rfl⟩|⟨rfl,rfl⟩|⟨e1,_,hj'⟩
    .refine .inr ⟨.inr rfl,?_⟩;rw[he];exact .aL (by assumption) rfl hbS hbK hbo rfl (by have:=aI sz hcap;simp only;omega) hrr hcap
    .refine .inr ⟨.inl hk,?_⟩;rw[heo _ hne];refine .nst hsz hl hS hK hown hext (by rw[ft];exact hfit) (fun i s hi=>?_) (by rw[ft];exact hv);rcases th hi with⟨rfl,rfl,_⟩|⟨_,hi'⟩
     .exact ⟨_,h1,.dX hrc⟩
     .obtain ⟨v',q1,q2⟩:=hr i s hi';refine⟨v',q1,?_⟩;cases q2 with|nil=>exact .nil|bq h hS hK=>exact .bq h hS hK|dX h=>exact .dX (h.mono (gV.refl _ _) hren)
    .exact .inl ⟨hj',fun hown=>⟨rfl,((h.iL j c hj').2.bq hown).1⟩,h.DN hj' fun _ _=>rfl⟩
   .intro i j a c ha hc hoa hoc hij
    have key:∀j c,bk [(nxt,some (.aL sz ao)),(id,some (.nst sz (slots.set di (.dX nxt ao.length))))] hf j=some c->cT c=true->j≠nxt->(∃c',hf j=some c'/\cT c'=true)/\ext φ nxt ⟨b,addr,sz,ba.size,cap⟩ j=φ j:=by
     intro j c hj hc hjn;rcases hold j c hj with⟨e,_⟩|⟨rfl,rfl⟩|⟨_,_,hj'⟩
     .exact absurd e hjn
     .exact ⟨⟨_,ho,rfl⟩,heo _ hjn⟩
     .exact ⟨⟨c,hj',hc⟩,heo _ hjn⟩
    by_cases hi:i=nxt
    .subst hi;obtain⟨⟨c',q1,q2⟩,q3⟩:=key j c hc hoc fun e=>hij e.symm;rw[he,q3];exact fun e=>p1 j c' q1 q2 e.symm
    .obtain ⟨⟨a',q1,q2⟩,q3⟩:=key i a ha hoa hi;by_cases hj:j=nxt
     .subst hj;rw[he,q3];exact p1 i a' q1 q2
     .obtain ⟨⟨c',q4,q5⟩,q6⟩:=key j c hc hoc hj;rw[q3,q6];exact h.eJ i j a' c' q1 q4 q2 q5 hij
   .intro j sz' sl' k x hj hp;obtain⟨tg,q1,q2,q3⟩:=hpat2 j sz' sl' k x hj hp;obtain⟨r1,r2⟩:=h.wT j sz' tg k x q1 q2;refine⟨fun i c hi hc=>?_,fun i sz2 sl2 k' hi hpi=>?_⟩
    .rcases hold i c hi with⟨rfl,rfl⟩|⟨rfl,rfl⟩|⟨e1,_,hi'⟩
     .rw [he];exact fun e=>q3 e.symm
     .rw [heo _ hne];exact r1 i _ ho rfl
     .rw [heo _ e1];exact r1 i c hi' hc
    .obtain ⟨sl3,q4,q5,_⟩:=hpat2 i sz2 sl2 k' x hi hpi;exact r2 i sz2 sl3 k' q4 q5
theorem Inv.MO(h:Inv S K w0 Kn φ hf w){id id2 sz sz2 di:Nat}{slots:List kT}{ao:List (List D)}(ho:hf id=some (.nst sz slots))(hs:slots[di]?=some (.dX id2 ao.length))(h2:hf id2=some (.aL sz2 ao)):
  Inv S K w0 Kn φ (bk [(id,some (.nst sz (slots.set di (.bq ao)))),(id2,none)] hf) w:=by
 obtain⟨hk,hro⟩:=h.iL id _ ho;obtain⟨hk2,hro2⟩:=h.iL id2 _ h2;have hne:id2≠id:=fun e=>by rw[e,ho]at h2;cases h2
 have hold:∀j c,bk [(id,some (.nst sz (slots.set di (.bq ao)))),(id2,none)] hf j=some c->(j=id/\c=.nst sz (slots.set di (.bq ao)))\/(j≠id/\j≠id2/\hf j=some c):=by
  intro j c hj;rw[bQ]at hj;by_cases e:id=j
  .rw [if_pos e]at hj;exact .inl ⟨e.symm,(aa hj).symm⟩
  .rw [if_neg e,bQ]at hj;by_cases e2:id2=j
   .rw [if_pos e2]at hj;cases hj
   .rw [if_neg e2,fF]at hj;exact .inr ⟨fun q=>e q.symm,fun q=>e2 q.symm,hj⟩
 have was:∀j c,bk [(id,some (.nst sz (slots.set di (.bq ao)))),(id2,none)] hf j=some c->cT c=true->j≠id2/\∃c',hf j=some c'/\cT c'=true:=by
  intro j c hj hc;rcases hold j c hj with⟨rfl,rfl⟩|⟨_,e,hj'⟩
  .exact ⟨hne.symm,_,ho,rfl⟩
  .exact ⟨e,c,hj',hc⟩
 cases hro with
 |@nst _ _ aL hsz hl hS hK hown hext hfit hr hv=>
  obtain⟨v,h1,hsl⟩:=hr di _ hs;have hcell:w.cell? ⟨(φ id).bU,(φ id).aQ+di,none⟩=some v:=(hown.cell _).trans h1
  obtain⟨hvb,hrw⟩:xn v=some (φ id2).bU/\Hz S w sz ao v (φ id2).bU:=by
   cases hsl with
   |dX hrc=>
    cases hro2 with
    |@aL _ _ ba hsz2 hl2 hS2 hK2 hown2 hext2 hfit2 hr2 hv2=>cases hrc with|@fh _ _ _ cap addr hk' hcap haddr hx hcc=>refine⟨rfl,addr,cap,ba,rfl,by rw[hl2];exact hsz2,hown2,hcap,by omega,?_⟩;have:=hr2.xd (addr:=addr) 0 ao.length (fun hlt=>by rw[haddr (by omega),hl2]);rw[hl2];simpa using this
  obtain⟨hS2,hK2,_⟩:=hro2.bq rfl
  have hpat2:∀j sz' sl' k x,bk [(id,some (.nst sz (slots.set di (.bq ao)))),(id2,none)] hf j=some (.nst sz' sl')->rT w (φ j) sl' k x->(j=id/\k=di/\x=(φ id2).bU)\/∃tg,hf j=some (.nst sz' tg)/\rT w (φ j) tg k x:=by
   intro j sz' sl' k x hj hp;rcases hold j _ hj with⟨rfl,e⟩|⟨e1,e2,hj'⟩
   .cases e;obtain⟨rows',v',q1,q2,q3⟩:=hp;rcases th q1 with⟨rfl,_,_⟩|⟨hk',q1'⟩
    .refine .inl ⟨rfl,rfl,?_⟩;rw[hcell]at q2;obtain rfl:=aa q2;rw[hvb]at q3;exact(aa q3).symm
    .exact .inr ⟨slots,ho,rows',v',q1',q2,q3⟩
   .exact .inr ⟨sl',hj',hp⟩
  refine h.uS (gV.refl _ _) (Ren.refl _ _) h.uO h.sk h.ng ?_ ?_ ?_
  .intro j c hj;rcases hold j c hj with⟨rfl,rfl⟩|⟨_,_,hj'⟩
   .refine .inr ⟨hk,.nst hsz hl hS hK hown hext (by rw[ft];exact hfit) (fun i s hi=>?_) (by rw[ft];exact hv)⟩;rcases th hi with⟨rfl,rfl,_⟩|⟨_,hi'⟩
    .exact ⟨v,h1,.bq hrw hS2 hK2⟩
    .exact hr i s hi'
   .exact .inl ⟨hj',fun hown=>⟨rfl,((h.iL j c hj').2.bq hown).1⟩,h.DN hj' fun _ _=>rfl⟩
  .intro i j a c ha hc hoa hoc hij;obtain⟨_,a',q1,q2⟩:=was i a ha hoa;obtain⟨_,c',q3,q4⟩:=was j c hc hoc;exact h.eJ i j a' c' q1 q3 q2 q4 hij
  .intro j sz' sl' k x hj hp;refine⟨fun i c hi hc=>?_,fun i sz3 sl3 k' hi hpi=>?_⟩
   .obtain ⟨hi2,c',q1,q2⟩:=was i c hi hc;rcases hpat2 j sz' sl' k x hj hp with⟨_,_,rfl⟩|⟨tg,q3,q4⟩
    .exact h.eJ i id2 c' _ q1 h2 q2 rfl hi2
    .exact (h.wT j sz' tg k x q3 q4).1 i c' q1 q2
   .rcases hpat2 j sz' sl' k x hj hp with⟨e1,e2,e3⟩|⟨tg,q3,q4⟩<;>rcases hpat2 i sz3 sl3 k' x hi hpi with⟨e4,e5,e6⟩|⟨sl4,q5,q6⟩
    .exact ⟨e4.trans e1.symm,e5.trans e2.symm⟩
    .exact absurd e3.symm ((h.wT i sz3 sl4 k' x q5 q6).1 id2 _ h2 rfl)
    .exact absurd e6.symm ((h.wT j sz' tg k x q3 q4).1 id2 _ h2 rfl)
    .exact (h.wT j sz' tg k x q3 q4).2 i sz3 sl4 k' q5 q6
theorem Inv.TG{w':World}(h:Inv S K w0 Kn φ hf w){id sz di:Nat}{slots:List kT}{s':kT}{v:Value}{aL arr':Array Value}(ho:hf id=some (.nst sz slots))(hown:m8 w (φ id).bU aL)(hown':m8 w' (φ id).bU arr')(hsize':arr'.size=aL.size)
  (hother:∀b,b≠(φ id).bU->w'.heap[b]?=w.heap[b]?) (hsize:w'.heap.size=w.heap.size) (hfrz:∀a,w'.frozen? a=w.frozen? a) (hio:Io w w')
  (hget:∀i,i≠(φ id).aQ+di->arr'[i]?=aL[i]?) (hv:di<slots.length->arr'[(φ id).aQ+di]?=some v) (hslot:gV S w S w'->zy S K w' Kn φ sz s' v) (hs':∀ao,s'≠.bq ao):
  gV S w S w'/\Inv S K w0 Kn φ (bk [(id,some (.nst sz (slots.set di s')))] hf) w':=by
 obtain⟨hk,h0⟩:=h.iL id _ ho;obtain⟨hS,hK,hlt⟩:=h0.bq rfl;have hs:gV S w S w':=⟨fun _ h=>h,fun b hb=>hother b (fun e=>hS (e▸hb))⟩
 have hold:∀j c,bk [(id,some (.nst sz (slots.set di s')))] hf j=some c->(j=id/\c=.nst sz (slots.set di s'))\/(j≠id/\hf j=some c):=by
  intro j c hj;rw[bQ]at hj;by_cases e:id=j
  .rw [if_pos e]at hj;exact .inl ⟨e.symm,(aa hj).symm⟩
  .rw [if_neg e,fF]at hj;exact .inr ⟨fun q=>e q.symm,hj⟩
 have was:∀j c,bk [(id,some (.nst sz (slots.set di s')))] hf j=some c->cT c=true->∃c',hf j=some c'/\cT c'=true:=by
  intro j c hj hc;rcases hold j c hj with⟨rfl,rfl⟩|⟨_,hj'⟩
  .exact ⟨_,ho,rfl⟩
  .exact ⟨c,hj',hc⟩
 have hpat2:∀j sz' sl' k x,bk [(id,some (.nst sz (slots.set di s')))] hf j=some (.nst sz' sl')->rT w' (φ j) sl' k x->∃tg,hf j=some (.nst sz' tg)/\rT w (φ j) tg k x:=by
  intro j sz' sl' k x hj hp;rcases hold j _ hj with⟨rfl,e⟩|⟨e1,hj'⟩
  .cases e;obtain⟨rows',v',q1,q2,q3⟩:=hp;rcases th q1 with⟨_,e,_⟩|⟨hk',q1'⟩
   .exact absurd e.symm (hs' rows')
   .refine ⟨slots,ho,rows',v',q1',?_,q3⟩;rw[hown.cell,<-hget _ (by omega),<-hown'.cell];exact q2
  .exact ⟨sl',hj',(rT.eh (hother _ (h.eJ j id _ _ hj' ho rfl rfl e1))).1 hp⟩
 have hkeep:∀j sz' sl' k x,hf j=some (.nst sz' sl')->rT w (φ j) sl' k x->w'.heap[x]?=w.heap[x]?/\¬S x:=fun j sz' sl' k x hj hp=>⟨hother x fun e=>(h.wT j sz' sl' k x hj hp).1 id _ ho rfl e.symm,(h.Ig hj hp).1⟩;refine⟨hs,h.uS hs (Ren.refl _ _) (fun b hb=>hsize▸h.uO b hb) h.sk ?_ ?_ ?_ ?_⟩
 .exact ⟨h.ng.FO,fun b hb=>(hother b (fun e=>hK (e▸hb))).trans (h.ng.mQ b hb),hsize▸h.ng.grow,fun a ha=>(hfrz a).trans (h.ng.AS a ha),h.ng.yu hother (fun a ha=>⟨arr',hown',by obtain⟨t1,e1⟩:=ha;obtain⟨t2,e2⟩:=hown;rw[e1]at e2;rw[hsize'];cases e2;rfl⟩),h.ng.io.trans hio⟩
 .intro j c hj;rcases hold j c hj with⟨rfl,rfl⟩|⟨e1,hj'⟩
  .refine .inr ⟨hk,?_⟩;cases h0 with
   |@nst _ _ arr0 hsz hl hS hK hown0 hext hfit hr hv0=>
    have ea:arr0=aL:=by obtain⟨t1,e1⟩:=hown0;obtain⟨t2,e2⟩:=hown;rw[e1]at e2;cases e2;rfl
    subst ea;refine .nst hsz hl hS hK hown' (hsize'.trans hext) (by rw[ft];exact hfit) (fun i s hi=>?_) (by rw[ft];exact hv0);rcases th hi with⟨rfl,rfl,hlt⟩|⟨hne,hi'⟩
    .exact ⟨v,hv hlt,hslot hs⟩
    .obtain ⟨v',q1,q2⟩:=hr i s hi';refine⟨v',(hget _ (by omega)).trans q1,?_⟩;cases q2 with|nil=>exact .nil|@bq ao _ b q3 q4 q5=>exact .bq (q3.mono hs (hkeep j sz slots i b ho ⟨ao,v',hi',(hown.cell _).trans q1,q3.bU⟩).1) q4 q5|dX q3=>exact .dX (q3.mono hs (Ren.refl _ _))
  .exact .inl ⟨hj',fun hox=>⟨hother _ (h.eJ j id c _ hj' ho hox rfl e1),((h.iL j c hj').2.bq hox).1⟩,fun sz' sl' eo k x hp=>by subst eo;exact hkeep j sz' sl' k x hj' hp⟩
 .intro i j a c ha hc hoa hoc hij;obtain⟨a',q1,q2⟩:=was i a ha hoa;obtain⟨c',q3,q4⟩:=was j c hc hoc;exact h.eJ i j a' c' q1 q3 q2 q4 hij
 .intro j sz' sl' k x hj hp;obtain⟨tg,q1,q2⟩:=hpat2 j sz' sl' k x hj hp;obtain⟨r1,r2⟩:=h.wT j sz' tg k x q1 q2;refine⟨fun i c hi hc=>?_,fun i sz3 sl3 k' hi hpi=>?_⟩
  .obtain ⟨c',q3,q4⟩:=was i c hi hc;exact r1 i c' q3 q4
  .obtain ⟨sl4,q5,q6⟩:=hpat2 i sz3 sl3 k' x hi hpi;exact r2 i sz3 sl4 k' q5 q6
end
end Go.Ev
