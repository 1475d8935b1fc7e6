/- The abstract machine: deep data, cells, owned objects, operations and code, and their evaluation. Conditions: none, these are definitions. -/
import Derived.Orders
import Derived.Laws.CopyRow
open Array renaming getD->kr,getElem?_eq_none->gz,getElem?_eq_some_iff->bv
open BitVec renaming ofInt->bJ
open Bool renaming false_eq_true->aX
open List renaming all_eq_true->bq,append_nil->bR,flatMap_cons->bf,flatten_cons->ei,getElem?_append_left->bS,getElem?_append_right->bX,getElem?_drop->bW,getElem?_eq_getElem->aE,getElem?_eq_some_iff->aq,getElem?_map->aM,getElem?_take->eJ,getElem_of_mem->cG,length_map->aV,length_set->fy,length_take->d_,map->mo,mem_append->au,mem_cons->aQ,mem_cons_of_mem->aF,mem_flatten->dL,mem_of_getElem?->bk,mem_singleton->av,nodup_append->cE,nodup_cons->fT,nodup_nil->iX,range->bt,replicate->aA
open Nat renaming add_assoc->db,add_zero->di,le_refl->aw,le_succ->bQ,le_trans->fI,lt_of_lt_of_le->dg,lt_succ_self->bl,mul_le_mul_right->aO,mul_one->mP,zero_add->bN,zero_mul->jr
open Option renaming bind_eq_some_iff->ff,map_eq_some_iff->aK
open Option.some renaming inj->aa,injEq->bE
open Prod.mk renaming inj->ad
namespace Go.Ev
inductive D where
 |lit (v:Value)
 |sl (sz:Nat) (ao:List (List D))
 |pt (cells:List D)
 |fn (f:FuncId) (caps:List D)
 deriving Inhabited
inductive C where
 |d (x:D)
 |fh (sz id off len:Nat)
 |ep (id cU off:Nat)
 |op (id off:Nat)
 |po (f:FuncId) (caps:List C)
 |om (id:Nat)
 deriving Inhabited
inductive TV where
 |c (x:C)
 |agg (cells:List C)
 |iP (xs:List TV)
 deriving Inhabited
inductive kX where
 |nil
 |bG (ao:List (List D))
 |cF (id len:Nat)
 deriving Inhabited
inductive Ob where
 |aP (sz:Nat) (ao:List (List D))
 |qc (sz:Nat) (ao:List (List D))
 |box (cells:List C)
 |oV (cells:List D)
 |map (ka va:Bool) (es:List (List Value×List D×Nat)) (fc:Nat)
 |cap (sz:Nat) (ao:List (List D)) (cp:Nat)
 |nst (sz:Nat) (slots:List kX)
 deriving Inhabited
inductive T where
 |d (x:D)
 |sl (sz:Nat) (ao:List (List D))
 |pt (cells:List T)
 |zZ (sz:Nat) (ao:List (Option (List (List D))))
 |wR
 deriving Inhabited
inductive A where
 |d (x:D)
 |agg (cells:List D)
 |mt (t:T)
 deriving Inhabited
inductive R where
 |c (t:T)
 |agg (cells:List T)
 deriving Inhabited
def fB:Value->Bool
 |.bool _|.int _ _|.float _ _|.string _|.pointer none|.slice none 0 0|.map none|.nilFunc|.nilIface=>true
 |_=>false
def DR:Nat:=2147483648
def cz{α:Type}:List (Nat×α)->Nat->Option α
 |[],_=>none
 |(a,x)::r,k=>bif a==k then some x else cz r k
abbrev jG:=List (Nat×TV)
abbrev bM:=List (Nat×Option Ob)
abbrev fA:=List (Nat×Option Ob)
def aC(h:bM)(id:Nat):Option Ob:=(cz h id).join
inductive Kd where
 |b
 |i (k:IntKind)
 |s
 deriving Inhabited,DecidableEq
inductive K where
 |mv
 |pick
 |alloc (zero:List Value)
 |box
 |build (zero:List Value) (places:List (Nat×Nat))
 |buildSlice (sz len:Nat) (zero:List Value) (places:List Nat)
 |load (agg:Bool) (n:Nat)
 |store (n:Nat)
 |nilCheck
 |Au (op:BinOp)
 |ve (neg:Bool)
 |rF (kind:Nat) (neg:Bool)
 |zD (neg:Bool) (ks:List Kd)
 |un (op:UnOp)
 |vY (k:IntKind)
 |tP
 |It (f:FuncId)
 |makeSlice (zero:List Value)
 |slice (str:Bool) (sz:Nat) (lo hi:Bool)
 |fieldAddr (off n:Nat)
 |field (agg:Bool) (off n:Nat)
 |indexAddr (aP:Option Nat) (sz:Nat)
 |qb
 |index (agg:Bool) (len sz:Nat)
 |extract (i:Nat)
 |len (str:Bool)
 |u9 (isMax:Bool)
 |append (sz:Nat)
 |copy (sz:Nat)
 |clear (zero:List Value)
 |BI (sz:Nat)
 |LH
 |Q0 (zero:List Value)
 |Qo
 |call (ro:Bool) (j7:List Bool)
 |makeMap (ka va:Bool)
 |lookup (ka:Bool) (ks:List Kd) (va:Bool) (zero:List Value) (ok:Bool)
 |mapEntry (ka:Bool) (ks:List Kd) (va:Bool) (zero:List Value)
 |entryStore (va:Bool) (m:Nat)
 |A0 (szi:Nat)
 |uD
 |gi
 deriving Inhabited
structure oE where
 dst:Option Nat
 k:K
 args:List Operand
 guard:Option (Nat×Bool)
 deriving Inhabited
inductive CC where
 |skip
 |region (ops:List oE) (nC:List Nat)
 |drawn (ops:List oE) (dyn:List (Nat×Nat)) (nC:List Nat)
 |seq (a b:CC)
 |cond (c:Operand) (a b:CC)
 |block (id:Nat) (a:CC)
 |loop (nC:List Nat) (a:CC)
 |exit (id:Nat)
 |ret
 |gi
 deriving Inhabited
structure St where
 dH:jG
 heap:bM
 next:Nat
 gh:List C
 deriving Inhabited
inductive sR where
 |normal
 |exit (id:Nat)
 |ret
 deriving Inhabited,DecidableEq
def Pj:Nat->Option D:=fun g => if g = 0 then some (.pt ([0, 1, 28, 2, 29, 14, 24, 3, 30, 22, 20, 15, 25, 17, 4, 8, 31, 27, 13, 23, 21, 19, 16, 7, 26, 12, 18, 6, 11, 5, 10, 9].map fun (x : Int) => .lit (.int .u8 x))) else none
def cv:Value->Option TV
 |.agg cs=>if cs.toList.all fB then some (.agg (cs.toList.map fun v=>.d (.lit v)))else none
 |v=>if fB v then some (.c (.d (.lit v)))else none
def kP(e:jG):Operand->Option TV
 |.tmp t=>cz e t
 |.const v=>cv v
 |.global g=>(Pj g).map fun d=>.c (.d d)
 |.func f=>some (.c (.d (.fn f [])))
def cellsOf:TV->Option (List C)
 |.c x=>some [x]
 |.agg cs=>some cs
 |.iP _=>none
def fk:List Value->List C:=mo fun v=>.d (.lit v)
def dk:List Value->List D:=mo D.lit
def bg{α:Type}(l:List α)(off:Nat)(p:List α):List α:=l.take off++p++l.drop (off+p.length)
def nn(cells:List C):List ((Nat×Nat)×TV)->Option (List C)
 |[]=>some cells
 |((off,n),v)::r=>match cellsOf v with|some cs=>if cs.length=n/\off+n<=cells.length then nn (bg cells off cs) r else none|none=>none
def mE{α:Type}(sz:Nat):Nat->List α->List (List α)
 |0,_=>[]
 |n+1,l=>l.take sz::mE sz n (l.drop sz)
def JF(sz:Nat):kX->Option D
 |.nil=>some (.lit (.slice none 0 0))
 |.bG ao=>some (.sl sz ao)
 |.cF _ _=>none
def qS(sz:Nat):List kX->Option (List (List D))
 |[]=>some []
 |s::r=>match JF sz s,qS sz r with|some x,some l=>some ([x]::l)|_,_=>none
def NT:kX->Option (Option (List (List D)))
 |.nil=>some none
 |.bG ao=>some (some ao)
 |.cF _ _=>none
def uU:List kX->Option (List (Option (List (List D))))
 |[]=>some []
 |s::r=>match NT s,uU r with|some x,some l=>some (x::l)|_,_=>none
def mY:Option (List (List D))->kX
 |none=>.nil
 |some ao=>.bG ao
mutual
def dW(h:bM):Nat->C->Option (D×List Nat)
 |_,.d x=>some (x,[])
 |_,.fh sz id off len=>match aC h id with|some (.aP _ ao)|some (.qc _ ao)=>if off+len<=ao.length then some (.sl sz ((ao.drop off).take len),[id])else none|some (.nst szi slots)=>if off=0/\len=slots.length then(match qS szi slots with|some ao=>some (.sl sz ao,[id])|none=>none)else none|_=>none
 |_,.ep id cU off=>
  match aC h id with
  |some (.aP _ ao)|some (.qc _ ao)=>match ao[cU]?with|some r=>if off<=r.length then some (.pt (r.drop off),[id])else none|none=>none
  |_=>none
 |0,_=>none
 |n+1,.op id off=>
  match aC h id with
  |some (.oV cells)=>if off<=cells.length then some (.pt (cells.drop off),[id])else none
  |some (.box cells)=>match fU h n cells with|some (ds,aB)=>if off<=ds.length then some (.pt (ds.drop off),id::aB)else none|none=>none
  |_=>none
 |n+1,.po f caps=>match fU h n caps with|some (ds,aB)=>some (.fn f ds,aB)|none=>none
 |_+1,.om _=>none
def fU(h:bM):Nat->List C->Option (List D×List Nat)
 |_,[]=>some ([],[])
 |0,_=>none
 |n+1,c::cs=>match dW h n c,fU h n cs with|some (x,a),some (xs,b)=>some (x::xs,a++b)|_,_=>none
end
def jY(h:bM)(all:List Nat)(id:Nat):Option Ob:=
 match aC h id with
 |some (.aP sz ao)=>some (.qc sz ao)
 |some (.qc sz ao)=>some (.qc sz ao)
 |some (.oV cells)=>some (.oV cells)
 |some (.box cells)=>match fU h 300 cells with|some (ds,aB)=>if aB.all (fun i=>all.contains i)then some (.oV ds)else none|none=>none
 |some (.map _ _ _ _)=>none
 |some (.cap _ _ _)=>none
 |some (.nst szi slots)=>match qS szi slots with|some ao=>some (.qc 1 ao)|none=>none
 |none=>none
def dZ(h:bM)(all:List Nat):List Nat->Option fA
 |[]=>some []
 |id::r=>match jY h all id,dZ h all r with|some o,some u=>some ((id,some o)::u)|_,_=>none
def dQ(h:bM):List C->Option (List D×List Nat)
 |[]=>some ([],[])
 |c::cs=>match dW h 300 c,dQ h cs with|some (x,a),some (xs,b)=>some (x::xs,a++b)|_,_=>none
mutual
def eK(h:bM):Nat->C->Option (T×List Nat×List Nat)
 |_,.d x=>some (.d x,[],[])
 |_,.fh sz id off len=>match aC h id with|some (.aP _ ao)=>if off+len<=ao.length then some (.sl sz ((ao.drop off).take len),[id],[id])else none|some (.qc _ ao)=>if off+len<=ao.length then some (.d (.sl sz ((ao.drop off).take len)),[],[id])else none|some (.nst szi slots)=>if off=0/\len=slots.length then(match uU slots with|some ao=>some (.zZ szi ao,[id],[id])|none=>none)else none|_=>none
 |0,_=>none
 |n+1,.op id 0=>
  match aC h id with
  |some (.box cells)=>match iF h n cells with|some (ts,bG,aB)=>some (.pt ts,id::bG,id::aB)|none=>none
  |some (.oV cells)=>some (.d (.pt cells),[],[id])
  |_=>none
 |_+1,_=>none
def iF(h:bM):Nat->List C->Option (List T×List Nat×List Nat)
 |_,[]=>some ([],[],[])
 |0,_=>none
 |n+1,c::cs=>match eK h n c,iF h n cs with|some (x,a,i),some (xs,b,j)=>some (x::xs,a++b,i++j)|_,_=>none
end
mutual
def kY(nxt:Nat):T->C×fA×Nat
 |.d x=>(.d x,[],nxt+1)
 |.wR=>(.d (.lit .nilFunc),[],nxt+1)
 |.sl sz ao=>(.fh sz nxt 0 ao.length,[(nxt,some (.aP sz ao))],nxt+1)
 |.zZ sz ao=>(.fh 1 nxt 0 ao.length,[(nxt,some (.nst sz (ao.map mY)))],nxt+1)
 |.pt ts=>let(cs,u,m):=iC (nxt+1) ts;(.op nxt 0,(nxt,some (.box cs))::u,m)
def iC(nxt:Nat):List T->List C×fA×Nat
 |[]=>([],[],nxt)
 |t::ts=>let(c,u,m):=kY nxt t;let(cs,v,k):=iC m ts;(c::cs,u++v,k)
end
def xh(nxt:Nat):R->TV×fA×Nat
 |.c t=>let(c,u,m):=kY nxt t;(.c c,u,m)
 |.agg ts=>let(cs,u,m):=iC nxt ts;(.agg cs,u,m)
def ik(nxt:Nat):List R->List TV×fA×Nat
 |[]=>([],[],nxt)
 |r::rs=>let(v,u,m):=xh nxt r;let(vs,w,k):=ik m rs;(v::vs,u++w,k)
abbrev Call:=FuncId->List A->Option (List R×List T)
abbrev GG:=Option (TV×fA×List Nat×Nat)
def lv(v:Value):TV:=.c (.d (.lit v))
def sW(op:BinOp):Value->Value->Option Value
 |.int k a,.int k' b=>
  match op with
  |.shl=>if b<0 then none else some (.int k (k.wrap (a*2^(min b.toNat k.bits))))
  |.shr=>if b<0 then none else some (.int k (a.fdiv (2^(min b.toNat k.bits))))
  |op=>if k=k' then
   (match op with
   |.add=>some (.int k (k.wrap (a+b)))
   |.sub=>some (.int k (k.wrap (a-b)))
   |.mul=>some (.int k (k.wrap (a*b)))
   |.quo=>if b=0 then none else some (.int k (k.wrap (a.tdiv b)))
   |.rem=>if b=0 then none else some (.int k (a.tmod b))
   |.and=>some (.int k (k.wrap (bJ k.bits a&&&bJ k.bits b).toNat))
   |.or=>some (.int k (k.wrap (bJ k.bits a|||bJ k.bits b).toNat))
   |.xor=>some (.int k (k.wrap (bJ k.bits a^^^bJ k.bits b).toNat))
   |.andNot=>some (.int k (k.wrap (bJ k.bits a&&&~~~bJ k.bits b).toNat))
   |.eql=>some (.bool (a==b))
   |.neq=>some (.bool (a !=b))
   |.lss=>some (.bool (a<b))
   |.leq=>some (.bool (a<=b))
   |.gtr=>some (.bool (a>b))
   |.geq=>some (.bool (a>=b))
   |_=>none)else none
 |.float k a,.float k' b=>
  if k=k' then
   match op with|.add=>(k.format.add a b).map (.float k)|.sub=>(k.format.sub a b).map (.float k)|.mul=>(k.format.mul a b).map (.float k)|.quo=>(k.format.div a b).map (.float k)|.eql=>some (.bool (k.format.order a b==some .eq))|.neq=>some (.bool (k.format.order a b !=some .eq))|.lss=>some (.bool (k.format.order a b==some .lt))|.leq=>some (.bool (k.format.order a b==some .lt||k.format.order a b==some .eq))|.gtr=>some (.bool (k.format.order a b==some .gt))|.geq=>some (.bool (k.format.order a b==some .gt||k.format.order a b==some .eq))|_=>none
  else none
 |.string x,.string y=>match op with|.add=>if((x.size+y.size:Nat):Int)>IntKind.i64.max then none else some (.string (x++y))|.eql=>some (.bool (x.toList==y.toList))|.neq=>some (.bool !(x.toList==y.toList))|.lss=>some (.bool (Op.bytesLess x.toList y.toList))|.leq=>some (.bool (Op.bytesLess x.toList y.toList||x.toList==y.toList))|.gtr=>some (.bool !(Op.bytesLess x.toList y.toList||x.toList==y.toList))|.geq=>some (.bool !(Op.bytesLess x.toList y.toList))|_=>none
 |_,_=>none
def Q4(op:UnOp):Value->Option Value
 |.bool b=>match op with|.not=>some (.bool !b)|_=>none
 |.int k n=>match op with|.neg=>some (.int k (k.wrap (0-n)))|.xor=>some (.int k (k.wrap (bJ k.bits (if k.signed then-1 else k.max)^^^bJ k.bits n).toNat))|_=>none
 |.float k b=>match op with|.neg=>some (.float k (Op.negFloat k b))|_=>none
 |_=>none
def EQ:Kd->Value->Value->Option Bool
 |.i q,.int k a,.int k' b=>if k=q/\k'=q then some (a==b)else none
 |.b,.bool a,.bool b=>some (a==b)
 |.s,.string a,.string b=>some (a==b)
 |_,_,_=>none
def gE:List Kd->List Value->List Value->Option Bool
 |[],[],[]=>some true
 |k::ks,x::xs,y::ys=>match EQ k x y,gE ks xs ys with|some a,some b=>some (a&&b)|_,_=>none
 |_,_,_=>none
def lQ:List C->Option (List Value)
 |[]=>some []
 |.d (.lit v)::r=>match lQ r with|some l=>some (v::l)|none=>none
 |_=>none
def Q6(isMax:Bool):Value->Value->Option Value
 |.int k x,.int k' y=>if k=k' then some (.int k (if isMax then(if y>x then y else x)else(if y<x then y else x)))else none
 |.float k x,.float k' y=>
  if k=k' then match k.format.order x y with|none=>none|some .lt=>some (.float k (if isMax then y else x))|some .gt=>some (.float k (if isMax then x else y))|some .eq=>some (.float k (if isMax then(if(k.decode x).neg then y else x)else(if(k.decode x).neg then x else y)))
  else none
 |_,_=>none
def NZ(isMax:Bool):Value->List (Option TV)->Option Value
 |x,[]=>some x
 |x,some (.c (.d (.lit y)))::r=>match Q6 isMax x y with|some z=>NZ isMax z r|none=>none
 |_,_=>none
def DT(agg:Bool)(n:Nat)(cells:List C):Option TV:=if agg then(if n<=cells.length then some (.agg (cells.take n))else none)else match cells with|x::_=>some (.c x)|[]=>none
def N1(agg:Bool)(n:Nat)(cells:List D):Option TV:=if agg then(if n<=cells.length then some (.agg ((cells.take n).map .d))else none)else match cells with|x::_=>some (.c (.d x))|[]=>none
def hO(agg:Bool)(n:Nat)(p:C)(h:bM):Option (TV×List Nat):=
 match p with
 |.d (.pt cells)=>match N1 agg n cells with|some v=>some (v,[])|none=>none
 |.ep id cU off=>
  match aC h id with
  |some (.aP _ ao)|some (.qc _ ao)=>
   match ao[cU]?with
   |some r=>match N1 agg n (r.drop off)with|some v=>some (v,[id])|none=>none
   |none=>none
  |_=>none
 |.op id off=>
  match aC h id with
  |some (.box cells)=>match DT agg n (cells.drop off)with|some v=>some (v,[id])|none=>none
  |some (.oV cells)=>match N1 agg n (cells.drop off)with|some v=>some (v,[id])|none=>none
  |_=>none
 |_=>none
def sE(id cU sz:Nat)(slots:List kX)(cs:List C)(h:bM):Option (fA×List Nat):=
 match cs with
 |[.d (.lit (.slice none 0 0))]=>some ([(id,some (.nst sz (slots.set cU .nil)))],[id])
 |[.fh sz' id2 0 len]=>match aC h id2 with|some (.aP _ ao)=>if sz'=sz/\len=ao.length/\id2≠id then some ([(id,some (.nst sz (slots.set cU (.bG ao)))),(id2,none)],[id,id2])else none|_=>none
 |_=>none
def lJ(agg:Bool)(n:Nat)(p:C)(h:bM)(nxt:Nat):GG:=
 match p with
 |.ep id cU 0=>
  match aC h id with
  |some (.nst sz slots)=>if agg=false/\n=1 then
   (match slots[cU]?with
   |some .nil=>some (.c (.d (.lit (.slice none 0 0))),[],[id],nxt)
   |some (.bG ao)=>some (.c (.fh sz nxt 0 ao.length),[(nxt,some (.aP sz ao)),(id,some (.nst sz (slots.set cU (.cF nxt ao.length))))],[id],nxt+1)
   |_=>none)else none
  |_=>none
 |_=>none
def mu(n:Nat)(p:C)(v:TV)(h:bM):Option (fA×List Nat):=
 match cellsOf v with
 |none=>none
 |some cs=>
  if cs.length=n then
   match p with
   |.ep id cU off=>
    match aC h id with
    |some (.aP sz ao)=>
     match ao[cU]?,dQ h cs with
     |some r,some (ds,aB)=>match dZ h aB aB with|some u=>if off+n<=r.length/\aB.contains id=false then some ((id,some (.aP sz (ao.set cU (bg r off ds))))::u,id::aB)else none|none=>none
     |_,_=>none
    |some (.nst sz slots)=>if off=0/\n=1/\cU<slots.length then sE id cU sz slots cs h else none
    |_=>none
   |.op id off=>match aC h id with|some (.box cells)=>if off+n<=cells.length then some ([(id,some (.box (bg cells off cs)))],[id])else none|_=>none
   |_=>none
  else none
def cD:Option TV->Option Int
 |some (.c (.d (.lit (.int _ n))))=>some n
 |_=>none
def fQ(str:Bool)(sz:Nat)(x:C)(lo hi:Option Int):Option C:=
 if str then match x with
 |.d (.lit (.string s))=>
  let h:=hi.getD s.size;let l:=lo.getD 0
  if 0<=l/\l<=h/\h<=s.size then some (.d (.lit (.string (s.extract l.toNat h.toNat))))else none
 |_=>none
 else match x with
 |.d (.lit (.slice none 0 0))=>if 0<=lo.getD 0/\lo.getD 0<=hi.getD 0/\hi.getD 0<=0 then some x else none
 |.fh sz' id off len=>
  let h:=hi.getD len;let l:=lo.getD 0
  if sz'=sz/\0<=l/\l<=h/\h<=len then some (.fh sz id (off+l.toNat) (h.toNat-l.toNat))else none
 |.d (.sl sz' ao)=>
  let h:=hi.getD ao.length;let l:=lo.getD 0
  if sz'=sz/\0<=l/\l<=h/\h<=ao.length then some (.d (.sl sz ((ao.drop l.toNat).take (h.toNat-l.toNat))))else none
 |_=>none
def od(str:Bool)(sz:Nat)(x:C)(l u:Int)(h:bM):Option (C×List Nat):=
 match str,x with
 |false,.fh sz' id off _=>match aC h id with|some (.aP _ ao)=>if sz'=sz/\0<=l/\l<=u/\off+u.toNat<=ao.length then some (.fh sz id (off+l.toNat) (u.toNat-l.toNat),[id])else none|some (.cap _ _ cp)=>if sz'=sz/\0<=l/\l<=u/\off+u.toNat<=cp then some (.fh sz id (off+l.toNat) (u.toNat-l.toNat),[id])else none|_=>none
 |_,_=>none
def Lo(sz:Nat)(x:C)(l u m:Int)(nxt:Nat):Option C:=match x with|.fh sz' _ _ len=>if sz'=sz/\0<=l/\l<=u/\u<=m/\m<=len then some (.fh sz nxt 0 (u.toNat-l.toNat))else none|_=>none
def pF(zero:List Value)(x:C)(h:bM):Option (fA×List Nat):=
 match x with
 |.fh sz id off len=>match aC h id with|some (.aP _ ao)=>if sz=zero.length/\off+len<=ao.length then some ([(id,some (.aP sz (bg ao off (aA len (dk zero)))))],[id])else none|_=>none
 |_=>none
def kc(off n:Nat):C->Option C
 |.op id o=>some (.op id (o+off))
 |.ep id r o=>some (.ep id r (o+off))
 |.d (.pt cells)=>if off+n<=cells.length then some (.d (.pt ((cells.drop off).take n)))else none
 |_=>none
def iI(aP:Option Nat)(sz:Nat)(x:C)(i:Int):Option C:=
 match aP with
 |none=>match x with|.fh sz' id off len=>if 0<=i/\i<len/\sz'=sz then some (.ep id (off+i.toNat) 0)else none|.d (.sl sz' ao)=>if 0<=i/\sz'=sz then(match ao[i.toNat]?with|some r=>some (.d (.pt r))|none=>none)else none|_=>none
 |some n=>
  if 0<=i/\i<n then
   match x with|.op id o=>some (.op id (o+i.toNat*sz))|.ep id r o=>some (.ep id r (o+i.toNat*sz))|.d (.pt cells)=>if i.toNat*sz+sz<=cells.length then some (.d (.pt ((cells.drop (i.toNat*sz)).take sz)))else none|_=>none
  else none
def uH:Bool->C->Option Int
 |true,.d (.lit (.string s))=>some s.size
 |false,.d (.lit (.slice none 0 0))=>some 0
 |false,.fh _ _ _ len=>some len
 |false,.d (.sl _ ao)=>some ao.length
 |_,_=>none
def jf(sz:Nat)(h:bM):C->Option (List (List D)×List Nat)
 |.d (.lit (.slice none 0 0))=>some ([],[])
 |.d (.sl sz' ao)=>if sz'=sz then some (ao,[])else none
 |.fh sz' id off len=>match aC h id with|some (.aP _ ao)|some (.qc _ ao)=>if sz'=sz/\off+len<=ao.length then some ((ao.drop off).take len,[id])else none|_=>none
 |_=>none
def oX(sz:Nat)(s x:C)(h:bM)(nxt:Nat):GG:=
 match jf sz h x with
 |none=>none
 |some (new,aB)=>
  match s with
  |.d (.lit (.slice none 0 0))=>
   if new.length<=DR then
    match new with|[]=>some (.c s,[],aB,nxt)|new=>some (.c (.fh sz nxt 0 new.length),[(nxt,some (.aP sz new))],aB,nxt+1)
   else none
  |.fh sz' id off len=>
   match aC h id with
   |some (.aP _ ao)=>
    if sz'=sz/\off+len<=ao.length/\len+new.length<=DR then
     some (.c (.fh sz nxt 0 (len+new.length)),[(id,none),(nxt,some (.aP sz ((ao.drop off).take len++new++ao.drop (off+len+new.length))))],id::aB,nxt+1)
    else none
   |_=>none
  |_=>none
def pE(sz:Nat)(dst src:C)(h:bM):Option (Int×fA×List Nat):=
 match dst,src with
 |.fh sz' id off len,.fh sz2 id2 off2 len2=>
  match aC h id,aC h id2 with
  |some (.cap _ ao cp),some (.aP _ rows2)=>
   if sz'=sz/\sz2=sz/\off<=ao.length/\off2+min len2 len<=rows2.length then
    some ((min len2 len:Nat),[(id,some (.cap sz (bg ao off ((rows2.drop off2).take (min len2 len))) cp))],[id,id2])
   else none
  |some (.cap _ ao cp),some (.cap _ rows2 _)=>
   if sz'=sz/\sz2=sz/\off<=ao.length/\off2+min len2 len<=rows2.length then
    some ((min len2 len:Nat),[(id,some (.cap sz (bg ao off ((rows2.drop off2).take (min len2 len))) cp))],[id,id2])
   else none
  |_,_=>none
 |_,_=>none
def Be(zero:List Value)(x:C)(k:Int)(h:bM)(nxt:Nat):GG:=
 match x with
 |.fh sz' id off len=>
  match aC h id with
  |some (.cap _ ao cp)=>
   if sz'=zero.length/\0<=k/\len+k.toNat<=DR/\off+len<=ao.length/\cp<off+len+k.toNat then
    some (.c (.fh zero.length nxt 0 (len+k.toNat)),[(nxt,some (.aP zero.length ((ao.drop off).take len++aA k.toNat (dk zero))))],[id],nxt+1)
   else none
  |_=>none
 |_=>none
def zC(x:C)(h:bM):Option (Nat×List Nat):=
 match x with
 |.fh _ id off _=>match aC h id with|some (.cap _ _ cp)=>some (cp-off,[id])|_=>none
 |_=>none
def zB(x y:C)(h:bM):Option (List Nat):=
 match x,y with
 |.fh _ a _ _,.fh _ b _ _=>match aC h a,aC h b with|some (.aP _ _),some (.cap _ _ cp)=>if a≠b/\0<cp then some [a,b]else none|_,_=>none
 |_,_=>none
def mD(sz:Nat)(dst src:C)(h:bM):Option (Int×fA×List Nat):=
 match jf sz h src,dst with
 |some (_,aB),.d (.lit (.slice none 0 0))=>some (0,[],aB)
 |some (new,aB),.fh sz' id off len=>
  match aC h id with
  |some (.aP _ ao)=>
   if sz'=sz/\off+len<=ao.length then
    some ((min new.length len:Nat),[(id,some (.aP sz (bg ao off (new.take len))))],id::aB)
   else none
  |_=>none
 |_,_=>none
def gu(h:bM):List TV->List Bool->Option (List A×List Nat×List (C×List Nat×List Nat))
 |[],_=>some ([],[],[])
 |v::vs,ms=>
  match gu h vs ms.tail with
  |none=>none
  |some (as,aB,lent)=>
   if ms.headD false then
    match v with
    |.c c=>match eK h 300 c with|some (t,bG,rd)=>some (.mt t::as,aB,(c,bG,rd)::lent)|none=>none
    |_=>none
   else match v with
    |.c c=>match dW h 300 c with|some (x,i)=>some (.d x::as,i++aB,lent)|none=>none
    |.agg cs=>match dQ h cs with|some (xs,i)=>some (.agg xs::as,i++aB,lent)|none=>none
    |.iP _=>none
def eW(nxt:Nat):List (C×List Nat×List Nat)->List T->Option (fA×Nat)
 |[],[]=>some ([],nxt)
 |(_,[],_)::r,.d _::ts=>eW nxt r ts
 |(.op id 0,bG,_)::r,.pt ts'::ts=>match eW (iC nxt ts').2.2 r ts with|some (w,k)=>if bG.contains id then some ((id,some (.box (iC nxt ts').1))::(iC nxt ts').2.1++bG.map (fun i=>(i,none))++w,k)else none|none=>none
 |(.fh sz id 0 len,bG,_)::r,.sl sz' ao::ts=>
  if ao.length=len/\sz'=sz/\bG=[id]then
   match eW nxt r ts with|some (w,k)=>some ((id,some (.aP sz ao))::w,k)|none=>none
  else none
 |(.fh sz id 0 len,bG,_)::r,.zZ szi ao::ts=>
  if ao.length=len/\sz=1/\bG=[id]then
   match eW nxt r ts with|some (w,k)=>some ((id,some (.nst szi (ao.map mY)))::w,k)|none=>none
  else none
 |(_,bG,_)::r,.wR::ts=>match eW nxt r ts with|some (w,k)=>some (bG.map (fun i=>(i,none))++w,k)|none=>none
 |_,_=>none
def zg:R->Bool
 |.c (.d (.lit _))=>true
 |.agg ts=>ts.all fun|.d (.lit _)=>true|_=>false
 |_=>false
def ut:List TV->TV
 |[v]=>v
 |vs=>.iP vs
def eH{α:Type}:List (Option α)->Option (List α)
 |[]=>some []
 |some x::r=>match eH r with|some xs=>some (x::xs)|none=>none
 |none::_=>none
def eL(h:bM):List (C×List Nat×List Nat)->Bool
 |[]=>true
 |(.fh _ id off len,_)::r=>(match aC h id with|some (.aP _ ao)=>off==0&&len==ao.length|some (.nst _ slots)=>off==0&&len==slots.length|_=>false)&&eL h r
 |_::r=>eL h r
def vd(call:Call)(ro:Bool)(j7:List Bool)(f:Option TV)(vs:List (Option TV))(h:bM)(nxt:Nat):GG:=
 match(match f with|some (.c (.d (.fn f caps)))=>some (f,caps.map C.d)|some (.c (.po f caps))=>some (f,caps)|_=>none),eH vs with
 |some (f,caps),some vs=>
  match gu h (vs++caps.map TV.c) j7 with
  |none=>none
  |some (as,aB,lent)=>
   if eL h lent/\(lent.flatMap (·.2.1)).Nodup/\(lent.flatMap (·.2.1)).all (fun i=>!aB.contains i)then
    match call f as with
    |none=>none
    |some (rs,outs)=>
     if ro then
      if rs.all zg/\lent.isEmpty/\outs.isEmpty then
       let(vs,u,m):=ik nxt rs
       some (ut vs,u,aB,m)
      else none
     else
      match dZ h aB aB with
      |none=>none
      |some fu=>
       match eW nxt lent outs with
       |none=>none
       |some (bu,m)=>
        let(vs,u,k):=ik m rs
        some (ut vs,u++bu++fu,aB++lent.flatMap (·.2.2),k)
   else none
 |_,_=>none
def qK:Nat->C->Option Bool
 |0,.d (.lit (.slice none 0 0))=>some true
 |0,.d (.sl _ _)|0,.fh _ _ _ _=>some false
 |1,.d (.lit (.pointer none))=>some true
 |1,.d (.pt _)|1,.ep _ _ _|1,.op _ _=>some false
 |2,.d (.lit .nilFunc)=>some true
 |2,.d (.fn _ _)|2,.po _ _=>some false
 |_,_=>none
def zH:List C->Option (List D)
 |[]=>some []
 |.d x::r=>match zH r with|some l=>some (x::l)|none=>none
 |_=>none
abbrev tY:=List Value×List D×Nat
def nm(ks:List Kd)(key:List Value):List tY->Nat->Option (Option Nat)
 |[],_=>some none
 |e::r,i=>match gE ks key e.1 with|some true=>some (some i)|some false=>nm ks key r (i+1)|none=>none
def pP(va:Bool)(ds:List D):Option TV:=if va then some (.agg (ds.map .d))else match ds with|[x]=>some (.c (.d x))|_=>none
def KM:Kd->Value->Bool
 |.i q,.int k _=>decide (k=q)
 |.b,.bool _=>true
 |.s,.string _=>true
 |_,_=>false
def z4:List Kd->List Value->Bool
 |[],[]=>true
 |k::ks,x::xs=>KM k x&&z4 ks xs
 |_,_=>false
def pq(ka:Bool)(ks:List Kd):TV->Option (List Value)
 |.agg cs=>if ka=true/\cs.length=ks.length then(match lQ cs with|some l=>if z4 ks l=true then some l else none|none=>none)else none
 |.c x=>if ka=false/\ks.length=1 then(match lQ [x]with|some l=>if z4 ks l=true then some l else none|none=>none)else none
 |.iP _=>none
def iw(ka:Bool)(ks:List Kd)(va:Bool)(zero:List Value)(ok:Bool)(m:C)(k:TV)(h:bM):Option (TV×List Nat):=
 match m,pq ka ks k with
 |.d (.lit (.map none)),some _=>match pP va (dk zero)with|some v=>some (if ok then .iP [v,lv (.bool false)]else v,[])|none=>none
 |.om id,some key=>
  match aC h id with
  |some (.map ka' va' es _)=>
   if ka'=ka/\va'=va then
    match nm ks key es 0 with
    |some (some i)=>match pP va (es.getD i default).2.1 with|some v=>some (if ok then .iP [v,lv (.bool true)]else v,[id])|none=>none
    |some none=>match pP va (dk zero)with|some v=>some (if ok then .iP [v,lv (.bool false)]else v,[id])|none=>none
    |none=>none
   else none
  |_=>none
 |_,_=>none
def nr(ka:Bool)(ks:List Kd)(va:Bool)(zero:List Value)(m:C)(k:TV)(h:bM):Option (TV×fA×List Nat):=
 match m,pq ka ks k with
 |.om id,some key=>
  match aC h id with
  |some (.map ka' va' es fc)=>
   if ka'=ka/\va'=va then
    match nm ks key es 0 with
    |some (some i)=>match pP va (es.getD i default).2.1 with|some v=>some (.iP [v,lv (.int .i64 (es.getD i default).2.2)],[(id,some (.map ka va es fc))],[id])|none=>none
    |some none=>match pP va (dk zero)with|some v=>some (.iP [v,lv (.int .i64 fc)],[(id,some (.map ka va (es++[(key,dk zero,fc)]) (fc+1)))],[id])|none=>none
    |none=>none
   else none
  |_=>none
 |_,_=>none
def x8:TV->Bool
 |.agg _=>true
 |_=>false
def nu(va:Bool)(n:Nat)(m:C)(st:Option TV)(x:TV)(h:bM):Option (fA×List Nat):=
 match m,cD st,(cellsOf x).bind zH with
 |.om id,some s,some ds=>
  match aC h id with
  |some (.map ka va' es fc)=>
   if va'=va/\ds.length=n/\x8 x=va then
    match es.findIdx? (fun e=>decide ((e.2.2:Int)=s))with|some i=>some ([(id,some (.map ka va (es.set i ((es.getD i default).1,ds,(es.getD i default).2.2)) fc))],[id])|none=>none
   else none
  |_=>none
 |_,_,_=>none
def cL(call:Call)(k:K)(vs:List (Option TV))(h:bM)(nxt:Nat):GG:=
 match k,vs with
 |.mv,[some x]=>some (x,[],[],nxt)
 |.pick,[some (.c (.d (.lit (.bool c)))),a,b]=>match(if c then a else b)with|some v=>some (v,[],[],nxt)|none=>none
 |.alloc zero,[]=>some (.c (.op nxt 0),[(nxt,some (.box (fk zero)))],[],nxt+1)
 |.box,[some x]=>match cellsOf x with|some cs=>some (.c (.op nxt 0),[(nxt,some (.box cs))],[],nxt+1)|none=>none
 |.build zero places,vs=>
  match eH vs with
  |some xs=>match nn (fk zero) (places.zip xs)with|some cs=>some (.agg cs,[],[],nxt)|none=>none
  |none=>none
 |.buildSlice sz len zero places,vs=>
  match eH vs with
  |some xs=>
   match nn (fk zero) ((places.map fun i=>(i*sz,sz)).zip xs)with
   |some cs=>
    match dQ h cs with
    |some (ds,aB)=>match dZ h aB aB with|some u=>some (.c (.fh sz nxt 0 len),(nxt,some (.aP sz (mE sz len ds)))::u,aB,nxt+1)|none=>none
    |none=>none
   |none=>none
  |none=>none
 |.load agg n,[some (.c p)]=>match hO agg n p h with|some (v,aB)=>some (v,[],aB,nxt)|none=>none
 |.uD,[some (.c p)]=>match hO false 1 p h with|some (v,aB)=>some (v,[],aB,nxt)|none=>lJ false 1 p h nxt
 |.store n,[some (.c p),some v]=>match mu n p v h with|some (u,aB)=>some (.iP [],u,aB,nxt)|none=>none
 |.nilCheck,[some (.c x)]=>match x with|.d (.pt _)|.d (.fn _ _)|.ep _ _ _|.op _ _|.po _ _=>some (.c x,[],[],nxt)|_=>none
 |.Au op,[some (.c (.d (.lit x))),some (.c (.d (.lit y)))]=>match sW op x y with|some v=>some (lv v,[],[],nxt)|none=>none
 |.ve neg,[some (.c (.d (.lit (.bool x)))),some (.c (.d (.lit (.bool y))))]=>some (lv (.bool (if neg then !(x==y)else x==y)),[],[],nxt)
 |.rF kind neg,[some (.c x)]=>match qK kind x with|some b=>some (lv (.bool (if neg then !b else b)),[],[],nxt)|none=>none
 |.zD neg ks,[some (.agg xs),some (.agg ys)]=>
  match lQ xs,lQ ys with
  |some xs,some ys=>match gE ks xs ys with|some b=>some (lv (.bool (if neg then !b else b)),[],[],nxt)|none=>none
  |_,_=>none
 |.un op,[some (.c (.d (.lit x)))]=>match Q4 op x with|some v=>some (lv v,[],[],nxt)|none=>none
 |.vY k,[some (.c (.d (.lit (.int _ n))))]=>some (lv (.int k (k.wrap n)),[],[],nxt)
 |.tP,[some (.c (.d (.lit (.string s))))]=>some (lv (.string s),[],[],nxt)
 |.It f,vs=>
  match eH vs with
  |some xs=>match eH (xs.map fun|.c c=>some c|_=>none)with|some cs=>some (.c (.po f cs),[],[],nxt)|none=>none
  |none=>none
 |.makeSlice zero,[l,c]=>
  match cD l,cD c with
  |some l,some c=>
   if 0<=l/\l<=c/\c<=DR then
    some (.c (.fh zero.length nxt 0 l.toNat),[(nxt,some (.aP zero.length (aA l.toNat (dk zero))))],[],nxt+1)
   else none
  |_,_=>none
 |.A0 szi,[l,c]=>match cD l,cD c with|some l,some c=>if 0<=l/\l<=c/\c<=DR then some (.c (.fh 1 nxt 0 l.toNat),[(nxt,some (.nst szi (aA l.toNat .nil)))],[],nxt+1)else none|_,_=>none
 |.slice str sz lo hi,some (.c x)::r=>
  match lo,hi,r with
  |false,false,[]=>match fQ str sz x none none with|some y=>some (.c y,[],[],nxt)|none=>none
  |true,false,[l]=>match cD l with|some l=>(match fQ str sz x (some l) none with|some y=>some (.c y,[],[],nxt)|none=>none)|none=>none
  |false,true,[u]=>match cD u with|some u=>(match fQ str sz x none (some u)with|some y=>some (.c y,[],[],nxt)|none=>(match od str sz x 0 u h with|some (y,aB)=>some (.c y,[],aB,nxt)|none=>none))|none=>none
  |true,true,[l,u]=>
   match cD l,cD u with
   |some l,some u=>match fQ str sz x (some l) (some u)with|some y=>some (.c y,[],[],nxt)|none=>(match od str sz x l u h with|some (y,aB)=>some (.c y,[],aB,nxt)|none=>none)
   |_,_=>none
  |_,_,_=>none
 |.BI sz,[some (.c x),l,u,m]=>
  match cD l,cD u,cD m with
  |some l,some u,some m=>match Lo sz x l u m nxt with|some y=>some (.c y,[],[],nxt+1)|none=>none
  |_,_,_=>none
 |.clear zero,[some (.c x)]=>match pF zero x h with|some (u,aB)=>some (.iP [],u,aB,nxt)|none=>none
 |.fieldAddr off n,[some (.c x)]=>match kc off n x with|some y=>some (.c y,[],[],nxt)|none=>none
 |.field agg off n,[some (.agg cs)]=>match DT agg n (cs.drop off)with|some v=>some (v,[],[],nxt)|none=>none
 |.indexAddr aP sz,[some (.c x),i]=>
  match cD i with
  |some i=>match iI aP sz x i with|some y=>some (.c y,[],[],nxt)|none=>none
  |none=>none
 |.qb,[some (.c (.d (.lit (.string s)))),i]=>
  match cD i with
  |some i=>match(if 0<=i then s[i.toNat]?else none)with|some b=>some (lv (.int .u8 b.toNat),[],[],nxt)|none=>none
  |none=>none
 |.index agg len sz,[some (.agg cs),i]=>
  match cD i with
  |some i=>if 0<=i/\i<len then match DT agg sz (cs.drop (i.toNat*sz))with|some v=>some (v,[],[],nxt)|none=>none else none
  |none=>none
 |.extract i,[some (.iP xs)]=>match xs[i]?with|some v=>some (v,[],[],nxt)|none=>none
 |.len str,[some (.c x)]=>match uH str x with|some n=>some (lv (.int .i64 n),[],[],nxt)|none=>none
 |.u9 m,some (.c (.d (.lit x)))::r=>match NZ m x r with|some v=>some (lv v,[],[],nxt)|none=>none
 |.append sz,[some (.c s),some (.c x)]=>oX sz s x h nxt
 |.copy sz,[some (.c d),some (.c s)]=>match mD sz d s h with|some (i,u,aB)=>some (lv (.int .i64 i),u,aB,nxt)|none=>(match pE sz d s h with|some (i,u,aB)=>some (lv (.int .i64 i),u,aB,nxt)|none=>none)
 |.LH,[some (.c x)]=>match zC x h with|some (n,aB)=>some (lv (.int .i64 n),[],aB,nxt)|none=>none
 |.Q0 zero,[some (.c x),some (.c (.d (.lit (.int _ k))))]=>Be zero x k h nxt
 |.Qo,[some (.c x),some (.c y)]=>match zB x y h with|some aB=>some (lv (.bool false),[],aB,nxt)|none=>none
 |.call ro j7,f::vs=>vd call ro j7 f vs h nxt
 |.makeMap ka va,[]=>some (.c (.om nxt),[(nxt,some (.map ka va [] 0))],[],nxt+1)
 |.lookup ka ks va zero ok,[some (.c m),some k]=>match iw ka ks va zero ok m k h with|some (v,aB)=>some (v,[],aB,nxt)|none=>none
 |.mapEntry ka ks va zero,[some (.c m),some k]=>match nr ka ks va zero m k h with|some (v,u,aB)=>some (v,u,aB,nxt)|none=>none
 |.entryStore va n,[some (.c m),s,some x]=>match nu va n m s x h with|some (u,aB)=>some (.iP [],u,aB,nxt)|none=>none
 |_,_=>none
def kw(e:jG):Option (Nat×Bool)->Option Bool
 |none=>some true
 |some (t,b)=>match cz e t with|some (.c (.d (.lit (.bool x))))=>some (x==b)|some (.iP [])=>some false|_=>none
def put(e:jG)(dst:Option Nat)(v:TV):jG:=match dst with|some d=>(d,v)::e|none=>e
def drop(e:jG)(dst:Option Nat):jG:=put e dst (.iP [])
def iS:Nat:=1000000
def nv(calls:Nat->Call)(aT:Nat):List oE->Nat->jG->bM->Option (jG×bM×List (List Nat×List Nat))
 |[],_,e,h=>some (e,h,[])
 |o::r,i,e,h=>
  match kw e o.guard with
  |some true=>
   match cL (calls i) o.k (o.args.map (kP e)) h (aT+iS*i)with
   |some (v,u,aB,n)=>
    if n<=aT+iS*(i+1)then
     match nv calls aT r (i+1) (put e o.dst v) (u++h)with|some (e,h,tr)=>some (e,h,(aB,u.map (·.1))::tr)|none=>none
    else none
   |none=>none
  |some false=>match nv calls aT r (i+1) (drop e o.dst) h with|some (e,h,tr)=>some (e,h,([],[])::tr)|none=>none
  |none=>none
def mm(a b:List Nat×List Nat):Bool:=a.2.all (fun i=>!b.1.contains i&&!b.2.contains i)&&b.2.all (fun i=>!a.1.contains i)
def E7(tr:List (List Nat×List Nat))(i j:Nat):Bool:=
 match tr[i]?,tr[j]?with
 |some a,some b=>mm a b||(match a with|([id],[])=>((tr.take j).drop (i+1)).all (fun x=>!x.2.contains id)|_=>false)
 |_,_=>true
def Bi(tr:List (List Nat×List Nat))(dyn:List (Nat×Nat)):Bool:=dyn.all fun(i,j)=>if 1000<=j then E7 tr i (j-1000)else match tr[i]?,tr[j]?with|some a,some b=>mm a b|_,_=>true
def eP:C->List Nat
 |.d _=>[]
 |.fh _ id _ _|.ep id _ _|.op id _|.om id=>[id]
 |.po _ caps=>mT caps
where mT:List C->List Nat
 |[]=>[]
 |c::r=>eP c++mT r
def mi:TV->List Nat
 |.c x=>eP x
 |.agg cs=>eP.mT cs
 |.iP xs=>Ai xs
where Ai:List TV->List Nat
 |[]=>[]
 |x::r=>mi x++Ai r
inductive RV where
 |tmp (t:Nat)
 |cell (t:Nat) (agg:Bool) (n:Nat)
 deriving Inhabited
def enter:List A->Nat->Nat->jG×bM×Nat×List C
 |[],_,n=>([],[],n,[])
 |.d x::r,i,n=>let(e,h,m,l):=enter r (i+1) n;((i,.c (.d x))::e,h,m,l)
 |.agg xs::r,i,n=>let(e,h,m,l):=enter r (i+1) n;((i,.agg (xs.map .d))::e,h,m,l)
 |.mt t::r,i,n=>let(c,u,k):=kY n t;let(e,h,m,l):=enter r (i+1) k;((i,.c c)::e,u++h,m,c::l)
def xn(s:St):RV->Option TV
 |.tmp t=>cz s.dH t
 |.cell t agg n=>match cz s.dH t with|some (.c p)=>(match hO agg n p s.heap with|some (v,_)=>some v|none=>none)|_=>none
def sM(h:bM):TV->Option (R×List Nat)
 |.c c=>match eK h 300 c with|some (t,aB,_)=>some (.c t,aB)|none=>none
 |.agg cs=>match iF h 300 cs with|some (ts,aB,_)=>some (.agg ts,aB)|none=>none
 |.iP _=>none
def u6(h:bM):List TV->Option (List R×List Nat)
 |[]=>some ([],[])
 |v::vs=>match sM h v,u6 h vs with|some (r,a),some (rs,b)=>some (r::rs,a++b)|_,_=>none
structure Fn where
 np:Nat
 ntmps:Nat
 k8:List RV
 body:CC
 deriving Inhabited
inductive RD(S:Nat->Prop)(w:World):D->Value->Prop
 |lit {v:Value} (h:fB v=true):RD S w (.lit v) v
 |sl {sz:Nat} {ao:List (List D)} {b off cap:Nat} (f:Nat->Nat->Value) (hb:S b) (hsz:0<sz) (hcap:ao.length<=cap)
   (hrow:∀(i:Nat)(r:List D),ao[i]?=some r->r.length=sz)
   (hcell:∀(i:Nat)(r:List D),ao[i]?=some r->∀(j:Nat)(x:D),r[j]?=some x->w.cell? ⟨b,off+i*sz+j,none⟩=some (f i j))
   (hrd:∀(i:Nat)(r:List D),ao[i]?=some r->∀(j:Nat)(x:D),r[j]?=some x->RD S w x (f i j)):
   RD S w (.sl sz ao) (.slice (some ⟨b,off,none⟩) ao.length cap)
 |t8 {sz:Nat} {a:Addr} (hsz:0<sz):RD S w (.sl sz []) (.slice (some a) 0 0)
 |pt {cells:List D} {b off:Nat} (f:Nat->Value) (hb:S b)
   (hcell:∀(j:Nat)(x:D),cells[j]?=some x->w.cell? ⟨b,off+j,none⟩=some (f j))
   (hrd:∀(j:Nat)(x:D),cells[j]?=some x->RD S w x (f j)):
   RD S w (.pt cells) (.pointer (some ⟨b,off,none⟩))
 |fn {g:FuncId} {caps:List D} {vs:Array Value} (hlen:caps.length=vs.size)
   (hrd:∀(j:Nat)(x:D),caps[j]?=some x->RD S w x (vs.getD j undef)):
   RD S w (.fn g caps) (.func (.func g) #[] vs)
structure gU(S:Nat->Prop)(w:World)(S':Nat->Prop)(w':World):Prop where
 sub:∀b,S b->S' b
 eu:∀b,S b->w'.heap[b]?=w.heap[b]?
theorem gU.refl(S:Nat->Prop)(w:World):gU S w S w:=⟨fun _ h=>h,fun _ _=>rfl⟩
theorem gU.trans{S S' S'':Nat->Prop}{w w' w'':World}(a:gU S w S' w')(b:gU S' w' S'' w''):gU S w S'' w'':=⟨fun x h=>b.sub x (a.sub x h),fun x h=>(b.eu x (a.sub x h)).trans (a.eu x h)⟩
theorem mF{w w':World}{b:Nat}(h:w'.heap[b]?=w.heap[b]?)(off:Nat):w'.cell? ⟨b,off,none⟩=w.cell? ⟨b,off,none⟩:=by simp[World.cell?,h]
theorem RD.mono{S S':Nat->Prop}{w w':World}(hs:gU S w S' w'){x:D}{v:Value}(h:RD S w x v):RD S' w' x v:=by induction h with|lit h=>exact .lit h|sl f hb hsz hcap hrow hcell hrd ih=>exact .sl f (hs.sub _ hb) hsz hcap hrow (fun i r hi j x hj=>(mF (hs.eu _ hb) _).trans (hcell i r hi j x hj)) ih|t8 h=>exact .t8 h|pt f hb hcell hrd ih=>exact .pt f (hs.sub _ hb) (fun j x hj=>(mF (hs.eu _ hb) _).trans (hcell j x hj)) ih|fn hlen hrd ih=>exact .fn hlen ih
structure gI where
 cY:Nat
 aT:Nat
 sz:Nat
 ext:Nat
 cap:Nat
 deriving Inhabited
inductive RC(S:Nat->Prop)(w:World)(Kn:Nat->Prop)(φ:Nat->gI):C->Value->Prop
 |d {x:D} {v:Value} (h:RD S w x v):RC S w Kn φ (.d x) v
 |fh {id off len cap addr:Nat} (hk:Kn id) (hcap:len<=cap) (haddr:0<cap->addr=(φ id).aT+off*(φ id).sz) (hext:addr+cap*(φ id).sz<=(φ id).ext) (hc:off+cap=(φ id).cap):
   RC S w Kn φ (.fh (φ id).sz id off len) (.slice (some ⟨(φ id).cY,addr,none⟩) len cap)
 |ep {id cU off:Nat} (hk:Kn id):RC S w Kn φ (.ep id cU off) (.pointer (some ⟨(φ id).cY,(φ id).aT+cU*(φ id).sz+off,none⟩))
 |op {id off:Nat} (hk:Kn id):RC S w Kn φ (.op id off) (.pointer (some ⟨(φ id).cY,(φ id).aT+off,none⟩))
 |po {g:FuncId} {caps:List C} {vs:Array Value} (hlen:caps.length=vs.size)
   (hrc:∀(j:Nat)(x:C),caps[j]?=some x->RC S w Kn φ x (vs.getD j undef)):
   RC S w Kn φ (.po g caps) (.func (.func g) #[] vs)
 |om {id:Nat} (hk:Kn id):RC S w Kn φ (.om id) (.map (some (φ id).cY))
structure up(Kn:Nat->Prop)(φ:Nat->gI)(Kn':Nat->Prop)(φ':Nat->gI):Prop where
 sub:∀i,Kn i->Kn' i
 eu:∀i,Kn i->φ' i=φ i
theorem up.refl(Kn:Nat->Prop)(φ:Nat->gI):up Kn φ Kn φ:=⟨fun _ h=>h,fun _ _=>rfl⟩
theorem RC.mono{S S':Nat->Prop}{w w':World}{Kn Kn':Nat->Prop}{φ φ':Nat->gI}(hs:gU S w S' w')(hr:up Kn φ Kn' φ'){x:C}{v:Value}
  (h:RC S w Kn φ x v):RC S' w' Kn' φ' x v:=by
 induction h with|d h=>exact .d (h.mono hs)|fh hk hcap haddr hext hc=>rw[<-hr.eu _ hk]at hext haddr hc|-;exact .fh (hr.sub _ hk) hcap haddr hext hc|ep hk=>rw[<-hr.eu _ hk];exact .ep (hr.sub _ hk)|op hk=>rw[<-hr.eu _ hk];exact .op (hr.sub _ hk)|po hlen hrc ih=>exact .po hlen ih|om hk=>rw[<-hr.eu _ hk];exact .om (hr.sub _ hk)
inductive ge(S:Nat->Prop)(w:World)(Kn:Nat->Prop)(φ:Nat->gI):TV->Value->Prop
 |c {x:C} {v:Value} (h:RC S w Kn φ x v):ge S w Kn φ (.c x) v
 |agg {cs:List C} {aP:Array Value} (hlen:cs.length=aP.size) (h:∀(i:Nat)(x:C),cs[i]?=some x->RC S w Kn φ x (aP.getD i undef)):ge S w Kn φ (.agg cs) (.agg aP)
 |iP {xs:List TV} {aP:Array Value} (hlen:xs.length=aP.size) (h:∀(i:Nat)(x:TV),xs[i]?=some x->ge S w Kn φ x (aP.getD i undef)):ge S w Kn φ (.iP xs) (.tuple aP)
theorem ge.mono{S S':Nat->Prop}{w w':World}{Kn Kn':Nat->Prop}{φ φ':Nat->gI}(hs:gU S w S' w')(hr:up Kn φ Kn' φ'){x:TV}{v:Value}
  (h:ge S w Kn φ x v):ge S' w' Kn' φ' x v:=by
 induction h with|c h=>exact .c (h.mono hs hr)|agg hlen h=>exact .agg hlen fun i x hi=>(h i x hi).mono hs hr|iP hlen h ih=>exact .iP hlen ih
def one:Value->Bool
 |.agg _|.tuple _=>false
 |_=>true
theorem vJ{v:Value}(h:fB v=true):one v=true:=by cases v<;>simp_all[fB,one]
theorem RD.one{S:Nat->Prop}{w:World}{x:D}{v:Value}(h:RD S w x v):one v=true:=by cases h with|lit h=>exact vJ h|_=>rfl
theorem RC.one{S:Nat->Prop}{w:World}{Kn:Nat->Prop}{φ:Nat->gI}{x:C}{v:Value}(h:RC S w Kn φ x v):one v=true:=by cases h with|d h=>exact h.one|_=>rfl
theorem vZ{v:Value}(h:one v=true):v.cells= #[v]:=by cases v<;>simp_all[Ev.one,Value.cells]
def pk(w:World)(b:Nat)(aP:Array Value):Prop:=∃t,w.heap[b]?=some (.cells aP t (0,0))
theorem pk.cell{w:World}{b:Nat}{aP:Array Value}(h:pk w b aP)(i:Nat):w.cell? ⟨b,i,none⟩=aP[i]?:=by obtain⟨t,h⟩:=h;simp[World.cell?,h]
theorem pk.lt{w:World}{b:Nat}{aP:Array Value}(h:pk w b aP):b<w.heap.size:=by obtain⟨t,h⟩:=h;exact(bv.1 h).1
theorem pk.nc{w w':World}{b:Nat}{aP:Array Value}(h:pk w b aP)(hs:w'.heap[b]?=w.heap[b]?):pk w' b aP:=by obtain⟨t,h⟩:=h;exact⟨t,hs.trans h⟩
def cT(S:Nat->Prop)(w:World)(sz:Nat)(get:Nat->Option Value)(aT:Nat)(ao:List (List D)):Prop:=
 (∀(i:Nat)(r:List D),ao[i]?=some r->r.length=sz)/\
 ∀(i:Nat)(r:List D),ao[i]?=some r->∀(j:Nat)(x:D),r[j]?=some x->∃v,get (aT+i*sz+j)=some v/\RD S w x v
def cR:Ob->Bool
 |.aP _ _|.box _|.map _ _ _ _|.cap _ _ _|.nst _ _=>true
 |_=>false
def Hu(S:Nat->Prop)(w:World)(sz:Nat)(ao:List (List D))(v:Value)(b:Nat):Prop:=∃(addr cap:Nat)(aP:Array Value),v=.slice (some ⟨b,addr,none⟩) ao.length cap/\0<sz/\pk w b aP/\ao.length<=cap/\addr+cap*sz<=aP.size/\cT S w sz (fun i=>aP[i]?) addr ao
inductive zV(S K:Nat->Prop)(w:World)(Kn:Nat->Prop)(φ:Nat->gI)(sz:Nat):kX->Value->Prop
 |nil:zV S K w Kn φ sz .nil (.slice none 0 0)
 |bG {ao:List (List D)} {v:Value} {b:Nat} (h:Hu S w sz ao v b) (hS:¬S b) (hK:¬K b):zV S K w Kn φ sz (.bG ao) v
 |cF {id len:Nat} {v:Value} (h:RC S w Kn φ (.fh sz id 0 len) v):zV S K w Kn φ sz (.cF id len) v
def xP:Value->Option Nat
 |.slice (some a) _ _=>some a.block
 |_=>none
def sQ(w:World)(l:gI)(slots:List kX)(k x:Nat):Prop:=∃ao v,slots[k]?=some (.bG ao)/\w.cell? ⟨l.cY,l.aT+k,none⟩=some v/\xP v=some x
def Jj(ka:Bool)(k:List Value)(v:Value):Prop:=(∀x∈k,fB x=true)/\if ka then v=.agg k.toArray else k=[v]
def xe(S:Nat->Prop)(w:World)(va:Bool)(ds:List D)(v:Value):Prop:=if va then∃aP:Array Value,v=.agg aP/\ds.length=aP.size/\∀(i:Nat)(x:D),ds[i]?=some x->RD S w x (aP.getD i undef)else∃x,ds=[x]/\RD S w x v
theorem xe.mono{S S':Nat->Prop}{w w':World}(hs:gU S w S' w'){va:Bool}{ds:List D}{v:Value}(h:xe S w va ds v):xe S' w' va ds v:=by
 unfold xe at h|-;split
 .rename_i hv;rw[if_pos hv]at h;obtain⟨aP,h1,h2,h3⟩:=h;exact⟨aP,h1,h2,fun i x hi=>(h3 i x hi).mono hs⟩
 .rename_i hv;rw[if_neg hv]at h;obtain⟨x,h1,h2⟩:=h;exact⟨x,h1,h2.mono hs⟩
inductive RO(S:Nat->Prop)(K:Nat->Prop)(w:World)(Kn:Nat->Prop)(φ:Nat->gI)(l:gI):Ob->Prop
 |aP {sz:Nat} {ao:List (List D)} {aP:Array Value} (hsz:0<sz) (hl:l.sz=sz) (hS:¬S l.cY) (hK:¬K l.cY) (ho:pk w l.cY aP) (hext:aP.size=l.ext)
   (hfit:l.aT+ao.length*sz<=l.ext) (hr:cT S w sz (fun i=>aP[i]?) l.aT ao) (hv:ao.length<=l.cap):RO S K w Kn φ l (.aP sz ao)
 |qc {sz:Nat} {ao:List (List D)} (hsz:0<sz) (hl:l.sz=sz) (hS:S l.cY)
   (hr:cT S w sz (fun i=>w.cell? ⟨l.cY,i,none⟩) l.aT ao):RO S K w Kn φ l (.qc sz ao)
 |box {cells:List C} {aP:Array Value} (hb:l.aT=0) (hS:¬S l.cY) (hK:¬K l.cY) (ho:pk w l.cY aP) (hlen:cells.length=aP.size)
   (hr:∀(i:Nat)(x:C),cells[i]?=some x->RC S w Kn φ x (aP.getD i undef)):RO S K w Kn φ l (.box cells)
 |oV {cells:List D} (hb:l.aT=0) (hS:S l.cY)
   (hr:∀(i:Nat)(x:D),cells[i]?=some x->∃v,w.cell? ⟨l.cY,i,none⟩=some v/\RD S w x v):RO S K w Kn φ l (.oV cells)
 |map {ka va:Bool} {es:List (List Value×List D×Nat)} {fc:Nat} {ms:Array MapEntry} (hS:¬S l.cY) (hK:¬K l.cY) (ho:w.heap[l.cY]?=some (.map ms fc)) (hlen:es.length=ms.size)
   (hr:∀(i:Nat)(e:List Value×List D×Nat)(m:MapEntry),es[i]?=some e->ms[i]?=some m->Jj ka e.1 m.key/\xe S w va e.2.1 m.val/\m.born=e.2.2):RO S K w Kn φ l (.map ka va es fc)
 |cap {sz:Nat} {ao:List (List D)} {cp:Nat} {aP:Array Value} (hsz:0<sz) (hl:l.sz=sz) (hS:¬S l.cY) (hK:¬K l.cY) (ho:pk w l.cY aP) (hext:aP.size=l.ext)
   (hfit:l.aT+cp*sz<=l.ext) (hr:cT S w sz (fun i=>aP[i]?) l.aT ao) (hv:ao.length<=cp) (hc:l.cap=cp):RO S K w Kn φ l (.cap sz ao cp)
 |nst {sz:Nat} {slots:List kX} {aP:Array Value} (hsz:0<sz) (hl:l.sz=1) (hS:¬S l.cY) (hK:¬K l.cY) (ho:pk w l.cY aP) (hext:aP.size=l.ext)
   (hfit:l.aT+slots.length<=l.ext) (hr:∀(i:Nat)(s:kX),slots[i]?=some s->∃v,aP[l.aT+i]?=some v/\zV S K w Kn φ sz s v) (hv:slots.length<=l.cap):RO S K w Kn φ l (.nst sz slots)
theorem cT.mono{S S':Nat->Prop}{w w':World}(hs:gU S w S' w'){sz aT:Nat}{get:Nat->Option Value}{ao:List (List D)}(h:cT S w sz get aT ao):
  cT S' w' sz get aT ao:=
 ⟨h.1,fun i r hi j x hj=>let⟨v,hg,hr⟩:=h.2 i r hi j x hj;⟨v,hg,hr.mono hs⟩⟩
def P2(S':Nat->Prop)(w w':World)(l:gI)(o:Ob):Prop:=∀sz slots,o=.nst sz slots->∀k x,sQ w l slots k x->w'.heap[x]?=w.heap[x]?/\¬S' x
theorem Hu.mono{S S':Nat->Prop}{w w':World}(hs:gU S w S' w'){sz b:Nat}{ao:List (List D)}{v:Value}(hb:w'.heap[b]?=w.heap[b]?)(h:Hu S w sz ao v b):Hu S' w' sz ao v b:=by obtain⟨a,c,aP,h1,h2,h3,h4,h5,h6⟩:=h;exact⟨a,c,aP,h1,h2,h3.nc hb,h4,h5,h6.mono hs⟩
theorem Hu.cY{S:Nat->Prop}{w:World}{sz b:Nat}{ao:List (List D)}{v:Value}(h:Hu S w sz ao v b):xP v=some b:=by obtain⟨a,c,aP,rfl,_⟩:=h;rfl
theorem Hu.bG{S:Nat->Prop}{w:World}{sz b:Nat}{ao:List (List D)}{v:Value}(h:Hu S w sz ao v b):∃aP,pk w b aP:=by obtain⟨a,c,aP,_,_,h,_⟩:=h;exact⟨aP,h⟩
theorem RO.mono{S S' K:Nat->Prop}{w w':World}{Kn Kn':Nat->Prop}{φ φ':Nat->gI}{l:gI}(hs:gU S w S' w')(hr:up Kn φ Kn' φ'){o:Ob}
  (hsame:cR o=true->w'.heap[l.cY]?=w.heap[l.cY]?/\¬S' l.cY) (hkp:P2 S' w w' l o) (h:RO S K w Kn φ l o):RO S' K w' Kn' φ' l o:=by
 cases h with
 |aP hsz hl hS hK ho hext hfit hrr hv=>exact .aP hsz hl (hsame rfl).2 hK (ho.nc (hsame rfl).1) hext hfit (hrr.mono hs) hv
 |qc hsz hl hS hrr=>refine .qc hsz hl (hs.sub _ hS) ⟨hrr.1,fun i r hi j x hj=>?_⟩;obtain⟨v,hg,h⟩:=hrr.2 i r hi j x hj;exact⟨v,(mF (hs.eu _ hS) _).trans hg,h.mono hs⟩
 |box hb hS hK ho hlen hrr=>exact .box hb (hsame rfl).2 hK (ho.nc (hsame rfl).1) hlen fun i x hi=>(hrr i x hi).mono hs hr
 |oV hb hS hrr=>refine .oV hb (hs.sub _ hS) fun i x hi=>?_;obtain⟨v,hg,h⟩:=hrr i x hi;exact⟨v,(mF (hs.eu _ hS) _).trans hg,h.mono hs⟩
 |map hS hK ho hlen hrr=>exact .map (hsame rfl).2 hK ((hsame rfl).1.trans ho) hlen fun i e m hi hm=>let⟨h1,h2,h3⟩:=hrr i e m hi hm;⟨h1,h2.mono hs,h3⟩
 |cap hsz hl hS hK ho hext hfit hrr hv hc=>exact .cap hsz hl (hsame rfl).2 hK (ho.nc (hsame rfl).1) hext hfit (hrr.mono hs) hv hc
 |nst hsz hl hS hK ho hext hfit hrr hv=>refine .nst hsz hl (hsame rfl).2 hK (ho.nc (hsame rfl).1) hext hfit (fun i s hi=>?_) hv;obtain⟨v,h1,h2⟩:=hrr i s hi;refine⟨v,h1,?_⟩;cases h2 with|nil=>exact .nil|@bG ao _ b h hS hK=>obtain⟨k1,k2⟩:=hkp _ _ rfl i b ⟨ao,v,hi,(ho.cell _).trans h1,h.cY⟩;exact .bG (h.mono hs k1) k2 hK|cF h=>exact .cF (h.mono hs hr)
def Io(w0 w:World):Prop:=w.os=w0.os/\w.output=w0.output/\w.tape=w0.tape/\w0.drawn<=w.drawn
theorem Io.trans{a b c:World}(h:Io a b)(h2:Io b c):Io a c:=⟨h2.1.trans h.1,h2.2.1.trans h.2.1,h2.2.2.1.trans h.2.2.1,fI h.2.2.2 h2.2.2.2⟩
theorem Io.refl(w:World):Io w w:=⟨rfl,rfl,rfl,aw _⟩
structure Hw(K:Nat->Prop)(w0 w:World):Prop where
 FY:∀b,K b->b<w0.heap.size
 nC:∀b,K b->w.heap[b]?=w0.heap[b]?
 sx:w0.heap.size<=w.heap.size
 A5:∀a,a.block<w0.heap.size->w.frozen? a=w0.frozen? a
 bG:∀b aP,pk w0 b aP->∃arr',pk w b arr'/\arr'.size=aP.size
 io:Io w0 w
def Ay(S:Nat->Prop)(w:World):Prop:=∀g d,Pj g=some d->RD S w d (.pointer (some ⟨g,0,none⟩))
theorem Ay.mono{S S':Nat->Prop}{w w':World}(h:Ay S w)(hs:gU S w S' w'):Ay S' w':=fun g d hg=>(h g d hg).mono hs
def TL(w:World)(φ:Nat->gI)(hf:Nat->Option Ob):Prop:=∀i sz sl k x,hf i=some (.nst sz sl)->sQ w (φ i) sl k x->
 (∀j b,hf j=some b->cR b=true->(φ j).cY≠x)/\∀j sz' sl' k',hf j=some (.nst sz' sl')->sQ w (φ j) sl' k' x->j=i/\k'=k
structure Inv(S K:Nat->Prop)(w0:World)(Kn:Nat->Prop)(φ:Nat->gI)(hf:Nat->Option Ob)(w:World):Prop where
 vn:∀b,S b->b<w.heap.size
 sk:∀b,S b->¬K b
 nD:Hw K w0 w
 iN:∀id o,hf id=some o->Kn id/\RO S K w Kn φ (φ id) o
 jE:∀i j a b,hf i=some a->hf j=some b->cR a=true->cR b=true->i≠j->(φ i).cY≠(φ j).cY
 B7:Ay S w
 xq:TL w φ hf
def bA(u:fA)(hf:Nat->Option Ob)(id:Nat):Option Ob:=match cz u id with|some o=>o|none=>hf id
theorem gM{α:Type}(a b:List (Nat×α))(k:Nat):cz (a++b) k=match cz a k with|some x=>some x|none=>cz b k:=by induction a with|nil=>rfl|cons p r ih=>obtain⟨i,x⟩:=p;simp only[List.cons_append,cz];cases h:(i==k)<;>simp[ih]
theorem gF(u:fA)(h:bM):aC (u++h)=bA u (aC h):=by funext id;simp only[aC,bA,gM];cases cz u id<;>simp
theorem fJ(hf:Nat->Option Ob):bA [] hf=hf:=rfl
theorem bZ(i:Nat)(o:Option Ob)(u:fA)(hf:Nat->Option Ob)(id:Nat):bA ((i,o)::u) hf id=if i=id then o else bA u hf id:=by
 simp only[bA,cz];by_cases h:i=id
 .simp [h]
 .have e:(i==id)=false:=by simpa using h
  simp[h,e]
theorem ew(u v:fA)(hf:Nat->Option Ob):bA (u++v) hf=bA u (bA v hf):=by funext id;simp only[bA,gM];cases cz u id<;>simp
theorem Inv.vv{S S' K:Nat->Prop}{w0 w w':World}{Kn Kn':Nat->Prop}{φ φ':Nat->gI}{hf hf':Nat->Option Ob}(h:Inv S K w0 Kn φ hf w)
  (hs:gU S w S' w') (hr:up Kn φ Kn' φ') (hslt:∀b,S' b->b<w'.heap.size) (hsk:∀b,S' b->¬K b) (hfrm:Hw K w0 w')
  (hobj:∀id o,hf' id=some o->(hf id=some o/\(cR o=true->w'.heap[(φ id).cY]?=w.heap[(φ id).cY]?/\¬S' (φ id).cY)/\P2 S' w w' (φ id) o)\/(Kn' id/\RO S' K w' Kn' φ' (φ' id) o))
  (hdist:∀i j a b,hf' i=some a->hf' j=some b->cR a=true->cR b=true->i≠j->(φ' i).cY≠(φ' j).cY) (hprv:TL w' φ' hf'):
  Inv S' K w0 Kn' φ' hf' w' where
 vn:=hslt
 sk:=hsk
 nD:=hfrm
 jE:=hdist
 B7:=h.B7.mono hs
 xq:=hprv
 iN id o ho:=by
  rcases hobj id o ho with⟨h1,h2,h3⟩|h1
  .obtain ⟨hk,hro⟩:=h.iN id o h1;refine⟨hr.sub _ hk,?_⟩;rw[hr.eu _ hk];exact hro.mono hs hr h2 h3
  .exact h1
theorem sQ.eu{w w':World}{l:gI}{sl:List kX}{k x:Nat}(h:w'.heap[l.cY]?=w.heap[l.cY]?):sQ w' l sl k x<->sQ w l sl k x:=by unfold sQ;rw[show∀i,w'.cell? ⟨l.cY,i,none⟩=w.cell? ⟨l.cY,i,none⟩from fun i=>mF h i]
theorem RO.H8{S K:Nat->Prop}{w:World}{Kn:Nat->Prop}{φ:Nat->gI}{l:gI}{sz:Nat}{sl:List kX}{k x:Nat}(h:RO S K w Kn φ l (.nst sz sl))(hp:sQ w l sl k x):
  ¬S x/\¬K x/\x<w.heap.size/\∃ao v,sl[k]?=some (.bG ao)/\w.cell? ⟨l.cY,l.aT+k,none⟩=some v/\Hu S w sz ao v x:=by
 cases h with
 |nst hsz hl hS hK ho hext hfit hr hv=>
  obtain⟨ao,v,h1,h2,h3⟩:=hp;obtain⟨v',h4,h5⟩:=hr k _ h1;obtain rfl:v'=v:=by rw[ho.cell,h4]at h2;exact aa h2
  cases h5 with
  |@bG _ _ b h6 hS hK=>
   obtain rfl:b=x:=by rw[h6.cY]at h3;exact aa h3
   obtain⟨aP,h7⟩:=h6.bG;exact⟨hS,hK,h7.lt,ao,v',h1,h2,h6⟩
theorem Inv.H8{S K:Nat->Prop}{w0 w:World}{Kn:Nat->Prop}{φ:Nat->gI}{hf:Nat->Option Ob}(h:Inv S K w0 Kn φ hf w){i sz k x:Nat}{sl:List kX}(hi:hf i=some (.nst sz sl))(hp:sQ w (φ i) sl k x):
  ¬S x/\¬K x/\x<w.heap.size/\∃ao v,sl[k]?=some (.bG ao)/\w.cell? ⟨(φ i).cY,(φ i).aT+k,none⟩=some v/\Hu S w sz ao v x:=(h.iN i _ hi).2.H8 hp
def P1(S':Nat->Prop)(w w':World)(φ φ':Nat->gI)(hf hf':Nat->Option Ob):Prop:=∀id sz sl,hf' id=some (.nst sz sl)->hf id=some (.nst sz sl)/\w'.heap[(φ id).cY]?=w.heap[(φ id).cY]?/\
 ∀k x,sQ w (φ id) sl k x->w'.heap[x]?=w.heap[x]?/\¬S' x/\∀j b,hf' j=some b->cR b=true->(φ' j).cY≠x
theorem Inv.ja{S S' K:Nat->Prop}{w0 w w':World}{Kn Kn':Nat->Prop}{φ φ':Nat->gI}{hf hf':Nat->Option Ob}(h:Inv S K w0 Kn φ hf w)
  (hs:gU S w S' w') (hr:up Kn φ Kn' φ') (hslt:∀b,S' b->b<w'.heap.size) (hsk:∀b,S' b->¬K b) (hfrm:Hw K w0 w')
  (hobj:∀id o,hf' id=some o->(hf id=some o/\(cR o=true->w'.heap[(φ id).cY]?=w.heap[(φ id).cY]?/\¬S' (φ id).cY))\/(Kn' id/\RO S' K w' Kn' φ' (φ' id) o))
  (hdist:∀i j a b,hf' i=some a->hf' j=some b->cR a=true->cR b=true->i≠j->(φ' i).cY≠(φ' j).cY) (hrest:P1 S' w w' φ φ' hf hf'):
  Inv S' K w0 Kn' φ' hf' w':=by
 have e:∀id sz sl,hf' id=some (.nst sz sl)->φ' id=φ id:=fun id sz sl hi=>hr.eu _ (h.iN id _ (hrest id sz sl hi).1).1;have hpat:∀id sz sl k x,hf' id=some (.nst sz sl)->sQ w' (φ' id) sl k x->sQ w (φ id) sl k x:=fun id sz sl k x hi hp=>by rw[e id sz sl hi]at hp;exact(sQ.eu (hrest id sz sl hi).2.1).1 hp
 refine h.vv hs hr hslt hsk hfrm (fun id o ho=>?_) hdist fun i sz sl k x hi hp=>?_
 .rcases hobj id o ho with⟨h1,h2⟩|h1
  .exact .inl ⟨h1,h2,fun sz sl eo k x hp=>by subst eo;obtain⟨a,b,_⟩:=(hrest id sz sl ho).2.2 k x hp;exact⟨a,b⟩⟩
  .exact .inr h1
 .have hp':=hpat i sz sl k x hi hp;refine⟨((hrest i sz sl hi).2.2 k x hp').2.2,fun j sz' sl' k' hj hpj=>?_⟩;exact(h.xq i sz sl k x (hrest i sz sl hi).1 hp').2 j sz' sl' k' (hrest j sz' sl' hj).1 (hpat j sz' sl' k' x hj hpj)
theorem iK{w:World}{o:Obj}{b:Nat}(h:b<w.heap.size):({w with heap:=w.heap.push o}:World).heap[b]?=w.heap[b]?:=by simp[Array.getElem?_push,Nat.ne_of_lt h]
theorem Dt(w:World)(aP:Array Value)(t:TypeId):pk {w with heap:=w.heap.push (.cells aP t)} w.heap.size aP:=⟨t,by simp⟩
theorem D4(w:World)(aP:Array Value)(t:TypeId)(a:Addr):({w with heap:=w.heap.push (.cells aP t)}:World).frozen? a=w.frozen? a:=by
 unfold World.frozen?;rcases Nat.lt_trichotomy a.block w.heap.size with h|h|h
 .rw [iK h]
 .simp [h]
 .rw [gz (by simp;omega),gz (by omega)]
theorem Hw.push{K:Nat->Prop}{w0 w:World}(h:Hw K w0 w)(aP:Array Value)(t:TypeId):Hw K w0 {w with heap:=w.heap.push (.cells aP t)}where
 FY:=h.FY
 nC b hb:=(iK (dg (h.FY b hb) h.sx)).trans (h.nC b hb)
 sx:=by have:=h.sx;simp;omega
 A5 a ha:=(D4 w aP t a).trans (h.A5 a ha)
 bG b a ha:=let⟨a',h1,h2⟩:=h.bG b a ha;⟨a',h1.nc (iK h1.lt),h2⟩
 io:=h.io
theorem Hw.yS{K:Nat->Prop}{w0 w w':World}(h:Hw K w0 w){c:Nat}(hother:∀b,b≠c->w'.heap[b]?=w.heap[b]?)
  (hsz:∀aP,pk w c aP->∃arr',pk w' c arr'/\arr'.size=aP.size) (b:Nat) (aP:Array Value) (ho:pk w0 b aP):∃arr',pk w' b arr'/\arr'.size=aP.size:=by
 obtain⟨a,h1,h2⟩:=h.bG b aP ho;by_cases e:b=c
 .subst e;obtain⟨a',h3,h4⟩:=hsz a h1;exact⟨a',h3,h4.trans h2⟩
 .exact ⟨a,h1.nc (hother b e),h2⟩
theorem Hw.xN{K:Nat->Prop}{w0 w:World}(h:Hw K w0 w)(n:Nat)(hn:w.drawn<=n):Hw K w0 {w with drawn:=n}:=⟨h.FY,h.nC,h.sx,h.A5,h.bG,h.io.1,h.io.2.1,h.io.2.2.1,fI h.io.2.2.2 hn⟩
theorem gU.push{S:Nat->Prop}{w:World}(hs:∀b,S b->b<w.heap.size)(o:Obj):gU S w S {w with heap:=w.heap.push o}:=⟨fun _ h=>h,fun b h=>iK (hs b h)⟩
theorem gU.xN(S:Nat->Prop)(w:World)(n:Nat):gU S w S {w with drawn:=n}:=⟨fun _ h=>h,fun _ _=>rfl⟩
theorem Inv.Df{S K:Nat->Prop}{w0 w w':World}{Kn Kn':Nat->Prop}{φ φ':Nat->gI}{hf:Nat->Option Ob}(h:Inv S K w0 Kn φ hf w)(hr:up Kn φ Kn' φ')(hs:∀b,b<w.heap.size->w'.heap[b]?=w.heap[b]?):P1 S w w' φ φ' hf hf:=fun id sz sl hi=>by
 obtain⟨_,h1⟩:=h.iN id _ hi;have hlt:(φ id).cY<w.heap.size:=by cases h1 with|nst _ _ _ _ ho=>exact ho.lt
 refine⟨hi,hs _ hlt,fun k x hp=>?_⟩;obtain⟨h2,_,h3,_⟩:=h.H8 hi hp;refine⟨hs x h3,h2,fun j b hj hb=>?_⟩;rw[hr.eu j (h.iN j b hj).1];exact(h.xq id sz sl k x hi hp).1 j b hj hb
theorem Inv.AM{S K:Nat->Prop}{w0 w w':World}{Kn:Nat->Prop}{φ:Nat->gI}{hf:Nat->Option Ob}(h:Inv S K w0 Kn φ hf w)(hs:∀b,b<w.heap.size->w'.heap[b]?=w.heap[b]?):P1 S w w' φ φ hf hf:=h.Df (up.refl _ _) hs
theorem Inv.xN{S K:Nat->Prop}{w0 w:World}{Kn:Nat->Prop}{φ:Nat->gI}{hf:Nat->Option Ob}(h:Inv S K w0 Kn φ hf w)(n:Nat)(hn:w.drawn<=n):
  Inv S K w0 Kn φ hf {w with drawn:=n}:=
 h.ja (gU.xN S w n) (up.refl _ _) h.vn h.sk (h.nD.xN n hn) (fun id o ho=>.inl ⟨ho,fun hown=>⟨rfl,by obtain⟨_,hro⟩:=h.iN id o ho;cases hro<;>simp_all[cR]⟩⟩) h.jE (h.AM fun _ _=>rfl)
theorem RO.bG{S K:Nat->Prop}{w:World}{Kn:Nat->Prop}{φ:Nat->gI}{l:gI}{o:Ob}(h:RO S K w Kn φ l o)(ho:cR o=true):
  ¬S l.cY/\¬K l.cY/\l.cY<w.heap.size:=by
 cases h with|aP hsz hl hS hK hown=>exact⟨hS,hK,hown.lt⟩|box hb hS hK hown=>exact⟨hS,hK,hown.lt⟩|map hS hK hmp=>exact⟨hS,hK,(bv.1 hmp).1⟩|cap hsz hl hS hK hown=>exact⟨hS,hK,hown.lt⟩|nst hsz hl hS hK hown=>exact⟨hS,hK,hown.lt⟩|_=>simp[cR]at ho
def ext(φ:Nat->gI)(i:Nat)(l:gI):Nat->gI:=fun j=>if j=i then l else φ j
theorem jH{Kn:Nat->Prop}{φ:Nat->gI}{i:Nat}(l:gI)(hi:¬Kn i):up Kn φ (fun j=>Kn j\/j=i) (ext φ i l):=⟨fun _ h=>.inl h,fun j h=>by simp only[ext];rw[if_neg];rintro rfl;exact hi h⟩
abbrev Hv(o:Ob):Prop:=∀sz sl(k:Nat)ao,o=.nst sz sl->sl[k]?≠some (kX.bG ao)
theorem Inv.G6{S K:Nat->Prop}{w0 w w':World}{Kn:Nat->Prop}{φ:Nat->gI}{hf:Nat->Option Ob}(h:Inv S K w0 Kn φ hf w){i:Nat}{l:gI}{o:Ob}(hno:Hv o)
  (hsame:∀b,b<w.heap.size->w'.heap[b]?=w.heap[b]?) (hl:cR o=true->∀id sz sl k x,hf id=some (.nst sz sl)->sQ w (φ id) sl k x->l.cY≠x):TL w' (ext φ i l) (bA [(i,some o)] hf):=by
 have key:∀a sz sl k x,bA [(i,some o)] hf a=some (.nst sz sl)->sQ w' (ext φ i l a) sl k x->hf a=some (.nst sz sl)/\sQ w (φ a) sl k x:=by
  intro a sz sl k x ha hp;rw[bZ]at ha;by_cases e:i=a
  .rw [if_pos e]at ha;obtain rfl:=aa ha;obtain⟨ao,v,h1,_⟩:=hp;exact absurd h1 (hno _ _ _ _ rfl)
  .rw [if_neg e,fJ]at ha;refine⟨ha,?_⟩;have e1:ext φ i l a=φ a:=by simp only[ext];rw[if_neg (fun q=>e q.symm)]
   rw[e1]at hp;obtain⟨_,h1⟩:=h.iN a _ ha;exact(sQ.eu (hsame _ (by cases h1 with|nst _ _ _ _ ho=>exact ho.lt))).1 hp
 intro a sz sl k x ha hp;obtain⟨h1,h2⟩:=key a sz sl k x ha hp;obtain⟨p1,p2⟩:=h.xq a sz sl k x h1 h2;refine⟨fun j b hj hown=>?_,fun j sz' sl' k' hj hpj=>?_⟩
 .rw [bZ]at hj;by_cases e:i=j
  .rw [if_pos e]at hj;obtain rfl:=aa hj;simp only[ext];rw[if_pos e.symm];exact hl hown a sz sl k x h1 h2
  .rw [if_neg e,fJ]at hj;simp only[ext];rw[if_neg (fun q=>e q.symm)];exact p1 j b hj hown
 .obtain ⟨h3,h4⟩:=key j sz' sl' k' x hj hpj;exact p2 j sz' sl' k' h3 h4
theorem Inv.DX{S K:Nat->Prop}{w0 w w':World}{Kn:Nat->Prop}{φ:Nat->gI}{hf:Nat->Option Ob}(h:Inv S K w0 Kn φ hf w){id:Nat}{o:Ob}(ho:hf id=some o)(hsame:∀b,b<w.heap.size->w'.heap[b]?=w.heap[b]?):P2 S w w' (φ id) o:=by intro sz sl e k x hp;subst e;obtain⟨h1,_,h2,_⟩:=h.H8 ho hp;exact⟨hsame x h2,h1⟩
theorem Inv.alloc{S K:Nat->Prop}{w0 w:World}{Kn:Nat->Prop}{φ:Nat->gI}{hf:Nat->Option Ob}(h:Inv S K w0 Kn φ hf w){i:Nat}(hi:¬Kn i)
  (aP:Array Value) (t:TypeId) (sz c:Nat) (o:Ob)
  (hro:RO S K {w with heap:=w.heap.push (.cells aP t)} (fun j=>Kn j\/j=i) (ext φ i ⟨w.heap.size,0,sz,aP.size,c⟩) ⟨w.heap.size,0,sz,aP.size,c⟩ o) (hno:Hv o:=by intro _ _ _ _ e;cases e):
  Inv S K w0 (fun j=>Kn j\/j=i) (ext φ i ⟨w.heap.size,0,sz,aP.size,c⟩) (bA [(i,some o)] hf) {w with heap:=w.heap.push (.cells aP t)}:=by
 refine h.vv (gU.push h.vn _) (jH _ hi) (fun b hb=>by have:=h.vn b hb;simp;omega) h.sk (h.nD.push aP t) ?_ ?_ (h.G6 hno (fun b hb=>iK hb) fun _ id sz sl k x ha hp e=>by have:=(h.H8 ha hp).2.2.1;simp only at e;omega)
 .intro id o' ho;rw[bZ]at ho;by_cases e:i=id
  .subst e;rw[if_pos rfl]at ho;obtain rfl:o=o':=by simpa using ho
   refine .inr ⟨.inr rfl,?_⟩;simpa[ext]using hro
  .rw [if_neg e,fJ]at ho;refine .inl ⟨ho,fun hown=>?_,h.DX ho fun b hb=>iK hb⟩;obtain⟨_,h2⟩:=h.iN id o' ho;obtain⟨a,b,c⟩:=h2.bG hown;exact⟨iK c,a⟩
 .have key:∀j b,j≠i->hf j=some b->cR b=true->(ext φ i ⟨w.heap.size,0,sz,aP.size,c⟩ j).cY<w.heap.size:=by intro j b hj hb hown;obtain⟨_,h2⟩:=h.iN j b hb;simpa[ext,hj]using(h2.bG hown).2.2
  intro a b oa ob ha hb hoa hob hne;rw[bZ]at ha hb;by_cases ea:i=a
  .by_cases eb:i=b
   .exact absurd (ea.symm.trans eb) hne
   .rw [if_neg eb,fJ]at hb;have:=key b ob (fun e=>eb e.symm) hb hob;have e1:(ext φ i ⟨w.heap.size,0,sz,aP.size,c⟩ a).cY=w.heap.size:=by simp[ext,ea]
    omega
  .rw [if_neg ea,fJ]at ha;have h1:=key a oa (fun e=>ea e.symm) ha hoa;by_cases eb:i=b
   .have e1:(ext φ i ⟨w.heap.size,0,sz,aP.size,c⟩ b).cY=w.heap.size:=by simp[ext,eb]
    omega
   .rw [if_neg eb,fJ]at hb;have:=h.jE a b oa ob ha hb hoa hob hne;have e1:¬a=i:=fun e=>ea e.symm;have e2:¬b=i:=fun e=>eb e.symm;simpa[ext,e1,e2]using this
theorem Ca{w:World}{o:Obj}(ho:∀c t r,o≠.cells c t r)(a:Addr):({w with heap:=w.heap.push o}:World).frozen? a=w.frozen? a:=by
 unfold World.frozen?;rcases Nat.lt_trichotomy a.block w.heap.size with h|h|h
 .rw [iK h]
 .rw [h];simp only[Array.getElem?_push_size,gz (aw _)];cases o with|cells c t r=>exact absurd rfl (ho c t r)|_=>rfl
 .rw [gz (by simp;omega),gz (by omega)]
theorem Inv.PW{S K:Nat->Prop}{w0 w:World}{Kn:Nat->Prop}{φ:Nat->gI}{hf:Nat->Option Ob}(h:Inv S K w0 Kn φ hf w){i:Nat}(hi:¬Kn i)
  {ob:Obj} (hob:∀c t r,ob≠.cells c t r) (l:gI) (hl:l.cY=w.heap.size) (o:Ob)
  (hro:RO S K {w with heap:=w.heap.push ob} (fun j=>Kn j\/j=i) (ext φ i l) l o) (hno:Hv o:=by intro _ _ _ _ e;cases e):
  Inv S K w0 (fun j=>Kn j\/j=i) (ext φ i l) (bA [(i,some o)] hf) {w with heap:=w.heap.push ob}:=by
 have hfrm:Hw K w0 {w with heap:=w.heap.push ob}:=
  ⟨h.nD.FY,fun b hb=>(iK (dg (h.nD.FY b hb) h.nD.sx)).trans (h.nD.nC b hb),by have:=h.nD.sx;simp;omega,fun a ha=>(Ca hob a).trans (h.nD.A5 a ha),
   fun b a ha=>let⟨a',h1,h2⟩:=h.nD.bG b a ha;⟨a',h1.nc (iK h1.lt),h2⟩,h.nD.io⟩
 refine h.vv (gU.push h.vn _) (jH _ hi) (fun b hb=>by have:=h.vn b hb;simp;omega) h.sk hfrm ?_ ?_ (h.G6 hno (fun b hb=>iK hb) fun _ id sz sl k x ha hp e=>by have:=(h.H8 ha hp).2.2.1;omega)
 .intro id o' ho;rw[bZ]at ho;by_cases e:i=id
  .subst e;rw[if_pos rfl]at ho;obtain rfl:o=o':=by simpa using ho
   refine .inr ⟨.inr rfl,?_⟩;simpa[ext]using hro
  .rw [if_neg e,fJ]at ho;refine .inl ⟨ho,fun hown=>?_,h.DX ho fun b hb=>iK hb⟩;obtain⟨_,h2⟩:=h.iN id o' ho;obtain⟨a,b,c⟩:=h2.bG hown;exact⟨iK c,a⟩
 .have key:∀j b,j≠i->hf j=some b->cR b=true->(ext φ i l j).cY<w.heap.size:=by intro j b hj hb hown;obtain⟨_,h2⟩:=h.iN j b hb;simpa[ext,hj]using(h2.bG hown).2.2
  intro a b oa ob ha hb hoa hob hne;rw[bZ]at ha hb;by_cases ea:i=a
  .by_cases eb:i=b
   .exact absurd (ea.symm.trans eb) hne
   .rw [if_neg eb,fJ]at hb;have:=key b ob (fun e=>eb e.symm) hb hob;have e1:(ext φ i l a).cY=w.heap.size:=by simp[ext,ea,hl]
    omega
  .rw [if_neg ea,fJ]at ha;have h1:=key a oa (fun e=>ea e.symm) ha hoa;by_cases eb:i=b
   .have e1:(ext φ i l b).cY=w.heap.size:=by simp[ext,eb,hl]
    omega
   .rw [if_neg eb,fJ]at hb;have:=h.jE a b oa ob ha hb hoa hob hne;have e1:¬a=i:=fun e=>ea e.symm;have e2:¬b=i:=fun e=>eb e.symm;simpa[ext,e1,e2]using this
theorem Inv.mg{S K:Nat->Prop}{w0 w:World}{Kn:Nat->Prop}{φ:Nat->gI}{hf hf':Nat->Option Ob}(h:Inv S K w0 Kn φ hf w)(hsub:∀id o,hf' id=some o->hf id=some o):
  Inv S K w0 Kn φ hf' w:=
 ⟨h.vn,h.sk,h.nD,fun id o ho=>h.iN id o (hsub id o ho),fun i j a b ha hb=>h.jE i j a b (hsub _ _ ha) (hsub _ _ hb),h.B7,
  fun i sz sl k x hi hp=>let⟨a,b⟩:=h.xq i sz sl k x (hsub _ _ hi) hp;⟨fun j b hj=>a j b (hsub _ _ hj),fun j sz' sl' k' hj=>b j sz' sl' k' (hsub _ _ hj)⟩⟩
theorem Inv.set{S K:Nat->Prop}{w0 w w':World}{Kn:Nat->Prop}{φ:Nat->gI}{hf:Nat->Option Ob}(h:Inv S K w0 Kn φ hf w){id:Nat}{o o':Ob}
  (ho:hf id=some o) (hown:cR o=true) (hother:∀b,b≠(φ id).cY->w'.heap[b]?=w.heap[b]?) (hsize:w'.heap.size=w.heap.size)
  (hfrz:∀a,w'.frozen? a=w.frozen? a) (hsz:∀aP,pk w (φ id).cY aP->∃arr',pk w' (φ id).cY arr'/\arr'.size=aP.size) (hio:Io w w') (hro:gU S w S w'->RO S K w' Kn φ (φ id) o') (hn:∀sz sl,o'≠.nst sz sl:=by intro _ _ e;cases e):
  gU S w S w'/\Inv S K w0 Kn φ (bA [(id,some o')] hf) w':=by
 obtain⟨hk,h0⟩:=h.iN id o ho;obtain⟨hS,hK,hlt⟩:=h0.bG hown;have hs:gU S w S w':=⟨fun _ h=>h,fun b hb=>hother b (fun e=>hS (e▸hb))⟩
 have fix:∀i a,bA [(id,some o')] hf i=some a->cR a=true->∃a',hf i=some a'/\cR a'=true:=by
  intro i a ha hoa;rw[bZ]at ha;by_cases e:id=i
  .subst e;exact⟨o,ho,hown⟩
  .rw [if_neg e,fJ]at ha;exact⟨a,ha,hoa⟩
 refine⟨hs,h.ja hs (up.refl _ _) (fun b hb=>hsize▸h.vn b hb) h.sk ?_ ?_ ?_ ?_⟩
 .exact ⟨h.nD.FY,fun b hb=>(hother b (fun e=>hK (e▸hb))).trans (h.nD.nC b hb),hsize▸h.nD.sx,fun a ha=>(hfrz a).trans (h.nD.A5 a ha),h.nD.yS hother hsz,h.nD.io.trans hio⟩
 .intro i x hx;rw[bZ]at hx;by_cases e:id=i
  .subst e;rw[if_pos rfl]at hx;obtain rfl:o'=x:=by simpa using hx
   exact .inr ⟨hk,hro hs⟩
  .rw [if_neg e,fJ]at hx;refine .inl ⟨hx,fun hox=>⟨hother _ ?_,((h.iN i x hx).2.bG hox).1⟩⟩;exact(h.jE i id x o hx ho hox hown (fun e'=>e e'.symm))
 .intro i j a b ha hb hoa hob hne;obtain⟨a',ha',hoa'⟩:=fix i a ha hoa;obtain⟨b',hb',hob'⟩:=fix j b hb hob;exact h.jE i j a' b' ha' hb' hoa' hob' hne
 .intro a sz sl ha;rw[bZ]at ha;by_cases e:id=a
  .rw [if_pos e]at ha;exact absurd (aa ha) (hn _ _)
  .rw [if_neg e,fJ]at ha;refine⟨ha,hother _ (h.jE a id _ o ha ho rfl hown fun q=>e q.symm),fun k x hp=>?_⟩;obtain⟨p1,_⟩:=h.xq a sz sl k x ha hp;refine⟨hother x fun q=>p1 id o ho hown q.symm,(h.H8 ha hp).1,fun j b hj hb=>?_⟩;obtain⟨b',hb',hob'⟩:=fix j b hj hb;exact p1 j b' hb' hob'
variable{P:Program}
def fK(P:Program)(t:TypeId):Option Nat:=(P.info? t).map (·.size)
def fS(P:Program)(t:TypeId):Option Bool:=(P.underlying t).map fun|.struct _|.array _ _=>true|_=>false
def jL(P:Program)(t:TypeId):Option (List Value):=match(P.info? t).bind (·.zero)with|some z=>if z.cells.toList.all fB then some z.cells.toList else none|none=>none
theorem qm(b off n:Nat):(⟨b,off,none⟩:Addr).add n=⟨b,off+n,none⟩:=by unfold Addr.add;split<;>simp_all
theorem gZ{t:TypeId}{n:Nat}(h:fK P t=some n)(w:World):(sizeOf t).run P w=.ok n w:=by simp only[fK,aK]at h;obtain⟨i,hi,rfl⟩:=h;simp[sizeOf,typeInfo,hi]
theorem cj{t:TypeId}{d:TypeDesc}(h:P.underlying t=some d)(w:World):(underlying t).run P w=.ok d w:=by simp[underlying,h]
theorem t_{t:TypeId}{g:Bool}(h:fS P t=some g)(w:World):(isAgg t).run P w=.ok g w:=by simp only[fS,aK]at h;obtain⟨d,hd,rfl⟩:=h;simp only[isAgg,Sem.run_bind,cj hd,Result.andThen_ok];cases d<;>rfl
theorem pS{t:TypeId}{z:List Value}(h:jL P t=some z)(w:World):
  ∃v,(zeroValue t).run P w=.ok v w/\v.cells.toList=z/\∀x∈z,fB x=true:=by
 simp only[jL]at h;split at h
 .rename_i v hv;split at h
  .rename_i hp;obtain rfl:=aa h;obtain⟨i,hi,hz⟩:=ff.1 hv;exact⟨v,by simp[zeroValue,typeInfo,hi,hz],rfl,fun x hx=>bq.1 hp x hx⟩
  .simp at h
 .simp at h
section
variable{S K:Nat->Prop}{w0 w:World}{Kn:Nat->Prop}{φ:Nat->gI}{hf:Nat->Option Ob}
theorem FX(agg:Bool)(n:Nat)(cells:List D):N1 agg n cells=DT agg n (cells.map .d):=by
 unfold N1 DT;cases agg
 .cases cells<;>rfl
 .simp [List.map_take]
theorem wx{t:TypeId}{agg:Bool}{n:Nat}(ha:fS P t=some agg)(hn:fK P t=some n){cells:List C}{b o:Nat}{v:TV}
  (hc:∀(j:Nat)(x:C),cells[j]?=some x->∃u,w.cell? ⟨b,o+j,none⟩=some u/\RC S w Kn φ x u) (h:DT agg n cells=some v):
  ∃val,(loadVar t ⟨b,o,none⟩).run P w=.ok val w/\ge S w Kn φ v val:=by
 unfold DT at h;cases agg
 .simp only[aX,if_false]at h;cases cells with
  |nil=>simp at h
  |cons x r=>
   obtain rfl:TV.c x=v:=by simpa using h
   obtain⟨u,hu,hr⟩:=hc 0 x rfl;refine⟨u,?_,.c hr⟩;simp only[loadVar,Sem.run_bind,t_ ha,Result.andThen_ok,aX,if_false,run_load];simp only[di]at hu;simp[hu]
 .simp only[if_true]at h;split at h
  .rename_i hle;obtain rfl:=aa h
   have hcell:∀j,j<n->w.cell? ((⟨b,o,none⟩:Addr).add j)=some ((w.cell? ⟨b,o+j,none⟩).getD undef):=by
    intro j hj;have hj':j<cells.length:=by omega
    obtain⟨u,hu,_⟩:=hc j cells[j] (by simp[hj']);rw[qm,hu];rfl
   refine⟨.agg ((bt n).map fun j=>(w.cell? ⟨b,o+j,none⟩).getD undef).toArray,?_,.agg (by simp;omega) ?_⟩
   .simp only[loadVar,Sem.run_bind,t_ ha,Result.andThen_ok,if_true,gZ hn,run_loadCells w _ n _ hcell,Sem.run_pure]
   .intro i x hi;rw[eJ]at hi;split at hi
    .rename_i hin;obtain⟨u,hu,hr⟩:=hc i x hi;have:((bt n).map fun j=>(w.cell? ⟨b,o+j,none⟩).getD undef).toArray.getD i undef=u:=by simp[kr,hin,hu]
     rw[this];exact hr
    .simp at hi
  .simp at h
theorem Ck{id cU:Nat}{sz:Nat}{ao:List (List D)}(hI:Inv S K w0 Kn φ hf w)(ho:hf id=some (.aP sz ao)\/hf id=some (.qc sz ao)){r:List D}(hr:ao[cU]?=some r)(off:Nat):
  (φ id).sz=sz/\r.length=sz/\∀(j:Nat)(x:C),((r.drop off).map C.d)[j]?=some x->∃u,w.cell? ⟨(φ id).cY,(φ id).aT+cU*(φ id).sz+off+j,none⟩=some u/\RC S w Kn φ x u:=by
 rcases ho with ho|ho
 .obtain ⟨hk,h0⟩:=hI.iN _ _ ho;cases h0 with|aP hsz hl hS hK hown hext hfit hrr=>refine⟨hl,hrr.1 _ _ hr,fun j x hj=>?_⟩;rw[aM,bW]at hj;obtain⟨d,hd,rfl⟩:=aK.1 hj;obtain⟨u,hu,hrd⟩:=hrr.2 cU r hr (off+j) d hd;refine⟨u,?_,.d hrd⟩;rw[hown.cell,hl,<-hu];show _=_;congr 1;omega
 .obtain ⟨hk,h0⟩:=hI.iN _ _ ho;cases h0 with|qc hsz hl hS hrr=>refine⟨hl,hrr.1 _ _ hr,fun j x hj=>?_⟩;rw[aM,bW]at hj;obtain⟨d,hd,rfl⟩:=aK.1 hj;obtain⟨u,hu,hrd⟩:=hrr.2 cU r hr (off+j) d hd;refine⟨u,?_,.d hrd⟩;rw[hl,<-hu];simp only[db]
theorem yH{t:TypeId}{agg:Bool}{n:Nat}(ha:fS P t=some agg)(hn:fK P t=some n){p:C}{H:bM}{v:TV}{aB:List Nat}{pv:Value}
  (hI:Inv S K w0 Kn φ (aC H) w) (hp:RC S w Kn φ p pv) (h:hO agg n p H=some (v,aB)):
  ∃val,(Instr.loadAt t pv).run P w=.ok val w/\ge S w Kn φ v val:=by
 unfold hO at h;split at h
 .rename_i cells;split at h
  .rename_i v' hv;obtain⟨rfl,rfl⟩:v'=v/\[]=aB:=by simpa using h
   rw[FX]at hv;cases hp with
   |d hd=>cases hd with|pt f hb hcell hrd=>obtain⟨val,h1,h2⟩:=wx (Kn:=Kn) (φ:=φ) (S:=S) ha hn (cells:=cells.map .d) (fun j x hj=>by rw[aM]at hj;obtain⟨d,hd,rfl⟩:=aK.1 hj;exact⟨_,hcell j d hd,.d (hrd j d hd)⟩) hv;exact⟨val,by simp[Instr.loadAt,Instr.sureAddr,h1],h2⟩
  .simp at h
 .rename_i id cU off
  have key:∀sz ao,(aC H id=some (.aP sz ao)\/aC H id=some (.qc sz ao))->
    (match ao[cU]?with|some r=>(match N1 agg n (r.drop off)with|some v=>some (v,[id])|none=>none)|none=>none)=some (v,aB)->
    ∃val,(Instr.loadAt t pv).run P w=.ok val w/\ge S w Kn φ v val:=by
   intro sz ao ho h;split at h
   .rename_i r hr;split at h
    .rename_i v' hv;obtain⟨rfl,rfl⟩:v'=v/\[id]=aB:=by simpa using h
     rw[FX]at hv;obtain⟨hl,hrl,hc⟩:=Ck hI ho hr off;cases hp with|ep hk=>obtain⟨val,h1,h2⟩:=wx ha hn hc hv;exact⟨val,by simp[Instr.loadAt,Instr.sureAddr,h1],h2⟩
    .simp at h
   .simp at h
  split at h
  .rename_i sz ao ho;exact key sz ao (.inl ho) h
  .rename_i sz ao ho;exact key sz ao (.inr ho) h
  .simp at h
 .rename_i id off;split at h
  .rename_i cells ho;split at h
   .rename_i v' hv;obtain⟨rfl,rfl⟩:v'=v/\[id]=aB:=by simpa using h
    obtain⟨hk,h0⟩:=hI.iN _ _ ho;cases h0 with
    |box hb hS hK hown hlen hrr=>cases hp with|op hk=>obtain⟨val,h1,h2⟩:=wx (S:=S) (Kn:=Kn) (φ:=φ) ha hn (cells:=cells.drop off) (b:=(φ id).cY) (o:=(φ id).aT+off) (fun j x hj=>by rw[bW]at hj;have hlt:=(aq.1 hj).1;rw[hlen]at hlt;refine⟨_,?_,hrr _ _ hj⟩;rw[hown.cell,hb];simp[kr,hlt]) hv;exact⟨val,by simp[Instr.loadAt,Instr.sureAddr,h1],h2⟩
   .simp at h
  .rename_i cells ho;split at h
   .rename_i v' hv;obtain⟨rfl,rfl⟩:v'=v/\[id]=aB:=by simpa using h
    rw[FX]at hv;obtain⟨hk,h0⟩:=hI.iN _ _ ho;cases h0 with
    |oV hb hS hrr=>cases hp with|op hk=>obtain⟨val,h1,h2⟩:=wx (S:=S) (Kn:=Kn) (φ:=φ) ha hn (cells:=(cells.drop off).map .d) (b:=(φ id).cY) (o:=(φ id).aT+off) (fun j x hj=>by rw[aM,bW]at hj;obtain⟨d,hd,rfl⟩:=aK.1 hj;obtain⟨u,hu,hr⟩:=hrr _ _ hd;exact⟨u,by rw[hb,<-hu];simp,.d hr⟩) hv;exact⟨val,by simp[Instr.loadAt,Instr.sureAddr,h1],h2⟩
   .simp at h
  .simp at h
 .simp at h
theorem Ap{w:World}{b:Nat}{old aP:Array Value}(h:pk w b old)(a:Addr):(w.setRow b aP).frozen? a=w.frozen? a:=by
 obtain⟨t,h⟩:=h;unfold World.frozen?;by_cases e:a.block=b
 .rw [e,setRow_heap w b old aP t _ h,h]
 .rw [setRow_other w b _ _ e]
theorem yT{w:World}{b:Nat}{old aP:Array Value}(h:pk w b old):pk (w.setRow b aP) b aP:=by obtain⟨t,h⟩:=h;exact⟨t,setRow_heap w b old aP t _ h⟩
theorem p6(v:Value):v.oneCell'=one v:=by cases v<;>rfl
theorem ge.cells{S:Nat->Prop}{w:World}{Kn:Nat->Prop}{φ:Nat->gI}{v:TV}{val:Value}{cs:List C}(h:ge S w Kn φ v val)(hc:cellsOf v=some cs):
  cs.length=val.cells.size/\(∀(i:Nat)(x:C),cs[i]?=some x->RC S w Kn φ x (val.cells.getD i undef))/\∀x∈val.cells.toList,one x=true:=by
 cases h with
 |@c x v h=>
  obtain rfl:[x]=cs:=by simpa[cellsOf]using hc
  have e:=vZ h.one;refine⟨by rw[e];rfl,fun i y hi=>?_,fun y hy=>?_⟩
  .cases i with
   |zero=>
    rw[e];obtain rfl:x=y:=by simpa using hi
    exact h
   |succ i=>simp at hi
  .rw [e]at hy;obtain rfl:y=val:=by simpa using hy
   exact h.one
 |@agg cs' aP hlen h=>
  obtain rfl:cs'=cs:=by simpa[cellsOf]using hc
  refine⟨hlen,h,fun y hy=>?_⟩;obtain⟨i,hi,rfl⟩:=cG hy;have hi':i<aP.size:=by simpa[Value.cells]using hi
  have:=(h i (cs'[i]'(by omega)) (by simp[hlen,hi'])).one;simpa[kr,hi',Value.cells]using this
 |iP hlen h=>simp[cellsOf]at hc
theorem Mu{t:TypeId}{n:Nat}(hn:fK P t=some n){b o:Nat}{aP:Array Value}{val:Value}(ho:pk w b aP)(hlen:val.cells.size=n)(hfit:o+n<=aP.size)
  (hone:∀x∈val.cells.toList,one x=true):
  (storeVar t ⟨b,o,none⟩ val).run P w=.ok () (w.setRow b (aP.toList.take o++val.cells.toList++aP.toList.drop (o+n)).toArray):=by
 obtain⟨ty,hb⟩:=ho;have:=run_storeCells_at P b o ty val.cells.toList 0 aP w hb (by simp;omega) (fun v hv=>by rw[p6];exact hone v hv);have e:val.cells.toList.length=n:=by simpa using hlen
 rw[e]at this;simp only[di]at this;simp only[storeVar,Sem.run_bind,gZ hn,Result.andThen_ok,hlen,ne_eq,not_true_eq_false,if_false];exact this
theorem jt{α:Type}(l:List α)(off:Nat)(p:List α)(hfit:off+p.length<=l.length)(i:Nat):
  (bg l off p)[i]?=if i<off then l[i]?else if i<off+p.length then p[i-off]?else l[i]?:=by
 unfold bg;by_cases h1:i<off
 .rw [List.append_assoc,bS (by simp;omega)];simp[h1]
 .by_cases h2:i<off+p.length
  .rw [bS (by simp;omega),bX (by simp;omega)];simp only[d_,h1,h2,if_true,if_false];congr 1;omega
  .rw [bX (by simp;omega)];simp only[List.length_append,d_,bW,h1,h2,if_false];congr 1;omega
theorem eN{α:Type}(l:List α)(off:Nat)(p:List α)(hfit:off+p.length<=l.length):(bg l off p).length=l.length:=by unfold bg;simp;omega
theorem OL{aP:Array Value}{vs:List Value}{o n:Nat}(hn:vs.length=n):aP.toList.take o++vs++aP.toList.drop (o+n)=bg aP.toList o vs:=by rw[<-hn];rfl
end
section
variable{S K:Nat->Prop}{w0 w:World}{Kn:Nat->Prop}{φ:Nat->gI}{hf:Nat->Option Ob}
theorem RD.AJ{sz:Nat}{ao:List (List D)}{b off len cap:Nat}(hb:S b)(hsz:0<sz)(hlen:ao.length=len)(hcap:len<=cap)
  (h:cT S w sz (fun i=>w.cell? ⟨b,i,none⟩) off ao):RD S w (.sl sz ao) (.slice (some ⟨b,off,none⟩) len cap):=by
 subst hlen;refine .sl (fun i j=>(w.cell? ⟨b,off+i*sz+j,none⟩).getD undef) hb hsz hcap h.1 (fun i r hi j x hj=>?_) (fun i r hi j x hj=>?_)
 .obtain ⟨v,hv,_⟩:=h.2 i r hi j x hj;simp only at hv;rw[hv];rfl
 .obtain ⟨v,hv,hr⟩:=h.2 i r hi j x hj;simp only at hv;rw[hv];exact hr
theorem RD.yQ{cells:List D}{b off:Nat}(hb:S b)(h:∀(j:Nat)(x:D),cells[j]?=some x->∃v,w.cell? ⟨b,off+j,none⟩=some v/\RD S w x v):
  RD S w (.pt cells) (.pointer (some ⟨b,off,none⟩)):=by
 refine .pt (fun j=>(w.cell? ⟨b,off+j,none⟩).getD undef) hb (fun j x hj=>?_) (fun j x hj=>?_)
 .obtain ⟨v,hv,_⟩:=h j x hj;rw[hv];rfl
 .obtain ⟨v,hv,hr⟩:=h j x hj;rw[hv];exact hr
def sh(w:World)(l:gI):List kX->Nat->List Nat
 |[],_=>[]
 |.bG _::r,k=>(match(w.cell? ⟨l.cY,l.aT+k,none⟩).bind xP with|some b=>b::sh w l r (k+1)|none=>sh w l r (k+1))
 |_::r,k=>sh w l r (k+1)
def ip(w:World)(φ:Nat->gI)(hf:Nat->Option Ob)(i:Nat):List Nat:=(φ i).cY::(match hf i with|some (.nst _ sl)=>sh w (φ i) sl 0|_=>[])
theorem Dk{l:gI}{x:Nat}:∀{sl:List kX}{k0:Nat},x∈sh w l sl k0<->∃k ao v,sl[k]?=some (.bG ao)/\w.cell? ⟨l.cY,l.aT+(k0+k),none⟩=some v/\xP v=some x:=by
 intro sl;induction sl with
 |nil=>intro k0;simp[sh]
 |cons s sl ih=>
  intro k0;have tl:(∃k ao v,sl[k]?=some (.bG ao)/\w.cell? ⟨l.cY,l.aT+(k0+1+k),none⟩=some v/\xP v=some x)->∃k ao v,(s::sl)[k]?=some (.bG ao)/\w.cell? ⟨l.cY,l.aT+(k0+k),none⟩=some v/\xP v=some x:=by rintro⟨k,ao,v,h1,h2,h3⟩;exact⟨k+1,ao,v,by simpa using h1,by rw[<-h2,show k0+(k+1)=k0+1+k by omega],h3⟩
  have key:(∀ao,s≠.bG ao)->((∃k ao v,(s::sl)[k]?=some (.bG ao)/\w.cell? ⟨l.cY,l.aT+(k0+k),none⟩=some v/\xP v=some x)->∃k ao v,sl[k]?=some (.bG ao)/\w.cell? ⟨l.cY,l.aT+(k0+1+k),none⟩=some v/\xP v=some x):=by rintro hs ⟨k,ao,v,h1,h2,h3⟩;cases k with|zero=>exact absurd (by simpa using h1) (hs ao)|succ k=>exact⟨k,ao,v,by simpa using h1,by rw[<-h2,show k0+(k+1)=k0+1+k by omega],h3⟩
  cases s with
  |nil=>exact ih.trans ⟨tl,key fun _ e=>by cases e⟩
  |cF id len=>exact ih.trans ⟨tl,key fun _ e=>by cases e⟩
  |bG rows0=>
   simp only[sh];constructor
   .intro hx;split at hx
    .rename_i b hb;rcases aQ.1 hx with rfl|hx
     .obtain ⟨v,h1,h2⟩:=ff.1 hb;exact⟨0,rows0,v,rfl,h1,h2⟩
     .exact tl (ih.1 hx)
    .exact tl (ih.1 hx)
   .rintro ⟨k,ao,v,h1,h2,h3⟩;cases k with
    |zero=>
     have e:(w.cell? ⟨l.cY,l.aT+k0,none⟩).bind xP=some x:=by rw[show l.aT+k0=l.aT+(k0+0)from rfl,h2];exact h3
     rw[e];simp
    |succ k=>
     have hm:=ih.2 ⟨k,ao,v,by simpa using h1,by rw[<-h2,show k0+(k+1)=k0+1+k by omega],h3⟩;split
     .exact aF _ hm
     .exact hm
theorem GX{l:gI}{x:Nat}{sl:List kX}:x∈sh w l sl 0<->∃k,sQ w l sl k x:=by rw[Dk];simp only[bN];exact Iff.rfl
theorem Fz{l:gI}:∀{sl:List kX}{k0:Nat},(∀k k' x ao rows' v v',sl[k]?=some (.bG ao)->w.cell? ⟨l.cY,l.aT+(k0+k),none⟩=some v->xP v=some x->sl[k']?=some (.bG rows')->w.cell? ⟨l.cY,l.aT+(k0+k'),none⟩=some v'->xP v'=some x->k=k')->(sh w l sl k0).Nodup:=by
 intro sl;induction sl with
 |nil=>intro k0 _;exact iX
 |cons s sl ih=>
  intro k0 h;have h':(sh w l sl (k0+1)).Nodup:=ih fun k k' x ao rows' v v' h1 h2 h3 h4 h5 h6=>by have:=h (k+1) (k'+1) x ao rows' v v' (by simpa using h1) (by rw[<-h2,show k0+(k+1)=k0+1+k by omega]) h3 (by simpa using h4) (by rw[<-h5,show k0+(k'+1)=k0+1+k' by omega]) h6;omega
  cases s with
  |nil=>exact h'
  |cF id len=>exact h'
  |bG rows0=>
   simp only[sh];split
   .rename_i b hb;refine fT.2 ⟨fun hm=>?_,h'⟩;obtain⟨v0,h1,h2⟩:=ff.1 hb;obtain⟨k,ao,v,h3,h4,h5⟩:=Dk.1 hm;have:=h 0 (k+1) b rows0 ao v0 v rfl h1 h2 (by simpa using h3) (by rw[<-h4,show k0+(k+1)=k0+1+k by omega]) h5;omega
   .exact h'
theorem dR{i x:Nat}:x∈ip w φ hf i<->x=(φ i).cY\/∃sz sl k,hf i=some (.nst sz sl)/\sQ w (φ i) sl k x:=by
 unfold ip;rw[aQ];refine or_congr_right ?_;split
 .rename_i sz sl h;rw[GX];exact⟨fun⟨k,hk⟩=>⟨sz,sl,k,h,hk⟩,fun⟨_,_,k,h1,hk⟩=>by rw[h]at h1;cases h1;exact⟨k,hk⟩⟩
 .rename_i h;exact⟨fun hx=>by simp at hx,fun⟨sz,sl,k,h1,_⟩=>(h sz sl h1).elim⟩
theorem oZ(hI:Inv S K w0 Kn φ hf w){i:Nat}{o:Ob}(ho:hf i=some o)(hown:cR o=true){x:Nat}(hx:x∈ip w φ hf i):¬S x/\¬K x/\x<w.heap.size:=by
 rcases dR.1 hx with rfl|⟨sz,sl,k,h1,h2⟩
 .exact (hI.iN i o ho).2.bG hown
 .obtain ⟨a,b,c,_⟩:=hI.H8 h1 h2;exact⟨a,b,c⟩
theorem oh(hI:Inv S K w0 Kn φ hf w){i j:Nat}{a b:Ob}(hi:hf i=some a)(hj:hf j=some b)(ha:cR a=true)(hb:cR b=true)(hne:i≠j){x:Nat}(hx:x∈ip w φ hf i):x∉ip w φ hf j:=by
 intro hy;rcases dR.1 hx with rfl|⟨sz,sl,k,h1,h2⟩<;>rcases dR.1 hy with e|⟨sz',sl',k',h3,h4⟩
 .exact hI.jE i j a b hi hj ha hb hne e
 .exact (hI.xq j sz' sl' k' _ h3 h4).1 i a hi ha rfl
 .subst e;exact(hI.xq i sz sl k _ h1 h2).1 j b hj hb rfl
 .exact hne (((hI.xq i sz sl k x h1 h2).2 j sz' sl' k' h3 h4).1).symm
theorem GC(hI:Inv S K w0 Kn φ hf w){i:Nat}{o:Ob}(ho:hf i=some o)(hown:cR o=true):(ip w φ hf i).Nodup:=by
 unfold ip;refine fT.2 ⟨fun hm=>?_,?_⟩
 .split at hm
  .rename_i sz sl h;obtain⟨k,hk⟩:=GX.1 hm;exact(hI.xq i sz sl k _ h hk).1 i o ho hown rfl
  .simp at hm
 .split
  .rename_i sz sl h;refine Fz fun k k' x ao rows' v v' h1 h2 h3 h4 h5 h6=>?_;rw[bN]at h2 h5;exact(((hI.xq i sz sl k x h ⟨ao,v,h1,h2,h3⟩).2 i sz sl k' h ⟨rows',v',h4,h5,h6⟩).2).symm
  .exact iX
theorem kR(i:Nat):(φ i).cY∈ip w φ hf i:=dR.2 (.inl rfl)
def SB(S:Nat->Prop)(w:World)(φ:Nat->gI)(hf:Nat->Option Ob)(aB:List Nat)(b:Nat):Prop:=S b\/∃i∈aB,b∈ip w φ hf i
theorem SB.CA(a b:List Nat)(h:∀i∈a,i∈b):gU (SB S w φ hf a) w (SB S w φ hf b) w:=⟨fun _ hb=>hb.imp id fun⟨i,hi,e⟩=>⟨i,h i hi,e⟩,fun _ _=>rfl⟩
theorem SB.uR(b:List Nat):gU S w (SB S w φ hf b) w:=⟨fun _ hb=>.inl hb,fun _ _=>rfl⟩
theorem Hu.rd{sz b:Nat}{ao:List (List D)}{v:Value}(h:Hu S w sz ao v b){T:Nat->Prop}(hT:gU S w T w)(hb:T b):RD T w (.sl sz ao) v:=by obtain⟨addr,cap,aP,rfl,h2,h3,h4,_,h6⟩:=h;exact .AJ hb h2 rfl h4 ⟨h6.1,fun i r hi j x hj=>let⟨v,hv,hr⟩:=h6.2 i r hi j x hj;⟨v,(h3.cell _).trans hv,hr.mono hT⟩⟩
theorem DH{l:gI}{szi:Nat}{slots:List kX}(h:RO S K w Kn φ l (.nst szi slots)){ao:List (List D)}(hd:qS szi slots=some ao){T:Nat->Prop}(hT:gU S w T w)(hp:∀k x,sQ w l slots k x->T x):
  ao.length=slots.length/\cT T w 1 (fun i=>w.cell? ⟨l.cY,i,none⟩) l.aT ao:=by
 have key:∀(slots:List kX)(ao:List (List D)),qS szi slots=some ao->ao.length=slots.length/\∀(i:Nat)(r:List D),ao[i]?=some r->∃s x,slots[i]?=some s/\JF szi s=some x/\r=[x]:=by
  intro slots;induction slots with
  |nil=>intro ao h;obtain rfl:=aa h;exact⟨rfl,fun i r hi=>by simp at hi⟩
  |cons s slots ih=>
   intro ao h;simp only[qS]at h;split at h
   .rename_i x l hx hl;obtain rfl:=aa h;obtain⟨h1,h2⟩:=ih l hl;refine⟨by simp[h1],fun i r hi=>?_⟩;cases i with|zero=>exact⟨s,x,rfl,hx,(by simpa using hi:[x]=r).symm⟩|succ i=>obtain⟨s',x',e1,e2,e3⟩:=h2 i r (by simpa using hi);exact⟨s',x',by simpa using e1,e2,e3⟩
   .simp at h
 obtain⟨k1,k2⟩:=key slots ao hd;cases h with
 |nst hsz hl hS hK ho hext hfit hr hv=>
  refine⟨k1,fun i r hi=>by obtain⟨_,_,_,_,rfl⟩:=k2 i r hi;rfl,fun i r hi j x hj=>?_⟩;obtain⟨s,y,e1,e2,rfl⟩:=k2 i r hi;cases j with
  |succ j=>simp at hj
  |zero=>
   obtain rfl:y=x:=by simpa using hj
   obtain⟨v,h1,h2⟩:=hr i s e1;refine⟨v,by rw[mP,di];exact(ho.cell _).trans h1,?_⟩;cases h2 with|nil=>obtain rfl:=aa e2;exact .lit rfl|@bG rows' _ b h3 _ _=>obtain rfl:=aa e2;exact h3.rd hT (hp i b ⟨rows',v,e1,(ho.cell _).trans h1,h3.cY⟩)|cF _=>simp[JF]at e2
theorem nN{id sz:Nat}{ao:List (List D)}(hI:Inv S K w0 Kn φ hf w)(ho:hf id=some (.aP sz ao)\/hf id=some (.qc sz ao)):
  0<sz/\(φ id).sz=sz/\cT S w sz (fun i=>w.cell? ⟨(φ id).cY,i,none⟩) (φ id).aT ao:=by
 rcases ho with ho|ho
 .obtain ⟨_,h0⟩:=hI.iN _ _ ho;cases h0 with|aP hsz hl hS hK hown hext hfit hrr=>exact⟨hsz,hl,hrr.1,fun i r hi j x hj=>let⟨v,hv,hr⟩:=hrr.2 i r hi j x hj;⟨v,(hown.cell _).trans hv,hr⟩⟩
 .obtain ⟨_,h0⟩:=hI.iN _ _ ho;cases h0 with|qc hsz hl hS hrr=>exact⟨hsz,hl,hrr⟩
theorem cT.sub{sz aT:Nat}{get:Nat->Option Value}{ao:List (List D)}(h:cT S w sz get aT ao)(off len:Nat):
  cT S w sz get (aT+off*sz) ((ao.drop off).take len):=by
 have key:∀i(r:List D),((ao.drop off).take len)[i]?=some r->ao[off+i]?=some r:=by
  intro i r hi;rw[eJ]at hi;split at hi
  .rwa [bW]at hi
  .simp at hi
 refine⟨fun i r hi=>h.1 _ _ (key i r hi),fun i r hi j x hj=>?_⟩;obtain⟨v,hv,hr⟩:=h.2 _ _ (key i r hi) j x hj;refine⟨v,?_,hr⟩;rw[<-hv];congr 1;rw[Nat.add_mul];omega
theorem cT.xI{sz aT addr:Nat}{get:Nat->Option Value}{ao:List (List D)}(h:cT S w sz get aT ao)(off len:Nat)(ha:0<len->addr=aT+off*sz):
  cT S w sz get addr ((ao.drop off).take len):=by
 cases len with|zero=>exact⟨fun i r hi=>by simp at hi,fun i r hi=>by simp at hi⟩|succ n=>rw[ha (Nat.succ_pos _)];exact h.sub off _
theorem CI{sz id off len:Nat}{ao:List (List D)}{v:Value}{szo:Nat}(hI:Inv S K w0 Kn φ hf w)(hc:RC S w Kn φ (.fh sz id off len) v)
  (ho:hf id=some (.aP szo ao)\/hf id=some (.qc szo ao)) (hle:off+len<=ao.length) {T:Nat->Prop} (hT:gU S w T w) (hb:T (φ id).cY):
  RD T w (.sl sz ((ao.drop off).take len)) v:=by
 obtain⟨hsz,hl,hr⟩:=nN hI ho;subst hl;cases hc with|fh hk hcap haddr hext=>exact .AJ hb hsz (by simp;omega) hcap ((hr.xI off len fun h=>haddr (by omega)).mono hT)
theorem Me{id cU off sz:Nat}{ao:List (List D)}{r:List D}{v:Value}(hI:Inv S K w0 Kn φ hf w)(hc:RC S w Kn φ (.ep id cU off) v)
  (ho:hf id=some (.aP sz ao)\/hf id=some (.qc sz ao)) (hr:ao[cU]?=some r) {T:Nat->Prop} (hT:gU S w T w) (hb:T (φ id).cY):
  RD T w (.pt (r.drop off)) v:=by
 obtain⟨hsz,hl,hrr⟩:=nN hI ho;cases hc with|ep hk=>refine .yQ hb fun j x hj=>?_;rw[bW]at hj;obtain⟨u,hu,hd⟩:=hrr.2 cU r hr (off+j) x hj;refine⟨u,?_,hd.mono hT⟩;rw[<-hu,hl];simp only[db]
theorem AC{H:bM}(hI:Inv S K w0 Kn φ (aC H) w)(n:Nat)(c:C)(x:D)(aB:List Nat)(v:Value)(hleaf:match c with|.op _ _|.po _ _=>False|_=>True)
  (h:dW H n c=some (x,aB)) (hc:RC S w Kn φ c v):RD (SB S w φ (aC H) aB) w x v:=by
 cases c with
 |d y=>simp only[dW,bE,Prod.mk.injEq]at h;obtain⟨rfl,rfl⟩:=h;cases hc with|d hd=>exact hd.mono (SB.uR _)
 |fh sz id off len=>
  simp only[dW]at h
  have key:∀szo ao,(aC H id=some (.aP szo ao)\/aC H id=some (.qc szo ao))->(if off+len<=ao.length then some (D.sl sz ((ao.drop off).take len),[id])else none)=some (x,aB)->RD (SB S w φ (aC H) aB) w x v:=by
   intro szo ao ho h;split at h
   .rename_i hle;obtain⟨rfl,rfl⟩:=ad (aa h);exact CI hI hc ho hle (SB.uR _) (.inr ⟨_,by simp,kR _⟩)
   .simp at h
  split at h
  .exact key _ _ (.inl (by assumption)) h
  .exact key _ _ (.inr (by assumption)) h
  .rename_i szi slots ho;split at h
   .rename_i he;obtain⟨rfl,rfl⟩:=he;split at h
    .rename_i ao hd;obtain⟨rfl,rfl⟩:=ad (aa h);obtain⟨_,hro⟩:=hI.iN _ _ ho;obtain⟨h1,h2⟩:=DH hro hd (SB.uR (hf:=aC H) (φ:=φ) [id]) fun k x hp=>.inr ⟨id,by simp,dR.2 (.inr ⟨szi,slots,k,ho,hp⟩)⟩;cases hro with
     |nst hsz hl=>
      cases hc with
      |fh hk hcap haddr hext=>rw[hl];refine .AJ (.inr ⟨id,by simp,kR id⟩) Nat.one_pos h1 hcap ?_;cases hs:slots with|nil=>have:ao=[]:=List.length_eq_zero_iff.1 (by rw[h1,hs];rfl);rw[this];exact⟨fun i r hi=>by simp at hi,fun i r hi=>by simp at hi⟩|cons s r=>rw[hs]at hcap;have:=haddr (by simp at hcap;omega);rw[this,hl,jr,di];exact h2
    .simp at h
   .simp at h
  .simp at h
 |ep id cU off=>
  simp only[dW]at h
  have key:∀szo ao,(aC H id=some (.aP szo ao)\/aC H id=some (.qc szo ao))->
    (match ao[cU]?with|some r=>if off<=r.length then some (D.pt (r.drop off),[id])else none|none=>none)=some (x,aB)->RD (SB S w φ (aC H) aB) w x v:=by
   intro szo ao ho h;split at h
   .rename_i r hr;split at h
    .obtain ⟨rfl,rfl⟩:=ad (aa h);exact Me hI hc ho hr (SB.uR _) (.inr ⟨_,by simp,kR _⟩)
    .simp at h
   .simp at h
  split at h
  .exact key _ _ (.inl (by assumption)) h
  .exact key _ _ (.inr (by assumption)) h
  .simp at h
 |op id off=>exact hleaf.elim
 |po f caps=>exact hleaf.elim
 |om id=>cases n<;>simp[dW]at h
theorem uM{H:bM}(hI:Inv S K w0 Kn φ (aC H) w):∀n,
  (∀c x aB v,dW H n c=some (x,aB)->RC S w Kn φ c v->RD (SB S w φ (aC H) aB) w x v)/\
  (∀cs xs aB,fU H n cs=some (xs,aB)->∀(get:Nat->Option Value),(∀(i:Nat)(c:C),cs[i]?=some c->∃v,get i=some v/\RC S w Kn φ c v)->
   xs.length=cs.length/\∀(i:Nat)(x:D),xs[i]?=some x->∃v,get i=some v/\RD (SB S w φ (aC H) aB) w x v):=by
 intro n;induction n with
 |zero=>
  refine⟨fun c x aB v h hc=>?_,fun cs xs aB h get hg=>?_⟩
  .cases c with|op id off=>simp[dW]at h|po f caps=>simp[dW]at h|_=>exact AC hI 0 _ x aB v trivial h hc
  .cases cs with
   |nil=>
    obtain⟨rfl,rfl⟩:[]=xs/\[]=aB:=by simpa[fU]using h
    exact⟨rfl,fun i x hi=>by simp at hi⟩
   |cons c cs=>simp[fU]at h
 |succ n ih=>
  obtain⟨ihc,ihl⟩:=ih;refine⟨fun c x aB v h hc=>?_,fun cs xs aB h get hg=>?_⟩
  .cases c with
   |op id off=>
    simp only[dW]at h;split at h
    .rename_i cells ho;split at h
     .obtain ⟨rfl,rfl⟩:=ad (aa h);obtain⟨_,h0⟩:=hI.iN _ _ ho;cases h0 with
      |oV hb hS hr=>cases hc with|op hk=>refine .yQ (.inl hS) fun j x hj=>?_;rw[bW]at hj;obtain⟨u,hu,hd⟩:=hr _ _ hj;exact⟨u,by rw[<-hu,hb,bN],hd.mono (SB.uR _)⟩
     .simp at h
    .rename_i cells ho;split at h
     .rename_i ds ids' hv;split at h
      .obtain ⟨rfl,rfl⟩:=ad (aa h);obtain⟨_,h0⟩:=hI.iN _ _ ho;cases h0 with
       |@box _ aP hb hS hK hown hlen hr=>cases hc with|op hk=>obtain⟨h1,h2⟩:=ihl cells ds ids' hv (fun i=>w.cell? ⟨(φ id).cY,i,none⟩) (fun i c hi=>by have hlt:=(aq.1 hi).1;rw[hlen]at hlt;exact⟨aP.getD i undef,by rw[hown.cell];simp[kr,hlt],hr i c hi⟩);refine .yQ (.inr ⟨id,by simp,kR _⟩) fun j x hj=>?_;rw[bW]at hj;obtain⟨u,hu,hd⟩:=h2 _ _ hj;exact⟨u,by rw[<-hu,hb,bN],hd.mono (SB.CA _ _ fun i hi=>by simp[hi])⟩
      .simp at h
     .simp at h
    .simp at h
   |po f caps=>
    simp only[dW]at h;split at h
    .rename_i ds ids' hv;obtain⟨rfl,rfl⟩:=ad (aa h);cases hc with
     |@po _ _ vs hlen hr=>
      obtain⟨h1,h2⟩:=ihl caps ds ids' hv (fun i=>vs[i]?) (fun i c hi=>by have hlt:=(aq.1 hi).1;rw[hlen]at hlt;exact⟨vs.getD i undef,by simp[kr,hlt],hr i c hi⟩);refine .fn (h1.trans hlen) fun j x hj=>?_;obtain⟨u,hu,hd⟩:=h2 j x hj;have hu':vs[j]?=some u:=hu;have:vs.getD j undef=u:=by simp[hu']
      rw[this];exact hd
    .simp at h
   |_=>exact AC hI (n+1) _ x aB v trivial h hc
  .cases cs with
   |nil=>
    obtain⟨rfl,rfl⟩:[]=xs/\[]=aB:=by simpa[fU]using h
    exact⟨rfl,fun i x hi=>by simp at hi⟩
   |cons c cs=>
    simp only[fU]at h;split at h
    .rename_i x0 a xs0 b hx hxs;obtain⟨rfl,rfl⟩:=ad (aa h);obtain⟨v0,hv0,hc0⟩:=hg 0 c rfl;have h0:=ihc c x0 a v0 hx hc0;obtain⟨h1,h2⟩:=ihl cs xs0 b hxs (fun i=>get (i+1)) (fun i c hi=>hg (i+1) c (by simpa using hi));refine⟨by simp[h1],fun i x hi=>?_⟩;cases i with
     |zero=>
      obtain rfl:x0=x:=by simpa using hi
      exact⟨v0,hv0,h0.mono (SB.CA _ _ fun i hi=>by simp[hi])⟩
     |succ i=>obtain⟨u,hu,hd⟩:=h2 i x (by simpa using hi);exact⟨u,hu,hd.mono (SB.CA _ _ fun i hi=>by simp[hi])⟩
    .simp at h
theorem rR{H:bM}(hI:Inv S K w0 Kn φ (aC H) w):∀cs xs aB,dQ H cs=some (xs,aB)->∀(get:Nat->Option Value),(∀(i:Nat)(c:C),cs[i]?=some c->∃v,get i=some v/\RC S w Kn φ c v)->
   xs.length=cs.length/\∀(i:Nat)(x:D),xs[i]?=some x->∃v,get i=some v/\RD (SB S w φ (aC H) aB) w x v:=by
 intro cs;induction cs with
 |nil=>
  intro xs aB h get hg;obtain⟨rfl,rfl⟩:[]=xs/\[]=aB:=by simpa[dQ]using h
  exact⟨rfl,fun i x hi=>by simp at hi⟩
 |cons c cs ih=>
  intro xs aB h get hg;simp only[dQ]at h;split at h
  .rename_i x0 a xs0 b hx hxs;obtain⟨rfl,rfl⟩:=ad (aa h);obtain⟨v0,hv0,hc0⟩:=hg 0 c rfl;have h0:=(uM hI 300).1 c x0 a v0 hx hc0;obtain⟨h1,h2⟩:=ih xs0 b hxs (fun i=>get (i+1)) (fun i c hi=>hg (i+1) c (by simpa using hi));refine⟨by simp[h1],fun i x hi=>?_⟩;cases i with
   |zero=>
    obtain rfl:x0=x:=by simpa using hi
    exact⟨v0,hv0,h0.mono (SB.CA _ _ fun i hi=>by simp[hi])⟩
   |succ i=>obtain⟨u,hu,hd⟩:=h2 i x (by simpa using hi);exact⟨u,hu,hd.mono (SB.CA _ _ fun i hi=>by simp[hi])⟩
  .simp at h
theorem ly{H:bM}{all:List Nat}:∀(l:List Nat)(u:fA),dZ H all l=some u->
  ∀id,(id∈l->∃o,jY H all id=some o/\cz u id=some (some o))/\(id∉l->cz u id=none):=by
 intro l;induction l with
 |nil=>
  intro u h id;obtain rfl:[]=u:=by simpa[dZ]using h
  exact⟨fun h=>by simp at h,fun _=>rfl⟩
 |cons a l ih=>
  intro u h id;simp only[dZ]at h;split at h
  .rename_i o u' ho hu;obtain rfl:=aa h;by_cases e:a=id
   .subst e;exact⟨fun _=>⟨o,ho,by simp[cz]⟩,fun hn=>absurd (List.mem_cons_self ..) hn⟩
   .obtain ⟨h1,h2⟩:=ih u' hu id;have e':(a==id)=false:=by simpa using e
    refine⟨fun hm=>?_,fun hn=>?_⟩
    .obtain ⟨o',ho',hf'⟩:=h1 ((aQ.1 hm).resolve_left (fun e2=>e e2.symm));exact⟨o',ho',by simp[cz,e',hf']⟩
    .simp only[cz,e',cond_false];exact h2 (fun hm=>hn (aF _ hm))
  .simp at h
theorem A6{H:bM}{all:List Nat}{id:Nat}{o:Ob}(hI:Inv S K w0 Kn φ (aC H) w)(hmem:id∈all)(h:jY H all id=some o):
  cR o=false/\(∃o0,aC H id=some o0)/\RO (SB S w φ (aC H) all) K w Kn φ (φ id) o:=by
 unfold jY at h;have hb:SB S w φ (aC H) all (φ id).cY:=.inr ⟨id,hmem,kR _⟩;split at h
 .rename_i sz ao ho;obtain rfl:=aa h;obtain⟨hsz,hl,hr⟩:=nN hI (.inl ho);exact⟨rfl,⟨_,ho⟩,.qc hsz hl hb (hr.mono (SB.uR _))⟩
 .rename_i sz ao ho;obtain rfl:=aa h;obtain⟨hsz,hl,hr⟩:=nN hI (.inr ho);exact⟨rfl,⟨_,ho⟩,.qc hsz hl hb (hr.mono (SB.uR _))⟩
 .rename_i cells ho;obtain rfl:=aa h;obtain⟨_,h0⟩:=hI.iN _ _ ho;cases h0 with|oV hbase hS hr=>exact⟨rfl,⟨_,ho⟩,.oV hbase hb fun i x hi=>let⟨v,hv,hd⟩:=hr i x hi;⟨v,hv,hd.mono (SB.uR _)⟩⟩
 .rename_i cells ho;split at h
  .rename_i ds aB hv;split at h
   .rename_i hall;obtain rfl:=aa h;obtain⟨_,h0⟩:=hI.iN _ _ ho;cases h0 with|@box _ aP hbase hS hK hown hlen hr=>obtain⟨h1,h2⟩:=(uM hI 300).2 cells ds aB hv (fun i=>w.cell? ⟨(φ id).cY,i,none⟩) (fun i c hi=>by have hlt:=(aq.1 hi).1;rw[hlen]at hlt;exact⟨aP.getD i undef,by rw[hown.cell];simp[kr,hlt],hr i c hi⟩);refine⟨rfl,⟨_,ho⟩,.oV hbase hb fun i x hi=>?_⟩;obtain⟨u,hu,hd⟩:=h2 i x hi;exact⟨u,hu,hd.mono (SB.CA _ _ fun i hi=>by simpa using bq.1 hall i hi)⟩
   .simp at h
  .simp at h
 .simp at h
 .simp at h
 .rename_i szi slots ho;split at h
  .rename_i ao hd;obtain rfl:=aa h;obtain⟨_,hro⟩:=hI.iN _ _ ho;obtain⟨_,h2⟩:=DH hro hd (SB.uR (hf:=aC H) (φ:=φ) all) fun k x hp=>.inr ⟨id,hmem,dR.2 (.inr ⟨szi,slots,k,ho,hp⟩)⟩;cases hro with|nst hsz hl=>exact⟨rfl,⟨_,ho⟩,.qc Nat.one_pos hl hb h2⟩
  .simp at h
 .simp at h
theorem Inv.Gb{H:bM}{aB:List Nat}{u:fA}(hI:Inv S K w0 Kn φ (aC H) w)(h:dZ H aB aB=some u):
  Inv (SB S w φ (aC H) aB) K w0 Kn φ (bA u (aC H)) w:=by
 have hfr:∀id∈aB,∃o,cz u id=some (some o)/\cR o=false/\(∃o0,aC H id=some o0)/\RO (SB S w φ (aC H) aB) K w Kn φ (φ id) o:=by
  intro id hid;obtain⟨o,ho,hfn⟩:=((ly aB u h id).1 hid)
  exact⟨o,hfn,A6 hI hid ho⟩
 have hold:∀id o,bA u (aC H) id=some o->cR o=true->id∉aB/\aC H id=some o:=by
  intro id o ho hown;by_cases hm:id∈aB
  .obtain ⟨o',hfn,hno,_⟩:=hfr id hm;simp only[bA,hfn]at ho;obtain rfl:=aa ho;rw[hno]at hown;simp at hown
  .refine ⟨hm,?_⟩;simpa only[bA,(ly aB u h id).2 hm]using ho
 have hnb:∀id o,aC H id=some o->cR o=true->id∉aB->∀x∈ip w φ (aC H) id,¬SB S w φ (aC H) aB x:=by
  intro id o ho hown hm x hx hb;have hx1:=(oZ hI ho hown hx).1;rcases hb with hb|⟨i,hi,e⟩
  .exact hx1 hb
  .obtain ⟨_,_,_,⟨o0,ho0⟩,_⟩:=hfr i hi;by_cases hoi:cR o0=true
   .exact oh hI ho ho0 hown hoi (fun e'=>hm (e'▸hi)) hx e
   .obtain ⟨_,h1⟩:=hI.iN i o0 ho0;rcases dR.1 e with rfl|⟨sz,sl,k,h2,_⟩
    .exact hx1 (by
      cases h1 with
      |qc hsz hl hS _=>exact hS
      |oV hb hS _=>exact hS
      |_=>simp[cR]at hoi)
    .rw [ho0]at h2;obtain rfl:=aa h2;simp[cR]at hoi
 refine hI.ja (SB.uR _) (up.refl _ _) ?_ ?_ hI.nD ?_ ?_ ?_
 .intro b hb;rcases hb with hb|⟨i,hi,hb⟩
  .exact hI.vn b hb
  .obtain ⟨_,_,_,⟨o0,ho0⟩,_⟩:=hfr i hi;by_cases hoi:cR o0=true
   .exact (oZ hI ho0 hoi hb).2.2
   .obtain ⟨_,h1⟩:=hI.iN i o0 ho0;rcases dR.1 hb with rfl|⟨sz,sl,k,h2,h3⟩
    .cases h1 with|qc hsz hl hS=>exact hI.vn _ hS|oV hb hS=>exact hI.vn _ hS|_=>simp[cR]at hoi
    .exact (hI.H8 h2 h3).2.2.1
 .intro b hb;rcases hb with hb|⟨i,hi,hb⟩
  .exact hI.sk b hb
  .obtain ⟨_,_,_,⟨o0,ho0⟩,_⟩:=hfr i hi;by_cases hoi:cR o0=true
   .exact (oZ hI ho0 hoi hb).2.1
   .obtain ⟨_,h1⟩:=hI.iN i o0 ho0;rcases dR.1 hb with rfl|⟨sz,sl,k,h2,h3⟩
    .cases h1 with|qc hsz hl hS=>exact hI.sk _ hS|oV hb hS=>exact hI.sk _ hS|_=>simp[cR]at hoi
    .exact (hI.H8 h2 h3).2.1
 .intro id o ho;by_cases hm:id∈aB
  .obtain ⟨o',hfn,hno,⟨o0,ho0⟩,hro⟩:=hfr id hm;simp only[bA,hfn]at ho;obtain rfl:=aa ho;exact .inr ⟨(hI.iN id o0 ho0).1,hro⟩
  .have ho':aC H id=some o:=by simpa only[bA,(ly aB u h id).2 hm]using ho
   exact .inl ⟨ho',fun hown=>⟨rfl,hnb id o ho' hown hm _ (kR _)⟩⟩
 .intro i j a b ha hb hoa hob hne;exact hI.jE i j a b (hold i a ha hoa).2 (hold j b hb hob).2 hoa hob hne
 .intro id sz sl hi;obtain⟨h1,h2⟩:=hold id _ hi rfl;refine⟨h2,rfl,fun k x hp=>⟨rfl,hnb id _ h2 rfl h1 x (dR.2 (.inr ⟨sz,sl,k,h2,hp⟩)),fun j b hj hb=>?_⟩⟩;exact(hI.xq id sz sl k x h2 hp).1 j b (hold j b hj hb).2 hb
end
def Cy(S:Nat->Prop)(w:World)(sz:Nat):Option (List (List D))->Value->List Nat->Prop
 |none,v,fp=>v=.slice none 0 0/\fp=[]
 |some ao,v,fp=>∃b,fp=[b]/\Hu S w sz ao v b
inductive RT(S:Nat->Prop)(w:World):T->Value->List Nat->Prop
 |d {x:D} {v:Value} (h:RD S w x v):RT S w (.d x) v []
 |sl {sz:Nat} {ao:List (List D)} {b off len cap:Nat} {aP:Array Value} (hsz:0<sz) (ho:pk w b aP) (hlen:ao.length=len) (hcap:len<=cap)
   (hext:off+cap*sz<=aP.size) (hr:cT S w sz (fun i=>aP[i]?) off ao):RT S w (.sl sz ao) (.slice (some ⟨b,off,none⟩) len cap) [b]
 |pt {ts:List T} {b:Nat} {aP:Array Value} {fps:List (List Nat)} (ho:pk w b aP) (hlen:ts.length=aP.size) (hfl:fps.length=ts.length)
   (h:∀(i:Nat)(t:T)(fp:List Nat),ts[i]?=some t->fps[i]?=some fp->RT S w t (aP.getD i undef) fp):
   RT S w (.pt ts) (.pointer (some ⟨b,0,none⟩)) (b::fps.flatten)
 |zZ {sz:Nat} {ao:List (Option (List (List D)))} {b off cap:Nat} {aP:Array Value} {fps:List (List Nat)} (hsz:0<sz) (ho:pk w b aP) (hcap:ao.length<=cap) (hext:off+cap<=aP.size) (hfl:fps.length=ao.length)
   (h:∀(i:Nat)(r:Option (List (List D)))(fp:List Nat),ao[i]?=some r->fps[i]?=some fp->∃v,aP[off+i]?=some v/\Cy S w sz r v fp):
   RT S w (.zZ sz ao) (.slice (some ⟨b,off,none⟩) ao.length cap) (b::fps.flatten)
theorem Cy.mono{S S':Nat->Prop}{w w':World}(hs:gU S w S' w'){sz:Nat}{r:Option (List (List D))}{v:Value}{fp:List Nat}(h:Cy S w sz r v fp)(hb:∀b∈fp,w'.heap[b]?=w.heap[b]?):Cy S' w' sz r v fp:=by cases r with|none=>exact h|some ao=>obtain⟨b,rfl,h⟩:=h;exact⟨b,rfl,h.mono hs (hb b (by simp))⟩
theorem Cy.lt{S:Nat->Prop}{w:World}{sz:Nat}{r:Option (List (List D))}{v:Value}{fp:List Nat}(h:Cy S w sz r v fp):∀b∈fp,b<w.heap.size:=by cases r with|none=>obtain⟨_,rfl⟩:=h;intro b hb;simp at hb|some ao=>obtain⟨b,rfl,h⟩:=h;intro b' hb;obtain rfl:=av.1 hb;obtain⟨aP,h⟩:=h.bG;exact h.lt
theorem RT.mono{S S':Nat->Prop}{w w':World}(hs:gU S w S' w'){t:T}{v:Value}{fp:List Nat}(h:RT S w t v fp)(hb:∀b∈fp,w'.heap[b]?=w.heap[b]?):RT S' w' t v fp:=by induction h with|d h=>exact .d (h.mono hs)|sl hsz ho hlen hcap hext hr=>exact .sl hsz (ho.nc (hb _ (by simp))) hlen hcap hext (hr.mono hs)|pt ho hlen hfl h ih=>refine .pt (ho.nc (hb _ (by simp))) hlen hfl fun i t fp hi hf=>ih i t fp hi hf fun b hbm=>hb b ?_;exact aF _ (dL.2 ⟨fp,bk hf,hbm⟩)|zZ hsz ho hcap hext hfl h=>refine .zZ hsz (ho.nc (hb _ (by simp))) hcap hext hfl fun i r fp hi hf=>?_;obtain⟨v,h1,h2⟩:=h i r fp hi hf;exact⟨v,h1,h2.mono hs fun b hbm=>hb b (aF _ (dL.2 ⟨fp,bk hf,hbm⟩))⟩
theorem RT.lt{S:Nat->Prop}{w:World}{t:T}{v:Value}{fp:List Nat}(h:RT S w t v fp):∀b∈fp,b<w.heap.size:=by
 induction h with
 |d h=>intro b hb;simp at hb
 |sl hsz ho=>intro b hb;obtain rfl:=av.1 hb;exact ho.lt
 |pt ho hlen hfl h ih=>
  intro b hb;rcases aQ.1 hb with rfl|hb
  .exact ho.lt
  .obtain ⟨fp,hfp,hbf⟩:=dL.1 hb;obtain⟨i,hi,rfl⟩:=cG hfp;exact ih i _ _ (aE (by omega:i<_)) (aE hi) b hbf
 |zZ hsz ho hcap hext hfl h=>
  intro b hb;rcases aQ.1 hb with rfl|hb
  .exact ho.lt
  .obtain ⟨fp,hfp,hbf⟩:=dL.1 hb;obtain⟨i,hi,rfl⟩:=cG hfp;obtain⟨v,_,h2⟩:=h i _ _ (aE (by omega:i<_)) (aE hi);exact h2.lt b hbf
section
variable{S K:Nat->Prop}{w0 w:World}{Kn:Nat->Prop}{φ:Nat->gI}{hf:Nat->Option Ob}
theorem ql{id:Nat}(h:∀sz sl,hf id≠some (.nst sz sl)):ip w φ hf id=[(φ id).cY]:=by
 unfold ip;split
 .rename_i sz sl e;exact absurd e (h sz sl)
 .rfl
theorem HJ{l:gI}{sz:Nat}{get:Nat->Option Value}(hget:∀i,w.cell? ⟨l.cY,i,none⟩=get i):∀(slots:List kX)(k0:Nat)(ao:List (Option (List (List D)))),(∀(i:Nat)(s:kX),slots[i]?=some s->∃v,get (l.aT+(k0+i))=some v/\zV S K w Kn φ sz s v)->uU slots=some ao->
  ao.length=slots.length/\∃fps:List (List Nat),fps.length=ao.length/\fps.flatten=sh w l slots k0/\∀(i:Nat)(r:Option (List (List D)))(fp:List Nat),ao[i]?=some r->fps[i]?=some fp->∃v,get (l.aT+(k0+i))=some v/\Cy S w sz r v fp:=by
 intro slots;induction slots with
 |nil=>intro k0 ao _ h;obtain rfl:=aa h;exact⟨rfl,[],rfl,rfl,fun i r fp hi=>by simp at hi⟩
 |cons s slots ih=>
  intro k0 ao hr h;simp only[uU]at h;split at h
  .rename_i x rs hx hrs;obtain rfl:=aa h;obtain⟨h1,fps,h2,h3,h4⟩:=ih (k0+1) rs (fun i s hi=>by obtain⟨v,e1,e2⟩:=hr (i+1) s (by simpa using hi);exact⟨v,by rw[<-e1,show k0+(i+1)=k0+1+i by omega],e2⟩) hrs;obtain⟨v,e1,e2⟩:=hr 0 s rfl
   have fin:∀fp0,Cy S w sz x v fp0->fp0++sh w l slots (k0+1)=sh w l (s::slots) k0->(x::rs).length=(s::slots).length/\∃fps:List (List Nat),fps.length=(x::rs).length/\fps.flatten=sh w l (s::slots) k0/\∀(i:Nat)(r:Option (List (List D)))(fp:List Nat),(x::rs)[i]?=some r->fps[i]?=some fp->∃v,get (l.aT+(k0+i))=some v/\Cy S w sz r v fp:=by
    intro fp0 h5 h6;refine⟨by simp[h1],fp0::fps,by simp[h2],by rw[ei,h3,h6],fun i r fp hi hf=>?_⟩;cases i with
    |zero=>
     obtain rfl:x=r:=by simpa using hi
     obtain rfl:fp0=fp:=by simpa using hf
     exact⟨v,e1,h5⟩
    |succ i=>obtain⟨v',q1,q2⟩:=h4 i r fp (by simpa using hi) (by simpa using hf);exact⟨v',by rw[<-q1,show k0+(i+1)=k0+1+i by omega],q2⟩
   cases e2 with|nil=>obtain rfl:=aa hx;exact fin [] ⟨rfl,rfl⟩ rfl|@bG rows0 _ b q1 _ _=>obtain rfl:=aa hx;refine fin [b] ⟨b,rfl,q1⟩ ?_;simp only[sh];rw[show l.aT+k0=l.aT+(k0+0)from rfl,hget,e1];simp only[Option.bind_some,q1.cY,List.singleton_append]|cF _=>simp[NT]at hx
  .simp at h
theorem Dp{H:bM}{sz id off len:Nat}{t:T}{bG rd:List Nat}{v:Value}(hI:Inv S K w0 Kn φ (aC H) w)(hc:RC S w Kn φ (.fh sz id off len) v)
  (h:(match aC H id with
  |some (.aP _ ao)=>if off+len<=ao.length then some (T.sl sz ((ao.drop off).take len),[id],[id])else none
  |some (.qc _ ao)=>if off+len<=ao.length then some (.d (.sl sz ((ao.drop off).take len)),[],[id])else none
  |some (.nst szi slots)=>if off=0/\len=slots.length then(match uU slots with|some ao=>some (.zZ szi ao,[id],[id])|none=>none)else none
  |_=>none)=some (t,bG,rd)):
  RT S w t v (bG.flatMap (ip w φ (aC H)))/\∀i∈bG,∃o,aC H i=some o/\cR o=true:=by
 split at h
 .rename_i szo ao ho;split at h
  .rename_i hle;obtain⟨rfl,rfl,rfl⟩:T.sl sz ((ao.drop off).take len)=t/\[id]=bG/\[id]=rd:=by simpa using h
   obtain⟨hk,h0⟩:=hI.iN _ _ ho;cases h0 with
   |aP hsz hl hS hK hown hext hfit hr=>
    subst hl;cases hc with
    |fh hk hcap haddr hx=>
     rw[bf,List.flatMap_nil,bR,ql fun _ _ e=>by rw[ho]at e;cases e];refine⟨.sl hsz hown (by simp;omega) hcap (by omega) (hr.xI off len fun h=>haddr (by omega)),fun i hi=>?_⟩
     .obtain rfl:=av.1 hi;exact⟨_,ho,rfl⟩
  .simp at h
 .rename_i szo ao ho;split at h
  .rename_i hle;obtain⟨rfl,rfl,rfl⟩:T.d (.sl sz ((ao.drop off).take len))=t/\[]=bG/\[id]=rd:=by simpa using h
   obtain⟨hk,h0⟩:=hI.iN _ _ ho;have hS:S (φ id).cY:=by cases h0 with|qc hsz hl hS _=>exact hS
   exact⟨.d (CI hI hc (.inr ho) hle (gU.refl _ _) hS),fun i hi=>by simp at hi⟩
  .simp at h
 .rename_i szi slots ho;split at h
  .rename_i he;obtain⟨rfl,rfl⟩:=he;split at h
   .rename_i ao hrows;obtain⟨rfl,rfl,rfl⟩:T.zZ szi ao=t/\[id]=bG/\[id]=rd:=by simpa using h
    obtain⟨hk,h0⟩:=hI.iN _ _ ho;cases h0 with
    |@nst _ _ aP hsz hl hS hK hown hext hfit hr hv=>
     obtain⟨h1,fps,h2,h3,h4⟩:=HJ (get:=fun i=>aP[i]?) hown.cell slots 0 ao (fun i s hi=>by rw[bN];exact hr i s hi) hrows;cases hc with
     |@fh _ _ _ cap addr hk hcap haddr hx hcc=>
      rw[bf,List.flatMap_nil,bR];have e:ip w φ (aC H) id=(φ id).cY::fps.flatten:=by unfold ip;rw[ho,h3]
      rw[e,<-h1];refine⟨.zZ (sz:=szi) (ao:=ao) hsz hown (by omega) (by rw[hl,mP]at hx;omega) h2 fun i r fp hi hf=>?_,fun i hi=>?_⟩
      .obtain ⟨v,q1,q2⟩:=h4 i r fp hi hf;have hlt:=(aq.1 hi).1;rw[bN]at q1;exact⟨v,by rw[haddr (by omega),jr,di];exact q1,q2⟩
      .obtain rfl:=av.1 hi;exact⟨_,ho,rfl⟩
   .simp at h
  .simp at h
 .simp at h
theorem si{H:bM}(hI:Inv S K w0 Kn φ (aC H) w):∀n,
  (∀c t bG rd v,eK H n c=some (t,bG,rd)->RC S w Kn φ c v->RT S w t v (bG.flatMap (ip w φ (aC H)))/\∀i∈bG,∃o,aC H i=some o/\cR o=true)/\
  (∀cs ts bG rd,iF H n cs=some (ts,bG,rd)->∀(get:Nat->Value),(∀(i:Nat)(c:C),cs[i]?=some c->RC S w Kn φ c (get i))->
   ts.length=cs.length/\(∃fps:List (List Nat),fps.length=ts.length/\fps.flatten=bG.flatMap (ip w φ (aC H))/\
    ∀(i:Nat)(t:T)(fp:List Nat),ts[i]?=some t->fps[i]?=some fp->RT S w t (get i) fp)/\∀i∈bG,∃o,aC H i=some o/\cR o=true):=by
 intro n;induction n with
 |zero=>
  refine⟨fun c t bG rd v h hc=>?_,fun cs ts bG rd h get hg=>?_⟩
  .cases c with
   |d x=>
    obtain⟨rfl,rfl,rfl⟩:T.d x=t/\[]=bG/\[]=rd:=by simpa[eK]using h
    cases hc with|d hd=>exact⟨.d hd,fun i hi=>by simp at hi⟩
   |fh sz id off len=>simp only[eK]at h;exact Dp hI hc h
   |_=>simp[eK]at h
  .cases cs with
   |nil=>
    obtain⟨rfl,rfl,rfl⟩:[]=ts/\[]=bG/\[]=rd:=by simpa[iF]using h
    exact⟨rfl,⟨[],rfl,rfl,fun i t fp hi=>by simp at hi⟩,fun i hi=>by simp at hi⟩
   |cons c cs=>simp[iF]at h
 |succ n ih=>
  obtain⟨ihc,ihl⟩:=ih;refine⟨fun c t bG rd v h hc=>?_,fun cs ts bG rd h get hg=>?_⟩
  .cases c with
   |d x=>
    obtain⟨rfl,rfl,rfl⟩:T.d x=t/\[]=bG/\[]=rd:=by simpa[eK]using h
    cases hc with|d hd=>exact⟨.d hd,fun i hi=>by simp at hi⟩
   |fh sz id off len=>simp only[eK]at h;exact Dp hI hc h
   |op id off=>
    cases off with
    |succ off=>simp[eK]at h
    |zero=>
     simp only[eK]at h;split at h
     .rename_i cells ho;split at h
      .rename_i ts own' rd' hp;obtain⟨rfl,rfl,rfl⟩:T.pt ts=t/\id::own'=bG/\id::rd'=rd:=by simpa using h
       obtain⟨hk,h0⟩:=hI.iN _ _ ho;cases h0 with
       |@box _ aP hb hS hK hown hlen hr=>
        obtain⟨h1,⟨fps,h2,h3,h4⟩,h5⟩:=ihl cells ts own' rd' hp (fun i=>aP.getD i undef) hr;cases hc with
        |op hk=>
         rw[hb];refine⟨?_,fun i hi=>?_⟩
         .rw [bf,<-h3,ql fun _ _ e=>by rw[ho]at e;cases e];exact .pt hown (h1.trans hlen) h2 h4
         .rcases aQ.1 hi with rfl|hi
          .exact ⟨_,ho,rfl⟩
          .exact h5 i hi
      .simp at h
     .rename_i cells ho;obtain⟨rfl,rfl,rfl⟩:T.d (.pt cells)=t/\[]=bG/\[id]=rd:=by simpa using h
      obtain⟨hk,h0⟩:=hI.iN _ _ ho;cases h0 with
      |oV hb hS hr=>cases hc with|op hk=>exact⟨.d (.yQ hS fun j x hj=>by obtain⟨u,hu,hd⟩:=hr j x hj;exact⟨u,by rw[<-hu,hb];simp,hd⟩),fun i hi=>by simp at hi⟩
     .simp at h
   |ep id cU off=>simp[eK]at h
   |po f caps=>simp[eK]at h
   |om id=>simp[eK]at h
  .cases cs with
   |nil=>
    obtain⟨rfl,rfl,rfl⟩:[]=ts/\[]=bG/\[]=rd:=by simpa[iF]using h
    exact⟨rfl,⟨[],rfl,rfl,fun i t fp hi=>by simp at hi⟩,fun i hi=>by simp at hi⟩
   |cons c cs=>
    simp only[iF]at h;split at h
    .rename_i t0 a i0 ts0 b j0 hx hxs;obtain⟨rfl,rfl,rfl⟩:t0::ts0=ts/\a++b=bG/\i0++j0=rd:=by simpa using h
     obtain⟨p1,p2⟩:=ihc c t0 a i0 (get 0) hx (hg 0 c rfl);obtain⟨h1,⟨fps,h2,h3,h4⟩,h5⟩:=ihl cs ts0 b j0 hxs (fun i=>get (i+1)) (fun i c hi=>hg (i+1) c (by simpa using hi));refine⟨by simp[h1],⟨(a.flatMap (ip w φ (aC H)))::fps,by simp[h2],by simp[h3],fun i t fp hi hfp=>?_⟩,fun i hi=>?_⟩
     .cases i with
      |zero=>
       obtain rfl:t0=t:=by simpa using hi
       obtain rfl:(a.flatMap (ip w φ (aC H)))=fp:=by simpa using hfp
       exact p1
      |succ i=>exact h4 i t fp (by simpa using hi) (by simpa using hfp)
     .rcases au.1 hi with hi|hi
      .exact p2 i hi
      .exact h5 i hi
    .simp at h
theorem Bv{bG:List Nat}(hI:Inv S K w0 Kn φ hf w)(hn:bG.Nodup)(ho:∀i∈bG,∃o,hf i=some o/\cR o=true):(bG.flatMap (ip w φ hf)).Nodup:=by induction bG with|nil=>exact iX|cons a l ih=>rw[fT]at hn;obtain⟨o1,h1,h2⟩:=ho a (by simp);rw[bf,cE];refine⟨GC hI h1 h2,ih hn.2 fun i hi=>ho i (aF _ hi),fun x hx y hy e=>?_⟩;subst e;obtain⟨i,hi,hy⟩:=List.mem_flatMap.1 hy;obtain⟨o2,h3,h4⟩:=ho i (aF _ hi);exact oh hI h1 h3 h2 h4 (fun e'=>hn.1 (e'▸hi)) hx hy
def pJ(Kn:Nat->Prop)(a b:Nat)(j:Nat):Prop:=Kn j\/(a<=j/\j<b)
theorem Inv.name(h:Inv S K w0 Kn φ hf w){i:Nat}(hi:¬Kn i)(l:gI)(o:Ob)(hfree:cR o=true->∀j b,hf j=some b->cR b=true->l.cY∉ip w φ hf j)
  (hro:RO S K w (fun j=>Kn j\/j=i) (ext φ i l) l o)
  (hp:∀sz sl k x,o=.nst sz sl->sQ w l sl k x->x≠l.cY/\(∀j b,hf j=some b->cR b=true->x∉ip w φ hf j)/\∀k',sQ w l sl k' x->k'=k:=by intro _ _ _ _ e;cases e):
  Inv S K w0 (fun j=>Kn j\/j=i) (ext φ i l) (bA [(i,some o)] hf) w:=by
 have hold:∀j b,bA [(i,some o)] hf j=some b->(j=i/\b=o/\ext φ i l j=l)\/(j≠i/\hf j=some b/\ext φ i l j=φ j):=by
  intro j b hj;rw[bZ]at hj;by_cases e:i=j
  .rw [if_pos e]at hj;exact .inl ⟨e.symm,(aa hj).symm,by simp[ext,e]⟩
  .rw [if_neg e,fJ]at hj;have e1:¬j=i:=fun q=>e q.symm;exact .inr ⟨e1,hj,by simp[ext,e1]⟩
 refine h.vv (gU.refl _ _) (jH _ hi) h.vn h.sk h.nD ?_ ?_ ?_
 .intro id o' ho;rcases hold id o' ho with⟨rfl,rfl,e⟩|⟨_,ho,_⟩
  .exact .inr ⟨.inr rfl,by rw[e];exact hro⟩
  .exact .inl ⟨ho,fun hown=>⟨rfl,((h.iN id o' ho).2.bG hown).1⟩,h.DX ho fun _ _=>rfl⟩
 .intro a b oa ob ha hb hoa hob hne;rcases hold a oa ha with⟨h1,h2,e1⟩|⟨_,ha',e1⟩<;>rcases hold b ob hb with⟨h3,h4,e2⟩|⟨_,hb',e2⟩
  .exact absurd (h1.trans h3.symm) hne
  .rw [e1,e2];exact fun e=>hfree (h2▸hoa) b ob hb' hob (dR.2 (.inl e))
  .rw [e1,e2];exact fun e=>hfree (h4▸hob) a oa ha' hoa (dR.2 (.inl e.symm))
  .rw [e1,e2];exact h.jE a b oa ob ha' hb' hoa hob hne
 .intro a sz sl k x ha hpa;rcases hold a _ ha with⟨ea,eo,e1⟩|⟨hne,ha',e1⟩<;>rw[e1]at hpa
  .obtain ⟨p1,p2,p3⟩:=hp sz sl k x eo.symm hpa;refine⟨fun j b hj hown=>?_,fun j sz' sl' k' hj hpj=>?_⟩
   .rcases hold j b hj with⟨_,_,e2⟩|⟨_,hj',e2⟩<;>rw[e2]
    .exact fun e=>p1 e.symm
    .exact fun e=>p2 j b hj' hown (dR.2 (.inl e.symm))
   .rcases hold j _ hj with⟨ej,eo2,e2⟩|⟨_,hj',e2⟩<;>rw[e2]at hpj
    .rw [<-eo]at eo2;cases eo2;exact⟨ej.trans ea.symm,p3 k' hpj⟩
    .exact absurd (dR.2 (.inr ⟨sz',sl',k',hj',hpj⟩)) (p2 j _ hj' rfl)
  .obtain ⟨p1,p2⟩:=h.xq a sz sl k x ha' hpa;refine⟨fun j b hj hown=>?_,fun j sz' sl' k' hj hpj=>?_⟩
   .rcases hold j b hj with⟨_,eo,e2⟩|⟨_,hj',e2⟩<;>rw[e2]
    .exact fun e=>hfree (eo▸hown) a _ ha' rfl (dR.2 (.inr ⟨sz,sl,k,ha',e▸hpa⟩))
    .exact p1 j b hj' hown
   .rcases hold j _ hj with⟨_,eo,e2⟩|⟨_,hj',e2⟩<;>rw[e2]at hpj
    .exact absurd (dR.2 (.inr ⟨sz,sl,k,ha',hpa⟩)) ((hp sz' sl' k' x eo.symm hpj).2.1 a _ ha' rfl)
    .exact p2 j sz' sl' k' hj' hpj
theorem Inv.kn{Kn':Nat->Prop}(h:Inv S K w0 Kn φ hf w)(hs:∀i,Kn i->Kn' i):Inv S K w0 Kn' φ hf w:=h.ja (gU.refl _ _) ⟨hs,fun _ _=>rfl⟩ h.vn h.sk h.nD (fun id o ho=>.inl ⟨ho,fun hown=>⟨rfl,((h.iN id o ho).2.bG hown).1⟩⟩) h.jE (h.AM fun _ _=>rfl)
structure sJ(S K:Nat->Prop)(w0 w:World)(Kn:Nat->Prop)(φ:Nat->gI)(hf:Nat->Option Ob)(fp:List Nat)(nxt m:Nat)(u:fA)(φ':Nat->gI):Prop where
 le:nxt<=m
 sY:up Kn φ (pJ Kn nxt m) φ'
 inv:Inv S K w0 (pJ Kn nxt m) φ' (bA u hf) w
 gG:∀p∈u,nxt<=p.1/\p.1<m
 cY:∀p∈u,∀x∈ip w φ' (bA u hf) p.1,x∈fp
theorem ub(a b:Nat):up Kn φ (pJ Kn a b) φ:=⟨fun _ h=>.inl h,fun _ _=>rfl⟩
theorem sJ.nil(h:Inv S K w0 Kn φ hf w)(fp:List Nat)(n:Nat):sJ S K w0 w Kn φ hf fp n n [] φ:=⟨aw _,ub _ _,h.kn fun _ hi=>.inl hi,fun p hp=>by simp at hp,fun p hp=>by simp at hp⟩
theorem sJ.skip(h:Inv S K w0 Kn φ hf w)(fp:List Nat)(n:Nat):sJ S K w0 w Kn φ hf fp n (n+1) [] φ:=⟨bQ _,ub _ _,h.kn fun _ hi=>.inl hi,fun p hp=>by simp at hp,fun p hp=>by simp at hp⟩
theorem lx{α:Type}{u:List (Nat×α)}{id:Nat}(h:∀p∈u,p.1≠id):cz u id=none:=by
 induction u with
 |nil=>rfl
 |cons p r ih=>
  obtain⟨i,x⟩:=p;have e:(i==id)=false:=by simpa using h (i,x) (by simp)
  simp only[cz,e,cond_false];exact ih fun q hq=>h q (by simp[hq])
def gj(w:World)(φ:Nat->gI)(hf:Nat->Option Ob)(fp:List Nat):Prop:=∀j b,hf j=some b->cR b=true->∀x∈ip w φ hf j,x∉fp
theorem ss{a b c:Nat}(h1:a<=b)(h2:b<=c)(j:Nat):pJ (pJ Kn a b) b c j<->pJ Kn a c j:=by
 unfold pJ;constructor
 .rintro ((h|h)|h)
  .exact .inl h
  .exact .inr (by omega)
  .exact .inr (by omega)
 .rintro (h|h)
  .exact .inl (.inl h)
  .by_cases e:j<b
   .exact .inl (.inr (by omega))
   .exact .inr (by omega)
theorem Inv.xK{Kn':Nat->Prop}(h:Inv S K w0 Kn φ hf w)(hs:∀i,Kn i<->Kn' i):Inv S K w0 Kn' φ hf w:=h.kn fun i hi=>(hs i).1 hi
theorem RC.kn{Kn':Nat->Prop}{c:C}{v:Value}(h:RC S w Kn φ c v)(hs:∀i,Kn i->Kn' i):RC S w Kn' φ c v:=h.mono (gU.refl _ _) ⟨hs,fun _ _=>rfl⟩
theorem gx{φ':Nat->gI}{hf':Nat->Option Ob}{i:Nat}(h1:φ i=φ' i)(h2:hf i=hf' i):ip w φ hf i=ip w φ' hf' i:=by unfold ip;rw[h1,h2]
theorem sJ.qt{fa fb:List Nat}{n m k:Nat}{u v:fA}{φ1 φ2:Nat->gI}(a:sJ S K w0 w Kn φ hf fa n m u φ1)(b:sJ S K w0 w (pJ Kn n m) φ1 (bA u hf) fb m k v φ2):
  sJ S K w0 w Kn φ hf (fa++fb) n k (v++u) φ2 where
 le:=fI a.le b.le
 sY:=⟨fun i h=>.inl h,fun i h=>(b.sY.eu i (.inl h)).trans (a.sY.eu i h)⟩
 inv:=by rw[ew];exact b.inv.xK fun i=>ss a.le b.le i
 gG p hp:=by
  have:=a.le;have:=b.le;rcases au.1 hp with h|h
  .have:=b.gG p h;omega
  .have:=a.gG p h;omega
 cY p hp:=by
  intro x hx;rcases au.1 hp with h|h
  .rw [ew]at hx;exact List.mem_append_right _ (b.cY p h x hx)
  .have hn:cz v p.1=none:=lx fun q hq e=>by have:=a.gG p h;have:=b.gG q hq;omega
   have e:bA (v++u) hf p.1=bA u hf p.1:=by simp only[bA,gM,hn]
   have e2:=gx (w:=w) (b.sY.eu p.1 (.inr (a.gG p h))) e;rw[e2]at hx;exact List.mem_append_left _ (a.cY p h x hx)
theorem mH{u v:fA}(h:∀p∈u,∀q∈v,p.1≠q.1):bA (u++v) hf=bA (v++u) hf:=by
 funext id;simp only[bA,gM];cases hu:cz u id with
 |none=>cases cz v id<;>simp
 |some x=>
  have:cz v id=none:=by
   refine lx fun q hq e=>?_
   have hm:∃p∈u,p.1=id:=by
    clear h;induction u with
    |nil=>simp[cz]at hu
    |cons p r ih=>
     obtain⟨i,y⟩:=p;by_cases e':i=id
     .exact ⟨(i,y),by simp,e'⟩
     .have e2:(i==id)=false:=by simpa using e'
      simp only[cz,e2,cond_false]at hu;obtain⟨p,hp,hpe⟩:=ih hu;exact⟨p,by simp[hp],hpe⟩
   obtain⟨p,hp,hpe⟩:=hm;exact h p hp q hq (hpe.trans e.symm)
  simp[this]
theorem qO(nxt:Nat)(ts:List T):kY nxt (.pt ts)=(.op nxt 0,(nxt,some (.box (iC (nxt+1) ts).1))::(iC (nxt+1) ts).2.1,(iC (nxt+1) ts).2.2):=rfl
theorem ri(nxt:Nat)(t:T)(ts:List T):iC nxt (t::ts)=((kY nxt t).1::(iC (kY nxt t).2.2 ts).1,(kY nxt t).2.1++(iC (kY nxt t).2.2 ts).2.1,(iC (kY nxt t).2.2 ts).2.2):=rfl
theorem D8{x:Nat}:∀{fps:List (List Nat)}{k k':Nat},fps.flatten.Nodup->fps[k]?=some [x]->fps[k']?=some [x]->k=k':=by
 intro fps;induction fps with
 |nil=>intro k k' _ h;simp at h
 |cons fp fps ih=>
  intro k k' hn h1 h2;rw[ei,cE]at hn;have hm:∀k,fps[k]?=some [x]->x∈fps.flatten:=fun k h=>dL.2 ⟨[x],bk h,by simp⟩;cases k with
  |zero=>
   obtain rfl:fp=[x]:=by simpa using h1
   cases k' with|zero=>rfl|succ k'=>exact absurd rfl (hn.2.2 x (by simp) x (hm k' (by simpa using h2)))
  |succ k=>
   cases k' with
   |zero=>
    obtain rfl:fp=[x]:=by simpa using h2
    exact absurd rfl (hn.2.2 x (by simp) x (hm k (by simpa using h1)))
   |succ k'=>exact congrArg Nat.succ (ih hn.2.1 (by simpa using h1) (by simpa using h2))
mutual
theorem Jv(t:T):∀nxt,nxt<=(kY nxt t).2.2:=by intro nxt;cases t with|d x=>exact bQ _|wR=>exact bQ _|sl sz ao=>exact bQ _|zZ sz ao=>exact bQ _|pt ts=>rw[qO];exact Nat.le_of_succ_le (wg ts (nxt+1))
theorem wg(ts:List T):∀nxt,nxt<=(iC nxt ts).2.2:=by intro nxt;cases ts with|nil=>exact aw _|cons t ts=>rw[ri];exact fI (Jv t nxt) (wg ts _)
end
mutual
theorem wh(t:T):∀{Kn:Nat->Prop}{φ:Nat->gI}{hf:Nat->Option Ob}(nxt:Nat)(v:Value)(fp:List Nat),Inv S K w0 Kn φ hf w->(∀j,nxt<=j->j<(kY nxt t).2.2->¬Kn j)->
  RT S w t v fp->fp.Nodup->(∀b∈fp,¬S b/\¬K b)->gj w φ hf fp->
  ∃φ',sJ S K w0 w Kn φ hf fp nxt (kY nxt t).2.2 (kY nxt t).2.1 φ'/\RC S w (pJ Kn nxt (kY nxt t).2.2) φ' (kY nxt t).1 v:=by
 intro Kn φ hf nxt v fp hI hfr hr hnd hSK haw;cases t with
 |wR=>cases hr
 |d x=>cases hr with|d hd=>exact⟨φ,sJ.skip hI _ _,.d hd⟩
 |sl sz ao=>
  cases hr with
  |@sl _ _ b off len cap aP hsz ho hlen hcap hext hrr=>
   have hnx:¬Kn nxt:=hfr nxt (aw _) (bl _);refine⟨ext φ nxt ⟨b,off,sz,aP.size,cap⟩,?_,?_⟩
   .have hin:=hI.name (hnx) ⟨b,off,sz,aP.size,cap⟩ (.aP sz ao) (fun _ j o hj hown hm=>haw j o hj hown _ hm (by simp))
     (.aP hsz rfl (hSK b (by simp)).1 (hSK b (by simp)).2 ho rfl (by have:ao.length*sz<=cap*sz:=aO _ (by omega);simp only;omega) hrr (by simp only;omega))
    refine⟨bQ _,⟨fun i h=>.inl h,(jH _ (hnx)).eu⟩,hin.xK fun i=>?_,fun p hp=>?_,fun p hp=>?_⟩
    .simp only[pJ,kY];constructor
     .rintro (h|rfl)
      .exact .inl h
      .exact .inr (by omega)
     .rintro (h|h)
      .exact .inl h
      .exact .inr (by omega)
    .obtain rfl:p=_:=by simpa[kY]using hp
     simp[kY]
    .obtain rfl:p=_:=by simpa[kY]using hp
     rw[ql fun _ _ e=>by simp[kY,bA,cz]at e];simp[ext]
   .have e:(ext φ nxt ⟨b,off,sz,aP.size,cap⟩) nxt=⟨b,off,sz,aP.size,cap⟩:=by simp[ext]
    have:=RC.fh (S:=S) (w:=w) (Kn:=pJ Kn nxt (nxt+1)) (φ:=ext φ nxt ⟨b,off,sz,aP.size,cap⟩) (id:=nxt) (off:=0) (len:=ao.length) (cap:=cap) (addr:=off) (.inr (by omega)) (by omega) (by rw[e];simp) (by rw[e];simpa using hext) (by rw[e];simp);rw[e]at this;simpa[kY,hlen]using this
 |zZ sz ao=>
  cases hr with
  |@zZ _ _ b off cap aP fps hsz ho hcap hext hfl hrr=>
   have hnx:¬Kn nxt:=hfr nxt (aw _) (bl _);rw[fT]at hnd;have hget:∀i,w.cell? ⟨b,i,none⟩=aP[i]?:=ho.cell;have hpat:∀k x,sQ w ⟨b,off,1,aP.size,cap⟩ (ao.map mY) k x->∃fp,fps[k]?=some fp/\fp=[x]:=by rintro k x ⟨rs,v,h1,h2,h3⟩;rw[aM]at h1;obtain⟨r,hr1,hr2⟩:=aK.1 h1;have hlt:=(aq.1 hr1).1;have hf:fps[k]?=some fps[k]:=aE (by omega);obtain⟨v',q1,q2⟩:=hrr k r fps[k] hr1 hf;simp only[hget,q1,bE]at h2;subst h2;cases r with|none=>cases hr2|some rows'=>obtain⟨b',q3,q4⟩:=q2;rw[q4.cY]at h3;obtain rfl:=aa h3;exact⟨_,hf,q3⟩
   have hmem:∀k x,sQ w ⟨b,off,1,aP.size,cap⟩ (ao.map mY) k x->x∈fps.flatten:=fun k x hp=>by obtain⟨fp,h1,rfl⟩:=hpat k x hp;exact dL.2 ⟨[x],bk h1,by simp⟩
   have hin:=hI.name (hnx) ⟨b,off,1,aP.size,cap⟩ (.nst sz (ao.map mY)) (fun _ j o hj hown hm=>haw j o hj hown _ hm (by simp))
    (.nst hsz rfl (hSK b (by simp)).1 (hSK b (by simp)).2 ho rfl (by simp only[aV];omega) (fun i s hi=>by
     rw[aM]at hi;obtain⟨r,hr1,rfl⟩:=aK.1 hi;have hlt:=(aq.1 hr1).1;have hf:fps[i]?=some fps[i]:=aE (by omega);obtain⟨v,q1,q2⟩:=hrr i r fps[i] hr1 hf;refine⟨v,q1,?_⟩;cases r with
     |none=>obtain⟨rfl,_⟩:=q2;exact .nil
     |some rows'=>obtain⟨b',q3,q4⟩:=q2;have hm:b'∈fps.flatten:=dL.2 ⟨fps[i],List.getElem_mem _,by rw[q3];simp⟩;exact .bG q4 (hSK b' (aF _ hm)).1 (hSK b' (aF _ hm)).2) (by simp only[aV];omega))
    (fun sz' sl' k x eo hp=>by cases eo;have hm:=hmem k x hp;refine⟨fun e=>hnd.1 (by have e:x=b:=e;rw[<-e];exact hm),fun j b' hj hown hx=>haw j b' hj hown x hx (aF _ hm),fun k' hp'=>?_⟩;obtain⟨fp,h1,rfl⟩:=hpat k x hp;obtain⟨fp',h2,rfl⟩:=hpat k' x hp';exact D8 hnd.2 h2 h1)
   refine⟨ext φ nxt ⟨b,off,1,aP.size,cap⟩,?_,?_⟩
   .refine ⟨bQ _,⟨fun i h=>.inl h,(jH _ (hnx)).eu⟩,hin.xK fun i=>?_,fun p hp=>?_,fun p hp x hx=>?_⟩
    .simp only[pJ,kY];constructor
     .rintro (h|rfl)
      .exact .inl h
      .exact .inr (by omega)
     .rintro (h|h)
      .exact .inl h
      .exact .inr (by omega)
    .obtain rfl:p=_:=by simpa[kY]using hp
     simp[kY]
    .obtain rfl:p=_:=by simpa[kY]using hp
     have e:bA (kY nxt (T.zZ sz ao)).2.1 hf nxt=some (.nst sz (ao.map mY)):=by simp[kY,bA,cz]
     rcases dR.1 hx with rfl|⟨sz',sl',k,h1,h2⟩
     .simp [ext]
     .rw [e]at h1;cases h1;simp only[ext,if_true]at h2;exact aF _ (hmem k x h2)
   .have e:(ext φ nxt ⟨b,off,1,aP.size,cap⟩) nxt=⟨b,off,1,aP.size,cap⟩:=by simp[ext]
    have:=RC.fh (S:=S) (w:=w) (Kn:=pJ Kn nxt (nxt+1)) (φ:=ext φ nxt ⟨b,off,1,aP.size,cap⟩) (id:=nxt) (off:=0) (len:=ao.length) (cap:=cap) (addr:=off) (.inr (by omega)) (by omega) (by rw[e];simp) (by rw[e];simpa using hext) (by rw[e];simp);rw[e]at this;simpa[kY]using this
 |pt ts=>
  cases hr with
  |@pt _ b aP fps ho hlen hfl h=>
   rw[fT]at hnd;have hnx:¬Kn nxt:=hfr nxt (aw _) (by rw[qO];exact wg ts (nxt+1))
   obtain⟨φ1,hL,hrc⟩:=t4 ts (Kn:=Kn) (φ:=φ) (hf:=hf) (nxt+1) (fun i=>aP.getD i undef) fps hI (fun j hj hj2=>hfr j (by omega) (by rw[qO];exact hj2)) hfl h hnd.2
    (fun b' hb'=>hSK b' (by simp[hb'])) (fun j o hj hown x hx hm=>haw j o hj hown x hx (aF _ hm))
   have hm:=hL.le
   have hnk:¬pJ Kn (nxt+1) (iC (nxt+1) ts).2.2 nxt:=by
    rintro(h|h)
    .exact hnx h
    .omega
   refine⟨ext φ1 nxt ⟨b,0,1,aP.size,0⟩,?_,?_⟩
   .have hin:=hL.inv.name hnk ⟨b,0,1,aP.size,0⟩ (.box (iC (nxt+1) ts).1) (fun _ j o hj hown hm=>by
      by_cases hu:∃p∈(iC (nxt+1) ts).2.1,p.1=j
      .obtain ⟨p,hp,rfl⟩:=hu;exact hnd.1 (hL.cY p hp _ hm)
      .have hfn:cz (iC (nxt+1) ts).2.1 j=none:=lx fun p hp e=>hu ⟨p,hp,e⟩;have hj':=hj;simp only[bA,hfn]at hj';have hk:=(hI.iN j o hj').1;rw[gx (hL.sY.eu j hk) (hj.trans hj'.symm)]at hm;exact haw j o hj' hown _ hm (by simp))
     (.box rfl (hSK b (by simp)).1 (hSK b (by simp)).2 ho (hrc.1.trans hlen) fun i c hi=>(hrc.2 i c hi).mono (gU.refl _ _) (jH _ hnk))
    refine⟨?_,⟨fun i h=>.inl h,fun i hi=>?_⟩,?_,fun p hp=>?_,fun p hp=>?_⟩
    .simp only[qO];exact Nat.le_of_succ_le hm
    .have:i≠nxt:=fun e=>hnx (e▸hi);simp only[ext,this,if_false];exact hL.sY.eu i hi
    .have e:bA (kY nxt (.pt ts)).2.1 hf=bA [(nxt,some (.box (iC (nxt+1) ts).1))] (bA (iC (nxt+1) ts).2.1 hf):=by rw[<-ew];rfl
     rw[e];refine hin.xK fun i=>?_;simp only[pJ,qO];constructor
     .rintro ((h|h)|rfl)
      .exact .inl h
      .exact .inr (by omega)
      .exact .inr (by omega)
     .rintro (h|h)
      .exact .inl (.inl h)
      .by_cases e:i=nxt
       .exact .inr e
       .exact .inl (.inr (by omega))
    .simp only[qO]at hp|-;rcases aQ.1 hp with rfl|hp
     .simp only;omega
     .have:=hL.gG p hp;omega
    .simp only[qO]at hp;rcases aQ.1 hp with rfl|hp
     .rw [ql fun _ _ e=>by simp[qO,bA,cz]at e];simp[ext]
     .have hne:¬p.1=nxt:=by have:=hL.gG p hp;omega
      have hne':(nxt==p.1)=false:=by simpa using fun e=>hne e.symm
      intro x hx;rw[gx (φ':=φ1) (hf':=bA (iC (nxt+1) ts).2.1 hf) (by simp only[ext,hne,if_false]) (by simp only[qO,bA,cz,hne',cond_false])]at hx;exact aF _ (hL.cY p hp x hx)
   .have:=RC.op (S:=S) (w:=w) (Kn:=pJ Kn nxt (iC (nxt+1) ts).2.2) (φ:=ext φ1 nxt ⟨b,0,1,aP.size,0⟩) (id:=nxt) (off:=0) (.inr (by omega));simpa[qO,ext]using this
theorem t4(ts:List T):∀{Kn:Nat->Prop}{φ:Nat->gI}{hf:Nat->Option Ob}(nxt:Nat)(get:Nat->Value)(fps:List (List Nat)),Inv S K w0 Kn φ hf w->(∀j,nxt<=j->j<(iC nxt ts).2.2->¬Kn j)->
  fps.length=ts.length->(∀(i:Nat)(t:T)(fp:List Nat),ts[i]?=some t->fps[i]?=some fp->RT S w t (get i) fp)->fps.flatten.Nodup->(∀b∈fps.flatten,¬S b/\¬K b)->gj w φ hf fps.flatten->
  ∃φ',sJ S K w0 w Kn φ hf fps.flatten nxt (iC nxt ts).2.2 (iC nxt ts).2.1 φ'/\(iC nxt ts).1.length=ts.length/\
   ∀(i:Nat)(c:C),(iC nxt ts).1[i]?=some c->RC S w (pJ Kn nxt (iC nxt ts).2.2) φ' c (get i):=by
 intro Kn φ hf nxt get fps hI hfr hfl hr hnd hSK haw;cases ts with
 |nil=>exact⟨φ,sJ.nil hI _ _,rfl,fun i c hi=>by simp[iC]at hi⟩
 |cons t ts=>
  cases fps with
  |nil=>simp at hfl
  |cons fp fps=>
   rw[ei,cE]at hnd;obtain⟨hn1,hn2,hn3⟩:=hnd;simp only[ei,au]at hSK
   obtain⟨φ1,hL1,hc1⟩:=wh t (Kn:=Kn) (φ:=φ) (hf:=hf) nxt (get 0) fp hI (fun j hj hj2=>hfr j hj (by rw[ri];exact dg hj2 (wg ts _))) (hr 0 t fp rfl rfl) hn1 (fun b hb=>hSK b (.inl hb))
    (fun j o hj hown x hx hm=>haw j o hj hown x hx (by simp[hm]))
   obtain⟨φ2,hL2,hlen,hc2⟩:=t4 ts (Kn:=pJ Kn nxt (kY nxt t).2.2) (φ:=φ1) (hf:=bA (kY nxt t).2.1 hf) (kY nxt t).2.2 (fun i=>get (i+1)) fps hL1.inv
    (fun j hj hj2 hk=>by
     rcases hk with hk|hk
     .have:=hL1.le;exact hfr j (by omega) (by rw[ri];exact hj2) hk
     .omega) (by simpa using hfl) (fun i t fp hi hfp=>hr (i+1) t fp (by simpa using hi) (by simpa using hfp)) hn2 (fun b hb=>hSK b (.inr hb))
    (fun j o hj hown x hx hm=>by
     by_cases hu:∃p∈(kY nxt t).2.1,p.1=j
     .obtain ⟨p,hp,rfl⟩:=hu;exact hn3 _ (hL1.cY p hp x hx) _ hm rfl
     .have hfn:cz (kY nxt t).2.1 j=none:=lx fun p hp e=>hu ⟨p,hp,e⟩;have hj':=hj;simp only[bA,hfn]at hj';have hk:=(hI.iN j o hj').1;rw[gx (hL1.sY.eu j hk) (hj.trans hj'.symm)]at hx;exact haw j o hj' hown x hx (by simp[hm]))
   have hcomp:=hL1.qt hL2;have hcm:bA ((iC (kY nxt t).2.2 ts).2.1++(kY nxt t).2.1) hf=bA ((kY nxt t).2.1++(iC (kY nxt t).2.2 ts).2.1) hf:=mH fun p hp q hq e=>by have h1:=hL2.gG p hp;have h2:=hL1.gG q hq;omega
   refine⟨φ2,?_,by simp[ri,hlen],fun i c hi=>?_⟩
   .simp only[ri,ei];have hsw:∀{p:Nat×Option Ob}{a b:fA},p∈a++b->p∈b++a:=fun hp=>au.2 (au.1 hp).symm;exact⟨hcomp.le,hcomp.sY,hcm▸hcomp.inv,fun p hp=>hcomp.gG p (hsw hp),fun p hp x hx=>hcomp.cY p (hsw hp) x (hcm.symm▸hx)⟩
   .have hsub:∀i,pJ (pJ Kn nxt (kY nxt t).2.2) (kY nxt t).2.2 (iC (kY nxt t).2.2 ts).2.2 i->pJ Kn nxt (iC (kY nxt t).2.2 ts).2.2 i:=fun i=>(ss hL1.le hL2.le i).1;cases i with
    |zero=>
     obtain rfl:(kY nxt t).1=c:=by simpa[iC]using hi
     exact(hc1.mono (gU.refl _ _) hL2.sY).kn hsub
    |succ i=>exact(hc2 i c (by simpa[ri]using hi)).kn hsub
end
theorem t9{α:Type}{l:List α}{k i:Nat}{x y:α}(h:(l.set k x)[i]?=some y):(k=i/\y=x/\i<l.length)\/(k≠i/\l[i]?=some y):=by
 rw[List.getElem?_set]at h;split at h
 .rename_i e;split at h
  .rename_i hlt;exact .inl ⟨e,(aa h).symm,e▸hlt⟩
  .simp at h
 .rename_i e;exact .inr ⟨e,h⟩
theorem Inv.Ra(h:Inv S K w0 Kn φ hf w){id:Nat}{o o':Ob}(ho:hf id=some o)(hown:cR o=true)(hno:Hv o')(hro:RO S K w Kn φ (φ id) o'):Inv S K w0 Kn φ (bA [(id,some o')] hf) w:=by
 have hold:∀j b,bA [(id,some o')] hf j=some b->(j=id/\b=o')\/(j≠id/\hf j=some b):=by
  intro j b hj;rw[bZ]at hj;by_cases e:id=j
  .rw [if_pos e]at hj;exact .inl ⟨e.symm,(aa hj).symm⟩
  .rw [if_neg e,fJ]at hj;exact .inr ⟨fun q=>e q.symm,hj⟩
 have was:∀j b,bA [(id,some o')] hf j=some b->cR b=true->∃b',hf j=some b'/\cR b'=true:=by
  intro j b hj hb;rcases hold j b hj with⟨rfl,rfl⟩|⟨_,hj'⟩
  .exact ⟨o,ho,hown⟩
  .exact ⟨b,hj',hb⟩
 refine h.vv (gU.refl _ _) (up.refl _ _) h.vn h.sk h.nD ?_ ?_ ?_
 .intro i x hx;rcases hold i x hx with⟨rfl,rfl⟩|⟨_,hx'⟩
  .exact .inr ⟨(h.iN i o ho).1,hro⟩
  .exact .inl ⟨hx',fun hown=>⟨rfl,((h.iN i x hx').2.bG hown).1⟩,h.DX hx' fun _ _=>rfl⟩
 .intro i j a b ha hb hoa hob hne;obtain⟨a',h1,h2⟩:=was i a ha hoa;obtain⟨b',h3,h4⟩:=was j b hb hob;exact h.jE i j a' b' h1 h3 h2 h4 hne
 .intro i sz sl k x hi hp;rcases hold i _ hi with⟨rfl,e⟩|⟨_,hi'⟩
  .obtain ⟨ao,v,h1,_⟩:=hp;exact absurd h1 (hno sz sl k ao e.symm)
  .obtain ⟨p1,p2⟩:=h.xq i sz sl k x hi' hp;refine⟨fun j b hj hb=>?_,fun j sz' sl' k' hj hpj=>?_⟩
   .obtain ⟨b',h1,h2⟩:=was j b hj hb;exact p1 j b' h1 h2
   .rcases hold j _ hj with⟨rfl,e⟩|⟨_,hj'⟩
    .obtain ⟨ao,v,h1,_⟩:=hpj;exact absurd h1 (hno sz' sl' k' ao e.symm)
    .exact p2 j sz' sl' k' hj' hpj
theorem Inv.split(h:Inv S K w0 Kn φ hf w){id nxt sz cU:Nat}{slots:List kX}{ao:List (List D)}(ho:hf id=some (.nst sz slots))(hs:slots[cU]?=some (.bG ao))(hn:¬Kn nxt):
  ∃l v,w.cell? ⟨(φ id).cY,(φ id).aT+cU,none⟩=some v/\RC S w (fun j=>Kn j\/j=nxt) (ext φ nxt l) (.fh sz nxt 0 ao.length) v/\
   Inv S K w0 (fun j=>Kn j\/j=nxt) (ext φ nxt l) (bA [(nxt,some (.aP sz ao)),(id,some (.nst sz (slots.set cU (.cF nxt ao.length))))] hf) w:=by
 obtain⟨hk,hro⟩:=h.iN id _ ho;have hne:id≠nxt:=fun e=>hn (e▸hk);cases hro with
 |@nst _ _ aP hsz hl hS hK hown hext hfit hr hv=>
  obtain⟨v,h1,h2⟩:=hr cU _ hs;cases h2 with
  |@bG _ _ b hrw hbS hbK=>
   obtain⟨addr,cap,ba,rfl,_,hbo,hcap,hfx,hrr⟩:=hrw;have hcell:w.cell? ⟨(φ id).cY,(φ id).aT+cU,none⟩=some (.slice (some ⟨b,addr,none⟩) ao.length cap):=(hown.cell _).trans h1;have hpat:sQ w (φ id) slots cU b:=⟨ao,_,hs,hcell,rfl⟩
   obtain⟨p1,p2⟩:=h.xq id sz slots cU b ho hpat;have he:ext φ nxt ⟨b,addr,sz,ba.size,cap⟩ nxt=⟨b,addr,sz,ba.size,cap⟩:=by simp[ext]
   have heo:∀j,j≠nxt->ext φ nxt ⟨b,addr,sz,ba.size,cap⟩ j=φ j:=fun j hj=>by simp[ext,hj]
   have hren:=jH (φ:=φ) (⟨b,addr,sz,ba.size,cap⟩:gI) hn;have hrc:RC S w (fun j=>Kn j\/j=nxt) (ext φ nxt ⟨b,addr,sz,ba.size,cap⟩) (.fh sz nxt 0 ao.length) (.slice (some ⟨b,addr,none⟩) ao.length cap):=by have:=RC.fh (S:=S) (w:=w) (Kn:=fun j=>Kn j\/j=nxt) (φ:=ext φ nxt ⟨b,addr,sz,ba.size,cap⟩) (id:=nxt) (off:=0) (len:=ao.length) (cap:=cap) (addr:=addr) (.inr rfl) (by omega) (by rw[he];simp) (by rw[he];simpa using hfx) (by rw[he];simp);rw[he]at this;exact this
   refine⟨⟨b,addr,sz,ba.size,cap⟩,_,hcell,hrc,?_⟩
   have hold:∀j c,bA [(nxt,some (.aP sz ao)),(id,some (.nst sz (slots.set cU (.cF nxt ao.length))))] hf j=some c->(j=nxt/\c=.aP sz ao)\/(j=id/\c=.nst sz (slots.set cU (.cF nxt ao.length)))\/(j≠nxt/\j≠id/\hf j=some c):=by
    intro j c hj;rw[bZ]at hj;by_cases e:nxt=j
    .rw [if_pos e]at hj;exact .inl ⟨e.symm,(aa hj).symm⟩
    .rw [if_neg e,bZ]at hj;by_cases e2:id=j
     .rw [if_pos e2]at hj;exact .inr (.inl ⟨e2.symm,(aa hj).symm⟩)
     .rw [if_neg e2,fJ]at hj;exact .inr (.inr ⟨fun q=>e q.symm,fun q=>e2 q.symm,hj⟩)
   have hpat2:∀j sz' sl' k x,bA [(nxt,some (.aP sz ao)),(id,some (.nst sz (slots.set cU (.cF nxt ao.length))))] hf j=some (.nst sz' sl')->sQ w (ext φ nxt ⟨b,addr,sz,ba.size,cap⟩ j) sl' k x->∃t8,hf j=some (.nst sz' t8)/\sQ w (φ j) t8 k x/\x≠b:=by
    intro j sz' sl' k x hj hp;rcases hold j _ hj with⟨_,e⟩|⟨rfl,e⟩|⟨e1,e2,hj'⟩
    .cases e
    .cases e;rw[heo _ hne]at hp;obtain⟨rows',v',q1,q2,q3⟩:=hp;rcases t9 q1 with⟨_,e,_⟩|⟨hk',q1'⟩
     .cases e
     .have hp':sQ w (φ j) slots k x:=⟨rows',v',q1',q2,q3⟩
      exact⟨slots,ho,hp',fun e=>hk' (by rw[((p2 j sz slots k ho (e▸hp')).2)])⟩
    .rw [heo _ e1]at hp;exact⟨sl',hj',hp,fun e=>e2 ((p2 j sz' sl' k hj' (e▸hp)).1)⟩
   refine h.vv (gU.refl _ _) hren h.vn h.sk h.nD ?_ ?_ ?_
   .intro j c hj;rcases hold j c hj with⟨rfl,rfl⟩|⟨rfl,rfl⟩|⟨e1,_,hj'⟩
    .refine .inr ⟨.inr rfl,?_⟩;rw[he];exact .aP (by assumption) rfl hbS hbK hbo rfl (by have:=aO sz hcap;simp only;omega) hrr hcap
    .refine .inr ⟨.inl hk,?_⟩;rw[heo _ hne];refine .nst hsz hl hS hK hown hext (by rw[fy];exact hfit) (fun i s hi=>?_) (by rw[fy];exact hv);rcases t9 hi with⟨rfl,rfl,_⟩|⟨_,hi'⟩
     .exact ⟨_,h1,.cF hrc⟩
     .obtain ⟨v',q1,q2⟩:=hr i s hi';refine⟨v',q1,?_⟩;cases q2 with|nil=>exact .nil|bG h hS hK=>exact .bG h hS hK|cF h=>exact .cF (h.mono (gU.refl _ _) hren)
    .exact .inl ⟨hj',fun hown=>⟨rfl,((h.iN j c hj').2.bG hown).1⟩,h.DX hj' fun _ _=>rfl⟩
   .intro i j a c ha hc hoa hoc hij
    have key:∀j c,bA [(nxt,some (.aP sz ao)),(id,some (.nst sz (slots.set cU (.cF nxt ao.length))))] hf j=some c->cR c=true->j≠nxt->(∃c',hf j=some c'/\cR c'=true)/\ext φ nxt ⟨b,addr,sz,ba.size,cap⟩ j=φ j:=by
     intro j c hj hc hjn;rcases hold j c hj with⟨e,_⟩|⟨rfl,rfl⟩|⟨_,_,hj'⟩
     .exact absurd e hjn
     .exact ⟨⟨_,ho,rfl⟩,heo _ hjn⟩
     .exact ⟨⟨c,hj',hc⟩,heo _ hjn⟩
    by_cases hi:i=nxt
    .subst hi;obtain⟨⟨c',q1,q2⟩,q3⟩:=key j c hc hoc fun e=>hij e.symm;rw[he,q3];exact fun e=>p1 j c' q1 q2 e.symm
    .obtain ⟨⟨a',q1,q2⟩,q3⟩:=key i a ha hoa hi;by_cases hj:j=nxt
     .subst hj;rw[he,q3];exact p1 i a' q1 q2
     .obtain ⟨⟨c',q4,q5⟩,q6⟩:=key j c hc hoc hj;rw[q3,q6];exact h.jE i j a' c' q1 q4 q2 q5 hij
   .intro j sz' sl' k x hj hp;obtain⟨t8,q1,q2,q3⟩:=hpat2 j sz' sl' k x hj hp;obtain⟨r1,r2⟩:=h.xq j sz' t8 k x q1 q2;refine⟨fun i c hi hc=>?_,fun i sz2 sl2 k' hi hpi=>?_⟩
    .rcases hold i c hi with⟨rfl,rfl⟩|⟨rfl,rfl⟩|⟨e1,_,hi'⟩
     .rw [he];exact fun e=>q3 e.symm
     .rw [heo _ hne];exact r1 i _ ho rfl
     .rw [heo _ e1];exact r1 i c hi' hc
    .obtain ⟨sl3,q4,q5,_⟩:=hpat2 i sz2 sl2 k' x hi hpi;exact r2 i sz2 sl3 k' q4 q5
theorem Inv.LU(h:Inv S K w0 Kn φ hf w){id id2 sz sz2 cU:Nat}{slots:List kX}{ao:List (List D)}(ho:hf id=some (.nst sz slots))(hs:slots[cU]?=some (.cF id2 ao.length))(h2:hf id2=some (.aP sz2 ao)):
  Inv S K w0 Kn φ (bA [(id,some (.nst sz (slots.set cU (.bG ao)))),(id2,none)] hf) w:=by
 obtain⟨hk,hro⟩:=h.iN id _ ho;obtain⟨hk2,hro2⟩:=h.iN id2 _ h2;have hne:id2≠id:=fun e=>by rw[e,ho]at h2;cases h2
 have hold:∀j c,bA [(id,some (.nst sz (slots.set cU (.bG ao)))),(id2,none)] hf j=some c->(j=id/\c=.nst sz (slots.set cU (.bG ao)))\/(j≠id/\j≠id2/\hf j=some c):=by
  intro j c hj;rw[bZ]at hj;by_cases e:id=j
  .rw [if_pos e]at hj;exact .inl ⟨e.symm,(aa hj).symm⟩
  .rw [if_neg e,bZ]at hj;by_cases e2:id2=j
   .rw [if_pos e2]at hj;cases hj
   .rw [if_neg e2,fJ]at hj;exact .inr ⟨fun q=>e q.symm,fun q=>e2 q.symm,hj⟩
 have was:∀j c,bA [(id,some (.nst sz (slots.set cU (.bG ao)))),(id2,none)] hf j=some c->cR c=true->j≠id2/\∃c',hf j=some c'/\cR c'=true:=by
  intro j c hj hc;rcases hold j c hj with⟨rfl,rfl⟩|⟨_,e,hj'⟩
  .exact ⟨hne.symm,_,ho,rfl⟩
  .exact ⟨e,c,hj',hc⟩
 cases hro with
 |@nst _ _ aP hsz hl hS hK hown hext hfit hr hv=>
  obtain⟨v,h1,hsl⟩:=hr cU _ hs;have hcell:w.cell? ⟨(φ id).cY,(φ id).aT+cU,none⟩=some v:=(hown.cell _).trans h1
  obtain⟨hvb,hrw⟩:xP v=some (φ id2).cY/\Hu S w sz ao v (φ id2).cY:=by
   cases hsl with
   |cF hrc=>
    cases hro2 with
    |@aP _ _ ba hsz2 hl2 hS2 hK2 hown2 hext2 hfit2 hr2 hv2=>cases hrc with|@fh _ _ _ cap addr hk' hcap haddr hx hcc=>refine⟨rfl,addr,cap,ba,rfl,by rw[hl2];exact hsz2,hown2,hcap,by omega,?_⟩;have:=hr2.xI (addr:=addr) 0 ao.length (fun hlt=>by rw[haddr (by omega),hl2]);rw[hl2];simpa using this
  obtain⟨hS2,hK2,_⟩:=hro2.bG rfl
  have hpat2:∀j sz' sl' k x,bA [(id,some (.nst sz (slots.set cU (.bG ao)))),(id2,none)] hf j=some (.nst sz' sl')->sQ w (φ j) sl' k x->(j=id/\k=cU/\x=(φ id2).cY)\/∃t8,hf j=some (.nst sz' t8)/\sQ w (φ j) t8 k x:=by
   intro j sz' sl' k x hj hp;rcases hold j _ hj with⟨rfl,e⟩|⟨e1,e2,hj'⟩
   .cases e;obtain⟨rows',v',q1,q2,q3⟩:=hp;rcases t9 q1 with⟨rfl,_,_⟩|⟨hk',q1'⟩
    .refine .inl ⟨rfl,rfl,?_⟩;rw[hcell]at q2;obtain rfl:=aa q2;rw[hvb]at q3;exact(aa q3).symm
    .exact .inr ⟨slots,ho,rows',v',q1',q2,q3⟩
   .exact .inr ⟨sl',hj',hp⟩
  refine h.vv (gU.refl _ _) (up.refl _ _) h.vn h.sk h.nD ?_ ?_ ?_
  .intro j c hj;rcases hold j c hj with⟨rfl,rfl⟩|⟨_,_,hj'⟩
   .refine .inr ⟨hk,.nst hsz hl hS hK hown hext (by rw[fy];exact hfit) (fun i s hi=>?_) (by rw[fy];exact hv)⟩;rcases t9 hi with⟨rfl,rfl,_⟩|⟨_,hi'⟩
    .exact ⟨v,h1,.bG hrw hS2 hK2⟩
    .exact hr i s hi'
   .exact .inl ⟨hj',fun hown=>⟨rfl,((h.iN j c hj').2.bG hown).1⟩,h.DX hj' fun _ _=>rfl⟩
  .intro i j a c ha hc hoa hoc hij;obtain⟨_,a',q1,q2⟩:=was i a ha hoa;obtain⟨_,c',q3,q4⟩:=was j c hc hoc;exact h.jE i j a' c' q1 q3 q2 q4 hij
  .intro j sz' sl' k x hj hp;refine⟨fun i c hi hc=>?_,fun i sz3 sl3 k' hi hpi=>?_⟩
   .obtain ⟨hi2,c',q1,q2⟩:=was i c hi hc;rcases hpat2 j sz' sl' k x hj hp with⟨_,_,rfl⟩|⟨t8,q3,q4⟩
    .exact h.jE i id2 c' _ q1 h2 q2 rfl hi2
    .exact (h.xq j sz' t8 k x q3 q4).1 i c' q1 q2
   .rcases hpat2 j sz' sl' k x hj hp with⟨e1,e2,e3⟩|⟨t8,q3,q4⟩<;>rcases hpat2 i sz3 sl3 k' x hi hpi with⟨e4,e5,e6⟩|⟨sl4,q5,q6⟩
    .exact ⟨e4.trans e1.symm,e5.trans e2.symm⟩
    .exact absurd e3.symm ((h.xq i sz3 sl4 k' x q5 q6).1 id2 _ h2 rfl)
    .exact absurd e6.symm ((h.xq j sz' t8 k x q3 q4).1 id2 _ h2 rfl)
    .exact (h.xq j sz' t8 k x q3 q4).2 i sz3 sl4 k' q5 q6
theorem Inv.Sp{w':World}(h:Inv S K w0 Kn φ hf w){id sz cU:Nat}{slots:List kX}{s':kX}{v:Value}{aP arr':Array Value}(ho:hf id=some (.nst sz slots))(hown:pk w (φ id).cY aP)(hown':pk w' (φ id).cY arr')(hsize':arr'.size=aP.size)
  (hother:∀b,b≠(φ id).cY->w'.heap[b]?=w.heap[b]?) (hsize:w'.heap.size=w.heap.size) (hfrz:∀a,w'.frozen? a=w.frozen? a) (hio:Io w w')
  (hget:∀i,i≠(φ id).aT+cU->arr'[i]?=aP[i]?) (hv:cU<slots.length->arr'[(φ id).aT+cU]?=some v) (hslot:gU S w S w'->zV S K w' Kn φ sz s' v) (hs':∀ao,s'≠.bG ao):
  gU S w S w'/\Inv S K w0 Kn φ (bA [(id,some (.nst sz (slots.set cU s')))] hf) w':=by
 obtain⟨hk,h0⟩:=h.iN id _ ho;obtain⟨hS,hK,hlt⟩:=h0.bG rfl;have hs:gU S w S w':=⟨fun _ h=>h,fun b hb=>hother b (fun e=>hS (e▸hb))⟩
 have hold:∀j c,bA [(id,some (.nst sz (slots.set cU s')))] hf j=some c->(j=id/\c=.nst sz (slots.set cU s'))\/(j≠id/\hf j=some c):=by
  intro j c hj;rw[bZ]at hj;by_cases e:id=j
  .rw [if_pos e]at hj;exact .inl ⟨e.symm,(aa hj).symm⟩
  .rw [if_neg e,fJ]at hj;exact .inr ⟨fun q=>e q.symm,hj⟩
 have was:∀j c,bA [(id,some (.nst sz (slots.set cU s')))] hf j=some c->cR c=true->∃c',hf j=some c'/\cR c'=true:=by
  intro j c hj hc;rcases hold j c hj with⟨rfl,rfl⟩|⟨_,hj'⟩
  .exact ⟨_,ho,rfl⟩
  .exact ⟨c,hj',hc⟩
 have hpat2:∀j sz' sl' k x,bA [(id,some (.nst sz (slots.set cU s')))] hf j=some (.nst sz' sl')->sQ w' (φ j) sl' k x->∃t8,hf j=some (.nst sz' t8)/\sQ w (φ j) t8 k x:=by
  intro j sz' sl' k x hj hp;rcases hold j _ hj with⟨rfl,e⟩|⟨e1,hj'⟩
  .cases e;obtain⟨rows',v',q1,q2,q3⟩:=hp;rcases t9 q1 with⟨_,e,_⟩|⟨hk',q1'⟩
   .exact absurd e.symm (hs' rows')
   .refine ⟨slots,ho,rows',v',q1',?_,q3⟩;rw[hown.cell,<-hget _ (by omega),<-hown'.cell];exact q2
  .exact ⟨sl',hj',(sQ.eu (hother _ (h.jE j id _ _ hj' ho rfl rfl e1))).1 hp⟩
 have hkeep:∀j sz' sl' k x,hf j=some (.nst sz' sl')->sQ w (φ j) sl' k x->w'.heap[x]?=w.heap[x]?/\¬S x:=fun j sz' sl' k x hj hp=>⟨hother x fun e=>(h.xq j sz' sl' k x hj hp).1 id _ ho rfl e.symm,(h.H8 hj hp).1⟩;refine⟨hs,h.vv hs (up.refl _ _) (fun b hb=>hsize▸h.vn b hb) h.sk ?_ ?_ ?_ ?_⟩
 .exact ⟨h.nD.FY,fun b hb=>(hother b (fun e=>hK (e▸hb))).trans (h.nD.nC b hb),hsize▸h.nD.sx,fun a ha=>(hfrz a).trans (h.nD.A5 a ha),h.nD.yS hother (fun a ha=>⟨arr',hown',by obtain⟨t1,e1⟩:=ha;obtain⟨t2,e2⟩:=hown;rw[e1]at e2;rw[hsize'];cases e2;rfl⟩),h.nD.io.trans hio⟩
 .intro j c hj;rcases hold j c hj with⟨rfl,rfl⟩|⟨e1,hj'⟩
  .refine .inr ⟨hk,?_⟩;cases h0 with
   |@nst _ _ arr0 hsz hl hS hK hown0 hext hfit hr hv0=>
    have ea:arr0=aP:=by obtain⟨t1,e1⟩:=hown0;obtain⟨t2,e2⟩:=hown;rw[e1]at e2;cases e2;rfl
    subst ea;refine .nst hsz hl hS hK hown' (hsize'.trans hext) (by rw[fy];exact hfit) (fun i s hi=>?_) (by rw[fy];exact hv0);rcases t9 hi with⟨rfl,rfl,hlt⟩|⟨hne,hi'⟩
    .exact ⟨v,hv hlt,hslot hs⟩
    .obtain ⟨v',q1,q2⟩:=hr i s hi';refine⟨v',(hget _ (by omega)).trans q1,?_⟩;cases q2 with|nil=>exact .nil|@bG ao _ b q3 q4 q5=>exact .bG (q3.mono hs (hkeep j sz slots i b ho ⟨ao,v',hi',(hown.cell _).trans q1,q3.cY⟩).1) q4 q5|cF q3=>exact .cF (q3.mono hs (up.refl _ _))
  .exact .inl ⟨hj',fun hox=>⟨hother _ (h.jE j id c _ hj' ho hox rfl e1),((h.iN j c hj').2.bG hox).1⟩,fun sz' sl' eo k x hp=>by subst eo;exact hkeep j sz' sl' k x hj' hp⟩
 .intro i j a c ha hc hoa hoc hij;obtain⟨a',q1,q2⟩:=was i a ha hoa;obtain⟨c',q3,q4⟩:=was j c hc hoc;exact h.jE i j a' c' q1 q3 q2 q4 hij
 .intro j sz' sl' k x hj hp;obtain⟨t8,q1,q2⟩:=hpat2 j sz' sl' k x hj hp;obtain⟨r1,r2⟩:=h.xq j sz' t8 k x q1 q2;refine⟨fun i c hi hc=>?_,fun i sz3 sl3 k' hi hpi=>?_⟩
  .obtain ⟨c',q3,q4⟩:=was i c hi hc;exact r1 i c' q3 q4
  .obtain ⟨sl4,q5,q6⟩:=hpat2 i sz3 sl3 k' x hi hpi;exact r2 i sz3 sl4 k' q5 q6
end
end Go.Ev
