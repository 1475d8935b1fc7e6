/- The abstract machine: deep data, cells, owned objects, operations and code, and their evaluation. Conditions: none, these are definitions. -/
import Derived.Orders
import Derived.Laws.CopyRow
open Array renaming getD->iB,getElem?_eq_none->eP,getElem?_eq_some_iff->be
open BitVec renaming ofInt->bt
open Bool renaming false_eq_true->aN
open List renaming all_eq_true->aV,append_nil->bi,flatMap_cons->bf,flatten_cons->dK,getElem?_append_left->bq,getElem?_append_right->bv,getElem?_drop->bJ,getElem?_eq_getElem->au,getElem?_eq_some_iff->ai,getElem?_map->aD,getElem?_take->dY,getElem_of_mem->cG,length_map->aI,length_set->eM,length_take->cM,map->kD,mem_append->ak,mem_cons->aF,mem_cons_of_mem->aA,mem_flatten->df,mem_of_getElem?->aQ,mem_singleton->am,nodup_append->bR,nodup_cons->e_,nodup_nil->gX,range->bh,replicate->az
open Nat renaming add_assoc->ct,add_zero->cu,le_refl->ao,le_succ->bk,le_trans->dD,lt_of_lt_of_le->ci,lt_succ_self->aT,mul_le_mul_right->aH,mul_one->iV,zero_add->bG,zero_mul->ip
open Option renaming bind_eq_some_iff->eI,map_eq_some_iff->aB
open Option.some renaming inj->aa,injEq->bl
open Prod.mk renaming inj->ad
namespace Go.Ev
inductive D where
 |lit (v:Value)
 |sl (sz:Nat) (aj:List (List D))
 |pt (cells:List D)
 |fn (f:FuncId) (caps:List D)
 deriving Inhabited
inductive C where
 |d (x:D)
 |dz (sz id off len:Nat)
 |ep (id cC off:Nat)
 |op (id off:Nat)
 |mP (f:FuncId) (caps:List C)
 |om (id:Nat)
 deriving Inhabited
inductive TV where
 |c (x:C)
 |agg (cells:List C)
 |gR (xs:List TV)
 deriving Inhabited
inductive jf where
 |nil
 |bn (aj:List (List D))
 |jZ (id len:Nat)
 deriving Inhabited
inductive Ob where
 |aJ (sz:Nat) (aj:List (List D))
 |nL (sz:Nat) (aj:List (List D))
 |box (cells:List C)
 |my (cells:List D)
 |map (ka va:Bool) (es:List (List Value×List D×Nat)) (eH:Nat)
 |cap (sz:Nat) (aj:List (List D)) (cp:Nat)
 |nst (sz:Nat) (slots:List jf)
 deriving Inhabited
inductive T where
 |d (x:D)
 |sl (sz:Nat) (aj:List (List D))
 |pt (cells:List T)
 |xC (sz:Nat) (aj:List (Option (List (List D))))
 |rD
 deriving Inhabited
inductive A where
 |d (x:D)
 |agg (cells:List D)
 |mt (t:T)
 deriving Inhabited
inductive R where
 |c (t:T)
 |agg (cells:List T)
 deriving Inhabited
def dP:Value->Bool
 |.bool _|.int _ _|.float _ _|.string _|.pointer none|.slice none 0 0|.map none|.nilFunc|.nilIface=>true
 |_=>false
def xF:Nat:=2147483648
def bX{α:Type}:List (Nat×α)->Nat->Option α
 |[],_=>none
 |(a,x)::r,k=>bif a==k then some x else bX r k
abbrev iE:=List (Nat×TV)
abbrev bz:=List (Nat×Option Ob)
abbrev eG:=List (Nat×Option Ob)
def av(h:bz)(id:Nat):Option Ob:=(bX h id).join
inductive Kd where
 |b
 |i (k:IntKind)
 |s
 deriving Inhabited,DecidableEq
inductive K where
 |mv
 |pick
 |alloc (zero:List Value)
 |box
 |build (zero:List Value) (places:List (Nat×Nat))
 |buildSlice (sz len:Nat) (zero:List Value) (places:List Nat)
 |load (agg:Bool) (n:Nat)
 |store (n:Nat)
 |nilCheck
 |xn (op:BinOp)
 |sy (neg:Bool)
 |po (kind:Nat) (neg:Bool)
 |w6 (neg:Bool) (ks:List Kd)
 |un (op:UnOp)
 |tw (k:IntKind)
 |Cg (k:FloatKind)
 |qO
 |GD (f:FuncId)
 |makeSlice (zero:List Value)
 |slice (str:Bool) (sz:Nat) (lo hi:Bool)
 |fieldAddr (off n:Nat)
 |field (agg:Bool) (off n:Nat)
 |indexAddr (aJ:Option Nat) (sz:Nat)
 |nJ
 |index (agg:Bool) (len sz:Nat)
 |extract (i:Nat)
 |len (str:Bool)
 |pW (isMax:Bool)
 |append (sz:Nat)
 |copy (sz:Nat)
 |clear (zero:List Value)
 |zu (sz:Nat)
 |Ki
 |P5 (zero:List Value)
 |Pu
 |call (ro:Bool) (iR:List Bool)
 |makeMap (ka va:Bool)
 |lookup (ka:Bool) (ks:List Kd) (va:Bool) (zero:List Value) (ok:Bool)
 |mapEntry (ka:Bool) (ks:List Kd) (va:Bool) (zero:List Value)
 |entryStore (va:Bool) (m:Nat)
 |yF (szi:Nat)
 |rJ
 |Hl (szi:Nat)
 |Cw (szi:Nat)
 |fr
 deriving Inhabited
structure mj where
 dst:Option Nat
 k:K
 args:List Operand
 guard:Option (Nat×Bool)
 deriving Inhabited
inductive CC where
 |skip
 |region (ops:List mj) (lr:List Nat)
 |drawn (ops:List mj) (dyn:List (Nat×Nat)) (lr:List Nat)
 |seq (a b:CC)
 |cond (c:Operand) (a b:CC)
 |block (id:Nat) (a:CC)
 |loop (lr:List Nat) (a:CC)
 |exit (id:Nat)
 |ret
 |fr
 deriving Inhabited
structure St where
 db:iE
 heap:bz
 next:Nat
 gh:List C
 deriving Inhabited
inductive qo where
 |normal
 |exit (id:Nat)
 |ret
 deriving Inhabited,DecidableEq
def Oe:Nat->Option D:=fun g => if g = 0 then some (.pt ([0, 1, 28, 2, 29, 14, 24, 3, 30, 22, 20, 15, 25, 17, 4, 8, 31, 27, 13, 23, 21, 19, 16, 7, 26, 12, 18, 6, 11, 5, 10, 9].map fun (x : Int) => .lit (.int .u8 x))) else none
def cv:Value->Option TV
 |.agg cs=>if cs.toList.all dP then some (.agg (cs.toList.map fun v=>.d (.lit v)))else none
 |v=>if dP v then some (.c (.d (.lit v)))else none
def jq(e:iE):Operand->Option TV
 |.tmp t=>bX e t
 |.const v=>cv v
 |.global g=>(Oe g).map fun d=>.c (.d d)
 |.func f=>some (.c (.d (.fn f [])))
def cellsOf:TV->Option (List C)
 |.c x=>some [x]
 |.agg cs=>some cs
 |.gR _=>none
def eJ:List Value->List C:=kD fun v=>.d (.lit v)
def ce:List Value->List D:=kD D.lit
def aX{α:Type}(l:List α)(off:Nat)(p:List α):List α:=l.take off++p++l.drop (off+p.length)
def lx(cells:List C):List ((Nat×Nat)×TV)->Option (List C)
 |[]=>some cells
 |((off,n),v)::r=>match cellsOf v with|some cs=>if cs.length=n/\off+n<=cells.length then lx (aX cells off cs) r else none|none=>none
def kL{α:Type}(sz:Nat):Nat->List α->List (List α)
 |0,_=>[]
 |n+1,l=>l.take sz::kL sz n (l.drop sz)
def HY(sz:Nat):jf->Option D
 |.nil=>some (.lit (.slice none 0 0))
 |.bn aj=>some (.sl sz aj)
 |.jZ _ _=>none
def oK(sz:Nat):List jf->Option (List (List D))
 |[]=>some []
 |s::r=>match HY sz s,oK sz r with|some x,some l=>some ([x]::l)|_,_=>none
def MN:jf->Option (Option (List (List D)))
 |.nil=>some none
 |.bn aj=>some (some aj)
 |.jZ _ _=>none
def sf:List jf->Option (List (Option (List (List D))))
 |[]=>some []
 |s::r=>match MN s,sf r with|some x,some l=>some (x::l)|_,_=>none
def lf:Option (List (List D))->jf
 |none=>.nil
 |some aj=>.bn aj
mutual
def dE(h:bz):Nat->C->Option (D×List Nat)
 |_,.d x=>some (x,[])
 |_,.dz sz id off len=>match av h id with|some (.aJ _ aj)|some (.nL _ aj)=>if off+len<=aj.length then some (.sl sz ((aj.drop off).take len),[id])else none|some (.nst szi slots)=>if off=0/\len=slots.length then(match oK szi slots with|some aj=>some (.sl sz aj,[id])|none=>none)else none|_=>none
 |_,.ep id cC off=>
  match av h id with
  |some (.aJ _ aj)|some (.nL _ aj)=>match aj[cC]?with|some r=>if off<=r.length then some (.pt (r.drop off),[id])else none|none=>none
  |_=>none
 |0,_=>none
 |n+1,.op id off=>
  match av h id with
  |some (.my cells)=>if off<=cells.length then some (.pt (cells.drop off),[id])else none
  |some (.box cells)=>match fc h n cells with|some (ds,aw)=>if off<=ds.length then some (.pt (ds.drop off),id::aw)else none|none=>none
  |_=>none
 |n+1,.mP f caps=>match fc h n caps with|some (ds,aw)=>some (.fn f ds,aw)|none=>none
 |_+1,.om _=>none
def fc(h:bz):Nat->List C->Option (List D×List Nat)
 |_,[]=>some ([],[])
 |0,_=>none
 |n+1,c::cs=>match dE h n c,fc h n cs with|some (x,a),some (xs,b)=>some (x::xs,a++b)|_,_=>none
end
def iN(h:bz)(all:List Nat)(id:Nat):Option Ob:=
 match av h id with
 |some (.aJ sz aj)=>some (.nL sz aj)
 |some (.nL sz aj)=>some (.nL sz aj)
 |some (.my cells)=>some (.my cells)
 |some (.box cells)=>match fc h 300 cells with|some (ds,aw)=>if aw.all (fun i=>all.contains i)then some (.my ds)else none|none=>none
 |some (.map _ _ _ _)=>none
 |some (.cap _ _ _)=>none
 |some (.nst szi slots)=>match oK szi slots with|some aj=>some (.nL 1 aj)|none=>none
 |none=>none
def de(h:bz)(all:List Nat):List Nat->Option eG
 |[]=>some []
 |id::r=>match iN h all id,de h all r with|some o,some u=>some ((id,some o)::u)|_,_=>none
def du(h:bz):List C->Option (List D×List Nat)
 |[]=>some ([],[])
 |c::cs=>match dE h 300 c,du h cs with|some (x,a),some (xs,b)=>some (x::xs,a++b)|_,_=>none
mutual
def dZ(h:bz):Nat->C->Option (T×List Nat×List Nat)
 |_,.d x=>some (.d x,[],[])
 |_,.dz sz id off len=>match av h id with|some (.aJ _ aj)=>if off+len<=aj.length then some (.sl sz ((aj.drop off).take len),[id],[id])else none|some (.nL _ aj)=>if off+len<=aj.length then some (.d (.sl sz ((aj.drop off).take len)),[],[id])else none|some (.nst szi slots)=>if off=0/\len=slots.length then(match sf slots with|some aj=>some (.xC szi aj,[id],[id])|none=>none)else none|_=>none
 |0,_=>none
 |n+1,.op id 0=>
  match av h id with
  |some (.box cells)=>match gM h n cells with|some (ts,bn,aw)=>some (.pt ts,id::bn,id::aw)|none=>none
  |some (.my cells)=>some (.d (.pt cells),[],[id])
  |_=>none
 |_+1,_=>none
def gM(h:bz):Nat->List C->Option (List T×List Nat×List Nat)
 |_,[]=>some ([],[],[])
 |0,_=>none
 |n+1,c::cs=>match dZ h n c,gM h n cs with|some (x,a,i),some (xs,b,j)=>some (x::xs,a++b,i++j)|_,_=>none
end
mutual
def jA(nxt:Nat):T->C×eG×Nat
 |.d x=>(.d x,[],nxt+1)
 |.rD=>(.d (.lit .nilFunc),[],nxt+1)
 |.sl sz aj=>(.dz sz nxt 0 aj.length,[(nxt,some (.aJ sz aj))],nxt+1)
 |.xC sz aj=>(.dz 1 nxt 0 aj.length,[(nxt,some (.nst sz (aj.map lf)))],nxt+1)
 |.pt ts=>let(cs,u,m):=gC (nxt+1) ts;(.op nxt 0,(nxt,some (.box cs))::u,m)
def gC(nxt:Nat):List T->List C×eG×Nat
 |[]=>([],[],nxt)
 |t::ts=>let(c,u,m):=jA nxt t;let(cs,v,k):=gC m ts;(c::cs,u++v,k)
end
def uK(nxt:Nat):R->TV×eG×Nat
 |.c t=>let(c,u,m):=jA nxt t;(.c c,u,m)
 |.agg ts=>let(cs,u,m):=gC nxt ts;(.agg cs,u,m)
def fV(nxt:Nat):List R->List TV×eG×Nat
 |[]=>([],[],nxt)
 |r::rs=>let(v,u,m):=uK nxt r;let(vs,w,k):=fV m rs;(v::vs,u++w,k)
abbrev Call:=FuncId->List A->Option (List R×List T)
abbrev Ax:=Option (TV×eG×List Nat×Nat)
def lv(v:Value):TV:=.c (.d (.lit v))
def mL(op:BinOp):Value->Value->Option Value
 |.int k a,.int k' b=>
  match op with
  |.shl=>if b<0 then none else some (.int k (k.wrap (a*2^(min b.toNat k.bits))))
  |.shr=>if b<0 then none else some (.int k (a.fdiv (2^(min b.toNat k.bits))))
  |op=>if k=k' then
   (match op with
   |.add=>some (.int k (k.wrap (a+b)))
   |.sub=>some (.int k (k.wrap (a-b)))
   |.mul=>some (.int k (k.wrap (a*b)))
   |.quo=>if b=0 then none else some (.int k (k.wrap (a.tdiv b)))
   |.rem=>if b=0 then none else some (.int k (a.tmod b))
   |.and=>some (.int k (k.wrap (bt k.bits a&&&bt k.bits b).toNat))
   |.or=>some (.int k (k.wrap (bt k.bits a|||bt k.bits b).toNat))
   |.xor=>some (.int k (k.wrap (bt k.bits a^^^bt k.bits b).toNat))
   |.andNot=>some (.int k (k.wrap (bt k.bits a&&&~~~bt k.bits b).toNat))
   |.eql=>some (.bool (a==b))
   |.neq=>some (.bool (a !=b))
   |.lss=>some (.bool (a<b))
   |.leq=>some (.bool (a<=b))
   |.gtr=>some (.bool (a>b))
   |.geq=>some (.bool (a>=b))
   |_=>none)else none
 |.float k a,.float k' b=>
  if k=k' then
   match op with|.add=>(k.format.add a b).map (.float k)|.sub=>(k.format.sub a b).map (.float k)|.mul=>(k.format.mul a b).map (.float k)|.quo=>(k.format.div a b).map (.float k)|.eql=>some (.bool (k.format.order a b==some .eq))|.neq=>some (.bool (k.format.order a b !=some .eq))|.lss=>some (.bool (k.format.order a b==some .lt))|.leq=>some (.bool (k.format.order a b==some .lt||k.format.order a b==some .eq))|.gtr=>some (.bool (k.format.order a b==some .gt))|.geq=>some (.bool (k.format.order a b==some .gt||k.format.order a b==some .eq))|_=>none
  else none
 |.string x,.string y=>match op with|.add=>if((x.size+y.size:Nat):Int)>IntKind.i64.max then none else some (.string (x++y))|.eql=>some (.bool (x.toList==y.toList))|.neq=>some (.bool !(x.toList==y.toList))|.lss=>some (.bool (Op.bytesLess x.toList y.toList))|.leq=>some (.bool (Op.bytesLess x.toList y.toList||x.toList==y.toList))|.gtr=>some (.bool !(Op.bytesLess x.toList y.toList||x.toList==y.toList))|.geq=>some (.bool !(Op.bytesLess x.toList y.toList))|_=>none
 |_,_=>none
def rz(k:FloatKind):Nat:=match k with|.f32=>0x7fc00000|.f64=>0x7ff8000000000001
def zK(op:BinOp):Value->Value->Option Value
 |.float k a,.float k' b=>
  if k=k' then
   match op with|.add=>if k.format.add a b=none then some (.float k (rz k))else none|.sub=>if k.format.sub a b=none then some (.float k (rz k))else none|.mul=>if k.format.mul a b=none then some (.float k (rz k))else none|.quo=>if k.format.div a b=none then some (.float k (rz k))else none|_=>none
  else none
 |_,_=>none
def l6(op:BinOp)(x y:Value):Option Value:=match mL op x y with|some v=>some v|none=>zK op x y
def No(op:UnOp):Value->Option Value
 |.bool b=>match op with|.not=>some (.bool !b)|_=>none
 |.int k n=>match op with|.neg=>some (.int k (k.wrap (0-n)))|.xor=>some (.int k (k.wrap (bt k.bits (if k.signed then-1 else k.max)^^^bt k.bits n).toNat))|_=>none
 |.float k b=>match op with|.neg=>some (.float k (Op.negFloat k b))|_=>none
 |_=>none
def AC:Kd->Value->Value->Option Bool
 |.i q,.int k a,.int k' b=>if k=q/\k'=q then some (a==b)else none
 |.b,.bool a,.bool b=>some (a==b)
 |.s,.string a,.string b=>some (a==b)
 |_,_,_=>none
def ft:List Kd->List Value->List Value->Option Bool
 |[],[],[]=>some true
 |k::ks,x::xs,y::ys=>match AC k x y,ft ks xs ys with|some a,some b=>some (a&&b)|_,_=>none
 |_,_,_=>none
def km:List C->Option (List Value)
 |[]=>some []
 |.d (.lit v)::r=>match km r with|some l=>some (v::l)|none=>none
 |_=>none
def AA(isMax:Bool):Value->Value->Option Value
 |.int k x,.int k' y=>if k=k' then some (.int k (if isMax then(if y>x then y else x)else(if y<x then y else x)))else none
 |.float k x,.float k' y=>
  if k=k' then match k.format.order x y with|none=>some (.float k (rz k))|some .lt=>some (.float k (if isMax then y else x))|some .gt=>some (.float k (if isMax then x else y))|some .eq=>some (.float k (if isMax then(if(k.decode x).neg then y else x)else(if(k.decode x).neg then x else y)))
  else none
 |_,_=>none
def IS(isMax:Bool):Value->List (Option TV)->Option Value
 |x,[]=>some x
 |x,some (.c (.d (.lit y)))::r=>match AA isMax x y with|some z=>IS isMax z r|none=>none
 |_,_=>none
def BM(agg:Bool)(n:Nat)(cells:List C):Option TV:=if agg then(if n<=cells.length then some (.agg (cells.take n))else none)else match cells with|x::_=>some (.c x)|[]=>none
def MW(agg:Bool)(n:Nat)(cells:List D):Option TV:=if agg then(if n<=cells.length then some (.agg ((cells.take n).map .d))else none)else match cells with|x::_=>some (.c (.d x))|[]=>none
def ge(agg:Bool)(n:Nat)(p:C)(h:bz):Option (TV×List Nat):=
 match p with
 |.d (.pt cells)=>match MW agg n cells with|some v=>some (v,[])|none=>none
 |.ep id cC off=>
  match av h id with
  |some (.aJ _ aj)|some (.nL _ aj)=>
   match aj[cC]?with
   |some r=>match MW agg n (r.drop off)with|some v=>some (v,[id])|none=>none
   |none=>none
  |_=>none
 |.op id off=>
  match av h id with
  |some (.box cells)=>match BM agg n (cells.drop off)with|some v=>some (v,[id])|none=>none
  |some (.my cells)=>match MW agg n (cells.drop off)with|some v=>some (v,[id])|none=>none
  |_=>none
 |_=>none
def p_(id cC sz:Nat)(slots:List jf)(cs:List C)(h:bz):Option (eG×List Nat):=
 match cs with
 |[.d (.lit (.slice none 0 0))]=>some ([(id,some (.nst sz (slots.set cC .nil)))],[id])
 |[.dz sz' id2 0 len]=>match av h id2 with|some (.aJ _ aj)=>if sz'=sz/\len=aj.length/\id2≠id then some ([(id,some (.nst sz (slots.set cC (.bn aj)))),(id2,none)],[id,id2])else none|_=>none
 |_=>none
def j7(agg:Bool)(n:Nat)(p:C)(h:bz)(nxt:Nat):Ax:=
 match p with
 |.ep id cC 0=>
  match av h id with
  |some (.nst sz slots)=>if agg=false/\n=1 then
   (match slots[cC]?with
   |some .nil=>some (.c (.d (.lit (.slice none 0 0))),[],[id],nxt)
   |some (.bn aj)=>some (.c (.dz sz nxt 0 aj.length),[(nxt,some (.aJ sz aj)),(id,some (.nst sz (slots.set cC (.jZ nxt aj.length))))],[id],nxt+1)
   |_=>none)else none
  |_=>none
 |_=>none
def kF(n:Nat)(p:C)(v:TV)(h:bz):Option (eG×List Nat):=
 match cellsOf v with
 |none=>none
 |some cs=>
  if cs.length=n then
   match p with
   |.ep id cC off=>
    match av h id with
    |some (.aJ sz aj)=>
     match aj[cC]?,du h cs with
     |some r,some (ds,aw)=>match de h aw aw with|some u=>if off+n<=r.length/\aw.contains id=false then some ((id,some (.aJ sz (aj.set cC (aX r off ds))))::u,id::aw)else none|none=>none
     |_,_=>none
    |some (.nst sz slots)=>if off=0/\n=1/\cC<slots.length then p_ id cC sz slots cs h else none
    |_=>none
   |.op id off=>match av h id with|some (.box cells)=>if off+n<=cells.length then some ([(id,some (.box (aX cells off cs)))],[id])else none|_=>none
   |_=>none
  else none
def b_:Option TV->Option Int
 |some (.c (.d (.lit (.int _ n))))=>some n
 |_=>none
def eX(str:Bool)(sz:Nat)(x:C)(lo hi:Option Int):Option C:=
 if str then match x with
 |.d (.lit (.string s))=>
  let h:=hi.getD s.size;let l:=lo.getD 0
  if 0<=l/\l<=h/\h<=s.size then some (.d (.lit (.string (s.extract l.toNat h.toNat))))else none
 |_=>none
 else match x with
 |.d (.lit (.slice none 0 0))=>if 0<=lo.getD 0/\lo.getD 0<=hi.getD 0/\hi.getD 0<=0 then some x else none
 |.dz sz' id off len=>
  let h:=hi.getD len;let l:=lo.getD 0
  if sz'=sz/\0<=l/\l<=h/\h<=len then some (.dz sz id (off+l.toNat) (h.toNat-l.toNat))else none
 |.d (.sl sz' aj)=>
  let h:=hi.getD aj.length;let l:=lo.getD 0
  if sz'=sz/\0<=l/\l<=h/\h<=aj.length then some (.d (.sl sz ((aj.drop l.toNat).take (h.toNat-l.toNat))))else none
 |_=>none
def l5(str:Bool)(sz:Nat)(x:C)(l u:Int)(h:bz):Option (C×List Nat):=
 match str,x with
 |false,.dz sz' id off _=>match av h id with|some (.aJ _ aj)=>if sz'=sz/\0<=l/\l<=u/\off+u.toNat<=aj.length then some (.dz sz id (off+l.toNat) (u.toNat-l.toNat),[id])else none|some (.cap _ _ cp)=>if sz'=sz/\0<=l/\l<=u/\off+u.toNat<=cp then some (.dz sz id (off+l.toNat) (u.toNat-l.toNat),[id])else none|_=>none
 |_,_=>none
def JQ(sz:Nat)(x:C)(l u m:Int)(nxt:Nat):Option C:=match x with|.dz sz' _ _ len=>if sz'=sz/\0<=l/\l<=u/\u<=m/\m<=len then some (.dz sz nxt 0 (u.toNat-l.toNat))else none|_=>none
def nc(zero:List Value)(x:C)(h:bz):Option (eG×List Nat):=
 match x with
 |.dz sz id off len=>match av h id with|some (.aJ _ aj)=>if sz=zero.length/\off+len<=aj.length then some ([(id,some (.aJ sz (aX aj off (az len (ce zero)))))],[id])else none|_=>none
 |_=>none
def iU(off n:Nat):C->Option C
 |.op id o=>some (.op id (o+off))
 |.ep id r o=>some (.ep id r (o+off))
 |.d (.pt cells)=>if off+n<=cells.length then some (.d (.pt ((cells.drop off).take n)))else none
 |_=>none
def gN(aJ:Option Nat)(sz:Nat)(x:C)(i:Int):Option C:=
 match aJ with
 |none=>match x with|.dz sz' id off len=>if 0<=i/\i<len/\sz'=sz then some (.ep id (off+i.toNat) 0)else none|.d (.sl sz' aj)=>if 0<=i/\sz'=sz then(match aj[i.toNat]?with|some r=>some (.d (.pt r))|none=>none)else none|_=>none
 |some n=>
  if 0<=i/\i<n then
   match x with|.op id o=>some (.op id (o+i.toNat*sz))|.ep id r o=>some (.ep id r (o+i.toNat*sz))|.d (.pt cells)=>if i.toNat*sz+sz<=cells.length then some (.d (.pt ((cells.drop (i.toNat*sz)).take sz)))else none|_=>none
  else none
def rO:Bool->C->Option Int
 |true,.d (.lit (.string s))=>some s.size
 |false,.d (.lit (.slice none 0 0))=>some 0
 |false,.dz _ _ _ len=>some len
 |false,.d (.sl _ aj)=>some aj.length
 |_,_=>none
def ic(sz:Nat)(h:bz):C->Option (List (List D)×List Nat)
 |.d (.lit (.slice none 0 0))=>some ([],[])
 |.d (.sl sz' aj)=>if sz'=sz then some (aj,[])else none
 |.dz sz' id off len=>match av h id with|some (.aJ _ aj)|some (.nL _ aj)=>if sz'=sz/\off+len<=aj.length then some ((aj.drop off).take len,[id])else none|_=>none
 |_=>none
def mA(sz:Nat)(s x:C)(h:bz)(nxt:Nat):Ax:=
 match ic sz h x with
 |none=>none
 |some (new,aw)=>
  match s with
  |.d (.lit (.slice none 0 0))=>
   if new.length<=xF then
    match new with|[]=>some (.c s,[],aw,nxt)|new=>some (.c (.dz sz nxt 0 new.length),[(nxt,some (.aJ sz new))],aw,nxt+1)
   else none
  |.dz sz' id off len=>
   match av h id with
   |some (.aJ _ aj)=>
    if sz'=sz/\off+len<=aj.length/\len+new.length<=xF then
     some (.c (.dz sz nxt 0 (len+new.length)),[(id,none),(nxt,some (.aJ sz ((aj.drop off).take len++new++aj.drop (off+len+new.length))))],id::aw,nxt+1)
    else none
   |_=>none
  |_=>none
def D2(szi:Nat)(x:C)(nxt:Nat):Ax:=match x with|.dz szi' idR 0 len=>if szi'=szi/\0<szi then some (.c (.dz 1 nxt 0 1),[(nxt,some (.nst szi [.jZ idR len]))],[],nxt+1)else none|_=>none
def mJ(szi:Nat)(s x:C)(h:bz)(nxt:Nat):Ax:=
 match x with
 |.dz 1 idB 0 1=>
  match av h idB with
  |some (.nst szB [.jZ idR len])=>
   if szB=szi then
    (match s with
    |.d (.lit (.slice none 0 0))=>some (.c (.dz 1 nxt 0 1),[(idB,none),(nxt,some (.nst szi [.jZ idR len]))],[idB],nxt+1)
    |.dz 1 idA 0 n=>match av h idA with|some (.nst szA slots)=>if szA=szi/\n=slots.length/\idA≠idB/\slots.length+1<=xF then some (.c (.dz 1 nxt 0 (slots.length+1)),[(idA,none),(idB,none),(nxt,some (.nst szi (slots++[.jZ idR len])))],[idA,idB],nxt+1)else none|_=>none
    |_=>none)else none
  |_=>none
 |_=>none
def m_(sz:Nat)(dst src:C)(h:bz):Option (Int×eG×List Nat):=
 match dst,src with
 |.dz sz' id off len,.dz sz2 id2 off2 len2=>
  match av h id,av h id2 with
  |some (.cap _ aj cp),some (.aJ _ rows2)=>
   if sz'=sz/\sz2=sz/\off<=aj.length/\off2+min len2 len<=rows2.length then
    some ((min len2 len:Nat),[(id,some (.cap sz (aX aj off ((rows2.drop off2).take (min len2 len))) cp))],[id,id2])
   else none
  |some (.cap _ aj cp),some (.cap _ rows2 _)=>
   if sz'=sz/\sz2=sz/\off<=aj.length/\off2+min len2 len<=rows2.length then
    some ((min len2 len:Nat),[(id,some (.cap sz (aX aj off ((rows2.drop off2).take (min len2 len))) cp))],[id,id2])
   else none
  |_,_=>none
 |_,_=>none
def yS(zero:List Value)(x:C)(k:Int)(h:bz)(nxt:Nat):Ax:=
 match x with
 |.dz sz' id off len=>
  match av h id with
  |some (.cap _ aj cp)=>
   if sz'=zero.length/\0<=k/\len+k.toNat<=xF/\off+len<=aj.length/\cp<off+len+k.toNat then
    some (.c (.dz zero.length nxt 0 (len+k.toNat)),[(nxt,some (.aJ zero.length ((aj.drop off).take len++az k.toNat (ce zero))))],[id],nxt+1)
   else none
  |_=>none
 |_=>none
def wZ(x:C)(h:bz):Option (Nat×List Nat):=
 match x with
 |.dz _ id off _=>match av h id with|some (.cap _ _ cp)=>some (cp-off,[id])|_=>none
 |_=>none
def wY(x y:C)(h:bz):Option (List Nat):=
 match x,y with
 |.dz _ a _ _,.dz _ b _ _=>match av h a,av h b with|some (.aJ _ _),some (.cap _ _ cp)=>if a≠b/\0<cp then some [a,b]else none|_,_=>none
 |_,_=>none
def kK(sz:Nat)(dst src:C)(h:bz):Option (Int×eG×List Nat):=
 match ic sz h src,dst with
 |some (_,aw),.d (.lit (.slice none 0 0))=>some (0,[],aw)
 |some (new,aw),.dz sz' id off len=>
  match av h id with
  |some (.aJ _ aj)=>
   if sz'=sz/\off+len<=aj.length then
    some ((min new.length len:Nat),[(id,some (.aJ sz (aX aj off (new.take len))))],id::aw)
   else none
  |_=>none
 |_,_=>none
def fy(h:bz):List TV->List Bool->Option (List A×List Nat×List (C×List Nat×List Nat))
 |[],_=>some ([],[],[])
 |v::vs,ms=>
  match fy h vs ms.tail with
  |none=>none
  |some (as,aw,lent)=>
   if ms.headD false then
    match v with
    |.c c=>match dZ h 300 c with|some (t,bn,rd)=>some (.mt t::as,aw,(c,bn,rd)::lent)|none=>none
    |_=>none
   else match v with
    |.c c=>match dE h 300 c with|some (x,i)=>some (.d x::as,i++aw,lent)|none=>none
    |.agg cs=>match du h cs with|some (xs,i)=>some (.agg xs::as,i++aw,lent)|none=>none
    |.gR _=>none
def dv(nxt:Nat):List (C×List Nat×List Nat)->List T->Option (eG×Nat)
 |[],[]=>some ([],nxt)
 |(_,[],_)::r,.d _::ts=>dv nxt r ts
 |(.op id 0,bn,_)::r,.pt ts'::ts=>match dv (gC nxt ts').2.2 r ts with|some (w,k)=>if bn.contains id then some ((id,some (.box (gC nxt ts').1))::(gC nxt ts').2.1++bn.map (fun i=>(i,none))++w,k)else none|none=>none
 |(.dz sz id 0 len,bn,_)::r,.sl sz' aj::ts=>
  if aj.length=len/\sz'=sz/\bn=[id]then
   match dv nxt r ts with|some (w,k)=>some ((id,some (.aJ sz aj))::w,k)|none=>none
  else none
 |(.dz sz id 0 len,bn,_)::r,.xC szi aj::ts=>
  if aj.length=len/\sz=1/\bn=[id]then
   match dv nxt r ts with|some (w,k)=>some ((id,some (.nst szi (aj.map lf)))::w,k)|none=>none
  else none
 |(_,bn,_)::r,.rD::ts=>match dv nxt r ts with|some (w,k)=>some (bn.map (fun i=>(i,none))++w,k)|none=>none
 |_,_=>none
def uh:R->Bool
 |.c (.d (.lit _))=>true
 |.agg ts=>ts.all fun|.d (.lit _)=>true|_=>false
 |_=>false
def Dp:T->Bool
 |.d (.lit _)=>true
 |.sl _ aj=>aj.all fun r=>r.all fun|.lit _=>true|_=>false
 |.rD=>true
 |_=>false
def qA:List TV->TV
 |[v]=>v
 |vs=>.gR vs
def dX{α:Type}:List (Option α)->Option (List α)
 |[]=>some []
 |some x::r=>match dX r with|some xs=>some (x::xs)|none=>none
 |none::_=>none
def dU(h:bz):List (C×List Nat×List Nat)->Bool
 |[]=>true
 |(.dz _ id off len,_)::r=>(match av h id with|some (.aJ _ aj)=>off==0&&len==aj.length|some (.nst _ slots)=>off==0&&len==slots.length|_=>false)&&dU h r
 |_::r=>dU h r
def sx(call:Call)(ro:Bool)(iR:List Bool)(f:Option TV)(vs:List (Option TV))(h:bz)(nxt:Nat):Ax:=
 match(match f with|some (.c (.d (.fn f caps)))=>some (f,caps.map C.d)|some (.c (.mP f caps))=>some (f,caps)|_=>none),dX vs with
 |some (f,caps),some vs=>
  match fy h (vs++caps.map TV.c) iR with
  |none=>none
  |some (as,aw,lent)=>
   if dU h lent/\(lent.flatMap (·.2.1)).Nodup/\(lent.flatMap (·.2.1)).all (fun i=>!aw.contains i)then
    match call f as with
    |none=>none
    |some (rs,outs)=>
     if ro then
      if rs.all uh/\outs.all Dp then
       match dv nxt lent outs with
       |none=>none
       |some (bu,m)=>
        let(vs,u,k):=fV m rs
        some (qA vs,u++bu,aw++lent.flatMap (·.2.2),k)
      else none
     else
      match de h aw aw with
      |none=>none
      |some fu=>
       match dv nxt lent outs with
       |none=>none
       |some (bu,m)=>
        let(vs,u,k):=fV m rs
        some (qA vs,u++bu++fu,aw++lent.flatMap (·.2.2),k)
   else none
 |_,_=>none
def oB:Nat->C->Option Bool
 |0,.d (.lit (.slice none 0 0))=>some true
 |0,.d (.sl _ _)|0,.dz _ _ _ _=>some false
 |1,.d (.lit (.pointer none))=>some true
 |1,.d (.pt _)|1,.ep _ _ _|1,.op _ _=>some false
 |2,.d (.lit .nilFunc)=>some true
 |2,.d (.fn _ _)|2,.mP _ _=>some false
 |_,_=>none
def w9:List C->Option (List D)
 |[]=>some []
 |.d x::r=>match w9 r with|some l=>some (x::l)|none=>none
 |_=>none
abbrev qT:=List Value×List D×Nat
def lw(ks:List Kd)(key:List Value):List qT->Nat->Option (Option Nat)
 |[],_=>some none
 |e::r,i=>match ft ks key e.1 with|some true=>some (some i)|some false=>lw ks key r (i+1)|none=>none
def nw(va:Bool)(ds:List D):Option TV:=if va then some (.agg (ds.map .d))else match ds with|[x]=>some (.c (.d x))|_=>none
def GI:Kd->Value->Bool
 |.i q,.int k _=>decide (k=q)
 |.b,.bool _=>true
 |.s,.string _=>true
 |_,_=>false
def vw:List Kd->List Value->Bool
 |[],[]=>true
 |k::ks,x::xs=>GI k x&&vw ks xs
 |_,_=>false
def mR(ka:Bool)(ks:List Kd):TV->Option (List Value)
 |.agg cs=>if ka=true/\cs.length=ks.length then(match km cs with|some l=>if vw ks l=true then some l else none|none=>none)else none
 |.c x=>if ka=false/\ks.length=1 then(match km [x]with|some l=>if vw ks l=true then some l else none|none=>none)else none
 |.gR _=>none
def gx(ka:Bool)(ks:List Kd)(va:Bool)(zero:List Value)(ok:Bool)(m:C)(k:TV)(h:bz):Option (TV×List Nat):=
 match m,mR ka ks k with
 |.d (.lit (.map none)),some _=>match nw va (ce zero)with|some v=>some (if ok then .gR [v,lv (.bool false)]else v,[])|none=>none
 |.om id,some key=>
  match av h id with
  |some (.map ka' va' es _)=>
   if ka'=ka/\va'=va then
    match lw ks key es 0 with
    |some (some i)=>match nw va (es.getD i default).2.1 with|some v=>some (if ok then .gR [v,lv (.bool true)]else v,[id])|none=>none
    |some none=>match nw va (ce zero)with|some v=>some (if ok then .gR [v,lv (.bool false)]else v,[id])|none=>none
    |none=>none
   else none
  |_=>none
 |_,_=>none
def lA(ka:Bool)(ks:List Kd)(va:Bool)(zero:List Value)(m:C)(k:TV)(h:bz):Option (TV×eG×List Nat):=
 match m,mR ka ks k with
 |.om id,some key=>
  match av h id with
  |some (.map ka' va' es eH)=>
   if ka'=ka/\va'=va then
    match lw ks key es 0 with
    |some (some i)=>match nw va (es.getD i default).2.1 with|some v=>some (.gR [v,lv (.int .i64 (es.getD i default).2.2)],[(id,some (.map ka va es eH))],[id])|none=>none
    |some none=>match nw va (ce zero)with|some v=>some (.gR [v,lv (.int .i64 eH)],[(id,some (.map ka va (es++[(key,ce zero,eH)]) (eH+1)))],[id])|none=>none
    |none=>none
   else none
  |_=>none
 |_,_=>none
def vy:TV->Bool
 |.agg _=>true
 |_=>false
def lB(va:Bool)(n:Nat)(m:C)(st:Option TV)(x:TV)(h:bz):Option (eG×List Nat):=
 match m,b_ st,(cellsOf x).bind w9 with
 |.om id,some s,some ds=>
  match av h id with
  |some (.map ka va' es eH)=>
   if va'=va/\ds.length=n/\vy x=va then
    match es.findIdx? (fun e=>decide ((e.2.2:Int)=s))with|some i=>some ([(id,some (.map ka va (es.set i ((es.getD i default).1,ds,(es.getD i default).2.2)) eH))],[id])|none=>none
   else none
  |_=>none
 |_,_,_=>none
def cm(call:Call)(k:K)(vs:List (Option TV))(h:bz)(nxt:Nat):Ax:=
 match k,vs with
 |.mv,[some x]=>some (x,[],[],nxt)
 |.pick,[some (.c (.d (.lit (.bool c)))),a,b]=>match(if c then a else b)with|some v=>some (v,[],[],nxt)|none=>none
 |.alloc zero,[]=>some (.c (.op nxt 0),[(nxt,some (.box (eJ zero)))],[],nxt+1)
 |.box,[some x]=>match cellsOf x with|some cs=>some (.c (.op nxt 0),[(nxt,some (.box cs))],[],nxt+1)|none=>none
 |.build zero places,vs=>
  match dX vs with
  |some xs=>match lx (eJ zero) (places.zip xs)with|some cs=>some (.agg cs,[],[],nxt)|none=>none
  |none=>none
 |.buildSlice sz len zero places,vs=>
  match dX vs with
  |some xs=>
   match lx (eJ zero) ((places.map fun i=>(i*sz,sz)).zip xs)with
   |some cs=>
    match du h cs with
    |some (ds,aw)=>match de h aw aw with|some u=>some (.c (.dz sz nxt 0 len),(nxt,some (.aJ sz (kL sz len ds)))::u,aw,nxt+1)|none=>none
    |none=>none
   |none=>none
  |none=>none
 |.load agg n,[some (.c p)]=>match ge agg n p h with|some (v,aw)=>some (v,[],aw,nxt)|none=>none
 |.rJ,[some (.c p)]=>match ge false 1 p h with|some (v,aw)=>some (v,[],aw,nxt)|none=>j7 false 1 p h nxt
 |.Hl szi,[some (.c x)]=>D2 szi x nxt
 |.Cw szi,[some (.c s),some (.c x)]=>mJ szi s x h nxt
 |.store n,[some (.c p),some v]=>match kF n p v h with|some (u,aw)=>some (.gR [],u,aw,nxt)|none=>none
 |.nilCheck,[some (.c x)]=>match x with|.d (.pt _)|.d (.fn _ _)|.ep _ _ _|.op _ _|.mP _ _=>some (.c x,[],[],nxt)|_=>none
 |.xn op,[some (.c (.d (.lit x))),some (.c (.d (.lit y)))]=>match l6 op x y with|some v=>some (lv v,[],[],nxt)|none=>none
 |.sy neg,[some (.c (.d (.lit (.bool x)))),some (.c (.d (.lit (.bool y))))]=>some (lv (.bool (if neg then !(x==y)else x==y)),[],[],nxt)
 |.po kind neg,[some (.c x)]=>match oB kind x with|some b=>some (lv (.bool (if neg then !b else b)),[],[],nxt)|none=>none
 |.w6 neg ks,[some (.agg xs),some (.agg ys)]=>
  match km xs,km ys with
  |some xs,some ys=>match ft ks xs ys with|some b=>some (lv (.bool (if neg then !b else b)),[],[],nxt)|none=>none
  |_,_=>none
 |.un op,[some (.c (.d (.lit x)))]=>match No op x with|some v=>some (lv v,[],[],nxt)|none=>none
 |.tw k,[some (.c (.d (.lit (.int _ n))))]=>some (lv (.int k (k.wrap n)),[],[],nxt)
 |.Cg k,[some (.c (.d (.lit (.int _ n))))]=>some (lv (.float k (k.nearest n)),[],[],nxt)
 |.qO,[some (.c (.d (.lit (.string s))))]=>some (lv (.string s),[],[],nxt)
 |.GD f,vs=>
  match dX vs with
  |some xs=>match dX (xs.map fun|.c c=>some c|_=>none)with|some cs=>some (.c (.mP f cs),[],[],nxt)|none=>none
  |none=>none
 |.makeSlice zero,[l,c]=>
  match b_ l,b_ c with
  |some l,some c=>
   if 0<=l/\l<=c/\c<=xF then
    some (.c (.dz zero.length nxt 0 l.toNat),[(nxt,some (.aJ zero.length (az l.toNat (ce zero))))],[],nxt+1)
   else none
  |_,_=>none
 |.yF szi,[l,c]=>match b_ l,b_ c with|some l,some c=>if 0<=l/\l<=c/\c<=xF then some (.c (.dz 1 nxt 0 l.toNat),[(nxt,some (.nst szi (az l.toNat .nil)))],[],nxt+1)else none|_,_=>none
 |.slice str sz lo hi,some (.c x)::r=>
  match lo,hi,r with
  |false,false,[]=>match eX str sz x none none with|some y=>some (.c y,[],[],nxt)|none=>none
  |true,false,[l]=>match b_ l with|some l=>(match eX str sz x (some l) none with|some y=>some (.c y,[],[],nxt)|none=>none)|none=>none
  |false,true,[u]=>match b_ u with|some u=>(match eX str sz x none (some u)with|some y=>some (.c y,[],[],nxt)|none=>(match l5 str sz x 0 u h with|some (y,aw)=>some (.c y,[],aw,nxt)|none=>none))|none=>none
  |true,true,[l,u]=>
   match b_ l,b_ u with
   |some l,some u=>match eX str sz x (some l) (some u)with|some y=>some (.c y,[],[],nxt)|none=>(match l5 str sz x l u h with|some (y,aw)=>some (.c y,[],aw,nxt)|none=>none)
   |_,_=>none
  |_,_,_=>none
 |.zu sz,[some (.c x),l,u,m]=>
  match b_ l,b_ u,b_ m with
  |some l,some u,some m=>match JQ sz x l u m nxt with|some y=>some (.c y,[],[],nxt+1)|none=>none
  |_,_,_=>none
 |.clear zero,[some (.c x)]=>match nc zero x h with|some (u,aw)=>some (.gR [],u,aw,nxt)|none=>none
 |.fieldAddr off n,[some (.c x)]=>match iU off n x with|some y=>some (.c y,[],[],nxt)|none=>none
 |.field agg off n,[some (.agg cs)]=>match BM agg n (cs.drop off)with|some v=>some (v,[],[],nxt)|none=>none
 |.indexAddr aJ sz,[some (.c x),i]=>
  match b_ i with
  |some i=>match gN aJ sz x i with|some y=>some (.c y,[],[],nxt)|none=>none
  |none=>none
 |.nJ,[some (.c (.d (.lit (.string s)))),i]=>
  match b_ i with
  |some i=>match(if 0<=i then s[i.toNat]?else none)with|some b=>some (lv (.int .u8 b.toNat),[],[],nxt)|none=>none
  |none=>none
 |.index agg len sz,[some (.agg cs),i]=>
  match b_ i with
  |some i=>if 0<=i/\i<len then match BM agg sz (cs.drop (i.toNat*sz))with|some v=>some (v,[],[],nxt)|none=>none else none
  |none=>none
 |.extract i,[some (.gR xs)]=>match xs[i]?with|some v=>some (v,[],[],nxt)|none=>none
 |.len str,[some (.c x)]=>match rO str x with|some n=>some (lv (.int .i64 n),[],[],nxt)|none=>none
 |.pW m,some (.c (.d (.lit x)))::r=>match IS m x r with|some v=>some (lv v,[],[],nxt)|none=>none
 |.append sz,[some (.c s),some (.c x)]=>mA sz s x h nxt
 |.copy sz,[some (.c d),some (.c s)]=>match kK sz d s h with|some (i,u,aw)=>some (lv (.int .i64 i),u,aw,nxt)|none=>(match m_ sz d s h with|some (i,u,aw)=>some (lv (.int .i64 i),u,aw,nxt)|none=>none)
 |.Ki,[some (.c x)]=>match wZ x h with|some (n,aw)=>some (lv (.int .i64 n),[],aw,nxt)|none=>none
 |.P5 zero,[some (.c x),some (.c (.d (.lit (.int _ k))))]=>yS zero x k h nxt
 |.Pu,[some (.c x),some (.c y)]=>match wY x y h with|some aw=>some (lv (.bool false),[],aw,nxt)|none=>none
 |.call ro iR,f::vs=>sx call ro iR f vs h nxt
 |.makeMap ka va,[]=>some (.c (.om nxt),[(nxt,some (.map ka va [] 0))],[],nxt+1)
 |.lookup ka ks va zero ok,[some (.c m),some k]=>match gx ka ks va zero ok m k h with|some (v,aw)=>some (v,[],aw,nxt)|none=>none
 |.mapEntry ka ks va zero,[some (.c m),some k]=>match lA ka ks va zero m k h with|some (v,u,aw)=>some (v,u,aw,nxt)|none=>none
 |.entryStore va n,[some (.c m),s,some x]=>match lB va n m s x h with|some (u,aw)=>some (.gR [],u,aw,nxt)|none=>none
 |_,_=>none
def ja(e:iE):Option (Nat×Bool)->Option Bool
 |none=>some true
 |some (t,b)=>match bX e t with|some (.c (.d (.lit (.bool x))))=>some (x==b)|some (.gR [])=>some false|_=>none
def put(e:iE)(dst:Option Nat)(v:TV):iE:=match dst with|some d=>(d,v)::e|none=>e
def drop(e:iE)(dst:Option Nat):iE:=put e dst (.gR [])
def gO:Nat:=1000000
def lC(calls:Nat->Call)(aL:Nat):List mj->Nat->iE->bz->Option (iE×bz×List (List Nat×List Nat))
 |[],_,e,h=>some (e,h,[])
 |o::r,i,e,h=>
  match ja e o.guard with
  |some true=>
   match cm (calls i) o.k (o.args.map (jq e)) h (aL+gO*i)with
   |some (v,u,aw,n)=>
    if n<=aL+gO*(i+1)then
     match lC calls aL r (i+1) (put e o.dst v) (u++h)with|some (e,h,tr)=>some (e,h,(aw,u.map (·.1))::tr)|none=>none
    else none
   |none=>none
  |some false=>match lC calls aL r (i+1) (drop e o.dst) h with|some (e,h,tr)=>some (e,h,([],[])::tr)|none=>none
  |none=>none
def kC(a b:List Nat×List Nat):Bool:=a.2.all (fun i=>!b.1.contains i&&!b.2.contains i)&&b.2.all (fun i=>!a.1.contains i)
def C4(tr:List (List Nat×List Nat))(i j:Nat):Bool:=
 match tr[i]?,tr[j]?with
 |some a,some b=>kC a b||(match a with|([id],[])=>((tr.take j).drop (i+1)).all (fun x=>!x.2.contains id)|_=>false)
 |_,_=>true
def yU(tr:List (List Nat×List Nat))(dyn:List (Nat×Nat)):Bool:=dyn.all fun(i,j)=>if 1000<=j then C4 tr i (j-1000)else match tr[i]?,tr[j]?with|some a,some b=>kC a b|_,_=>true
def d_:C->List Nat
 |.d _=>[]
 |.dz _ id _ _|.ep id _ _|.op id _|.om id=>[id]
 |.mP _ caps=>k8 caps
where k8:List C->List Nat
 |[]=>[]
 |c::r=>d_ c++k8 r
def kA:TV->List Nat
 |.c x=>d_ x
 |.agg cs=>d_.k8 cs
 |.gR xs=>xY xs
where xY:List TV->List Nat
 |[]=>[]
 |x::r=>kA x++xY r
inductive RV where
 |tmp (t:Nat)
 |cell (t:Nat) (agg:Bool) (n:Nat)
 deriving Inhabited
def enter:List A->Nat->Nat->iE×bz×Nat×List C
 |[],_,n=>([],[],n,[])
 |.d x::r,i,n=>let(e,h,m,l):=enter r (i+1) n;((i,.c (.d x))::e,h,m,l)
 |.agg xs::r,i,n=>let(e,h,m,l):=enter r (i+1) n;((i,.agg (xs.map .d))::e,h,m,l)
 |.mt t::r,i,n=>let(c,u,k):=jA n t;let(e,h,m,l):=enter r (i+1) k;((i,.c c)::e,u++h,m,c::l)
def uO(s:St):RV->Option TV
 |.tmp t=>bX s.db t
 |.cell t agg n=>match bX s.db t with|some (.c p)=>(match ge agg n p s.heap with|some (v,_)=>some v|none=>none)|_=>none
def qg(h:bz):TV->Option (R×List Nat)
 |.c c=>match dZ h 300 c with|some (t,aw,_)=>some (.c t,aw)|none=>none
 |.agg cs=>match gM h 300 cs with|some (ts,aw,_)=>some (.agg ts,aw)|none=>none
 |.gR _=>none
def ss(h:bz):List TV->Option (List R×List Nat)
 |[]=>some ([],[])
 |v::vs=>match qg h v,ss h vs with|some (r,a),some (rs,b)=>some (r::rs,a++b)|_,_=>none
structure Fn where
 np:Nat
 ntmps:Nat
 ji:List RV
 body:CC
 deriving Inhabited
def ve(k:FloatKind)(n:Nat):Prop:=(k.format.read n).isNaN=true
inductive RD(S:Nat->Prop)(w:World):D->Value->Prop
 |lit {v:Value} (h:dP v=true):RD S w (.lit v) v
 |nan {k:FloatKind} {n m:Nat} (hn:ve k n) (hm:ve k m):RD S w (.lit (.float k n)) (.float k m)
 |ex {k:FloatKind} {n:Nat}:RD S w (.lit (.complex k n 0)) (.float k n)
 |sl {sz:Nat} {aj:List (List D)} {b off cap:Nat} (f:Nat->Nat->Value) (hb:S b) (hsz:0<sz) (hcap:aj.length<=cap)
   (hrow:∀(i:Nat)(r:List D),aj[i]?=some r->r.length=sz)
   (hcell:∀(i:Nat)(r:List D),aj[i]?=some r->∀(j:Nat)(x:D),r[j]?=some x->w.cell? ⟨b,off+i*sz+j,none⟩=some (f i j))
   (hrd:∀(i:Nat)(r:List D),aj[i]?=some r->∀(j:Nat)(x:D),r[j]?=some x->RD S w x (f i j)):
   RD S w (.sl sz aj) (.slice (some ⟨b,off,none⟩) aj.length cap)
 |q9 {sz:Nat} {a:Addr} (hsz:0<sz):RD S w (.sl sz []) (.slice (some a) 0 0)
 |pt {cells:List D} {b off:Nat} (f:Nat->Value) (hb:S b)
   (hcell:∀(j:Nat)(x:D),cells[j]?=some x->w.cell? ⟨b,off+j,none⟩=some (f j))
   (hrd:∀(j:Nat)(x:D),cells[j]?=some x->RD S w x (f j)):
   RD S w (.pt cells) (.pointer (some ⟨b,off,none⟩))
 |fn {g:FuncId} {caps:List D} {vs:Array Value} (hlen:caps.length=vs.size)
   (hrd:∀(j:Nat)(x:D),caps[j]?=some x->RD S w x (vs.getD j undef)):
   RD S w (.fn g caps) (.func (.func g) #[] vs)
structure fw(S:Nat->Prop)(w:World)(S':Nat->Prop)(w':World):Prop where
 sub:∀b,S b->S' b
 dw:∀b,S b->w'.heap[b]?=w.heap[b]?
theorem fw.refl(S:Nat->Prop)(w:World):fw S w S w:=⟨fun _ h=>h,fun _ _=>rfl⟩
theorem fw.trans{S S' S'':Nat->Prop}{w w' w'':World}(a:fw S w S' w')(b:fw S' w' S'' w''):fw S w S'' w'':=⟨fun x h=>b.sub x (a.sub x h),fun x h=>(b.dw x (a.sub x h)).trans (a.dw x h)⟩
theorem kM{w w':World}{b:Nat}(h:w'.heap[b]?=w.heap[b]?)(off:Nat):w'.cell? ⟨b,off,none⟩=w.cell? ⟨b,off,none⟩:=by simp[World.cell?,h]
theorem RD.mono{S S':Nat->Prop}{w w':World}(hs:fw S w S' w'){x:D}{v:Value}(h:RD S w x v):RD S' w' x v:=by induction h with|lit h=>exact .lit h|nan hn hm=>exact .nan hn hm|ex=>exact .ex|sl f hb hsz hcap hrow hcell hrd ih=>exact .sl f (hs.sub _ hb) hsz hcap hrow (fun i r hi j x hj=>(kM (hs.dw _ hb) _).trans (hcell i r hi j x hj)) ih|q9 h=>exact .q9 h|pt f hb hcell hrd ih=>exact .pt f (hs.sub _ hb) (fun j x hj=>(kM (hs.dw _ hb) _).trans (hcell j x hj)) ih|fn hlen hrd ih=>exact .fn hlen ih
structure fE where
 bA:Nat
 aL:Nat
 sz:Nat
 ext:Nat
 cap:Nat
 deriving Inhabited
inductive RC(S:Nat->Prop)(w:World)(Kn:Nat->Prop)(φ:Nat->fE):C->Value->Prop
 |d {x:D} {v:Value} (h:RD S w x v):RC S w Kn φ (.d x) v
 |dz {id off len cap addr:Nat} (hk:Kn id) (hcap:len<=cap) (haddr:0<cap->addr=(φ id).aL+off*(φ id).sz) (hext:addr+cap*(φ id).sz<=(φ id).ext) (hc:off+cap=(φ id).cap):
   RC S w Kn φ (.dz (φ id).sz id off len) (.slice (some ⟨(φ id).bA,addr,none⟩) len cap)
 |ep {id cC off:Nat} (hk:Kn id):RC S w Kn φ (.ep id cC off) (.pointer (some ⟨(φ id).bA,(φ id).aL+cC*(φ id).sz+off,none⟩))
 |op {id off:Nat} (hk:Kn id):RC S w Kn φ (.op id off) (.pointer (some ⟨(φ id).bA,(φ id).aL+off,none⟩))
 |mP {g:FuncId} {caps:List C} {vs:Array Value} (hlen:caps.length=vs.size)
   (hrc:∀(j:Nat)(x:C),caps[j]?=some x->RC S w Kn φ x (vs.getD j undef)):
   RC S w Kn φ (.mP g caps) (.func (.func g) #[] vs)
 |om {id:Nat} (hk:Kn id):RC S w Kn φ (.om id) (.map (some (φ id).bA))
structure Ren(Kn:Nat->Prop)(φ:Nat->fE)(Kn':Nat->Prop)(φ':Nat->fE):Prop where
 sub:∀i,Kn i->Kn' i
 dw:∀i,Kn i->φ' i=φ i
theorem Ren.refl(Kn:Nat->Prop)(φ:Nat->fE):Ren Kn φ Kn φ:=⟨fun _ h=>h,fun _ _=>rfl⟩
theorem RC.mono{S S':Nat->Prop}{w w':World}{Kn Kn':Nat->Prop}{φ φ':Nat->fE}(hs:fw S w S' w')(hr:Ren Kn φ Kn' φ'){x:C}{v:Value}
  (h:RC S w Kn φ x v):RC S' w' Kn' φ' x v:=by
 induction h with|d h=>exact .d (h.mono hs)|dz hk hcap haddr hext hc=>rw[<-hr.dw _ hk]at hext haddr hc|-;exact .dz (hr.sub _ hk) hcap haddr hext hc|ep hk=>rw[<-hr.dw _ hk];exact .ep (hr.sub _ hk)|op hk=>rw[<-hr.dw _ hk];exact .op (hr.sub _ hk)|mP hlen hrc ih=>exact .mP hlen ih|om hk=>rw[<-hr.dw _ hk];exact .om (hr.sub _ hk)
inductive eU(S:Nat->Prop)(w:World)(Kn:Nat->Prop)(φ:Nat->fE):TV->Value->Prop
 |c {x:C} {v:Value} (h:RC S w Kn φ x v):eU S w Kn φ (.c x) v
 |agg {cs:List C} {aJ:Array Value} (hlen:cs.length=aJ.size) (h:∀(i:Nat)(x:C),cs[i]?=some x->RC S w Kn φ x (aJ.getD i undef)):eU S w Kn φ (.agg cs) (.agg aJ)
 |gR {xs:List TV} {aJ:Array Value} (hlen:xs.length=aJ.size) (h:∀(i:Nat)(x:TV),xs[i]?=some x->eU S w Kn φ x (aJ.getD i undef)):eU S w Kn φ (.gR xs) (.tuple aJ)
theorem eU.mono{S S':Nat->Prop}{w w':World}{Kn Kn':Nat->Prop}{φ φ':Nat->fE}(hs:fw S w S' w')(hr:Ren Kn φ Kn' φ'){x:TV}{v:Value}
  (h:eU S w Kn φ x v):eU S' w' Kn' φ' x v:=by
 induction h with|c h=>exact .c (h.mono hs hr)|agg hlen h=>exact .agg hlen fun i x hi=>(h i x hi).mono hs hr|gR hlen h ih=>exact .gR hlen ih
def one:Value->Bool
 |.agg _|.tuple _=>false
 |_=>true
theorem sW{v:Value}(h:dP v=true):one v=true:=by cases v<;>simp_all[dP,one]
theorem RD.one{S:Nat->Prop}{w:World}{x:D}{v:Value}(h:RD S w x v):one v=true:=by cases h with|lit h=>exact sW h|_=>rfl
theorem RC.one{S:Nat->Prop}{w:World}{Kn:Nat->Prop}{φ:Nat->fE}{x:C}{v:Value}(h:RC S w Kn φ x v):one v=true:=by cases h with|d h=>exact h.one|_=>rfl
theorem tC{v:Value}(h:one v=true):v.cells= #[v]:=by cases v<;>simp_all[Ev.one,Value.cells]
def kP(w:World)(b:Nat)(aJ:Array Value):Prop:=∃t,w.heap[b]?=some (.cells aJ t (0,0))
theorem kP.cell{w:World}{b:Nat}{aJ:Array Value}(h:kP w b aJ)(i:Nat):w.cell? ⟨b,i,none⟩=aJ[i]?:=by obtain⟨t,h⟩:=h;simp[World.cell?,h]
theorem kP.lt{w:World}{b:Nat}{aJ:Array Value}(h:kP w b aJ):b<w.heap.size:=by obtain⟨t,h⟩:=h;exact(be.1 h).1
theorem kP.frozen{w:World}{b:Nat}{aJ:Array Value}(h:kP w b aJ)(i:Nat)(s:Option Nat):w.frozen? ⟨b,i,s⟩=false:=by obtain⟨t,h⟩:=h;simp[World.frozen?,h]
theorem kP.kE{w w':World}{b:Nat}{aJ:Array Value}(h:kP w b aJ)(hs:w'.heap[b]?=w.heap[b]?):kP w' b aJ:=by obtain⟨t,h⟩:=h;exact⟨t,hs.trans h⟩
def cD(S:Nat->Prop)(w:World)(sz:Nat)(get:Nat->Option Value)(aL:Nat)(aj:List (List D)):Prop:=
 (∀(i:Nat)(r:List D),aj[i]?=some r->r.length=sz)/\
 ∀(i:Nat)(r:List D),aj[i]?=some r->∀(j:Nat)(x:D),r[j]?=some x->∃v,get (aL+i*sz+j)=some v/\RD S w x v
def cq:Ob->Bool
 |.aJ _ _|.box _|.map _ _ _ _|.cap _ _ _|.nst _ _=>true
 |_=>false
def FC(S:Nat->Prop)(w:World)(sz:Nat)(aj:List (List D))(v:Value)(b:Nat):Prop:=∃(addr cap:Nat)(aJ:Array Value),v=.slice (some ⟨b,addr,none⟩) aj.length cap/\0<sz/\kP w b aJ/\aj.length<=cap/\addr+cap*sz<=aJ.size/\cD S w sz (fun i=>aJ[i]?) addr aj
inductive xy(S K:Nat->Prop)(w:World)(Kn:Nat->Prop)(φ:Nat->fE)(sz:Nat):jf->Value->Prop
 |nil:xy S K w Kn φ sz .nil (.slice none 0 0)
 |bn {aj:List (List D)} {v:Value} {b:Nat} (h:FC S w sz aj v b) (hS:¬S b) (hK:¬K b):xy S K w Kn φ sz (.bn aj) v
 |jZ {id len:Nat} {v:Value} (h:RC S w Kn φ (.dz sz id 0 len) v):xy S K w Kn φ sz (.jZ id len) v
def vh:Value->Option Nat
 |.slice (some a) _ _=>some a.block
 |_=>none
def oW(w:World)(l:fE)(slots:List jf)(k x:Nat):Prop:=∃aj v,slots[k]?=some (.bn aj)/\w.cell? ⟨l.bA,l.aL+k,none⟩=some v/\vh v=some x
def Hx(ka:Bool)(k:List Value)(v:Value):Prop:=(∀x∈k,dP x=true)/\if ka then v=.agg k.toArray else k=[v]
def uE(S:Nat->Prop)(w:World)(va:Bool)(ds:List D)(v:Value):Prop:=if va then∃aJ:Array Value,v=.agg aJ/\ds.length=aJ.size/\∀(i:Nat)(x:D),ds[i]?=some x->RD S w x (aJ.getD i undef)else∃x,ds=[x]/\RD S w x v
theorem uE.mono{S S':Nat->Prop}{w w':World}(hs:fw S w S' w'){va:Bool}{ds:List D}{v:Value}(h:uE S w va ds v):uE S' w' va ds v:=by
 unfold uE at h|-;split
 .rename_i hv;rw[if_pos hv]at h;obtain⟨aJ,h1,h2,h3⟩:=h;exact⟨aJ,h1,h2,fun i x hi=>(h3 i x hi).mono hs⟩
 .rename_i hv;rw[if_neg hv]at h;obtain⟨x,h1,h2⟩:=h;exact⟨x,h1,h2.mono hs⟩
inductive RO(S:Nat->Prop)(K:Nat->Prop)(w:World)(Kn:Nat->Prop)(φ:Nat->fE)(l:fE):Ob->Prop
 |aJ {sz:Nat} {aj:List (List D)} {aJ:Array Value} (hsz:0<sz) (hl:l.sz=sz) (hS:¬S l.bA) (hK:¬K l.bA) (ho:kP w l.bA aJ) (hext:aJ.size=l.ext)
   (hfit:l.aL+aj.length*sz<=l.ext) (hr:cD S w sz (fun i=>aJ[i]?) l.aL aj) (hv:aj.length<=l.cap):RO S K w Kn φ l (.aJ sz aj)
 |nL {sz:Nat} {aj:List (List D)} (hsz:0<sz) (hl:l.sz=sz) (hS:S l.bA)
   (hr:cD S w sz (fun i=>w.cell? ⟨l.bA,i,none⟩) l.aL aj):RO S K w Kn φ l (.nL sz aj)
 |box {cells:List C} {aJ:Array Value} (hb:l.aL=0) (hS:¬S l.bA) (hK:¬K l.bA) (ho:kP w l.bA aJ) (hlen:cells.length=aJ.size)
   (hr:∀(i:Nat)(x:C),cells[i]?=some x->RC S w Kn φ x (aJ.getD i undef)):RO S K w Kn φ l (.box cells)
 |my {cells:List D} (hb:l.aL=0) (hS:S l.bA)
   (hr:∀(i:Nat)(x:D),cells[i]?=some x->∃v,w.cell? ⟨l.bA,i,none⟩=some v/\RD S w x v):RO S K w Kn φ l (.my cells)
 |map {ka va:Bool} {es:List (List Value×List D×Nat)} {eH:Nat} {ms:Array MapEntry} (hS:¬S l.bA) (hK:¬K l.bA) (ho:w.heap[l.bA]?=some (.map ms eH)) (hlen:es.length=ms.size)
   (hr:∀(i:Nat)(e:List Value×List D×Nat)(m:MapEntry),es[i]?=some e->ms[i]?=some m->Hx ka e.1 m.key/\uE S w va e.2.1 m.val/\m.born=e.2.2):RO S K w Kn φ l (.map ka va es eH)
 |cap {sz:Nat} {aj:List (List D)} {cp:Nat} {aJ:Array Value} (hsz:0<sz) (hl:l.sz=sz) (hS:¬S l.bA) (hK:¬K l.bA) (ho:kP w l.bA aJ) (hext:aJ.size=l.ext)
   (hfit:l.aL+cp*sz<=l.ext) (hr:cD S w sz (fun i=>aJ[i]?) l.aL aj) (hv:aj.length<=cp) (hc:l.cap=cp):RO S K w Kn φ l (.cap sz aj cp)
 |nst {sz:Nat} {slots:List jf} {aJ:Array Value} (hsz:0<sz) (hl:l.sz=1) (hS:¬S l.bA) (hK:¬K l.bA) (ho:kP w l.bA aJ) (hext:aJ.size=l.ext)
   (hfit:l.aL+slots.length<=l.ext) (hr:∀(i:Nat)(s:jf),slots[i]?=some s->∃v,aJ[l.aL+i]?=some v/\xy S K w Kn φ sz s v) (hv:slots.length<=l.cap):RO S K w Kn φ l (.nst sz slots)
theorem cD.mono{S S':Nat->Prop}{w w':World}(hs:fw S w S' w'){sz aL:Nat}{get:Nat->Option Value}{aj:List (List D)}(h:cD S w sz get aL aj):
  cD S' w' sz get aL aj:=
 ⟨h.1,fun i r hi j x hj=>let⟨v,hg,hr⟩:=h.2 i r hi j x hj;⟨v,hg,hr.mono hs⟩⟩
def O2(S':Nat->Prop)(w w':World)(l:fE)(o:Ob):Prop:=∀sz slots,o=.nst sz slots->∀k x,oW w l slots k x->w'.heap[x]?=w.heap[x]?/\¬S' x
theorem FC.mono{S S':Nat->Prop}{w w':World}(hs:fw S w S' w'){sz b:Nat}{aj:List (List D)}{v:Value}(hb:w'.heap[b]?=w.heap[b]?)(h:FC S w sz aj v b):FC S' w' sz aj v b:=by obtain⟨a,c,aJ,h1,h2,h3,h4,h5,h6⟩:=h;exact⟨a,c,aJ,h1,h2,h3.kE hb,h4,h5,h6.mono hs⟩
theorem FC.bA{S:Nat->Prop}{w:World}{sz b:Nat}{aj:List (List D)}{v:Value}(h:FC S w sz aj v b):vh v=some b:=by obtain⟨a,c,aJ,rfl,_⟩:=h;rfl
theorem FC.bn{S:Nat->Prop}{w:World}{sz b:Nat}{aj:List (List D)}{v:Value}(h:FC S w sz aj v b):∃aJ,kP w b aJ:=by obtain⟨a,c,aJ,_,_,h,_⟩:=h;exact⟨aJ,h⟩
theorem RO.mono{S S' K:Nat->Prop}{w w':World}{Kn Kn':Nat->Prop}{φ φ':Nat->fE}{l:fE}(hs:fw S w S' w')(hr:Ren Kn φ Kn' φ'){o:Ob}
  (hsame:cq o=true->w'.heap[l.bA]?=w.heap[l.bA]?/\¬S' l.bA) (hkp:O2 S' w w' l o) (h:RO S K w Kn φ l o):RO S' K w' Kn' φ' l o:=by
 cases h with
 |aJ hsz hl hS hK ho hext hfit hrr hv=>exact .aJ hsz hl (hsame rfl).2 hK (ho.kE (hsame rfl).1) hext hfit (hrr.mono hs) hv
 |nL hsz hl hS hrr=>refine .nL hsz hl (hs.sub _ hS) ⟨hrr.1,fun i r hi j x hj=>?_⟩;obtain⟨v,hg,h⟩:=hrr.2 i r hi j x hj;exact⟨v,(kM (hs.dw _ hS) _).trans hg,h.mono hs⟩
 |box hb hS hK ho hlen hrr=>exact .box hb (hsame rfl).2 hK (ho.kE (hsame rfl).1) hlen fun i x hi=>(hrr i x hi).mono hs hr
 |my hb hS hrr=>refine .my hb (hs.sub _ hS) fun i x hi=>?_;obtain⟨v,hg,h⟩:=hrr i x hi;exact⟨v,(kM (hs.dw _ hS) _).trans hg,h.mono hs⟩
 |map hS hK ho hlen hrr=>exact .map (hsame rfl).2 hK ((hsame rfl).1.trans ho) hlen fun i e m hi hm=>let⟨h1,h2,h3⟩:=hrr i e m hi hm;⟨h1,h2.mono hs,h3⟩
 |cap hsz hl hS hK ho hext hfit hrr hv hc=>exact .cap hsz hl (hsame rfl).2 hK (ho.kE (hsame rfl).1) hext hfit (hrr.mono hs) hv hc
 |nst hsz hl hS hK ho hext hfit hrr hv=>refine .nst hsz hl (hsame rfl).2 hK (ho.kE (hsame rfl).1) hext hfit (fun i s hi=>?_) hv;obtain⟨v,h1,h2⟩:=hrr i s hi;refine⟨v,h1,?_⟩;cases h2 with|nil=>exact .nil|@bn aj _ b h hS hK=>obtain⟨k1,k2⟩:=hkp _ _ rfl i b ⟨aj,v,hi,(ho.cell _).trans h1,h.bA⟩;exact .bn (h.mono hs k1) k2 hK|jZ h=>exact .jZ (h.mono hs hr)
def Io(w0 w:World):Prop:=w.os=w0.os/\w.output=w0.output/\w.tape=w0.tape/\w0.drawn<=w.drawn
theorem Io.trans{a b c:World}(h:Io a b)(h2:Io b c):Io a c:=⟨h2.1.trans h.1,h2.2.1.trans h.2.1,h2.2.2.1.trans h.2.2.1,dD h.2.2.2 h2.2.2.2⟩
theorem Io.refl(w:World):Io w w:=⟨rfl,rfl,rfl,ao _⟩
structure Ey(K:Nat->Prop)(w0 w:World):Prop where
 DO:∀b,K b->b<w0.heap.size
 lr:∀b,K b->w.heap[b]?=w0.heap[b]?
 grow:w0.heap.size<=w.heap.size
 yL:∀a,a.block<w0.heap.size->w.frozen? a=w0.frozen? a
 bn:∀b aJ,kP w0 b aJ->∃arr',kP w b arr'/\arr'.size=aJ.size
 io:Io w0 w
def sE(S:Nat->Prop)(w:World):Prop:=∀g d,Oe g=some d->RD S w d (.pointer (some ⟨g,0,none⟩))
theorem sE.mono{S S':Nat->Prop}{w w':World}(h:sE S w)(hs:fw S w S' w'):sE S' w':=fun g d hg=>(h g d hg).mono hs
def RS(w:World)(φ:Nat->fE)(hf:Nat->Option Ob):Prop:=∀i sz sl k x,hf i=some (.nst sz sl)->oW w (φ i) sl k x->
 (∀j b,hf j=some b->cq b=true->(φ j).bA≠x)/\∀j sz' sl' k',hf j=some (.nst sz' sl')->oW w (φ j) sl' k' x->j=i/\k'=k
structure Inv(S K:Nat->Prop)(w0:World)(Kn:Nat->Prop)(φ:Nat->fE)(hf:Nat->Option Ob)(w:World):Prop where
 qZ:∀b,S b->b<w.heap.size
 sk:∀b,S b->¬K b
 lG:Ey K w0 w
 gg:∀id o,hf id=some o->Kn id/\RO S K w Kn φ (φ id) o
 ei:∀i j a b,hf i=some a->hf j=some b->cq a=true->cq b=true->i≠j->(φ i).bA≠(φ j).bA
 zY:sE S w
 sq:RS w φ hf
def bg(u:eG)(hf:Nat->Option Ob)(id:Nat):Option Ob:=match bX u id with|some o=>o|none=>hf id
theorem fP{α:Type}(a b:List (Nat×α))(k:Nat):bX (a++b) k=match bX a k with|some x=>some x|none=>bX b k:=by induction a with|nil=>rfl|cons p r ih=>obtain⟨i,x⟩:=p;simp only[List.cons_append,bX];cases h:(i==k)<;>simp[ih]
theorem fF(u:eG)(h:bz):av (u++h)=bg u (av h):=by funext id;simp only[av,bg,fP];cases bX u id<;>simp
theorem dN(hf:Nat->Option Ob):bg [] hf=hf:=rfl
theorem bC(i:Nat)(o:Option Ob)(u:eG)(hf:Nat->Option Ob)(id:Nat):bg ((i,o)::u) hf id=if i=id then o else bg u hf id:=by
 simp only[bg,bX];by_cases h:i=id
 .simp [h]
 .have e:(i==id)=false:=by simpa using h
  simp[h,e]
theorem dO(u v:eG)(hf:Nat->Option Ob):bg (u++v) hf=bg u (bg v hf):=by funext id;simp only[bg,fP];cases bX u id<;>simp
theorem Inv.sI{S S' K:Nat->Prop}{w0 w w':World}{Kn Kn':Nat->Prop}{φ φ':Nat->fE}{hf hf':Nat->Option Ob}(h:Inv S K w0 Kn φ hf w)
  (hs:fw S w S' w') (hr:Ren Kn φ Kn' φ') (hslt:∀b,S' b->b<w'.heap.size) (hsk:∀b,S' b->¬K b) (hfrm:Ey K w0 w')
  (hobj:∀id o,hf' id=some o->(hf id=some o/\(cq o=true->w'.heap[(φ id).bA]?=w.heap[(φ id).bA]?/\¬S' (φ id).bA)/\O2 S' w w' (φ id) o)\/(Kn' id/\RO S' K w' Kn' φ' (φ' id) o))
  (hdist:∀i j a b,hf' i=some a->hf' j=some b->cq a=true->cq b=true->i≠j->(φ' i).bA≠(φ' j).bA) (hprv:RS w' φ' hf'):
  Inv S' K w0 Kn' φ' hf' w' where
 qZ:=hslt
 sk:=hsk
 lG:=hfrm
 ei:=hdist
 zY:=h.zY.mono hs
 sq:=hprv
 gg id o ho:=by
  rcases hobj id o ho with⟨h1,h2,h3⟩|h1
  .obtain ⟨hk,hro⟩:=h.gg id o h1;refine⟨hr.sub _ hk,?_⟩;rw[hr.dw _ hk];exact hro.mono hs hr h2 h3
  .exact h1
theorem oW.dw{w w':World}{l:fE}{sl:List jf}{k x:Nat}(h:w'.heap[l.bA]?=w.heap[l.bA]?):oW w' l sl k x<->oW w l sl k x:=by unfold oW;rw[show∀i,w'.cell? ⟨l.bA,i,none⟩=w.cell? ⟨l.bA,i,none⟩from fun i=>kM h i]
theorem RO.Dr{S K:Nat->Prop}{w:World}{Kn:Nat->Prop}{φ:Nat->fE}{l:fE}{sz:Nat}{sl:List jf}{k x:Nat}(h:RO S K w Kn φ l (.nst sz sl))(hp:oW w l sl k x):
  ¬S x/\¬K x/\x<w.heap.size/\∃aj v,sl[k]?=some (.bn aj)/\w.cell? ⟨l.bA,l.aL+k,none⟩=some v/\FC S w sz aj v x:=by
 cases h with
 |nst hsz hl hS hK ho hext hfit hr hv=>
  obtain⟨aj,v,h1,h2,h3⟩:=hp;obtain⟨v',h4,h5⟩:=hr k _ h1;obtain rfl:v'=v:=by rw[ho.cell,h4]at h2;exact aa h2
  cases h5 with
  |@bn _ _ b h6 hS hK=>
   obtain rfl:b=x:=by rw[h6.bA]at h3;exact aa h3
   obtain⟨aJ,h7⟩:=h6.bn;exact⟨hS,hK,h7.lt,aj,v',h1,h2,h6⟩
theorem Inv.Dr{S K:Nat->Prop}{w0 w:World}{Kn:Nat->Prop}{φ:Nat->fE}{hf:Nat->Option Ob}(h:Inv S K w0 Kn φ hf w){i sz k x:Nat}{sl:List jf}(hi:hf i=some (.nst sz sl))(hp:oW w (φ i) sl k x):
  ¬S x/\¬K x/\x<w.heap.size/\∃aj v,sl[k]?=some (.bn aj)/\w.cell? ⟨(φ i).bA,(φ i).aL+k,none⟩=some v/\FC S w sz aj v x:=(h.gg i _ hi).2.Dr hp
def O1(S':Nat->Prop)(w w':World)(φ φ':Nat->fE)(hf hf':Nat->Option Ob):Prop:=∀id sz sl,hf' id=some (.nst sz sl)->hf id=some (.nst sz sl)/\w'.heap[(φ id).bA]?=w.heap[(φ id).bA]?/\
 ∀k x,oW w (φ id) sl k x->w'.heap[x]?=w.heap[x]?/\¬S' x/\∀j b,hf' j=some b->cq b=true->(φ' j).bA≠x
theorem Inv.iD{S S' K:Nat->Prop}{w0 w w':World}{Kn Kn':Nat->Prop}{φ φ':Nat->fE}{hf hf':Nat->Option Ob}(h:Inv S K w0 Kn φ hf w)
  (hs:fw S w S' w') (hr:Ren Kn φ Kn' φ') (hslt:∀b,S' b->b<w'.heap.size) (hsk:∀b,S' b->¬K b) (hfrm:Ey K w0 w')
  (hobj:∀id o,hf' id=some o->(hf id=some o/\(cq o=true->w'.heap[(φ id).bA]?=w.heap[(φ id).bA]?/\¬S' (φ id).bA))\/(Kn' id/\RO S' K w' Kn' φ' (φ' id) o))
  (hdist:∀i j a b,hf' i=some a->hf' j=some b->cq a=true->cq b=true->i≠j->(φ' i).bA≠(φ' j).bA) (hrest:O1 S' w w' φ φ' hf hf'):
  Inv S' K w0 Kn' φ' hf' w':=by
 have e:∀id sz sl,hf' id=some (.nst sz sl)->φ' id=φ id:=fun id sz sl hi=>hr.dw _ (h.gg id _ (hrest id sz sl hi).1).1;have hpat:∀id sz sl k x,hf' id=some (.nst sz sl)->oW w' (φ' id) sl k x->oW w (φ id) sl k x:=fun id sz sl k x hi hp=>by rw[e id sz sl hi]at hp;exact(oW.dw (hrest id sz sl hi).2.1).1 hp
 refine h.sI hs hr hslt hsk hfrm (fun id o ho=>?_) hdist fun i sz sl k x hi hp=>?_
 .rcases hobj id o ho with⟨h1,h2⟩|h1
  .exact .inl ⟨h1,h2,fun sz sl eo k x hp=>by subst eo;obtain⟨a,b,_⟩:=(hrest id sz sl ho).2.2 k x hp;exact⟨a,b⟩⟩
  .exact .inr h1
 .have hp':=hpat i sz sl k x hi hp;refine⟨((hrest i sz sl hi).2.2 k x hp').2.2,fun j sz' sl' k' hj hpj=>?_⟩;exact(h.sq i sz sl k x (hrest i sz sl hi).1 hp').2 j sz' sl' k' (hrest j sz' sl' hj).1 (hpat j sz' sl' k' x hj hpj)
theorem fB{w:World}{o:Obj}{b:Nat}(h:b<w.heap.size):({w with heap:=w.heap.push o}:World).heap[b]?=w.heap[b]?:=by simp[Array.getElem?_push,Nat.ne_of_lt h]
theorem qD(w:World)(aJ:Array Value)(t:TypeId):kP {w with heap:=w.heap.push (.cells aJ t)} w.heap.size aJ:=⟨t,by simp⟩
theorem BZ(w:World)(aJ:Array Value)(t:TypeId)(a:Addr):({w with heap:=w.heap.push (.cells aJ t)}:World).frozen? a=w.frozen? a:=by
 unfold World.frozen?;rcases Nat.lt_trichotomy a.block w.heap.size with h|h|h
 .rw [fB h]
 .simp [h]
 .rw [eP (by simp;omega),eP (by omega)]
theorem Ey.push{K:Nat->Prop}{w0 w:World}(h:Ey K w0 w)(aJ:Array Value)(t:TypeId):Ey K w0 {w with heap:=w.heap.push (.cells aJ t)}where
 DO:=h.DO
 lr b hb:=(fB (ci (h.DO b hb) h.grow)).trans (h.lr b hb)
 grow:=by have:=h.grow;simp;omega
 yL a ha:=(BZ w aJ t a).trans (h.yL a ha)
 bn b a ha:=let⟨a',h1,h2⟩:=h.bn b a ha;⟨a',h1.kE (fB h1.lt),h2⟩
 io:=h.io
theorem Ey.wv{K:Nat->Prop}{w0 w w':World}(h:Ey K w0 w){c:Nat}(hother:∀b,b≠c->w'.heap[b]?=w.heap[b]?)
  (hsz:∀aJ,kP w c aJ->∃arr',kP w' c arr'/\arr'.size=aJ.size) (b:Nat) (aJ:Array Value) (ho:kP w0 b aJ):∃arr',kP w' b arr'/\arr'.size=aJ.size:=by
 obtain⟨a,h1,h2⟩:=h.bn b aJ ho;by_cases e:b=c
 .subst e;obtain⟨a',h3,h4⟩:=hsz a h1;exact⟨a',h3,h4.trans h2⟩
 .exact ⟨a,h1.kE (hother b e),h2⟩
theorem Ey.pu{K:Nat->Prop}{w0 w:World}(h:Ey K w0 w)(n:Nat)(hn:w.drawn<=n):Ey K w0 {w with drawn:=n}:=⟨h.DO,h.lr,h.grow,h.yL,h.bn,h.io.1,h.io.2.1,h.io.2.2.1,dD h.io.2.2.2 hn⟩
theorem fw.push{S:Nat->Prop}{w:World}(hs:∀b,S b->b<w.heap.size)(o:Obj):fw S w S {w with heap:=w.heap.push o}:=⟨fun _ h=>h,fun b h=>fB (hs b h)⟩
theorem fw.pu(S:Nat->Prop)(w:World)(n:Nat):fw S w S {w with drawn:=n}:=⟨fun _ h=>h,fun _ _=>rfl⟩
theorem Inv.wi{S K:Nat->Prop}{w0 w w':World}{Kn Kn':Nat->Prop}{φ φ':Nat->fE}{hf:Nat->Option Ob}(h:Inv S K w0 Kn φ hf w)(hr:Ren Kn φ Kn' φ')(hs:∀b,b<w.heap.size->w'.heap[b]?=w.heap[b]?):O1 S w w' φ φ' hf hf:=fun id sz sl hi=>by
 obtain⟨_,h1⟩:=h.gg id _ hi;have hlt:(φ id).bA<w.heap.size:=by cases h1 with|nst _ _ _ _ ho=>exact ho.lt
 refine⟨hi,hs _ hlt,fun k x hp=>?_⟩;obtain⟨h2,_,h3,_⟩:=h.Dr hi hp;refine⟨hs x h3,h2,fun j b hj hb=>?_⟩;rw[hr.dw j (h.gg j b hj).1];exact(h.sq id sz sl k x hi hp).1 j b hj hb
theorem Inv.yq{S K:Nat->Prop}{w0 w w':World}{Kn:Nat->Prop}{φ:Nat->fE}{hf:Nat->Option Ob}(h:Inv S K w0 Kn φ hf w)(hs:∀b,b<w.heap.size->w'.heap[b]?=w.heap[b]?):O1 S w w' φ φ hf hf:=h.wi (Ren.refl _ _) hs
theorem Inv.pu{S K:Nat->Prop}{w0 w:World}{Kn:Nat->Prop}{φ:Nat->fE}{hf:Nat->Option Ob}(h:Inv S K w0 Kn φ hf w)(n:Nat)(hn:w.drawn<=n):
  Inv S K w0 Kn φ hf {w with drawn:=n}:=
 h.iD (fw.pu S w n) (Ren.refl _ _) h.qZ h.sk (h.lG.pu n hn) (fun id o ho=>.inl ⟨ho,fun hown=>⟨rfl,by obtain⟨_,hro⟩:=h.gg id o ho;cases hro<;>simp_all[cq]⟩⟩) h.ei (h.yq fun _ _=>rfl)
theorem RO.bn{S K:Nat->Prop}{w:World}{Kn:Nat->Prop}{φ:Nat->fE}{l:fE}{o:Ob}(h:RO S K w Kn φ l o)(ho:cq o=true):
  ¬S l.bA/\¬K l.bA/\l.bA<w.heap.size:=by
 cases h with|aJ hsz hl hS hK hown=>exact⟨hS,hK,hown.lt⟩|box hb hS hK hown=>exact⟨hS,hK,hown.lt⟩|map hS hK hmp=>exact⟨hS,hK,(be.1 hmp).1⟩|cap hsz hl hS hK hown=>exact⟨hS,hK,hown.lt⟩|nst hsz hl hS hK hown=>exact⟨hS,hK,hown.lt⟩|_=>simp[cq]at ho
def ext(φ:Nat->fE)(i:Nat)(l:fE):Nat->fE:=fun j=>if j=i then l else φ j
theorem fW{Kn:Nat->Prop}{φ:Nat->fE}{i:Nat}(l:fE)(hi:¬Kn i):Ren Kn φ (fun j=>Kn j\/j=i) (ext φ i l):=⟨fun _ h=>.inl h,fun j h=>by simp only[ext];rw[if_neg];rintro rfl;exact hi h⟩
abbrev FD(o:Ob):Prop:=∀sz sl(k:Nat)aj,o=.nst sz sl->sl[k]?≠some (jf.bn aj)
theorem Inv.E1{S K:Nat->Prop}{w0 w w':World}{Kn:Nat->Prop}{φ:Nat->fE}{hf:Nat->Option Ob}(h:Inv S K w0 Kn φ hf w){i:Nat}{l:fE}{o:Ob}(hno:FD o)
  (hsame:∀b,b<w.heap.size->w'.heap[b]?=w.heap[b]?) (hl:cq o=true->∀id sz sl k x,hf id=some (.nst sz sl)->oW w (φ id) sl k x->l.bA≠x):RS w' (ext φ i l) (bg [(i,some o)] hf):=by
 have key:∀a sz sl k x,bg [(i,some o)] hf a=some (.nst sz sl)->oW w' (ext φ i l a) sl k x->hf a=some (.nst sz sl)/\oW w (φ a) sl k x:=by
  intro a sz sl k x ha hp;rw[bC]at ha;by_cases e:i=a
  .rw [if_pos e]at ha;obtain rfl:=aa ha;obtain⟨aj,v,h1,_⟩:=hp;exact absurd h1 (hno _ _ _ _ rfl)
  .rw [if_neg e,dN]at ha;refine⟨ha,?_⟩;have e1:ext φ i l a=φ a:=by simp only[ext];rw[if_neg (fun q=>e q.symm)]
   rw[e1]at hp;obtain⟨_,h1⟩:=h.gg a _ ha;exact(oW.dw (hsame _ (by cases h1 with|nst _ _ _ _ ho=>exact ho.lt))).1 hp
 intro a sz sl k x ha hp;obtain⟨h1,h2⟩:=key a sz sl k x ha hp;obtain⟨p1,p2⟩:=h.sq a sz sl k x h1 h2;refine⟨fun j b hj hown=>?_,fun j sz' sl' k' hj hpj=>?_⟩
 .rw [bC]at hj;by_cases e:i=j
  .rw [if_pos e]at hj;obtain rfl:=aa hj;simp only[ext];rw[if_pos e.symm];exact hl hown a sz sl k x h1 h2
  .rw [if_neg e,dN]at hj;simp only[ext];rw[if_neg (fun q=>e q.symm)];exact p1 j b hj hown
 .obtain ⟨h3,h4⟩:=key j sz' sl' k' x hj hpj;exact p2 j sz' sl' k' h3 h4
theorem Inv.BP{S K:Nat->Prop}{w0 w w':World}{Kn:Nat->Prop}{φ:Nat->fE}{hf:Nat->Option Ob}(h:Inv S K w0 Kn φ hf w){id:Nat}{o:Ob}(ho:hf id=some o)(hsame:∀b,b<w.heap.size->w'.heap[b]?=w.heap[b]?):O2 S w w' (φ id) o:=by intro sz sl e k x hp;subst e;obtain⟨h1,_,h2,_⟩:=h.Dr ho hp;exact⟨hsame x h2,h1⟩
theorem Inv.alloc{S K:Nat->Prop}{w0 w:World}{Kn:Nat->Prop}{φ:Nat->fE}{hf:Nat->Option Ob}(h:Inv S K w0 Kn φ hf w){i:Nat}(hi:¬Kn i)
  (aJ:Array Value) (t:TypeId) (sz c:Nat) (o:Ob)
  (hro:RO S K {w with heap:=w.heap.push (.cells aJ t)} (fun j=>Kn j\/j=i) (ext φ i ⟨w.heap.size,0,sz,aJ.size,c⟩) ⟨w.heap.size,0,sz,aJ.size,c⟩ o) (hno:FD o:=by intro _ _ _ _ e;cases e):
  Inv S K w0 (fun j=>Kn j\/j=i) (ext φ i ⟨w.heap.size,0,sz,aJ.size,c⟩) (bg [(i,some o)] hf) {w with heap:=w.heap.push (.cells aJ t)}:=by
 refine h.sI (fw.push h.qZ _) (fW _ hi) (fun b hb=>by have:=h.qZ b hb;simp;omega) h.sk (h.lG.push aJ t) ?_ ?_ (h.E1 hno (fun b hb=>fB hb) fun _ id sz sl k x ha hp e=>by have:=(h.Dr ha hp).2.2.1;simp only at e;omega)
 .intro id o' ho;rw[bC]at ho;by_cases e:i=id
  .subst e;rw[if_pos rfl]at ho;obtain rfl:o=o':=by simpa using ho
   refine .inr ⟨.inr rfl,?_⟩;simpa[ext]using hro
  .rw [if_neg e,dN]at ho;refine .inl ⟨ho,fun hown=>?_,h.BP ho fun b hb=>fB hb⟩;obtain⟨_,h2⟩:=h.gg id o' ho;obtain⟨a,b,c⟩:=h2.bn hown;exact⟨fB c,a⟩
 .have key:∀j b,j≠i->hf j=some b->cq b=true->(ext φ i ⟨w.heap.size,0,sz,aJ.size,c⟩ j).bA<w.heap.size:=by intro j b hj hb hown;obtain⟨_,h2⟩:=h.gg j b hb;simpa[ext,hj]using(h2.bn hown).2.2
  intro a b oa ob ha hb hoa hob hne;rw[bC]at ha hb;by_cases ea:i=a
  .by_cases eb:i=b
   .exact absurd (ea.symm.trans eb) hne
   .rw [if_neg eb,dN]at hb;have:=key b ob (fun e=>eb e.symm) hb hob;have e1:(ext φ i ⟨w.heap.size,0,sz,aJ.size,c⟩ a).bA=w.heap.size:=by simp[ext,ea]
    omega
  .rw [if_neg ea,dN]at ha;have h1:=key a oa (fun e=>ea e.symm) ha hoa;by_cases eb:i=b
   .have e1:(ext φ i ⟨w.heap.size,0,sz,aJ.size,c⟩ b).bA=w.heap.size:=by simp[ext,eb]
    omega
   .rw [if_neg eb,dN]at hb;have:=h.ei a b oa ob ha hb hoa hob hne;have e1:¬a=i:=fun e=>ea e.symm;have e2:¬b=i:=fun e=>eb e.symm;simpa[ext,e1,e2]using this
theorem z8{w:World}{o:Obj}(ho:∀c t r,o≠.cells c t r)(a:Addr):({w with heap:=w.heap.push o}:World).frozen? a=w.frozen? a:=by
 unfold World.frozen?;rcases Nat.lt_trichotomy a.block w.heap.size with h|h|h
 .rw [fB h]
 .rw [h];simp only[Array.getElem?_push_size,eP (ao _)];cases o with|cells c t r=>exact absurd rfl (ho c t r)|_=>rfl
 .rw [eP (by simp;omega),eP (by omega)]
theorem Inv.OW{S K:Nat->Prop}{w0 w:World}{Kn:Nat->Prop}{φ:Nat->fE}{hf:Nat->Option Ob}(h:Inv S K w0 Kn φ hf w){i:Nat}(hi:¬Kn i)
  {ob:Obj} (hob:∀c t r,ob≠.cells c t r) (l:fE) (hl:l.bA=w.heap.size) (o:Ob)
  (hro:RO S K {w with heap:=w.heap.push ob} (fun j=>Kn j\/j=i) (ext φ i l) l o) (hno:FD o:=by intro _ _ _ _ e;cases e):
  Inv S K w0 (fun j=>Kn j\/j=i) (ext φ i l) (bg [(i,some o)] hf) {w with heap:=w.heap.push ob}:=by
 have hfrm:Ey K w0 {w with heap:=w.heap.push ob}:=
  ⟨h.lG.DO,fun b hb=>(fB (ci (h.lG.DO b hb) h.lG.grow)).trans (h.lG.lr b hb),by have:=h.lG.grow;simp;omega,fun a ha=>(z8 hob a).trans (h.lG.yL a ha),
   fun b a ha=>let⟨a',h1,h2⟩:=h.lG.bn b a ha;⟨a',h1.kE (fB h1.lt),h2⟩,h.lG.io⟩
 refine h.sI (fw.push h.qZ _) (fW _ hi) (fun b hb=>by have:=h.qZ b hb;simp;omega) h.sk hfrm ?_ ?_ (h.E1 hno (fun b hb=>fB hb) fun _ id sz sl k x ha hp e=>by have:=(h.Dr ha hp).2.2.1;omega)
 .intro id o' ho;rw[bC]at ho;by_cases e:i=id
  .subst e;rw[if_pos rfl]at ho;obtain rfl:o=o':=by simpa using ho
   refine .inr ⟨.inr rfl,?_⟩;simpa[ext]using hro
  .rw [if_neg e,dN]at ho;refine .inl ⟨ho,fun hown=>?_,h.BP ho fun b hb=>fB hb⟩;obtain⟨_,h2⟩:=h.gg id o' ho;obtain⟨a,b,c⟩:=h2.bn hown;exact⟨fB c,a⟩
 .have key:∀j b,j≠i->hf j=some b->cq b=true->(ext φ i l j).bA<w.heap.size:=by intro j b hj hb hown;obtain⟨_,h2⟩:=h.gg j b hb;simpa[ext,hj]using(h2.bn hown).2.2
  intro a b oa ob ha hb hoa hob hne;rw[bC]at ha hb;by_cases ea:i=a
  .by_cases eb:i=b
   .exact absurd (ea.symm.trans eb) hne
   .rw [if_neg eb,dN]at hb;have:=key b ob (fun e=>eb e.symm) hb hob;have e1:(ext φ i l a).bA=w.heap.size:=by simp[ext,ea,hl]
    omega
  .rw [if_neg ea,dN]at ha;have h1:=key a oa (fun e=>ea e.symm) ha hoa;by_cases eb:i=b
   .have e1:(ext φ i l b).bA=w.heap.size:=by simp[ext,eb,hl]
    omega
   .rw [if_neg eb,dN]at hb;have:=h.ei a b oa ob ha hb hoa hob hne;have e1:¬a=i:=fun e=>ea e.symm;have e2:¬b=i:=fun e=>eb e.symm;simpa[ext,e1,e2]using this
theorem Inv.j5{S K:Nat->Prop}{w0 w:World}{Kn:Nat->Prop}{φ:Nat->fE}{hf hf':Nat->Option Ob}(h:Inv S K w0 Kn φ hf w)(hsub:∀id o,hf' id=some o->hf id=some o):
  Inv S K w0 Kn φ hf' w:=
 ⟨h.qZ,h.sk,h.lG,fun id o ho=>h.gg id o (hsub id o ho),fun i j a b ha hb=>h.ei i j a b (hsub _ _ ha) (hsub _ _ hb),h.zY,
  fun i sz sl k x hi hp=>let⟨a,b⟩:=h.sq i sz sl k x (hsub _ _ hi) hp;⟨fun j b hj=>a j b (hsub _ _ hj),fun j sz' sl' k' hj=>b j sz' sl' k' (hsub _ _ hj)⟩⟩
theorem Inv.set{S K:Nat->Prop}{w0 w w':World}{Kn:Nat->Prop}{φ:Nat->fE}{hf:Nat->Option Ob}(h:Inv S K w0 Kn φ hf w){id:Nat}{o o':Ob}
  (ho:hf id=some o) (hown:cq o=true) (hother:∀b,b≠(φ id).bA->w'.heap[b]?=w.heap[b]?) (hsize:w'.heap.size=w.heap.size)
  (hfrz:∀a,w'.frozen? a=w.frozen? a) (hsz:∀aJ,kP w (φ id).bA aJ->∃arr',kP w' (φ id).bA arr'/\arr'.size=aJ.size) (hio:Io w w') (hro:fw S w S w'->RO S K w' Kn φ (φ id) o') (hn:∀sz sl,o'≠.nst sz sl:=by intro _ _ e;cases e):
  fw S w S w'/\Inv S K w0 Kn φ (bg [(id,some o')] hf) w':=by
 obtain⟨hk,h0⟩:=h.gg id o ho;obtain⟨hS,hK,hlt⟩:=h0.bn hown;have hs:fw S w S w':=⟨fun _ h=>h,fun b hb=>hother b (fun e=>hS (e▸hb))⟩
 have fix:∀i a,bg [(id,some o')] hf i=some a->cq a=true->∃a',hf i=some a'/\cq a'=true:=by
  intro i a ha hoa;rw[bC]at ha;by_cases e:id=i
  .subst e;exact⟨o,ho,hown⟩
  .rw [if_neg e,dN]at ha;exact⟨a,ha,hoa⟩
 refine⟨hs,h.iD hs (Ren.refl _ _) (fun b hb=>hsize▸h.qZ b hb) h.sk ?_ ?_ ?_ ?_⟩
 .exact ⟨h.lG.DO,fun b hb=>(hother b (fun e=>hK (e▸hb))).trans (h.lG.lr b hb),hsize▸h.lG.grow,fun a ha=>(hfrz a).trans (h.lG.yL a ha),h.lG.wv hother hsz,h.lG.io.trans hio⟩
 .intro i x hx;rw[bC]at hx;by_cases e:id=i
  .subst e;rw[if_pos rfl]at hx;obtain rfl:o'=x:=by simpa using hx
   exact .inr ⟨hk,hro hs⟩
  .rw [if_neg e,dN]at hx;refine .inl ⟨hx,fun hox=>⟨hother _ ?_,((h.gg i x hx).2.bn hox).1⟩⟩;exact(h.ei i id x o hx ho hox hown (fun e'=>e e'.symm))
 .intro i j a b ha hb hoa hob hne;obtain⟨a',ha',hoa'⟩:=fix i a ha hoa;obtain⟨b',hb',hob'⟩:=fix j b hb hob;exact h.ei i j a' b' ha' hb' hoa' hob' hne
 .intro a sz sl ha;rw[bC]at ha;by_cases e:id=a
  .rw [if_pos e]at ha;exact absurd (aa ha) (hn _ _)
  .rw [if_neg e,dN]at ha;refine⟨ha,hother _ (h.ei a id _ o ha ho rfl hown fun q=>e q.symm),fun k x hp=>?_⟩;obtain⟨p1,_⟩:=h.sq a sz sl k x ha hp;refine⟨hother x fun q=>p1 id o ho hown q.symm,(h.Dr ha hp).1,fun j b hj hb=>?_⟩;obtain⟨b',hb',hob'⟩:=fix j b hj hb;exact p1 j b' hb' hob'
variable{P:Program}
def ew(P:Program)(t:TypeId):Option Nat:=(P.info? t).map (·.size)
def eY(P:Program)(t:TypeId):Option Bool:=(P.underlying t).map fun|.struct _|.array _ _=>true|_=>false
def f_(P:Program)(t:TypeId):Option (List Value):=match(P.info? t).bind (·.zero)with|some z=>if z.cells.toList.all dP then some z.cells.toList else none|none=>none
theorem kO(b off n:Nat):(⟨b,off,none⟩:Addr).add n=⟨b,off+n,none⟩:=by unfold Addr.add;split<;>simp_all
theorem fq{t:TypeId}{n:Nat}(h:ew P t=some n)(w:World):(sizeOf t).run P w=.ok n w:=by simp only[ew,aB]at h;obtain⟨i,hi,rfl⟩:=h;simp[sizeOf,typeInfo,hi]
theorem bE{t:TypeId}{d:TypeDesc}(h:P.underlying t=some d)(w:World):(underlying t).run P w=.ok d w:=by simp[underlying,h]
theorem rb{t:TypeId}{g:Bool}(h:eY P t=some g)(w:World):(isAgg t).run P w=.ok g w:=by simp only[eY,aB]at h;obtain⟨d,hd,rfl⟩:=h;simp only[isAgg,Sem.run_bind,bE hd,Result.andThen_ok];cases d<;>rfl
theorem kr{t:TypeId}{z:List Value}(h:f_ P t=some z)(w:World):
  ∃v,(zeroValue t).run P w=.ok v w/\v.cells.toList=z/\∀x∈z,dP x=true:=by
 simp only[f_]at h;split at h
 .rename_i v hv;split at h
  .rename_i hp;obtain rfl:=aa h;obtain⟨i,hi,hz⟩:=eI.1 hv;exact⟨v,by simp[zeroValue,typeInfo,hi,hz],rfl,fun x hx=>aV.1 hp x hx⟩
  .simp at h
 .simp at h
section
variable{S K:Nat->Prop}{w0 w:World}{Kn:Nat->Prop}{φ:Nat->fE}{hf:Nat->Option Ob}
theorem DN(agg:Bool)(n:Nat)(cells:List D):MW agg n cells=BM agg n (cells.map .d):=by
 unfold MW BM;cases agg
 .cases cells<;>rfl
 .simp [List.map_take]
theorem tZ{t:TypeId}{agg:Bool}{n:Nat}(ha:eY P t=some agg)(hn:ew P t=some n){cells:List C}{b o:Nat}{v:TV}
  (hc:∀(j:Nat)(x:C),cells[j]?=some x->∃u,w.cell? ⟨b,o+j,none⟩=some u/\RC S w Kn φ x u) (h:BM agg n cells=some v):
  ∃val,(loadVar t ⟨b,o,none⟩).run P w=.ok val w/\eU S w Kn φ v val:=by
 unfold BM at h;cases agg
 .simp only[aN,if_false]at h;cases cells with
  |nil=>simp at h
  |cons x r=>
   obtain rfl:TV.c x=v:=by simpa using h
   obtain⟨u,hu,hr⟩:=hc 0 x rfl;refine⟨u,?_,.c hr⟩;simp only[loadVar,Sem.run_bind,rb ha,Result.andThen_ok,aN,if_false,run_load];simp only[cu]at hu;simp[hu]
 .simp only[if_true]at h;split at h
  .rename_i hle;obtain rfl:=aa h
   have hcell:∀j,j<n->w.cell? ((⟨b,o,none⟩:Addr).add j)=some ((w.cell? ⟨b,o+j,none⟩).getD undef):=by
    intro j hj;have hj':j<cells.length:=by omega
    obtain⟨u,hu,_⟩:=hc j cells[j] (by simp[hj']);rw[kO,hu];rfl
   refine⟨.agg ((bh n).map fun j=>(w.cell? ⟨b,o+j,none⟩).getD undef).toArray,?_,.agg (by simp;omega) ?_⟩
   .simp only[loadVar,Sem.run_bind,rb ha,Result.andThen_ok,if_true,fq hn,run_loadCells w _ n _ hcell,Sem.run_pure]
   .intro i x hi;rw[dY]at hi;split at hi
    .rename_i hin;obtain⟨u,hu,hr⟩:=hc i x hi;have:((bh n).map fun j=>(w.cell? ⟨b,o+j,none⟩).getD undef).toArray.getD i undef=u:=by simp[iB,hin,hu]
     rw[this];exact hr
    .simp at hi
  .simp at h
theorem Ai{id cC:Nat}{sz:Nat}{aj:List (List D)}(hI:Inv S K w0 Kn φ hf w)(ho:hf id=some (.aJ sz aj)\/hf id=some (.nL sz aj)){r:List D}(hr:aj[cC]?=some r)(off:Nat):
  (φ id).sz=sz/\r.length=sz/\∀(j:Nat)(x:C),((r.drop off).map C.d)[j]?=some x->∃u,w.cell? ⟨(φ id).bA,(φ id).aL+cC*(φ id).sz+off+j,none⟩=some u/\RC S w Kn φ x u:=by
 rcases ho with ho|ho
 .obtain ⟨hk,h0⟩:=hI.gg _ _ ho;cases h0 with|aJ hsz hl hS hK hown hext hfit hrr=>refine⟨hl,hrr.1 _ _ hr,fun j x hj=>?_⟩;rw[aD,bJ]at hj;obtain⟨d,hd,rfl⟩:=aB.1 hj;obtain⟨u,hu,hrd⟩:=hrr.2 cC r hr (off+j) d hd;refine⟨u,?_,.d hrd⟩;rw[hown.cell,hl,<-hu];show _=_;congr 1;omega
 .obtain ⟨hk,h0⟩:=hI.gg _ _ ho;cases h0 with|nL hsz hl hS hrr=>refine⟨hl,hrr.1 _ _ hr,fun j x hj=>?_⟩;rw[aD,bJ]at hj;obtain⟨d,hd,rfl⟩:=aB.1 hj;obtain⟨u,hu,hrd⟩:=hrr.2 cC r hr (off+j) d hd;refine⟨u,?_,.d hrd⟩;rw[hl,<-hu];simp only[ct]
theorem wd{t:TypeId}{agg:Bool}{n:Nat}(ha:eY P t=some agg)(hn:ew P t=some n){p:C}{H:bz}{v:TV}{aw:List Nat}{pv:Value}
  (hI:Inv S K w0 Kn φ (av H) w) (hp:RC S w Kn φ p pv) (h:ge agg n p H=some (v,aw)):
  ∃val,(Instr.loadAt t pv).run P w=.ok val w/\eU S w Kn φ v val:=by
 unfold ge at h;split at h
 .rename_i cells;split at h
  .rename_i v' hv;obtain⟨rfl,rfl⟩:v'=v/\[]=aw:=by simpa using h
   rw[DN]at hv;cases hp with
   |d hd=>cases hd with|pt f hb hcell hrd=>obtain⟨val,h1,h2⟩:=tZ (Kn:=Kn) (φ:=φ) (S:=S) ha hn (cells:=cells.map .d) (fun j x hj=>by rw[aD]at hj;obtain⟨d,hd,rfl⟩:=aB.1 hj;exact⟨_,hcell j d hd,.d (hrd j d hd)⟩) hv;exact⟨val,by simp[Instr.loadAt,Instr.sureAddr,h1],h2⟩
  .simp at h
 .rename_i id cC off
  have key:∀sz aj,(av H id=some (.aJ sz aj)\/av H id=some (.nL sz aj))->
    (match aj[cC]?with|some r=>(match MW agg n (r.drop off)with|some v=>some (v,[id])|none=>none)|none=>none)=some (v,aw)->
    ∃val,(Instr.loadAt t pv).run P w=.ok val w/\eU S w Kn φ v val:=by
   intro sz aj ho h;split at h
   .rename_i r hr;split at h
    .rename_i v' hv;obtain⟨rfl,rfl⟩:v'=v/\[id]=aw:=by simpa using h
     rw[DN]at hv;obtain⟨hl,hrl,hc⟩:=Ai hI ho hr off;cases hp with|ep hk=>obtain⟨val,h1,h2⟩:=tZ ha hn hc hv;exact⟨val,by simp[Instr.loadAt,Instr.sureAddr,h1],h2⟩
    .simp at h
   .simp at h
  split at h
  .rename_i sz aj ho;exact key sz aj (.inl ho) h
  .rename_i sz aj ho;exact key sz aj (.inr ho) h
  .simp at h
 .rename_i id off;split at h
  .rename_i cells ho;split at h
   .rename_i v' hv;obtain⟨rfl,rfl⟩:v'=v/\[id]=aw:=by simpa using h
    obtain⟨hk,h0⟩:=hI.gg _ _ ho;cases h0 with
    |box hb hS hK hown hlen hrr=>cases hp with|op hk=>obtain⟨val,h1,h2⟩:=tZ (S:=S) (Kn:=Kn) (φ:=φ) ha hn (cells:=cells.drop off) (b:=(φ id).bA) (o:=(φ id).aL+off) (fun j x hj=>by rw[bJ]at hj;have hlt:=(ai.1 hj).1;rw[hlen]at hlt;refine⟨_,?_,hrr _ _ hj⟩;rw[hown.cell,hb];simp[iB,hlt]) hv;exact⟨val,by simp[Instr.loadAt,Instr.sureAddr,h1],h2⟩
   .simp at h
  .rename_i cells ho;split at h
   .rename_i v' hv;obtain⟨rfl,rfl⟩:v'=v/\[id]=aw:=by simpa using h
    rw[DN]at hv;obtain⟨hk,h0⟩:=hI.gg _ _ ho;cases h0 with
    |my hb hS hrr=>cases hp with|op hk=>obtain⟨val,h1,h2⟩:=tZ (S:=S) (Kn:=Kn) (φ:=φ) ha hn (cells:=(cells.drop off).map .d) (b:=(φ id).bA) (o:=(φ id).aL+off) (fun j x hj=>by rw[aD,bJ]at hj;obtain⟨d,hd,rfl⟩:=aB.1 hj;obtain⟨u,hu,hr⟩:=hrr _ _ hd;exact⟨u,by rw[hb,<-hu];simp,.d hr⟩) hv;exact⟨val,by simp[Instr.loadAt,Instr.sureAddr,h1],h2⟩
   .simp at h
  .simp at h
 .simp at h
theorem x5{w:World}{b:Nat}{old aJ:Array Value}(h:kP w b old)(a:Addr):(w.setRow b aJ).frozen? a=w.frozen? a:=by
 obtain⟨t,h⟩:=h;unfold World.frozen?;by_cases e:a.block=b
 .rw [e,setRow_heap w b old aJ t _ h,h]
 .rw [setRow_other w b _ _ e]
theorem ww{w:World}{b:Nat}{old aJ:Array Value}(h:kP w b old):kP (w.setRow b aJ) b aJ:=by obtain⟨t,h⟩:=h;exact⟨t,setRow_heap w b old aJ t _ h⟩
theorem lW(v:Value):v.oneCell'=one v:=by cases v<;>rfl
theorem eU.cells{S:Nat->Prop}{w:World}{Kn:Nat->Prop}{φ:Nat->fE}{v:TV}{val:Value}{cs:List C}(h:eU S w Kn φ v val)(hc:cellsOf v=some cs):
  cs.length=val.cells.size/\(∀(i:Nat)(x:C),cs[i]?=some x->RC S w Kn φ x (val.cells.getD i undef))/\∀x∈val.cells.toList,one x=true:=by
 cases h with
 |@c x v h=>
  obtain rfl:[x]=cs:=by simpa[cellsOf]using hc
  have e:=tC h.one;refine⟨by rw[e];rfl,fun i y hi=>?_,fun y hy=>?_⟩
  .cases i with
   |zero=>
    rw[e];obtain rfl:x=y:=by simpa using hi
    exact h
   |succ i=>simp at hi
  .rw [e]at hy;obtain rfl:y=val:=by simpa using hy
   exact h.one
 |@agg cs' aJ hlen h=>
  obtain rfl:cs'=cs:=by simpa[cellsOf]using hc
  refine⟨hlen,h,fun y hy=>?_⟩;obtain⟨i,hi,rfl⟩:=cG hy;have hi':i<aJ.size:=by simpa[Value.cells]using hi
  have:=(h i (cs'[i]'(by omega)) (by simp[hlen,hi'])).one;simpa[iB,hi',Value.cells]using this
 |gR hlen h=>simp[cellsOf]at hc
theorem Lj{t:TypeId}{n:Nat}(hn:ew P t=some n){b o:Nat}{aJ:Array Value}{val:Value}(ho:kP w b aJ)(hlen:val.cells.size=n)(hfit:o+n<=aJ.size)
  (hone:∀x∈val.cells.toList,one x=true):
  (storeVar t ⟨b,o,none⟩ val).run P w=.ok () (w.setRow b (aJ.toList.take o++val.cells.toList++aJ.toList.drop (o+n)).toArray):=by
 obtain⟨ty,hb⟩:=ho;have:=run_storeCells_at P b o ty val.cells.toList 0 aJ w hb (by simp;omega) (fun v hv=>by rw[lW];exact hone v hv);have e:val.cells.toList.length=n:=by simpa using hlen
 rw[e]at this;simp only[cu]at this;simp only[storeVar,Sem.run_bind,fq hn,Result.andThen_ok,hlen,ne_eq,not_true_eq_false,if_false];exact this
theorem iw{α:Type}(l:List α)(off:Nat)(p:List α)(hfit:off+p.length<=l.length)(i:Nat):
  (aX l off p)[i]?=if i<off then l[i]?else if i<off+p.length then p[i-off]?else l[i]?:=by
 unfold aX;by_cases h1:i<off
 .rw [List.append_assoc,bq (by simp;omega)];simp[h1]
 .by_cases h2:i<off+p.length
  .rw [bq (by simp;omega),bv (by simp;omega)];simp only[cM,h1,h2,if_true,if_false];congr 1;omega
  .rw [bv (by simp;omega)];simp only[List.length_append,cM,bJ,h1,h2,if_false];congr 1;omega
theorem eg{α:Type}(l:List α)(off:Nat)(p:List α)(hfit:off+p.length<=l.length):(aX l off p).length=l.length:=by unfold aX;simp;omega
theorem NF{aJ:Array Value}{vs:List Value}{o n:Nat}(hn:vs.length=n):aJ.toList.take o++vs++aJ.toList.drop (o+n)=aX aJ.toList o vs:=by rw[<-hn];rfl
end
section
variable{S K:Nat->Prop}{w0 w:World}{Kn:Nat->Prop}{φ:Nat->fE}{hf:Nat->Option Ob}
theorem RD.ym{sz:Nat}{aj:List (List D)}{b off len cap:Nat}(hb:S b)(hsz:0<sz)(hlen:aj.length=len)(hcap:len<=cap)
  (h:cD S w sz (fun i=>w.cell? ⟨b,i,none⟩) off aj):RD S w (.sl sz aj) (.slice (some ⟨b,off,none⟩) len cap):=by
 subst hlen;refine .sl (fun i j=>(w.cell? ⟨b,off+i*sz+j,none⟩).getD undef) hb hsz hcap h.1 (fun i r hi j x hj=>?_) (fun i r hi j x hj=>?_)
 .obtain ⟨v,hv,_⟩:=h.2 i r hi j x hj;simp only at hv;rw[hv];rfl
 .obtain ⟨v,hv,hr⟩:=h.2 i r hi j x hj;simp only at hv;rw[hv];exact hr
theorem RD.wm{cells:List D}{b off:Nat}(hb:S b)(h:∀(j:Nat)(x:D),cells[j]?=some x->∃v,w.cell? ⟨b,off+j,none⟩=some v/\RD S w x v):
  RD S w (.pt cells) (.pointer (some ⟨b,off,none⟩)):=by
 refine .pt (fun j=>(w.cell? ⟨b,off+j,none⟩).getD undef) hb (fun j x hj=>?_) (fun j x hj=>?_)
 .obtain ⟨v,hv,_⟩:=h j x hj;rw[hv];rfl
 .obtain ⟨v,hv,hr⟩:=h j x hj;rw[hv];exact hr
def pU(w:World)(l:fE):List jf->Nat->List Nat
 |[],_=>[]
 |.bn _::r,k=>(match(w.cell? ⟨l.bA,l.aL+k,none⟩).bind vh with|some b=>b::pU w l r (k+1)|none=>pU w l r (k+1))
 |_::r,k=>pU w l r (k+1)
def fX(w:World)(φ:Nat->fE)(hf:Nat->Option Ob)(i:Nat):List Nat:=(φ i).bA::(match hf i with|some (.nst _ sl)=>pU w (φ i) sl 0|_=>[])
theorem Bb{l:fE}{x:Nat}:∀{sl:List jf}{k0:Nat},x∈pU w l sl k0<->∃k aj v,sl[k]?=some (.bn aj)/\w.cell? ⟨l.bA,l.aL+(k0+k),none⟩=some v/\vh v=some x:=by
 intro sl;induction sl with
 |nil=>intro k0;simp[pU]
 |cons s sl ih=>
  intro k0;have tl:(∃k aj v,sl[k]?=some (.bn aj)/\w.cell? ⟨l.bA,l.aL+(k0+1+k),none⟩=some v/\vh v=some x)->∃k aj v,(s::sl)[k]?=some (.bn aj)/\w.cell? ⟨l.bA,l.aL+(k0+k),none⟩=some v/\vh v=some x:=by rintro⟨k,aj,v,h1,h2,h3⟩;exact⟨k+1,aj,v,by simpa using h1,by rw[<-h2,show k0+(k+1)=k0+1+k by omega],h3⟩
  have key:(∀aj,s≠.bn aj)->((∃k aj v,(s::sl)[k]?=some (.bn aj)/\w.cell? ⟨l.bA,l.aL+(k0+k),none⟩=some v/\vh v=some x)->∃k aj v,sl[k]?=some (.bn aj)/\w.cell? ⟨l.bA,l.aL+(k0+1+k),none⟩=some v/\vh v=some x):=by rintro hs ⟨k,aj,v,h1,h2,h3⟩;cases k with|zero=>exact absurd (by simpa using h1) (hs aj)|succ k=>exact⟨k,aj,v,by simpa using h1,by rw[<-h2,show k0+(k+1)=k0+1+k by omega],h3⟩
  cases s with
  |nil=>exact ih.trans ⟨tl,key fun _ e=>by cases e⟩
  |jZ id len=>exact ih.trans ⟨tl,key fun _ e=>by cases e⟩
  |bn rows0=>
   simp only[pU];constructor
   .intro hx;split at hx
    .rename_i b hb;rcases aF.1 hx with rfl|hx
     .obtain ⟨v,h1,h2⟩:=eI.1 hb;exact⟨0,rows0,v,rfl,h1,h2⟩
     .exact tl (ih.1 hx)
    .exact tl (ih.1 hx)
   .rintro ⟨k,aj,v,h1,h2,h3⟩;cases k with
    |zero=>
     have e:(w.cell? ⟨l.bA,l.aL+k0,none⟩).bind vh=some x:=by rw[show l.aL+k0=l.aL+(k0+0)from rfl,h2];exact h3
     rw[e];simp
    |succ k=>
     have hm:=ih.2 ⟨k,aj,v,by simpa using h1,by rw[<-h2,show k0+(k+1)=k0+1+k by omega],h3⟩;split
     .exact aA _ hm
     .exact hm
theorem EQ{l:fE}{x:Nat}{sl:List jf}:x∈pU w l sl 0<->∃k,oW w l sl k x:=by rw[Bb];simp only[bG];exact Iff.rfl
theorem Dm{l:fE}:∀{sl:List jf}{k0:Nat},(∀k k' x aj rows' v v',sl[k]?=some (.bn aj)->w.cell? ⟨l.bA,l.aL+(k0+k),none⟩=some v->vh v=some x->sl[k']?=some (.bn rows')->w.cell? ⟨l.bA,l.aL+(k0+k'),none⟩=some v'->vh v'=some x->k=k')->(pU w l sl k0).Nodup:=by
 intro sl;induction sl with
 |nil=>intro k0 _;exact gX
 |cons s sl ih=>
  intro k0 h;have h':(pU w l sl (k0+1)).Nodup:=ih fun k k' x aj rows' v v' h1 h2 h3 h4 h5 h6=>by have:=h (k+1) (k'+1) x aj rows' v v' (by simpa using h1) (by rw[<-h2,show k0+(k+1)=k0+1+k by omega]) h3 (by simpa using h4) (by rw[<-h5,show k0+(k'+1)=k0+1+k' by omega]) h6;omega
  cases s with
  |nil=>exact h'
  |jZ id len=>exact h'
  |bn rows0=>
   simp only[pU];split
   .rename_i b hb;refine e_.2 ⟨fun hm=>?_,h'⟩;obtain⟨v0,h1,h2⟩:=eI.1 hb;obtain⟨k,aj,v,h3,h4,h5⟩:=Bb.1 hm;have:=h 0 (k+1) b rows0 aj v0 v rfl h1 h2 (by simpa using h3) (by rw[<-h4,show k0+(k+1)=k0+1+k by omega]) h5;omega
   .exact h'
theorem dj{i x:Nat}:x∈fX w φ hf i<->x=(φ i).bA\/∃sz sl k,hf i=some (.nst sz sl)/\oW w (φ i) sl k x:=by
 unfold fX;rw[aF];refine or_congr_right ?_;split
 .rename_i sz sl h;rw[EQ];exact⟨fun⟨k,hk⟩=>⟨sz,sl,k,h,hk⟩,fun⟨_,_,k,h1,hk⟩=>by rw[h]at h1;cases h1;exact⟨k,hk⟩⟩
 .rename_i h;exact⟨fun hx=>by simp at hx,fun⟨sz,sl,k,h1,_⟩=>(h sz sl h1).elim⟩
theorem mD(hI:Inv S K w0 Kn φ hf w){i:Nat}{o:Ob}(ho:hf i=some o)(hown:cq o=true){x:Nat}(hx:x∈fX w φ hf i):¬S x/\¬K x/\x<w.heap.size:=by
 rcases dj.1 hx with rfl|⟨sz,sl,k,h1,h2⟩
 .exact (hI.gg i o ho).2.bn hown
 .obtain ⟨a,b,c,_⟩:=hI.Dr h1 h2;exact⟨a,b,c⟩
theorem kN(hI:Inv S K w0 Kn φ hf w){i j:Nat}{a b:Ob}(hi:hf i=some a)(hj:hf j=some b)(ha:cq a=true)(hb:cq b=true)(hne:i≠j){x:Nat}(hx:x∈fX w φ hf i):x∉fX w φ hf j:=by
 intro hy;rcases dj.1 hx with rfl|⟨sz,sl,k,h1,h2⟩<;>rcases dj.1 hy with e|⟨sz',sl',k',h3,h4⟩
 .exact hI.ei i j a b hi hj ha hb hne e
 .exact (hI.sq j sz' sl' k' _ h3 h4).1 i a hi ha rfl
 .subst e;exact(hI.sq i sz sl k _ h1 h2).1 j b hj hb rfl
 .exact hne (((hI.sq i sz sl k x h1 h2).2 j sz' sl' k' h3 h4).1).symm
theorem Ek(hI:Inv S K w0 Kn φ hf w){i:Nat}{o:Ob}(ho:hf i=some o)(hown:cq o=true):(fX w φ hf i).Nodup:=by
 unfold fX;refine e_.2 ⟨fun hm=>?_,?_⟩
 .split at hm
  .rename_i sz sl h;obtain⟨k,hk⟩:=EQ.1 hm;exact(hI.sq i sz sl k _ h hk).1 i o ho hown rfl
  .simp at hm
 .split
  .rename_i sz sl h;refine Dm fun k k' x aj rows' v v' h1 h2 h3 h4 h5 h6=>?_;rw[bG]at h2 h5;exact(((hI.sq i sz sl k x h ⟨aj,v,h1,h2,h3⟩).2 i sz sl k' h ⟨rows',v',h4,h5,h6⟩).2).symm
  .exact gX
theorem iZ(i:Nat):(φ i).bA∈fX w φ hf i:=dj.2 (.inl rfl)
def SB(S:Nat->Prop)(w:World)(φ:Nat->fE)(hf:Nat->Option Ob)(aw:List Nat)(b:Nat):Prop:=S b\/∃i∈aw,b∈fX w φ hf i
theorem SB.Ay(a b:List Nat)(h:∀i∈a,i∈b):fw (SB S w φ hf a) w (SB S w φ hf b) w:=⟨fun _ hb=>hb.imp id fun⟨i,hi,e⟩=>⟨i,h i hi,e⟩,fun _ _=>rfl⟩
theorem SB.r_(b:List Nat):fw S w (SB S w φ hf b) w:=⟨fun _ hb=>.inl hb,fun _ _=>rfl⟩
theorem FC.rd{sz b:Nat}{aj:List (List D)}{v:Value}(h:FC S w sz aj v b){T:Nat->Prop}(hT:fw S w T w)(hb:T b):RD T w (.sl sz aj) v:=by obtain⟨addr,cap,aJ,rfl,h2,h3,h4,_,h6⟩:=h;exact .ym hb h2 rfl h4 ⟨h6.1,fun i r hi j x hj=>let⟨v,hv,hr⟩:=h6.2 i r hi j x hj;⟨v,(h3.cell _).trans hv,hr.mono hT⟩⟩
theorem Bx{l:fE}{szi:Nat}{slots:List jf}(h:RO S K w Kn φ l (.nst szi slots)){aj:List (List D)}(hd:oK szi slots=some aj){T:Nat->Prop}(hT:fw S w T w)(hp:∀k x,oW w l slots k x->T x):
  aj.length=slots.length/\cD T w 1 (fun i=>w.cell? ⟨l.bA,i,none⟩) l.aL aj:=by
 have key:∀(slots:List jf)(aj:List (List D)),oK szi slots=some aj->aj.length=slots.length/\∀(i:Nat)(r:List D),aj[i]?=some r->∃s x,slots[i]?=some s/\HY szi s=some x/\r=[x]:=by
  intro slots;induction slots with
  |nil=>intro aj h;obtain rfl:=aa h;exact⟨rfl,fun i r hi=>by simp at hi⟩
  |cons s slots ih=>
   intro aj h;simp only[oK]at h;split at h
   .rename_i x l hx hl;obtain rfl:=aa h;obtain⟨h1,h2⟩:=ih l hl;refine⟨by simp[h1],fun i r hi=>?_⟩;cases i with|zero=>exact⟨s,x,rfl,hx,(by simpa using hi:[x]=r).symm⟩|succ i=>obtain⟨s',x',e1,e2,e3⟩:=h2 i r (by simpa using hi);exact⟨s',x',by simpa using e1,e2,e3⟩
   .simp at h
 obtain⟨k1,k2⟩:=key slots aj hd;cases h with
 |nst hsz hl hS hK ho hext hfit hr hv=>
  refine⟨k1,fun i r hi=>by obtain⟨_,_,_,_,rfl⟩:=k2 i r hi;rfl,fun i r hi j x hj=>?_⟩;obtain⟨s,y,e1,e2,rfl⟩:=k2 i r hi;cases j with
  |succ j=>simp at hj
  |zero=>
   obtain rfl:y=x:=by simpa using hj
   obtain⟨v,h1,h2⟩:=hr i s e1;refine⟨v,by rw[iV,cu];exact(ho.cell _).trans h1,?_⟩;cases h2 with|nil=>obtain rfl:=aa e2;exact .lit rfl|@bn rows' _ b h3 _ _=>obtain rfl:=aa e2;exact h3.rd hT (hp i b ⟨rows',v,e1,(ho.cell _).trans h1,h3.bA⟩)|jZ _=>simp[HY]at e2
theorem lQ{id sz:Nat}{aj:List (List D)}(hI:Inv S K w0 Kn φ hf w)(ho:hf id=some (.aJ sz aj)\/hf id=some (.nL sz aj)):
  0<sz/\(φ id).sz=sz/\cD S w sz (fun i=>w.cell? ⟨(φ id).bA,i,none⟩) (φ id).aL aj:=by
 rcases ho with ho|ho
 .obtain ⟨_,h0⟩:=hI.gg _ _ ho;cases h0 with|aJ hsz hl hS hK hown hext hfit hrr=>exact⟨hsz,hl,hrr.1,fun i r hi j x hj=>let⟨v,hv,hr⟩:=hrr.2 i r hi j x hj;⟨v,(hown.cell _).trans hv,hr⟩⟩
 .obtain ⟨_,h0⟩:=hI.gg _ _ ho;cases h0 with|nL hsz hl hS hrr=>exact⟨hsz,hl,hrr⟩
theorem cD.sub{sz aL:Nat}{get:Nat->Option Value}{aj:List (List D)}(h:cD S w sz get aL aj)(off len:Nat):
  cD S w sz get (aL+off*sz) ((aj.drop off).take len):=by
 have key:∀i(r:List D),((aj.drop off).take len)[i]?=some r->aj[off+i]?=some r:=by
  intro i r hi;rw[dY]at hi;split at hi
  .rwa [bJ]at hi
  .simp at hi
 refine⟨fun i r hi=>h.1 _ _ (key i r hi),fun i r hi j x hj=>?_⟩;obtain⟨v,hv,hr⟩:=h.2 _ _ (key i r hi) j x hj;refine⟨v,?_,hr⟩;rw[<-hv];congr 1;rw[Nat.add_mul];omega
theorem cD.u6{sz aL addr:Nat}{get:Nat->Option Value}{aj:List (List D)}(h:cD S w sz get aL aj)(off len:Nat)(ha:0<len->addr=aL+off*sz):
  cD S w sz get addr ((aj.drop off).take len):=by
 cases len with|zero=>exact⟨fun i r hi=>by simp at hi,fun i r hi=>by simp at hi⟩|succ n=>rw[ha (Nat.succ_pos _)];exact h.sub off _
theorem AE{sz id off len:Nat}{aj:List (List D)}{v:Value}{szo:Nat}(hI:Inv S K w0 Kn φ hf w)(hc:RC S w Kn φ (.dz sz id off len) v)
  (ho:hf id=some (.aJ szo aj)\/hf id=some (.nL szo aj)) (hle:off+len<=aj.length) {T:Nat->Prop} (hT:fw S w T w) (hb:T (φ id).bA):
  RD T w (.sl sz ((aj.drop off).take len)) v:=by
 obtain⟨hsz,hl,hr⟩:=lQ hI ho;subst hl;cases hc with|dz hk hcap haddr hext=>exact .ym hb hsz (by simp;omega) hcap ((hr.u6 off len fun h=>haddr (by omega)).mono hT)
theorem K5{id cC off sz:Nat}{aj:List (List D)}{r:List D}{v:Value}(hI:Inv S K w0 Kn φ hf w)(hc:RC S w Kn φ (.ep id cC off) v)
  (ho:hf id=some (.aJ sz aj)\/hf id=some (.nL sz aj)) (hr:aj[cC]?=some r) {T:Nat->Prop} (hT:fw S w T w) (hb:T (φ id).bA):
  RD T w (.pt (r.drop off)) v:=by
 obtain⟨hsz,hl,hrr⟩:=lQ hI ho;cases hc with|ep hk=>refine .wm hb fun j x hj=>?_;rw[bJ]at hj;obtain⟨u,hu,hd⟩:=hrr.2 cC r hr (off+j) x hj;refine⟨u,?_,hd.mono hT⟩;rw[<-hu,hl];simp only[ct]
theorem ye{H:bz}(hI:Inv S K w0 Kn φ (av H) w)(n:Nat)(c:C)(x:D)(aw:List Nat)(v:Value)(hleaf:match c with|.op _ _|.mP _ _=>False|_=>True)
  (h:dE H n c=some (x,aw)) (hc:RC S w Kn φ c v):RD (SB S w φ (av H) aw) w x v:=by
 cases c with
 |d y=>simp only[dE,bl,Prod.mk.injEq]at h;obtain⟨rfl,rfl⟩:=h;cases hc with|d hd=>exact hd.mono (SB.r_ _)
 |dz sz id off len=>
  simp only[dE]at h
  have key:∀szo aj,(av H id=some (.aJ szo aj)\/av H id=some (.nL szo aj))->(if off+len<=aj.length then some (D.sl sz ((aj.drop off).take len),[id])else none)=some (x,aw)->RD (SB S w φ (av H) aw) w x v:=by
   intro szo aj ho h;split at h
   .rename_i hle;obtain⟨rfl,rfl⟩:=ad (aa h);exact AE hI hc ho hle (SB.r_ _) (.inr ⟨_,by simp,iZ _⟩)
   .simp at h
  split at h
  .exact key _ _ (.inl (by assumption)) h
  .exact key _ _ (.inr (by assumption)) h
  .rename_i szi slots ho;split at h
   .rename_i he;obtain⟨rfl,rfl⟩:=he;split at h
    .rename_i aj hd;obtain⟨rfl,rfl⟩:=ad (aa h);obtain⟨_,hro⟩:=hI.gg _ _ ho;obtain⟨h1,h2⟩:=Bx hro hd (SB.r_ (hf:=av H) (φ:=φ) [id]) fun k x hp=>.inr ⟨id,by simp,dj.2 (.inr ⟨szi,slots,k,ho,hp⟩)⟩;cases hro with
     |nst hsz hl=>
      cases hc with
      |dz hk hcap haddr hext=>rw[hl];refine .ym (.inr ⟨id,by simp,iZ id⟩) Nat.one_pos h1 hcap ?_;cases hs:slots with|nil=>have:aj=[]:=List.length_eq_zero_iff.1 (by rw[h1,hs];rfl);rw[this];exact⟨fun i r hi=>by simp at hi,fun i r hi=>by simp at hi⟩|cons s r=>rw[hs]at hcap;have:=haddr (by simp at hcap;omega);rw[this,hl,ip,cu];exact h2
    .simp at h
   .simp at h
  .simp at h
 |ep id cC off=>
  simp only[dE]at h
  have key:∀szo aj,(av H id=some (.aJ szo aj)\/av H id=some (.nL szo aj))->
    (match aj[cC]?with|some r=>if off<=r.length then some (D.pt (r.drop off),[id])else none|none=>none)=some (x,aw)->RD (SB S w φ (av H) aw) w x v:=by
   intro szo aj ho h;split at h
   .rename_i r hr;split at h
    .obtain ⟨rfl,rfl⟩:=ad (aa h);exact K5 hI hc ho hr (SB.r_ _) (.inr ⟨_,by simp,iZ _⟩)
    .simp at h
   .simp at h
  split at h
  .exact key _ _ (.inl (by assumption)) h
  .exact key _ _ (.inr (by assumption)) h
  .simp at h
 |op id off=>exact hleaf.elim
 |mP f caps=>exact hleaf.elim
 |om id=>cases n<;>simp[dE]at h
theorem rV{H:bz}(hI:Inv S K w0 Kn φ (av H) w):∀n,
  (∀c x aw v,dE H n c=some (x,aw)->RC S w Kn φ c v->RD (SB S w φ (av H) aw) w x v)/\
  (∀cs xs aw,fc H n cs=some (xs,aw)->∀(get:Nat->Option Value),(∀(i:Nat)(c:C),cs[i]?=some c->∃v,get i=some v/\RC S w Kn φ c v)->
   xs.length=cs.length/\∀(i:Nat)(x:D),xs[i]?=some x->∃v,get i=some v/\RD (SB S w φ (av H) aw) w x v):=by
 intro n;induction n with
 |zero=>
  refine⟨fun c x aw v h hc=>?_,fun cs xs aw h get hg=>?_⟩
  .cases c with|op id off=>simp[dE]at h|mP f caps=>simp[dE]at h|_=>exact ye hI 0 _ x aw v trivial h hc
  .cases cs with
   |nil=>
    obtain⟨rfl,rfl⟩:[]=xs/\[]=aw:=by simpa[fc]using h
    exact⟨rfl,fun i x hi=>by simp at hi⟩
   |cons c cs=>simp[fc]at h
 |succ n ih=>
  obtain⟨ihc,ihl⟩:=ih;refine⟨fun c x aw v h hc=>?_,fun cs xs aw h get hg=>?_⟩
  .cases c with
   |op id off=>
    simp only[dE]at h;split at h
    .rename_i cells ho;split at h
     .obtain ⟨rfl,rfl⟩:=ad (aa h);obtain⟨_,h0⟩:=hI.gg _ _ ho;cases h0 with
      |my hb hS hr=>cases hc with|op hk=>refine .wm (.inl hS) fun j x hj=>?_;rw[bJ]at hj;obtain⟨u,hu,hd⟩:=hr _ _ hj;exact⟨u,by rw[<-hu,hb,bG],hd.mono (SB.r_ _)⟩
     .simp at h
    .rename_i cells ho;split at h
     .rename_i ds ids' hv;split at h
      .obtain ⟨rfl,rfl⟩:=ad (aa h);obtain⟨_,h0⟩:=hI.gg _ _ ho;cases h0 with
       |@box _ aJ hb hS hK hown hlen hr=>cases hc with|op hk=>obtain⟨h1,h2⟩:=ihl cells ds ids' hv (fun i=>w.cell? ⟨(φ id).bA,i,none⟩) (fun i c hi=>by have hlt:=(ai.1 hi).1;rw[hlen]at hlt;exact⟨aJ.getD i undef,by rw[hown.cell];simp[iB,hlt],hr i c hi⟩);refine .wm (.inr ⟨id,by simp,iZ _⟩) fun j x hj=>?_;rw[bJ]at hj;obtain⟨u,hu,hd⟩:=h2 _ _ hj;exact⟨u,by rw[<-hu,hb,bG],hd.mono (SB.Ay _ _ fun i hi=>by simp[hi])⟩
      .simp at h
     .simp at h
    .simp at h
   |mP f caps=>
    simp only[dE]at h;split at h
    .rename_i ds ids' hv;obtain⟨rfl,rfl⟩:=ad (aa h);cases hc with
     |@mP _ _ vs hlen hr=>
      obtain⟨h1,h2⟩:=ihl caps ds ids' hv (fun i=>vs[i]?) (fun i c hi=>by have hlt:=(ai.1 hi).1;rw[hlen]at hlt;exact⟨vs.getD i undef,by simp[iB,hlt],hr i c hi⟩);refine .fn (h1.trans hlen) fun j x hj=>?_;obtain⟨u,hu,hd⟩:=h2 j x hj;have hu':vs[j]?=some u:=hu;have:vs.getD j undef=u:=by simp[hu']
      rw[this];exact hd
    .simp at h
   |_=>exact ye hI (n+1) _ x aw v trivial h hc
  .cases cs with
   |nil=>
    obtain⟨rfl,rfl⟩:[]=xs/\[]=aw:=by simpa[fc]using h
    exact⟨rfl,fun i x hi=>by simp at hi⟩
   |cons c cs=>
    simp only[fc]at h;split at h
    .rename_i x0 a xs0 b hx hxs;obtain⟨rfl,rfl⟩:=ad (aa h);obtain⟨v0,hv0,hc0⟩:=hg 0 c rfl;have h0:=ihc c x0 a v0 hx hc0;obtain⟨h1,h2⟩:=ihl cs xs0 b hxs (fun i=>get (i+1)) (fun i c hi=>hg (i+1) c (by simpa using hi));refine⟨by simp[h1],fun i x hi=>?_⟩;cases i with
     |zero=>
      obtain rfl:x0=x:=by simpa using hi
      exact⟨v0,hv0,h0.mono (SB.Ay _ _ fun i hi=>by simp[hi])⟩
     |succ i=>obtain⟨u,hu,hd⟩:=h2 i x (by simpa using hi);exact⟨u,hu,hd.mono (SB.Ay _ _ fun i hi=>by simp[hi])⟩
    .simp at h
theorem pE{H:bz}(hI:Inv S K w0 Kn φ (av H) w):∀cs xs aw,du H cs=some (xs,aw)->∀(get:Nat->Option Value),(∀(i:Nat)(c:C),cs[i]?=some c->∃v,get i=some v/\RC S w Kn φ c v)->
   xs.length=cs.length/\∀(i:Nat)(x:D),xs[i]?=some x->∃v,get i=some v/\RD (SB S w φ (av H) aw) w x v:=by
 intro cs;induction cs with
 |nil=>
  intro xs aw h get hg;obtain⟨rfl,rfl⟩:[]=xs/\[]=aw:=by simpa[du]using h
  exact⟨rfl,fun i x hi=>by simp at hi⟩
 |cons c cs ih=>
  intro xs aw h get hg;simp only[du]at h;split at h
  .rename_i x0 a xs0 b hx hxs;obtain⟨rfl,rfl⟩:=ad (aa h);obtain⟨v0,hv0,hc0⟩:=hg 0 c rfl;have h0:=(rV hI 300).1 c x0 a v0 hx hc0;obtain⟨h1,h2⟩:=ih xs0 b hxs (fun i=>get (i+1)) (fun i c hi=>hg (i+1) c (by simpa using hi));refine⟨by simp[h1],fun i x hi=>?_⟩;cases i with
   |zero=>
    obtain rfl:x0=x:=by simpa using hi
    exact⟨v0,hv0,h0.mono (SB.Ay _ _ fun i hi=>by simp[hi])⟩
   |succ i=>obtain⟨u,hu,hd⟩:=h2 i x (by simpa using hi);exact⟨u,hu,hd.mono (SB.Ay _ _ fun i hi=>by simp[hi])⟩
  .simp at h
theorem jQ{H:bz}{all:List Nat}:∀(l:List Nat)(u:eG),de H all l=some u->
  ∀id,(id∈l->∃o,iN H all id=some o/\bX u id=some (some o))/\(id∉l->bX u id=none):=by
 intro l;induction l with
 |nil=>
  intro u h id;obtain rfl:[]=u:=by simpa[de]using h
  exact⟨fun h=>by simp at h,fun _=>rfl⟩
 |cons a l ih=>
  intro u h id;simp only[de]at h;split at h
  .rename_i o u' ho hu;obtain rfl:=aa h;by_cases e:a=id
   .subst e;exact⟨fun _=>⟨o,ho,by simp[bX]⟩,fun hn=>absurd (List.mem_cons_self ..) hn⟩
   .obtain ⟨h1,h2⟩:=ih u' hu id;have e':(a==id)=false:=by simpa using e
    refine⟨fun hm=>?_,fun hn=>?_⟩
    .obtain ⟨o',ho',hf'⟩:=h1 ((aF.1 hm).resolve_left (fun e2=>e e2.symm));exact⟨o',ho',by simp[bX,e',hf']⟩
    .simp only[bX,e',cond_false];exact h2 (fun hm=>hn (aA _ hm))
  .simp at h
theorem yM{H:bz}{all:List Nat}{id:Nat}{o:Ob}(hI:Inv S K w0 Kn φ (av H) w)(hmem:id∈all)(h:iN H all id=some o):
  cq o=false/\(∃o0,av H id=some o0)/\RO (SB S w φ (av H) all) K w Kn φ (φ id) o:=by
 unfold iN at h;have hb:SB S w φ (av H) all (φ id).bA:=.inr ⟨id,hmem,iZ _⟩;split at h
 .rename_i sz aj ho;obtain rfl:=aa h;obtain⟨hsz,hl,hr⟩:=lQ hI (.inl ho);exact⟨rfl,⟨_,ho⟩,.nL hsz hl hb (hr.mono (SB.r_ _))⟩
 .rename_i sz aj ho;obtain rfl:=aa h;obtain⟨hsz,hl,hr⟩:=lQ hI (.inr ho);exact⟨rfl,⟨_,ho⟩,.nL hsz hl hb (hr.mono (SB.r_ _))⟩
 .rename_i cells ho;obtain rfl:=aa h;obtain⟨_,h0⟩:=hI.gg _ _ ho;cases h0 with|my hbase hS hr=>exact⟨rfl,⟨_,ho⟩,.my hbase hb fun i x hi=>let⟨v,hv,hd⟩:=hr i x hi;⟨v,hv,hd.mono (SB.r_ _)⟩⟩
 .rename_i cells ho;split at h
  .rename_i ds aw hv;split at h
   .rename_i hall;obtain rfl:=aa h;obtain⟨_,h0⟩:=hI.gg _ _ ho;cases h0 with|@box _ aJ hbase hS hK hown hlen hr=>obtain⟨h1,h2⟩:=(rV hI 300).2 cells ds aw hv (fun i=>w.cell? ⟨(φ id).bA,i,none⟩) (fun i c hi=>by have hlt:=(ai.1 hi).1;rw[hlen]at hlt;exact⟨aJ.getD i undef,by rw[hown.cell];simp[iB,hlt],hr i c hi⟩);refine⟨rfl,⟨_,ho⟩,.my hbase hb fun i x hi=>?_⟩;obtain⟨u,hu,hd⟩:=h2 i x hi;exact⟨u,hu,hd.mono (SB.Ay _ _ fun i hi=>by simpa using aV.1 hall i hi)⟩
   .simp at h
  .simp at h
 .simp at h
 .simp at h
 .rename_i szi slots ho;split at h
  .rename_i aj hd;obtain rfl:=aa h;obtain⟨_,hro⟩:=hI.gg _ _ ho;obtain⟨_,h2⟩:=Bx hro hd (SB.r_ (hf:=av H) (φ:=φ) all) fun k x hp=>.inr ⟨id,hmem,dj.2 (.inr ⟨szi,slots,k,ho,hp⟩)⟩;cases hro with|nst hsz hl=>exact⟨rfl,⟨_,ho⟩,.nL Nat.one_pos hl hb h2⟩
  .simp at h
 .simp at h
theorem Inv.DW{H:bz}{aw:List Nat}{u:eG}(hI:Inv S K w0 Kn φ (av H) w)(h:de H aw aw=some u):
  Inv (SB S w φ (av H) aw) K w0 Kn φ (bg u (av H)) w:=by
 have hfr:∀id∈aw,∃o,bX u id=some (some o)/\cq o=false/\(∃o0,av H id=some o0)/\RO (SB S w φ (av H) aw) K w Kn φ (φ id) o:=by
  intro id hid;obtain⟨o,ho,hfn⟩:=((jQ aw u h id).1 hid)
  exact⟨o,hfn,yM hI hid ho⟩
 have hold:∀id o,bg u (av H) id=some o->cq o=true->id∉aw/\av H id=some o:=by
  intro id o ho hown;by_cases hm:id∈aw
  .obtain ⟨o',hfn,hno,_⟩:=hfr id hm;simp only[bg,hfn]at ho;obtain rfl:=aa ho;rw[hno]at hown;simp at hown
  .refine ⟨hm,?_⟩;simpa only[bg,(jQ aw u h id).2 hm]using ho
 have hnb:∀id o,av H id=some o->cq o=true->id∉aw->∀x∈fX w φ (av H) id,¬SB S w φ (av H) aw x:=by
  intro id o ho hown hm x hx hb;have hx1:=(mD hI ho hown hx).1;rcases hb with hb|⟨i,hi,e⟩
  .exact hx1 hb
  .obtain ⟨_,_,_,⟨o0,ho0⟩,_⟩:=hfr i hi;by_cases hoi:cq o0=true
   .exact kN hI ho ho0 hown hoi (fun e'=>hm (e'▸hi)) hx e
   .obtain ⟨_,h1⟩:=hI.gg i o0 ho0;rcases dj.1 e with rfl|⟨sz,sl,k,h2,_⟩
    .exact hx1 (by
      cases h1 with
      |nL hsz hl hS _=>exact hS
      |my hb hS _=>exact hS
      |_=>simp[cq]at hoi)
    .rw [ho0]at h2;obtain rfl:=aa h2;simp[cq]at hoi
 refine hI.iD (SB.r_ _) (Ren.refl _ _) ?_ ?_ hI.lG ?_ ?_ ?_
 .intro b hb;rcases hb with hb|⟨i,hi,hb⟩
  .exact hI.qZ b hb
  .obtain ⟨_,_,_,⟨o0,ho0⟩,_⟩:=hfr i hi;by_cases hoi:cq o0=true
   .exact (mD hI ho0 hoi hb).2.2
   .obtain ⟨_,h1⟩:=hI.gg i o0 ho0;rcases dj.1 hb with rfl|⟨sz,sl,k,h2,h3⟩
    .cases h1 with|nL hsz hl hS=>exact hI.qZ _ hS|my hb hS=>exact hI.qZ _ hS|_=>simp[cq]at hoi
    .exact (hI.Dr h2 h3).2.2.1
 .intro b hb;rcases hb with hb|⟨i,hi,hb⟩
  .exact hI.sk b hb
  .obtain ⟨_,_,_,⟨o0,ho0⟩,_⟩:=hfr i hi;by_cases hoi:cq o0=true
   .exact (mD hI ho0 hoi hb).2.1
   .obtain ⟨_,h1⟩:=hI.gg i o0 ho0;rcases dj.1 hb with rfl|⟨sz,sl,k,h2,h3⟩
    .cases h1 with|nL hsz hl hS=>exact hI.sk _ hS|my hb hS=>exact hI.sk _ hS|_=>simp[cq]at hoi
    .exact (hI.Dr h2 h3).2.1
 .intro id o ho;by_cases hm:id∈aw
  .obtain ⟨o',hfn,hno,⟨o0,ho0⟩,hro⟩:=hfr id hm;simp only[bg,hfn]at ho;obtain rfl:=aa ho;exact .inr ⟨(hI.gg id o0 ho0).1,hro⟩
  .have ho':av H id=some o:=by simpa only[bg,(jQ aw u h id).2 hm]using ho
   exact .inl ⟨ho',fun hown=>⟨rfl,hnb id o ho' hown hm _ (iZ _)⟩⟩
 .intro i j a b ha hb hoa hob hne;exact hI.ei i j a b (hold i a ha hoa).2 (hold j b hb hob).2 hoa hob hne
 .intro id sz sl hi;obtain⟨h1,h2⟩:=hold id _ hi rfl;refine⟨h2,rfl,fun k x hp=>⟨rfl,hnb id _ h2 rfl h1 x (dj.2 (.inr ⟨sz,sl,k,h2,hp⟩)),fun j b hj hb=>?_⟩⟩;exact(hI.sq id sz sl k x h2 hp).1 j b (hold j b hj hb).2 hb
end
def Aw(S:Nat->Prop)(w:World)(sz:Nat):Option (List (List D))->Value->List Nat->Prop
 |none,v,fp=>v=.slice none 0 0/\fp=[]
 |some aj,v,fp=>∃b,fp=[b]/\FC S w sz aj v b
inductive RT(S:Nat->Prop)(w:World):T->Value->List Nat->Prop
 |d {x:D} {v:Value} (h:RD S w x v):RT S w (.d x) v []
 |sl {sz:Nat} {aj:List (List D)} {b off len cap:Nat} {aJ:Array Value} (hsz:0<sz) (ho:kP w b aJ) (hlen:aj.length=len) (hcap:len<=cap)
   (hext:off+cap*sz<=aJ.size) (hr:cD S w sz (fun i=>aJ[i]?) off aj):RT S w (.sl sz aj) (.slice (some ⟨b,off,none⟩) len cap) [b]
 |pt {ts:List T} {b:Nat} {aJ:Array Value} {fps:List (List Nat)} (ho:kP w b aJ) (hlen:ts.length=aJ.size) (hfl:fps.length=ts.length)
   (h:∀(i:Nat)(t:T)(fp:List Nat),ts[i]?=some t->fps[i]?=some fp->RT S w t (aJ.getD i undef) fp):
   RT S w (.pt ts) (.pointer (some ⟨b,0,none⟩)) (b::fps.flatten)
 |xC {sz:Nat} {aj:List (Option (List (List D)))} {b off cap:Nat} {aJ:Array Value} {fps:List (List Nat)} (hsz:0<sz) (ho:kP w b aJ) (hcap:aj.length<=cap) (hext:off+cap<=aJ.size) (hfl:fps.length=aj.length)
   (h:∀(i:Nat)(r:Option (List (List D)))(fp:List Nat),aj[i]?=some r->fps[i]?=some fp->∃v,aJ[off+i]?=some v/\Aw S w sz r v fp):
   RT S w (.xC sz aj) (.slice (some ⟨b,off,none⟩) aj.length cap) (b::fps.flatten)
theorem Aw.mono{S S':Nat->Prop}{w w':World}(hs:fw S w S' w'){sz:Nat}{r:Option (List (List D))}{v:Value}{fp:List Nat}(h:Aw S w sz r v fp)(hb:∀b∈fp,w'.heap[b]?=w.heap[b]?):Aw S' w' sz r v fp:=by cases r with|none=>exact h|some aj=>obtain⟨b,rfl,h⟩:=h;exact⟨b,rfl,h.mono hs (hb b (by simp))⟩
theorem Aw.lt{S:Nat->Prop}{w:World}{sz:Nat}{r:Option (List (List D))}{v:Value}{fp:List Nat}(h:Aw S w sz r v fp):∀b∈fp,b<w.heap.size:=by cases r with|none=>obtain⟨_,rfl⟩:=h;intro b hb;simp at hb|some aj=>obtain⟨b,rfl,h⟩:=h;intro b' hb;obtain rfl:=am.1 hb;obtain⟨aJ,h⟩:=h.bn;exact h.lt
theorem RT.mono{S S':Nat->Prop}{w w':World}(hs:fw S w S' w'){t:T}{v:Value}{fp:List Nat}(h:RT S w t v fp)(hb:∀b∈fp,w'.heap[b]?=w.heap[b]?):RT S' w' t v fp:=by induction h with|d h=>exact .d (h.mono hs)|sl hsz ho hlen hcap hext hr=>exact .sl hsz (ho.kE (hb _ (by simp))) hlen hcap hext (hr.mono hs)|pt ho hlen hfl h ih=>refine .pt (ho.kE (hb _ (by simp))) hlen hfl fun i t fp hi hf=>ih i t fp hi hf fun b hbm=>hb b ?_;exact aA _ (df.2 ⟨fp,aQ hf,hbm⟩)|xC hsz ho hcap hext hfl h=>refine .xC hsz (ho.kE (hb _ (by simp))) hcap hext hfl fun i r fp hi hf=>?_;obtain⟨v,h1,h2⟩:=h i r fp hi hf;exact⟨v,h1,h2.mono hs fun b hbm=>hb b (aA _ (df.2 ⟨fp,aQ hf,hbm⟩))⟩
theorem RT.lt{S:Nat->Prop}{w:World}{t:T}{v:Value}{fp:List Nat}(h:RT S w t v fp):∀b∈fp,b<w.heap.size:=by
 induction h with
 |d h=>intro b hb;simp at hb
 |sl hsz ho=>intro b hb;obtain rfl:=am.1 hb;exact ho.lt
 |pt ho hlen hfl h ih=>
  intro b hb;rcases aF.1 hb with rfl|hb
  .exact ho.lt
  .obtain ⟨fp,hfp,hbf⟩:=df.1 hb;obtain⟨i,hi,rfl⟩:=cG hfp;exact ih i _ _ (au (by omega:i<_)) (au hi) b hbf
 |xC hsz ho hcap hext hfl h=>
  intro b hb;rcases aF.1 hb with rfl|hb
  .exact ho.lt
  .obtain ⟨fp,hfp,hbf⟩:=df.1 hb;obtain⟨i,hi,rfl⟩:=cG hfp;obtain⟨v,_,h2⟩:=h i _ _ (au (by omega:i<_)) (au hi);exact h2.lt b hbf
section
variable{S K:Nat->Prop}{w0 w:World}{Kn:Nat->Prop}{φ:Nat->fE}{hf:Nat->Option Ob}
theorem nU{id:Nat}(h:∀sz sl,hf id≠some (.nst sz sl)):fX w φ hf id=[(φ id).bA]:=by
 unfold fX;split
 .rename_i sz sl e;exact absurd e (h sz sl)
 .rfl
theorem FW{l:fE}{sz:Nat}{get:Nat->Option Value}(hget:∀i,w.cell? ⟨l.bA,i,none⟩=get i):∀(slots:List jf)(k0:Nat)(aj:List (Option (List (List D)))),(∀(i:Nat)(s:jf),slots[i]?=some s->∃v,get (l.aL+(k0+i))=some v/\xy S K w Kn φ sz s v)->sf slots=some aj->
  aj.length=slots.length/\∃fps:List (List Nat),fps.length=aj.length/\fps.flatten=pU w l slots k0/\∀(i:Nat)(r:Option (List (List D)))(fp:List Nat),aj[i]?=some r->fps[i]?=some fp->∃v,get (l.aL+(k0+i))=some v/\Aw S w sz r v fp:=by
 intro slots;induction slots with
 |nil=>intro k0 aj _ h;obtain rfl:=aa h;exact⟨rfl,[],rfl,rfl,fun i r fp hi=>by simp at hi⟩
 |cons s slots ih=>
  intro k0 aj hr h;simp only[sf]at h;split at h
  .rename_i x rs hx hrs;obtain rfl:=aa h;obtain⟨h1,fps,h2,h3,h4⟩:=ih (k0+1) rs (fun i s hi=>by obtain⟨v,e1,e2⟩:=hr (i+1) s (by simpa using hi);exact⟨v,by rw[<-e1,show k0+(i+1)=k0+1+i by omega],e2⟩) hrs;obtain⟨v,e1,e2⟩:=hr 0 s rfl
   have fin:∀fp0,Aw S w sz x v fp0->fp0++pU w l slots (k0+1)=pU w l (s::slots) k0->(x::rs).length=(s::slots).length/\∃fps:List (List Nat),fps.length=(x::rs).length/\fps.flatten=pU w l (s::slots) k0/\∀(i:Nat)(r:Option (List (List D)))(fp:List Nat),(x::rs)[i]?=some r->fps[i]?=some fp->∃v,get (l.aL+(k0+i))=some v/\Aw S w sz r v fp:=by
    intro fp0 h5 h6;refine⟨by simp[h1],fp0::fps,by simp[h2],by rw[dK,h3,h6],fun i r fp hi hf=>?_⟩;cases i with
    |zero=>
     obtain rfl:x=r:=by simpa using hi
     obtain rfl:fp0=fp:=by simpa using hf
     exact⟨v,e1,h5⟩
    |succ i=>obtain⟨v',q1,q2⟩:=h4 i r fp (by simpa using hi) (by simpa using hf);exact⟨v',by rw[<-q1,show k0+(i+1)=k0+1+i by omega],q2⟩
   cases e2 with|nil=>obtain rfl:=aa hx;exact fin [] ⟨rfl,rfl⟩ rfl|@bn rows0 _ b q1 _ _=>obtain rfl:=aa hx;refine fin [b] ⟨b,rfl,q1⟩ ?_;simp only[pU];rw[show l.aL+k0=l.aL+(k0+0)from rfl,hget,e1];simp only[Option.bind_some,q1.bA,List.singleton_append]|jZ _=>simp[MN]at hx
  .simp at h
theorem Bf{H:bz}{sz id off len:Nat}{t:T}{bn rd:List Nat}{v:Value}(hI:Inv S K w0 Kn φ (av H) w)(hc:RC S w Kn φ (.dz sz id off len) v)
  (h:(match av H id with
  |some (.aJ _ aj)=>if off+len<=aj.length then some (T.sl sz ((aj.drop off).take len),[id],[id])else none
  |some (.nL _ aj)=>if off+len<=aj.length then some (.d (.sl sz ((aj.drop off).take len)),[],[id])else none
  |some (.nst szi slots)=>if off=0/\len=slots.length then(match sf slots with|some aj=>some (.xC szi aj,[id],[id])|none=>none)else none
  |_=>none)=some (t,bn,rd)):
  RT S w t v (bn.flatMap (fX w φ (av H)))/\∀i∈bn,∃o,av H i=some o/\cq o=true:=by
 split at h
 .rename_i szo aj ho;split at h
  .rename_i hle;obtain⟨rfl,rfl,rfl⟩:T.sl sz ((aj.drop off).take len)=t/\[id]=bn/\[id]=rd:=by simpa using h
   obtain⟨hk,h0⟩:=hI.gg _ _ ho;cases h0 with
   |aJ hsz hl hS hK hown hext hfit hr=>
    subst hl;cases hc with
    |dz hk hcap haddr hx=>
     rw[bf,List.flatMap_nil,bi,nU fun _ _ e=>by rw[ho]at e;cases e];refine⟨.sl hsz hown (by simp;omega) hcap (by omega) (hr.u6 off len fun h=>haddr (by omega)),fun i hi=>?_⟩
     .obtain rfl:=am.1 hi;exact⟨_,ho,rfl⟩
  .simp at h
 .rename_i szo aj ho;split at h
  .rename_i hle;obtain⟨rfl,rfl,rfl⟩:T.d (.sl sz ((aj.drop off).take len))=t/\[]=bn/\[id]=rd:=by simpa using h
   obtain⟨hk,h0⟩:=hI.gg _ _ ho;have hS:S (φ id).bA:=by cases h0 with|nL hsz hl hS _=>exact hS
   exact⟨.d (AE hI hc (.inr ho) hle (fw.refl _ _) hS),fun i hi=>by simp at hi⟩
  .simp at h
 .rename_i szi slots ho;split at h
  .rename_i he;obtain⟨rfl,rfl⟩:=he;split at h
   .rename_i aj hrows;obtain⟨rfl,rfl,rfl⟩:T.xC szi aj=t/\[id]=bn/\[id]=rd:=by simpa using h
    obtain⟨hk,h0⟩:=hI.gg _ _ ho;cases h0 with
    |@nst _ _ aJ hsz hl hS hK hown hext hfit hr hv=>
     obtain⟨h1,fps,h2,h3,h4⟩:=FW (get:=fun i=>aJ[i]?) hown.cell slots 0 aj (fun i s hi=>by rw[bG];exact hr i s hi) hrows;cases hc with
     |@dz _ _ _ cap addr hk hcap haddr hx hcc=>
      rw[bf,List.flatMap_nil,bi];have e:fX w φ (av H) id=(φ id).bA::fps.flatten:=by unfold fX;rw[ho,h3]
      rw[e,<-h1];refine⟨.xC (sz:=szi) (aj:=aj) hsz hown (by omega) (by rw[hl,iV]at hx;omega) h2 fun i r fp hi hf=>?_,fun i hi=>?_⟩
      .obtain ⟨v,q1,q2⟩:=h4 i r fp hi hf;have hlt:=(ai.1 hi).1;rw[bG]at q1;exact⟨v,by rw[haddr (by omega),ip,cu];exact q1,q2⟩
      .obtain rfl:=am.1 hi;exact⟨_,ho,rfl⟩
   .simp at h
  .simp at h
 .simp at h
theorem pV{H:bz}(hI:Inv S K w0 Kn φ (av H) w):∀n,
  (∀c t bn rd v,dZ H n c=some (t,bn,rd)->RC S w Kn φ c v->RT S w t v (bn.flatMap (fX w φ (av H)))/\∀i∈bn,∃o,av H i=some o/\cq o=true)/\
  (∀cs ts bn rd,gM H n cs=some (ts,bn,rd)->∀(get:Nat->Value),(∀(i:Nat)(c:C),cs[i]?=some c->RC S w Kn φ c (get i))->
   ts.length=cs.length/\(∃fps:List (List Nat),fps.length=ts.length/\fps.flatten=bn.flatMap (fX w φ (av H))/\
    ∀(i:Nat)(t:T)(fp:List Nat),ts[i]?=some t->fps[i]?=some fp->RT S w t (get i) fp)/\∀i∈bn,∃o,av H i=some o/\cq o=true):=by
 intro n;induction n with
 |zero=>
  refine⟨fun c t bn rd v h hc=>?_,fun cs ts bn rd h get hg=>?_⟩
  .cases c with
   |d x=>
    obtain⟨rfl,rfl,rfl⟩:T.d x=t/\[]=bn/\[]=rd:=by simpa[dZ]using h
    cases hc with|d hd=>exact⟨.d hd,fun i hi=>by simp at hi⟩
   |dz sz id off len=>simp only[dZ]at h;exact Bf hI hc h
   |_=>simp[dZ]at h
  .cases cs with
   |nil=>
    obtain⟨rfl,rfl,rfl⟩:[]=ts/\[]=bn/\[]=rd:=by simpa[gM]using h
    exact⟨rfl,⟨[],rfl,rfl,fun i t fp hi=>by simp at hi⟩,fun i hi=>by simp at hi⟩
   |cons c cs=>simp[gM]at h
 |succ n ih=>
  obtain⟨ihc,ihl⟩:=ih;refine⟨fun c t bn rd v h hc=>?_,fun cs ts bn rd h get hg=>?_⟩
  .cases c with
   |d x=>
    obtain⟨rfl,rfl,rfl⟩:T.d x=t/\[]=bn/\[]=rd:=by simpa[dZ]using h
    cases hc with|d hd=>exact⟨.d hd,fun i hi=>by simp at hi⟩
   |dz sz id off len=>simp only[dZ]at h;exact Bf hI hc h
   |op id off=>
    cases off with
    |succ off=>simp[dZ]at h
    |zero=>
     simp only[dZ]at h;split at h
     .rename_i cells ho;split at h
      .rename_i ts own' rd' hp;obtain⟨rfl,rfl,rfl⟩:T.pt ts=t/\id::own'=bn/\id::rd'=rd:=by simpa using h
       obtain⟨hk,h0⟩:=hI.gg _ _ ho;cases h0 with
       |@box _ aJ hb hS hK hown hlen hr=>
        obtain⟨h1,⟨fps,h2,h3,h4⟩,h5⟩:=ihl cells ts own' rd' hp (fun i=>aJ.getD i undef) hr;cases hc with
        |op hk=>
         rw[hb];refine⟨?_,fun i hi=>?_⟩
         .rw [bf,<-h3,nU fun _ _ e=>by rw[ho]at e;cases e];exact .pt hown (h1.trans hlen) h2 h4
         .rcases aF.1 hi with rfl|hi
          .exact ⟨_,ho,rfl⟩
          .exact h5 i hi
      .simp at h
     .rename_i cells ho;obtain⟨rfl,rfl,rfl⟩:T.d (.pt cells)=t/\[]=bn/\[id]=rd:=by simpa using h
      obtain⟨hk,h0⟩:=hI.gg _ _ ho;cases h0 with
      |my hb hS hr=>cases hc with|op hk=>exact⟨.d (.wm hS fun j x hj=>by obtain⟨u,hu,hd⟩:=hr j x hj;exact⟨u,by rw[<-hu,hb];simp,hd⟩),fun i hi=>by simp at hi⟩
     .simp at h
   |ep id cC off=>simp[dZ]at h
   |mP f caps=>simp[dZ]at h
   |om id=>simp[dZ]at h
  .cases cs with
   |nil=>
    obtain⟨rfl,rfl,rfl⟩:[]=ts/\[]=bn/\[]=rd:=by simpa[gM]using h
    exact⟨rfl,⟨[],rfl,rfl,fun i t fp hi=>by simp at hi⟩,fun i hi=>by simp at hi⟩
   |cons c cs=>
    simp only[gM]at h;split at h
    .rename_i t0 a i0 ts0 b j0 hx hxs;obtain⟨rfl,rfl,rfl⟩:t0::ts0=ts/\a++b=bn/\i0++j0=rd:=by simpa using h
     obtain⟨p1,p2⟩:=ihc c t0 a i0 (get 0) hx (hg 0 c rfl);obtain⟨h1,⟨fps,h2,h3,h4⟩,h5⟩:=ihl cs ts0 b j0 hxs (fun i=>get (i+1)) (fun i c hi=>hg (i+1) c (by simpa using hi));refine⟨by simp[h1],⟨(a.flatMap (fX w φ (av H)))::fps,by simp[h2],by simp[h3],fun i t fp hi hfp=>?_⟩,fun i hi=>?_⟩
     .cases i with
      |zero=>
       obtain rfl:t0=t:=by simpa using hi
       obtain rfl:(a.flatMap (fX w φ (av H)))=fp:=by simpa using hfp
       exact p1
      |succ i=>exact h4 i t fp (by simpa using hi) (by simpa using hfp)
     .rcases ak.1 hi with hi|hi
      .exact p2 i hi
      .exact h5 i hi
    .simp at h
theorem za{bn:List Nat}(hI:Inv S K w0 Kn φ hf w)(hn:bn.Nodup)(ho:∀i∈bn,∃o,hf i=some o/\cq o=true):(bn.flatMap (fX w φ hf)).Nodup:=by induction bn with|nil=>exact gX|cons a l ih=>rw[e_]at hn;obtain⟨o1,h1,h2⟩:=ho a (by simp);rw[bf,bR];refine⟨Ek hI h1 h2,ih hn.2 fun i hi=>ho i (aA _ hi),fun x hx y hy e=>?_⟩;subst e;obtain⟨i,hi,hy⟩:=List.mem_flatMap.1 hy;obtain⟨o2,h3,h4⟩:=ho i (aA _ hi);exact kN hI h1 h3 h2 h4 (fun e'=>hn.1 (e'▸hi)) hx hy
def mE(Kn:Nat->Prop)(a b:Nat)(j:Nat):Prop:=Kn j\/(a<=j/\j<b)
theorem Inv.name(h:Inv S K w0 Kn φ hf w){i:Nat}(hi:¬Kn i)(l:fE)(o:Ob)(hfree:cq o=true->∀j b,hf j=some b->cq b=true->l.bA∉fX w φ hf j)
  (hro:RO S K w (fun j=>Kn j\/j=i) (ext φ i l) l o)
  (hp:∀sz sl k x,o=.nst sz sl->oW w l sl k x->x≠l.bA/\(∀j b,hf j=some b->cq b=true->x∉fX w φ hf j)/\∀k',oW w l sl k' x->k'=k:=by intro _ _ _ _ e;cases e):
  Inv S K w0 (fun j=>Kn j\/j=i) (ext φ i l) (bg [(i,some o)] hf) w:=by
 have hold:∀j b,bg [(i,some o)] hf j=some b->(j=i/\b=o/\ext φ i l j=l)\/(j≠i/\hf j=some b/\ext φ i l j=φ j):=by
  intro j b hj;rw[bC]at hj;by_cases e:i=j
  .rw [if_pos e]at hj;exact .inl ⟨e.symm,(aa hj).symm,by simp[ext,e]⟩
  .rw [if_neg e,dN]at hj;have e1:¬j=i:=fun q=>e q.symm;exact .inr ⟨e1,hj,by simp[ext,e1]⟩
 refine h.sI (fw.refl _ _) (fW _ hi) h.qZ h.sk h.lG ?_ ?_ ?_
 .intro id o' ho;rcases hold id o' ho with⟨rfl,rfl,e⟩|⟨_,ho,_⟩
  .exact .inr ⟨.inr rfl,by rw[e];exact hro⟩
  .exact .inl ⟨ho,fun hown=>⟨rfl,((h.gg id o' ho).2.bn hown).1⟩,h.BP ho fun _ _=>rfl⟩
 .intro a b oa ob ha hb hoa hob hne;rcases hold a oa ha with⟨h1,h2,e1⟩|⟨_,ha',e1⟩<;>rcases hold b ob hb with⟨h3,h4,e2⟩|⟨_,hb',e2⟩
  .exact absurd (h1.trans h3.symm) hne
  .rw [e1,e2];exact fun e=>hfree (h2▸hoa) b ob hb' hob (dj.2 (.inl e))
  .rw [e1,e2];exact fun e=>hfree (h4▸hob) a oa ha' hoa (dj.2 (.inl e.symm))
  .rw [e1,e2];exact h.ei a b oa ob ha' hb' hoa hob hne
 .intro a sz sl k x ha hpa;rcases hold a _ ha with⟨ea,eo,e1⟩|⟨hne,ha',e1⟩<;>rw[e1]at hpa
  .obtain ⟨p1,p2,p3⟩:=hp sz sl k x eo.symm hpa;refine⟨fun j b hj hown=>?_,fun j sz' sl' k' hj hpj=>?_⟩
   .rcases hold j b hj with⟨_,_,e2⟩|⟨_,hj',e2⟩<;>rw[e2]
    .exact fun e=>p1 e.symm
    .exact fun e=>p2 j b hj' hown (dj.2 (.inl e.symm))
   .rcases hold j _ hj with⟨ej,eo2,e2⟩|⟨_,hj',e2⟩<;>rw[e2]at hpj
    .rw [<-eo]at eo2;cases eo2;exact⟨ej.trans ea.symm,p3 k' hpj⟩
    .exact absurd (dj.2 (.inr ⟨sz',sl',k',hj',hpj⟩)) (p2 j _ hj' rfl)
  .obtain ⟨p1,p2⟩:=h.sq a sz sl k x ha' hpa;refine⟨fun j b hj hown=>?_,fun j sz' sl' k' hj hpj=>?_⟩
   .rcases hold j b hj with⟨_,eo,e2⟩|⟨_,hj',e2⟩<;>rw[e2]
    .exact fun e=>hfree (eo▸hown) a _ ha' rfl (dj.2 (.inr ⟨sz,sl,k,ha',e▸hpa⟩))
    .exact p1 j b hj' hown
   .rcases hold j _ hj with⟨_,eo,e2⟩|⟨_,hj',e2⟩<;>rw[e2]at hpj
    .exact absurd (dj.2 (.inr ⟨sz,sl,k,ha',hpa⟩)) ((hp sz' sl' k' x eo.symm hpj).2.1 a _ ha' rfl)
    .exact p2 j sz' sl' k' hj' hpj
theorem Inv.kn{Kn':Nat->Prop}(h:Inv S K w0 Kn φ hf w)(hs:∀i,Kn i->Kn' i):Inv S K w0 Kn' φ hf w:=h.iD (fw.refl _ _) ⟨hs,fun _ _=>rfl⟩ h.qZ h.sk h.lG (fun id o ho=>.inl ⟨ho,fun hown=>⟨rfl,((h.gg id o ho).2.bn hown).1⟩⟩) h.ei (h.yq fun _ _=>rfl)
structure qd(S K:Nat->Prop)(w0 w:World)(Kn:Nat->Prop)(φ:Nat->fE)(hf:Nat->Option Ob)(fp:List Nat)(nxt m:Nat)(u:eG)(φ':Nat->fE):Prop where
 le:nxt<=m
 qB:Ren Kn φ (mE Kn nxt m) φ'
 inv:Inv S K w0 (mE Kn nxt m) φ' (bg u hf) w
 fG:∀p∈u,nxt<=p.1/\p.1<m
 bA:∀p∈u,∀x∈fX w φ' (bg u hf) p.1,x∈fp
theorem ol(a b:Nat):Ren Kn φ (mE Kn a b) φ:=⟨fun _ h=>.inl h,fun _ _=>rfl⟩
theorem qd.nil(h:Inv S K w0 Kn φ hf w)(fp:List Nat)(n:Nat):qd S K w0 w Kn φ hf fp n n [] φ:=⟨ao _,ol _ _,h.kn fun _ hi=>.inl hi,fun p hp=>by simp at hp,fun p hp=>by simp at hp⟩
theorem qd.skip(h:Inv S K w0 Kn φ hf w)(fp:List Nat)(n:Nat):qd S K w0 w Kn φ hf fp n (n+1) [] φ:=⟨bk _,ol _ _,h.kn fun _ hi=>.inl hi,fun p hp=>by simp at hp,fun p hp=>by simp at hp⟩
theorem jP{α:Type}{u:List (Nat×α)}{id:Nat}(h:∀p∈u,p.1≠id):bX u id=none:=by
 induction u with
 |nil=>rfl
 |cons p r ih=>
  obtain⟨i,x⟩:=p;have e:(i==id)=false:=by simpa using h (i,x) (by simp)
  simp only[bX,e,cond_false];exact ih fun q hq=>h q (by simp[hq])
def gq(w:World)(φ:Nat->fE)(hf:Nat->Option Ob)(fp:List Nat):Prop:=∀j b,hf j=some b->cq b=true->∀x∈fX w φ hf j,x∉fp
theorem pY{a b c:Nat}(h1:a<=b)(h2:b<=c)(j:Nat):mE (mE Kn a b) b c j<->mE Kn a c j:=by
 unfold mE;constructor
 .rintro ((h|h)|h)
  .exact .inl h
  .exact .inr (by omega)
  .exact .inr (by omega)
 .rintro (h|h)
  .exact .inl (.inl h)
  .by_cases e:j<b
   .exact .inl (.inr (by omega))
   .exact .inr (by omega)
theorem Inv.rC{Kn':Nat->Prop}(h:Inv S K w0 Kn φ hf w)(hs:∀i,Kn i<->Kn' i):Inv S K w0 Kn' φ hf w:=h.kn fun i hi=>(hs i).1 hi
theorem RC.kn{Kn':Nat->Prop}{c:C}{v:Value}(h:RC S w Kn φ c v)(hs:∀i,Kn i->Kn' i):RC S w Kn' φ c v:=h.mono (fw.refl _ _) ⟨hs,fun _ _=>rfl⟩
theorem ff{φ':Nat->fE}{hf':Nat->Option Ob}{i:Nat}(h1:φ i=φ' i)(h2:hf i=hf' i):fX w φ hf i=fX w φ' hf' i:=by unfold fX;rw[h1,h2]
theorem qd.nW{fa fb:List Nat}{n m k:Nat}{u v:eG}{φ1 φ2:Nat->fE}(a:qd S K w0 w Kn φ hf fa n m u φ1)(b:qd S K w0 w (mE Kn n m) φ1 (bg u hf) fb m k v φ2):
  qd S K w0 w Kn φ hf (fa++fb) n k (v++u) φ2 where
 le:=dD a.le b.le
 qB:=⟨fun i h=>.inl h,fun i h=>(b.qB.dw i (.inl h)).trans (a.qB.dw i h)⟩
 inv:=by rw[dO];exact b.inv.rC fun i=>pY a.le b.le i
 fG p hp:=by
  have:=a.le;have:=b.le;rcases ak.1 hp with h|h
  .have:=b.fG p h;omega
  .have:=a.fG p h;omega
 bA p hp:=by
  intro x hx;rcases ak.1 hp with h|h
  .rw [dO]at hx;exact List.mem_append_right _ (b.bA p h x hx)
  .have hn:bX v p.1=none:=jP fun q hq e=>by have:=a.fG p h;have:=b.fG q hq;omega
   have e:bg (v++u) hf p.1=bg u hf p.1:=by simp only[bg,fP,hn]
   have e2:=ff (w:=w) (b.qB.dw p.1 (.inr (a.fG p h))) e;rw[e2]at hx;exact List.mem_append_left _ (a.bA p h x hx)
theorem kQ{u v:eG}(h:∀p∈u,∀q∈v,p.1≠q.1):bg (u++v) hf=bg (v++u) hf:=by
 funext id;simp only[bg,fP];cases hu:bX u id with
 |none=>cases bX v id<;>simp
 |some x=>
  have:bX v id=none:=by
   refine jP fun q hq e=>?_
   have hm:∃p∈u,p.1=id:=by
    clear h;induction u with
    |nil=>simp[bX]at hu
    |cons p r ih=>
     obtain⟨i,y⟩:=p;by_cases e':i=id
     .exact ⟨(i,y),by simp,e'⟩
     .have e2:(i==id)=false:=by simpa using e'
      simp only[bX,e2,cond_false]at hu;obtain⟨p,hp,hpe⟩:=ih hu;exact⟨p,by simp[hp],hpe⟩
   obtain⟨p,hp,hpe⟩:=hm;exact h p hp q hq (hpe.trans e.symm)
  simp[this]
theorem oG(nxt:Nat)(ts:List T):jA nxt (.pt ts)=(.op nxt 0,(nxt,some (.box (gC (nxt+1) ts).1))::(gC (nxt+1) ts).2.1,(gC (nxt+1) ts).2.2):=rfl
theorem o3(nxt:Nat)(t:T)(ts:List T):gC nxt (t::ts)=((jA nxt t).1::(gC (jA nxt t).2.2 ts).1,(jA nxt t).2.1++(gC (jA nxt t).2.2 ts).2.1,(gC (jA nxt t).2.2 ts).2.2):=rfl
theorem B3{x:Nat}:∀{fps:List (List Nat)}{k k':Nat},fps.flatten.Nodup->fps[k]?=some [x]->fps[k']?=some [x]->k=k':=by
 intro fps;induction fps with
 |nil=>intro k k' _ h;simp at h
 |cons fp fps ih=>
  intro k k' hn h1 h2;rw[dK,bR]at hn;have hm:∀k,fps[k]?=some [x]->x∈fps.flatten:=fun k h=>df.2 ⟨[x],aQ h,by simp⟩;cases k with
  |zero=>
   obtain rfl:fp=[x]:=by simpa using h1
   cases k' with|zero=>rfl|succ k'=>exact absurd rfl (hn.2.2 x (by simp) x (hm k' (by simpa using h2)))
  |succ k=>
   cases k' with
   |zero=>
    obtain rfl:fp=[x]:=by simpa using h2
    exact absurd rfl (hn.2.2 x (by simp) x (hm k (by simpa using h1)))
   |succ k'=>exact congrArg Nat.succ (ih hn.2.1 (by simpa using h1) (by simpa using h2))
mutual
theorem HI(t:T):∀nxt,nxt<=(jA nxt t).2.2:=by intro nxt;cases t with|d x=>exact bk _|rD=>exact bk _|sl sz aj=>exact bk _|xC sz aj=>exact bk _|pt ts=>rw[oG];exact Nat.le_of_succ_le (tN ts (nxt+1))
theorem tN(ts:List T):∀nxt,nxt<=(gC nxt ts).2.2:=by intro nxt;cases ts with|nil=>exact ao _|cons t ts=>rw[o3];exact dD (HI t nxt) (tN ts _)
end
mutual
theorem tO(t:T):∀{Kn:Nat->Prop}{φ:Nat->fE}{hf:Nat->Option Ob}(nxt:Nat)(v:Value)(fp:List Nat),Inv S K w0 Kn φ hf w->(∀j,nxt<=j->j<(jA nxt t).2.2->¬Kn j)->
  RT S w t v fp->fp.Nodup->(∀b∈fp,¬S b/\¬K b)->gq w φ hf fp->
  ∃φ',qd S K w0 w Kn φ hf fp nxt (jA nxt t).2.2 (jA nxt t).2.1 φ'/\RC S w (mE Kn nxt (jA nxt t).2.2) φ' (jA nxt t).1 v:=by
 intro Kn φ hf nxt v fp hI hfr hr hnd hSK haw;cases t with
 |rD=>cases hr
 |d x=>cases hr with|d hd=>exact⟨φ,qd.skip hI _ _,.d hd⟩
 |sl sz aj=>
  cases hr with
  |@sl _ _ b off len cap aJ hsz ho hlen hcap hext hrr=>
   have hnx:¬Kn nxt:=hfr nxt (ao _) (aT _);refine⟨ext φ nxt ⟨b,off,sz,aJ.size,cap⟩,?_,?_⟩
   .have hin:=hI.name (hnx) ⟨b,off,sz,aJ.size,cap⟩ (.aJ sz aj) (fun _ j o hj hown hm=>haw j o hj hown _ hm (by simp))
     (.aJ hsz rfl (hSK b (by simp)).1 (hSK b (by simp)).2 ho rfl (by have:aj.length*sz<=cap*sz:=aH _ (by omega);simp only;omega) hrr (by simp only;omega))
    refine⟨bk _,⟨fun i h=>.inl h,(fW _ (hnx)).dw⟩,hin.rC fun i=>?_,fun p hp=>?_,fun p hp=>?_⟩
    .simp only[mE,jA];constructor
     .rintro (h|rfl)
      .exact .inl h
      .exact .inr (by omega)
     .rintro (h|h)
      .exact .inl h
      .exact .inr (by omega)
    .obtain rfl:p=_:=by simpa[jA]using hp
     simp[jA]
    .obtain rfl:p=_:=by simpa[jA]using hp
     rw[nU fun _ _ e=>by simp[jA,bg,bX]at e];simp[ext]
   .have e:(ext φ nxt ⟨b,off,sz,aJ.size,cap⟩) nxt=⟨b,off,sz,aJ.size,cap⟩:=by simp[ext]
    have:=RC.dz (S:=S) (w:=w) (Kn:=mE Kn nxt (nxt+1)) (φ:=ext φ nxt ⟨b,off,sz,aJ.size,cap⟩) (id:=nxt) (off:=0) (len:=aj.length) (cap:=cap) (addr:=off) (.inr (by omega)) (by omega) (by rw[e];simp) (by rw[e];simpa using hext) (by rw[e];simp);rw[e]at this;simpa[jA,hlen]using this
 |xC sz aj=>
  cases hr with
  |@xC _ _ b off cap aJ fps hsz ho hcap hext hfl hrr=>
   have hnx:¬Kn nxt:=hfr nxt (ao _) (aT _);rw[e_]at hnd;have hget:∀i,w.cell? ⟨b,i,none⟩=aJ[i]?:=ho.cell;have hpat:∀k x,oW w ⟨b,off,1,aJ.size,cap⟩ (aj.map lf) k x->∃fp,fps[k]?=some fp/\fp=[x]:=by rintro k x ⟨rs,v,h1,h2,h3⟩;rw[aD]at h1;obtain⟨r,hr1,hr2⟩:=aB.1 h1;have hlt:=(ai.1 hr1).1;have hf:fps[k]?=some fps[k]:=au (by omega);obtain⟨v',q1,q2⟩:=hrr k r fps[k] hr1 hf;simp only[hget,q1,bl]at h2;subst h2;cases r with|none=>cases hr2|some rows'=>obtain⟨b',q3,q4⟩:=q2;rw[q4.bA]at h3;obtain rfl:=aa h3;exact⟨_,hf,q3⟩
   have hmem:∀k x,oW w ⟨b,off,1,aJ.size,cap⟩ (aj.map lf) k x->x∈fps.flatten:=fun k x hp=>by obtain⟨fp,h1,rfl⟩:=hpat k x hp;exact df.2 ⟨[x],aQ h1,by simp⟩
   have hin:=hI.name (hnx) ⟨b,off,1,aJ.size,cap⟩ (.nst sz (aj.map lf)) (fun _ j o hj hown hm=>haw j o hj hown _ hm (by simp))
    (.nst hsz rfl (hSK b (by simp)).1 (hSK b (by simp)).2 ho rfl (by simp only[aI];omega) (fun i s hi=>by
     rw[aD]at hi;obtain⟨r,hr1,rfl⟩:=aB.1 hi;have hlt:=(ai.1 hr1).1;have hf:fps[i]?=some fps[i]:=au (by omega);obtain⟨v,q1,q2⟩:=hrr i r fps[i] hr1 hf;refine⟨v,q1,?_⟩;cases r with
     |none=>obtain⟨rfl,_⟩:=q2;exact .nil
     |some rows'=>obtain⟨b',q3,q4⟩:=q2;have hm:b'∈fps.flatten:=df.2 ⟨fps[i],List.getElem_mem _,by rw[q3];simp⟩;exact .bn q4 (hSK b' (aA _ hm)).1 (hSK b' (aA _ hm)).2) (by simp only[aI];omega))
    (fun sz' sl' k x eo hp=>by cases eo;have hm:=hmem k x hp;refine⟨fun e=>hnd.1 (by have e:x=b:=e;rw[<-e];exact hm),fun j b' hj hown hx=>haw j b' hj hown x hx (aA _ hm),fun k' hp'=>?_⟩;obtain⟨fp,h1,rfl⟩:=hpat k x hp;obtain⟨fp',h2,rfl⟩:=hpat k' x hp';exact B3 hnd.2 h2 h1)
   refine⟨ext φ nxt ⟨b,off,1,aJ.size,cap⟩,?_,?_⟩
   .refine ⟨bk _,⟨fun i h=>.inl h,(fW _ (hnx)).dw⟩,hin.rC fun i=>?_,fun p hp=>?_,fun p hp x hx=>?_⟩
    .simp only[mE,jA];constructor
     .rintro (h|rfl)
      .exact .inl h
      .exact .inr (by omega)
     .rintro (h|h)
      .exact .inl h
      .exact .inr (by omega)
    .obtain rfl:p=_:=by simpa[jA]using hp
     simp[jA]
    .obtain rfl:p=_:=by simpa[jA]using hp
     have e:bg (jA nxt (T.xC sz aj)).2.1 hf nxt=some (.nst sz (aj.map lf)):=by simp[jA,bg,bX]
     rcases dj.1 hx with rfl|⟨sz',sl',k,h1,h2⟩
     .simp [ext]
     .rw [e]at h1;cases h1;simp only[ext,if_true]at h2;exact aA _ (hmem k x h2)
   .have e:(ext φ nxt ⟨b,off,1,aJ.size,cap⟩) nxt=⟨b,off,1,aJ.size,cap⟩:=by simp[ext]
    have:=RC.dz (S:=S) (w:=w) (Kn:=mE Kn nxt (nxt+1)) (φ:=ext φ nxt ⟨b,off,1,aJ.size,cap⟩) (id:=nxt) (off:=0) (len:=aj.length) (cap:=cap) (addr:=off) (.inr (by omega)) (by omega) (by rw[e];simp) (by rw[e];simpa using hext) (by rw[e];simp);rw[e]at this;simpa[jA]using this
 |pt ts=>
  cases hr with
  |@pt _ b aJ fps ho hlen hfl h=>
   rw[e_]at hnd;have hnx:¬Kn nxt:=hfr nxt (ao _) (by rw[oG];exact tN ts (nxt+1))
   obtain⟨φ1,hL,hrc⟩:=qW ts (Kn:=Kn) (φ:=φ) (hf:=hf) (nxt+1) (fun i=>aJ.getD i undef) fps hI (fun j hj hj2=>hfr j (by omega) (by rw[oG];exact hj2)) hfl h hnd.2
    (fun b' hb'=>hSK b' (by simp[hb'])) (fun j o hj hown x hx hm=>haw j o hj hown x hx (aA _ hm))
   have hm:=hL.le
   have hnk:¬mE Kn (nxt+1) (gC (nxt+1) ts).2.2 nxt:=by
    rintro(h|h)
    .exact hnx h
    .omega
   refine⟨ext φ1 nxt ⟨b,0,1,aJ.size,0⟩,?_,?_⟩
   .have hin:=hL.inv.name hnk ⟨b,0,1,aJ.size,0⟩ (.box (gC (nxt+1) ts).1) (fun _ j o hj hown hm=>by
      by_cases hu:∃p∈(gC (nxt+1) ts).2.1,p.1=j
      .obtain ⟨p,hp,rfl⟩:=hu;exact hnd.1 (hL.bA p hp _ hm)
      .have hfn:bX (gC (nxt+1) ts).2.1 j=none:=jP fun p hp e=>hu ⟨p,hp,e⟩;have hj':=hj;simp only[bg,hfn]at hj';have hk:=(hI.gg j o hj').1;rw[ff (hL.qB.dw j hk) (hj.trans hj'.symm)]at hm;exact haw j o hj' hown _ hm (by simp))
     (.box rfl (hSK b (by simp)).1 (hSK b (by simp)).2 ho (hrc.1.trans hlen) fun i c hi=>(hrc.2 i c hi).mono (fw.refl _ _) (fW _ hnk))
    refine⟨?_,⟨fun i h=>.inl h,fun i hi=>?_⟩,?_,fun p hp=>?_,fun p hp=>?_⟩
    .simp only[oG];exact Nat.le_of_succ_le hm
    .have:i≠nxt:=fun e=>hnx (e▸hi);simp only[ext,this,if_false];exact hL.qB.dw i hi
    .have e:bg (jA nxt (.pt ts)).2.1 hf=bg [(nxt,some (.box (gC (nxt+1) ts).1))] (bg (gC (nxt+1) ts).2.1 hf):=by rw[<-dO];rfl
     rw[e];refine hin.rC fun i=>?_;simp only[mE,oG];constructor
     .rintro ((h|h)|rfl)
      .exact .inl h
      .exact .inr (by omega)
      .exact .inr (by omega)
     .rintro (h|h)
      .exact .inl (.inl h)
      .by_cases e:i=nxt
       .exact .inr e
       .exact .inl (.inr (by omega))
    .simp only[oG]at hp|-;rcases aF.1 hp with rfl|hp
     .simp only;omega
     .have:=hL.fG p hp;omega
    .simp only[oG]at hp;rcases aF.1 hp with rfl|hp
     .rw [nU fun _ _ e=>by simp[oG,bg,bX]at e];simp[ext]
     .have hne:¬p.1=nxt:=by have:=hL.fG p hp;omega
      have hne':(nxt==p.1)=false:=by simpa using fun e=>hne e.symm
      intro x hx;rw[ff (φ':=φ1) (hf':=bg (gC (nxt+1) ts).2.1 hf) (by simp only[ext,hne,if_false]) (by simp only[oG,bg,bX,hne',cond_false])]at hx;exact aA _ (hL.bA p hp x hx)
   .have:=RC.op (S:=S) (w:=w) (Kn:=mE Kn nxt (gC (nxt+1) ts).2.2) (φ:=ext φ1 nxt ⟨b,0,1,aJ.size,0⟩) (id:=nxt) (off:=0) (.inr (by omega));simpa[oG,ext]using this
theorem qW(ts:List T):∀{Kn:Nat->Prop}{φ:Nat->fE}{hf:Nat->Option Ob}(nxt:Nat)(get:Nat->Value)(fps:List (List Nat)),Inv S K w0 Kn φ hf w->(∀j,nxt<=j->j<(gC nxt ts).2.2->¬Kn j)->
  fps.length=ts.length->(∀(i:Nat)(t:T)(fp:List Nat),ts[i]?=some t->fps[i]?=some fp->RT S w t (get i) fp)->fps.flatten.Nodup->(∀b∈fps.flatten,¬S b/\¬K b)->gq w φ hf fps.flatten->
  ∃φ',qd S K w0 w Kn φ hf fps.flatten nxt (gC nxt ts).2.2 (gC nxt ts).2.1 φ'/\(gC nxt ts).1.length=ts.length/\
   ∀(i:Nat)(c:C),(gC nxt ts).1[i]?=some c->RC S w (mE Kn nxt (gC nxt ts).2.2) φ' c (get i):=by
 intro Kn φ hf nxt get fps hI hfr hfl hr hnd hSK haw;cases ts with
 |nil=>exact⟨φ,qd.nil hI _ _,rfl,fun i c hi=>by simp[gC]at hi⟩
 |cons t ts=>
  cases fps with
  |nil=>simp at hfl
  |cons fp fps=>
   rw[dK,bR]at hnd;obtain⟨hn1,hn2,hn3⟩:=hnd;simp only[dK,ak]at hSK
   obtain⟨φ1,hL1,hc1⟩:=tO t (Kn:=Kn) (φ:=φ) (hf:=hf) nxt (get 0) fp hI (fun j hj hj2=>hfr j hj (by rw[o3];exact ci hj2 (tN ts _))) (hr 0 t fp rfl rfl) hn1 (fun b hb=>hSK b (.inl hb))
    (fun j o hj hown x hx hm=>haw j o hj hown x hx (by simp[hm]))
   obtain⟨φ2,hL2,hlen,hc2⟩:=qW ts (Kn:=mE Kn nxt (jA nxt t).2.2) (φ:=φ1) (hf:=bg (jA nxt t).2.1 hf) (jA nxt t).2.2 (fun i=>get (i+1)) fps hL1.inv
    (fun j hj hj2 hk=>by
     rcases hk with hk|hk
     .have:=hL1.le;exact hfr j (by omega) (by rw[o3];exact hj2) hk
     .omega) (by simpa using hfl) (fun i t fp hi hfp=>hr (i+1) t fp (by simpa using hi) (by simpa using hfp)) hn2 (fun b hb=>hSK b (.inr hb))
    (fun j o hj hown x hx hm=>by
     by_cases hu:∃p∈(jA nxt t).2.1,p.1=j
     .obtain ⟨p,hp,rfl⟩:=hu;exact hn3 _ (hL1.bA p hp x hx) _ hm rfl
     .have hfn:bX (jA nxt t).2.1 j=none:=jP fun p hp e=>hu ⟨p,hp,e⟩;have hj':=hj;simp only[bg,hfn]at hj';have hk:=(hI.gg j o hj').1;rw[ff (hL1.qB.dw j hk) (hj.trans hj'.symm)]at hx;exact haw j o hj' hown x hx (by simp[hm]))
   have hcomp:=hL1.nW hL2;have hcm:bg ((gC (jA nxt t).2.2 ts).2.1++(jA nxt t).2.1) hf=bg ((jA nxt t).2.1++(gC (jA nxt t).2.2 ts).2.1) hf:=kQ fun p hp q hq e=>by have h1:=hL2.fG p hp;have h2:=hL1.fG q hq;omega
   refine⟨φ2,?_,by simp[o3,hlen],fun i c hi=>?_⟩
   .simp only[o3,dK];have hsw:∀{p:Nat×Option Ob}{a b:eG},p∈a++b->p∈b++a:=fun hp=>ak.2 (ak.1 hp).symm;exact⟨hcomp.le,hcomp.qB,hcm▸hcomp.inv,fun p hp=>hcomp.fG p (hsw hp),fun p hp x hx=>hcomp.bA p (hsw hp) x (hcm.symm▸hx)⟩
   .have hsub:∀i,mE (mE Kn nxt (jA nxt t).2.2) (jA nxt t).2.2 (gC (jA nxt t).2.2 ts).2.2 i->mE Kn nxt (gC (jA nxt t).2.2 ts).2.2 i:=fun i=>(pY hL1.le hL2.le i).1;cases i with
    |zero=>
     obtain rfl:(jA nxt t).1=c:=by simpa[gC]using hi
     exact(hc1.mono (fw.refl _ _) hL2.qB).kn hsub
    |succ i=>exact(hc2 i c (by simpa[o3]using hi)).kn hsub
end
theorem q_{α:Type}{l:List α}{k i:Nat}{x y:α}(h:(l.set k x)[i]?=some y):(k=i/\y=x/\i<l.length)\/(k≠i/\l[i]?=some y):=by
 rw[List.getElem?_set]at h;split at h
 .rename_i e;split at h
  .rename_i hlt;exact .inl ⟨e,(aa h).symm,e▸hlt⟩
  .simp at h
 .rename_i e;exact .inr ⟨e,h⟩
theorem Inv.Qj(h:Inv S K w0 Kn φ hf w){id:Nat}{o o':Ob}(ho:hf id=some o)(hown:cq o=true)(hno:FD o')(hro:RO S K w Kn φ (φ id) o'):Inv S K w0 Kn φ (bg [(id,some o')] hf) w:=by
 have hold:∀j b,bg [(id,some o')] hf j=some b->(j=id/\b=o')\/(j≠id/\hf j=some b):=by
  intro j b hj;rw[bC]at hj;by_cases e:id=j
  .rw [if_pos e]at hj;exact .inl ⟨e.symm,(aa hj).symm⟩
  .rw [if_neg e,dN]at hj;exact .inr ⟨fun q=>e q.symm,hj⟩
 have was:∀j b,bg [(id,some o')] hf j=some b->cq b=true->∃b',hf j=some b'/\cq b'=true:=by
  intro j b hj hb;rcases hold j b hj with⟨rfl,rfl⟩|⟨_,hj'⟩
  .exact ⟨o,ho,hown⟩
  .exact ⟨b,hj',hb⟩
 refine h.sI (fw.refl _ _) (Ren.refl _ _) h.qZ h.sk h.lG ?_ ?_ ?_
 .intro i x hx;rcases hold i x hx with⟨rfl,rfl⟩|⟨_,hx'⟩
  .exact .inr ⟨(h.gg i o ho).1,hro⟩
  .exact .inl ⟨hx',fun hown=>⟨rfl,((h.gg i x hx').2.bn hown).1⟩,h.BP hx' fun _ _=>rfl⟩
 .intro i j a b ha hb hoa hob hne;obtain⟨a',h1,h2⟩:=was i a ha hoa;obtain⟨b',h3,h4⟩:=was j b hb hob;exact h.ei i j a' b' h1 h3 h2 h4 hne
 .intro i sz sl k x hi hp;rcases hold i _ hi with⟨rfl,e⟩|⟨_,hi'⟩
  .obtain ⟨aj,v,h1,_⟩:=hp;exact absurd h1 (hno sz sl k aj e.symm)
  .obtain ⟨p1,p2⟩:=h.sq i sz sl k x hi' hp;refine⟨fun j b hj hb=>?_,fun j sz' sl' k' hj hpj=>?_⟩
   .obtain ⟨b',h1,h2⟩:=was j b hj hb;exact p1 j b' h1 h2
   .rcases hold j _ hj with⟨rfl,e⟩|⟨_,hj'⟩
    .obtain ⟨aj,v,h1,_⟩:=hpj;exact absurd h1 (hno sz' sl' k' aj e.symm)
    .exact p2 j sz' sl' k' hj' hpj
theorem Inv.split(h:Inv S K w0 Kn φ hf w){id nxt sz cC:Nat}{slots:List jf}{aj:List (List D)}(ho:hf id=some (.nst sz slots))(hs:slots[cC]?=some (.bn aj))(hn:¬Kn nxt):
  ∃l v,w.cell? ⟨(φ id).bA,(φ id).aL+cC,none⟩=some v/\RC S w (fun j=>Kn j\/j=nxt) (ext φ nxt l) (.dz sz nxt 0 aj.length) v/\
   Inv S K w0 (fun j=>Kn j\/j=nxt) (ext φ nxt l) (bg [(nxt,some (.aJ sz aj)),(id,some (.nst sz (slots.set cC (.jZ nxt aj.length))))] hf) w:=by
 obtain⟨hk,hro⟩:=h.gg id _ ho;have hne:id≠nxt:=fun e=>hn (e▸hk);cases hro with
 |@nst _ _ aJ hsz hl hS hK hown hext hfit hr hv=>
  obtain⟨v,h1,h2⟩:=hr cC _ hs;cases h2 with
  |@bn _ _ b hrw hbS hbK=>
   obtain⟨addr,cap,ba,rfl,_,hbo,hcap,hfx,hrr⟩:=hrw;have hcell:w.cell? ⟨(φ id).bA,(φ id).aL+cC,none⟩=some (.slice (some ⟨b,addr,none⟩) aj.length cap):=(hown.cell _).trans h1;have hpat:oW w (φ id) slots cC b:=⟨aj,_,hs,hcell,rfl⟩
   obtain⟨p1,p2⟩:=h.sq id sz slots cC b ho hpat;have he:ext φ nxt ⟨b,addr,sz,ba.size,cap⟩ nxt=⟨b,addr,sz,ba.size,cap⟩:=by simp[ext]
   have heo:∀j,j≠nxt->ext φ nxt ⟨b,addr,sz,ba.size,cap⟩ j=φ j:=fun j hj=>by simp[ext,hj]
   have hren:=fW (φ:=φ) (⟨b,addr,sz,ba.size,cap⟩:fE) hn;have hrc:RC S w (fun j=>Kn j\/j=nxt) (ext φ nxt ⟨b,addr,sz,ba.size,cap⟩) (.dz sz nxt 0 aj.length) (.slice (some ⟨b,addr,none⟩) aj.length cap):=by have:=RC.dz (S:=S) (w:=w) (Kn:=fun j=>Kn j\/j=nxt) (φ:=ext φ nxt ⟨b,addr,sz,ba.size,cap⟩) (id:=nxt) (off:=0) (len:=aj.length) (cap:=cap) (addr:=addr) (.inr rfl) (by omega) (by rw[he];simp) (by rw[he];simpa using hfx) (by rw[he];simp);rw[he]at this;exact this
   refine⟨⟨b,addr,sz,ba.size,cap⟩,_,hcell,hrc,?_⟩
   have hold:∀j c,bg [(nxt,some (.aJ sz aj)),(id,some (.nst sz (slots.set cC (.jZ nxt aj.length))))] hf j=some c->(j=nxt/\c=.aJ sz aj)\/(j=id/\c=.nst sz (slots.set cC (.jZ nxt aj.length)))\/(j≠nxt/\j≠id/\hf j=some c):=by
    intro j c hj;rw[bC]at hj;by_cases e:nxt=j
    .rw [if_pos e]at hj;exact .inl ⟨e.symm,(aa hj).symm⟩
    .rw [if_neg e,bC]at hj;by_cases e2:id=j
     .rw [if_pos e2]at hj;exact .inr (.inl ⟨e2.symm,(aa hj).symm⟩)
     .rw [if_neg e2,dN]at hj;exact .inr (.inr ⟨fun q=>e q.symm,fun q=>e2 q.symm,hj⟩)
   have hpat2:∀j sz' sl' k x,bg [(nxt,some (.aJ sz aj)),(id,some (.nst sz (slots.set cC (.jZ nxt aj.length))))] hf j=some (.nst sz' sl')->oW w (ext φ nxt ⟨b,addr,sz,ba.size,cap⟩ j) sl' k x->∃q9,hf j=some (.nst sz' q9)/\oW w (φ j) q9 k x/\x≠b:=by
    intro j sz' sl' k x hj hp;rcases hold j _ hj with⟨_,e⟩|⟨rfl,e⟩|⟨e1,e2,hj'⟩
    .cases e
    .cases e;rw[heo _ hne]at hp;obtain⟨rows',v',q1,q2,q3⟩:=hp;rcases q_ q1 with⟨_,e,_⟩|⟨hk',q1'⟩
     .cases e
     .have hp':oW w (φ j) slots k x:=⟨rows',v',q1',q2,q3⟩
      exact⟨slots,ho,hp',fun e=>hk' (by rw[((p2 j sz slots k ho (e▸hp')).2)])⟩
    .rw [heo _ e1]at hp;exact⟨sl',hj',hp,fun e=>e2 ((p2 j sz' sl' k hj' (e▸hp)).1)⟩
   refine h.sI (fw.refl _ _) hren h.qZ h.sk h.lG ?_ ?_ ?_
   .intro j c hj;rcases hold j c hj with⟨rfl,rfl⟩|⟨rfl,rfl⟩|⟨e1,_,hj'⟩
    .refine .inr ⟨.inr rfl,?_⟩;rw[he];exact .aJ (by assumption) rfl hbS hbK hbo rfl (by have:=aH sz hcap;simp only;omega) hrr hcap
    .refine .inr ⟨.inl hk,?_⟩;rw[heo _ hne];refine .nst hsz hl hS hK hown hext (by rw[eM];exact hfit) (fun i s hi=>?_) (by rw[eM];exact hv);rcases q_ hi with⟨rfl,rfl,_⟩|⟨_,hi'⟩
     .exact ⟨_,h1,.jZ hrc⟩
     .obtain ⟨v',q1,q2⟩:=hr i s hi';refine⟨v',q1,?_⟩;cases q2 with|nil=>exact .nil|bn h hS hK=>exact .bn h hS hK|jZ h=>exact .jZ (h.mono (fw.refl _ _) hren)
    .exact .inl ⟨hj',fun hown=>⟨rfl,((h.gg j c hj').2.bn hown).1⟩,h.BP hj' fun _ _=>rfl⟩
   .intro i j a c ha hc hoa hoc hij
    have key:∀j c,bg [(nxt,some (.aJ sz aj)),(id,some (.nst sz (slots.set cC (.jZ nxt aj.length))))] hf j=some c->cq c=true->j≠nxt->(∃c',hf j=some c'/\cq c'=true)/\ext φ nxt ⟨b,addr,sz,ba.size,cap⟩ j=φ j:=by
     intro j c hj hc hjn;rcases hold j c hj with⟨e,_⟩|⟨rfl,rfl⟩|⟨_,_,hj'⟩
     .exact absurd e hjn
     .exact ⟨⟨_,ho,rfl⟩,heo _ hjn⟩
     .exact ⟨⟨c,hj',hc⟩,heo _ hjn⟩
    by_cases hi:i=nxt
    .subst hi;obtain⟨⟨c',q1,q2⟩,q3⟩:=key j c hc hoc fun e=>hij e.symm;rw[he,q3];exact fun e=>p1 j c' q1 q2 e.symm
    .obtain ⟨⟨a',q1,q2⟩,q3⟩:=key i a ha hoa hi;by_cases hj:j=nxt
     .subst hj;rw[he,q3];exact p1 i a' q1 q2
     .obtain ⟨⟨c',q4,q5⟩,q6⟩:=key j c hc hoc hj;rw[q3,q6];exact h.ei i j a' c' q1 q4 q2 q5 hij
   .intro j sz' sl' k x hj hp;obtain⟨q9,q1,q2,q3⟩:=hpat2 j sz' sl' k x hj hp;obtain⟨r1,r2⟩:=h.sq j sz' q9 k x q1 q2;refine⟨fun i c hi hc=>?_,fun i sz2 sl2 k' hi hpi=>?_⟩
    .rcases hold i c hi with⟨rfl,rfl⟩|⟨rfl,rfl⟩|⟨e1,_,hi'⟩
     .rw [he];exact fun e=>q3 e.symm
     .rw [heo _ hne];exact r1 i _ ho rfl
     .rw [heo _ e1];exact r1 i c hi' hc
    .obtain ⟨sl3,q4,q5,_⟩:=hpat2 i sz2 sl2 k' x hi hpi;exact r2 i sz2 sl3 k' q4 q5
theorem Inv.KD(h:Inv S K w0 Kn φ hf w){id id2 sz sz2 cC:Nat}{slots:List jf}{aj:List (List D)}(ho:hf id=some (.nst sz slots))(hs:slots[cC]?=some (.jZ id2 aj.length))(h2:hf id2=some (.aJ sz2 aj)):
  Inv S K w0 Kn φ (bg [(id,some (.nst sz (slots.set cC (.bn aj)))),(id2,none)] hf) w:=by
 obtain⟨hk,hro⟩:=h.gg id _ ho;obtain⟨hk2,hro2⟩:=h.gg id2 _ h2;have hne:id2≠id:=fun e=>by rw[e,ho]at h2;cases h2
 have hold:∀j c,bg [(id,some (.nst sz (slots.set cC (.bn aj)))),(id2,none)] hf j=some c->(j=id/\c=.nst sz (slots.set cC (.bn aj)))\/(j≠id/\j≠id2/\hf j=some c):=by
  intro j c hj;rw[bC]at hj;by_cases e:id=j
  .rw [if_pos e]at hj;exact .inl ⟨e.symm,(aa hj).symm⟩
  .rw [if_neg e,bC]at hj;by_cases e2:id2=j
   .rw [if_pos e2]at hj;cases hj
   .rw [if_neg e2,dN]at hj;exact .inr ⟨fun q=>e q.symm,fun q=>e2 q.symm,hj⟩
 have was:∀j c,bg [(id,some (.nst sz (slots.set cC (.bn aj)))),(id2,none)] hf j=some c->cq c=true->j≠id2/\∃c',hf j=some c'/\cq c'=true:=by
  intro j c hj hc;rcases hold j c hj with⟨rfl,rfl⟩|⟨_,e,hj'⟩
  .exact ⟨hne.symm,_,ho,rfl⟩
  .exact ⟨e,c,hj',hc⟩
 cases hro with
 |@nst _ _ aJ hsz hl hS hK hown hext hfit hr hv=>
  obtain⟨v,h1,hsl⟩:=hr cC _ hs;have hcell:w.cell? ⟨(φ id).bA,(φ id).aL+cC,none⟩=some v:=(hown.cell _).trans h1
  obtain⟨hvb,hrw⟩:vh v=some (φ id2).bA/\FC S w sz aj v (φ id2).bA:=by
   cases hsl with
   |jZ hrc=>
    cases hro2 with
    |@aJ _ _ ba hsz2 hl2 hS2 hK2 hown2 hext2 hfit2 hr2 hv2=>cases hrc with|@dz _ _ _ cap addr hk' hcap haddr hx hcc=>refine⟨rfl,addr,cap,ba,rfl,by rw[hl2];exact hsz2,hown2,hcap,by omega,?_⟩;have:=hr2.u6 (addr:=addr) 0 aj.length (fun hlt=>by rw[haddr (by omega),hl2]);rw[hl2];simpa using this
  obtain⟨hS2,hK2,_⟩:=hro2.bn rfl
  have hpat2:∀j sz' sl' k x,bg [(id,some (.nst sz (slots.set cC (.bn aj)))),(id2,none)] hf j=some (.nst sz' sl')->oW w (φ j) sl' k x->(j=id/\k=cC/\x=(φ id2).bA)\/∃q9,hf j=some (.nst sz' q9)/\oW w (φ j) q9 k x:=by
   intro j sz' sl' k x hj hp;rcases hold j _ hj with⟨rfl,e⟩|⟨e1,e2,hj'⟩
   .cases e;obtain⟨rows',v',q1,q2,q3⟩:=hp;rcases q_ q1 with⟨rfl,_,_⟩|⟨hk',q1'⟩
    .refine .inl ⟨rfl,rfl,?_⟩;rw[hcell]at q2;obtain rfl:=aa q2;rw[hvb]at q3;exact(aa q3).symm
    .exact .inr ⟨slots,ho,rows',v',q1',q2,q3⟩
   .exact .inr ⟨sl',hj',hp⟩
  refine h.sI (fw.refl _ _) (Ren.refl _ _) h.qZ h.sk h.lG ?_ ?_ ?_
  .intro j c hj;rcases hold j c hj with⟨rfl,rfl⟩|⟨_,_,hj'⟩
   .refine .inr ⟨hk,.nst hsz hl hS hK hown hext (by rw[eM];exact hfit) (fun i s hi=>?_) (by rw[eM];exact hv)⟩;rcases q_ hi with⟨rfl,rfl,_⟩|⟨_,hi'⟩
    .exact ⟨v,h1,.bn hrw hS2 hK2⟩
    .exact hr i s hi'
   .exact .inl ⟨hj',fun hown=>⟨rfl,((h.gg j c hj').2.bn hown).1⟩,h.BP hj' fun _ _=>rfl⟩
  .intro i j a c ha hc hoa hoc hij;obtain⟨_,a',q1,q2⟩:=was i a ha hoa;obtain⟨_,c',q3,q4⟩:=was j c hc hoc;exact h.ei i j a' c' q1 q3 q2 q4 hij
  .intro j sz' sl' k x hj hp;refine⟨fun i c hi hc=>?_,fun i sz3 sl3 k' hi hpi=>?_⟩
   .obtain ⟨hi2,c',q1,q2⟩:=was i c hi hc;rcases hpat2 j sz' sl' k x hj hp with⟨_,_,rfl⟩|⟨q9,q3,q4⟩
    .exact h.ei i id2 c' _ q1 h2 q2 rfl hi2
    .exact (h.sq j sz' q9 k x q3 q4).1 i c' q1 q2
   .rcases hpat2 j sz' sl' k x hj hp with⟨e1,e2,e3⟩|⟨q9,q3,q4⟩<;>rcases hpat2 i sz3 sl3 k' x hi hpi with⟨e4,e5,e6⟩|⟨sl4,q5,q6⟩
    .exact ⟨e4.trans e1.symm,e5.trans e2.symm⟩
    .exact absurd e3.symm ((h.sq i sz3 sl4 k' x q5 q6).1 id2 _ h2 rfl)
    .exact absurd e6.symm ((h.sq j sz' q9 k x q3 q4).1 id2 _ h2 rfl)
    .exact (h.sq j sz' q9 k x q3 q4).2 i sz3 sl4 k' q5 q6
theorem Inv.QS{w':World}(h:Inv S K w0 Kn φ hf w){id sz cC:Nat}{slots:List jf}{s':jf}{v:Value}{aJ arr':Array Value}(ho:hf id=some (.nst sz slots))(hown:kP w (φ id).bA aJ)(hown':kP w' (φ id).bA arr')(hsize':arr'.size=aJ.size)
  (hother:∀b,b≠(φ id).bA->w'.heap[b]?=w.heap[b]?) (hsize:w'.heap.size=w.heap.size) (hfrz:∀a,w'.frozen? a=w.frozen? a) (hio:Io w w')
  (hget:∀i,i≠(φ id).aL+cC->arr'[i]?=aJ[i]?) (hv:cC<slots.length->arr'[(φ id).aL+cC]?=some v) (hslot:fw S w S w'->xy S K w' Kn φ sz s' v) (hs':∀aj,s'≠.bn aj):
  fw S w S w'/\Inv S K w0 Kn φ (bg [(id,some (.nst sz (slots.set cC s')))] hf) w':=by
 obtain⟨hk,h0⟩:=h.gg id _ ho;obtain⟨hS,hK,hlt⟩:=h0.bn rfl;have hs:fw S w S w':=⟨fun _ h=>h,fun b hb=>hother b (fun e=>hS (e▸hb))⟩
 have hold:∀j c,bg [(id,some (.nst sz (slots.set cC s')))] hf j=some c->(j=id/\c=.nst sz (slots.set cC s'))\/(j≠id/\hf j=some c):=by
  intro j c hj;rw[bC]at hj;by_cases e:id=j
  .rw [if_pos e]at hj;exact .inl ⟨e.symm,(aa hj).symm⟩
  .rw [if_neg e,dN]at hj;exact .inr ⟨fun q=>e q.symm,hj⟩
 have was:∀j c,bg [(id,some (.nst sz (slots.set cC s')))] hf j=some c->cq c=true->∃c',hf j=some c'/\cq c'=true:=by
  intro j c hj hc;rcases hold j c hj with⟨rfl,rfl⟩|⟨_,hj'⟩
  .exact ⟨_,ho,rfl⟩
  .exact ⟨c,hj',hc⟩
 have hpat2:∀j sz' sl' k x,bg [(id,some (.nst sz (slots.set cC s')))] hf j=some (.nst sz' sl')->oW w' (φ j) sl' k x->∃q9,hf j=some (.nst sz' q9)/\oW w (φ j) q9 k x:=by
  intro j sz' sl' k x hj hp;rcases hold j _ hj with⟨rfl,e⟩|⟨e1,hj'⟩
  .cases e;obtain⟨rows',v',q1,q2,q3⟩:=hp;rcases q_ q1 with⟨_,e,_⟩|⟨hk',q1'⟩
   .exact absurd e.symm (hs' rows')
   .refine ⟨slots,ho,rows',v',q1',?_,q3⟩;rw[hown.cell,<-hget _ (by omega),<-hown'.cell];exact q2
  .exact ⟨sl',hj',(oW.dw (hother _ (h.ei j id _ _ hj' ho rfl rfl e1))).1 hp⟩
 have hkeep:∀j sz' sl' k x,hf j=some (.nst sz' sl')->oW w (φ j) sl' k x->w'.heap[x]?=w.heap[x]?/\¬S x:=fun j sz' sl' k x hj hp=>⟨hother x fun e=>(h.sq j sz' sl' k x hj hp).1 id _ ho rfl e.symm,(h.Dr hj hp).1⟩;refine⟨hs,h.sI hs (Ren.refl _ _) (fun b hb=>hsize▸h.qZ b hb) h.sk ?_ ?_ ?_ ?_⟩
 .exact ⟨h.lG.DO,fun b hb=>(hother b (fun e=>hK (e▸hb))).trans (h.lG.lr b hb),hsize▸h.lG.grow,fun a ha=>(hfrz a).trans (h.lG.yL a ha),h.lG.wv hother (fun a ha=>⟨arr',hown',by obtain⟨t1,e1⟩:=ha;obtain⟨t2,e2⟩:=hown;rw[e1]at e2;rw[hsize'];cases e2;rfl⟩),h.lG.io.trans hio⟩
 .intro j c hj;rcases hold j c hj with⟨rfl,rfl⟩|⟨e1,hj'⟩
  .refine .inr ⟨hk,?_⟩;cases h0 with
   |@nst _ _ arr0 hsz hl hS hK hown0 hext hfit hr hv0=>
    have ea:arr0=aJ:=by obtain⟨t1,e1⟩:=hown0;obtain⟨t2,e2⟩:=hown;rw[e1]at e2;cases e2;rfl
    subst ea;refine .nst hsz hl hS hK hown' (hsize'.trans hext) (by rw[eM];exact hfit) (fun i s hi=>?_) (by rw[eM];exact hv0);rcases q_ hi with⟨rfl,rfl,hlt⟩|⟨hne,hi'⟩
    .exact ⟨v,hv hlt,hslot hs⟩
    .obtain ⟨v',q1,q2⟩:=hr i s hi';refine⟨v',(hget _ (by omega)).trans q1,?_⟩;cases q2 with|nil=>exact .nil|@bn aj _ b q3 q4 q5=>exact .bn (q3.mono hs (hkeep j sz slots i b ho ⟨aj,v',hi',(hown.cell _).trans q1,q3.bA⟩).1) q4 q5|jZ q3=>exact .jZ (q3.mono hs (Ren.refl _ _))
  .exact .inl ⟨hj',fun hox=>⟨hother _ (h.ei j id c _ hj' ho hox rfl e1),((h.gg j c hj').2.bn hox).1⟩,fun sz' sl' eo k x hp=>by subst eo;exact hkeep j sz' sl' k x hj' hp⟩
 .intro i j a c ha hc hoa hoc hij;obtain⟨a',q1,q2⟩:=was i a ha hoa;obtain⟨c',q3,q4⟩:=was j c hc hoc;exact h.ei i j a' c' q1 q3 q2 q4 hij
 .intro j sz' sl' k x hj hp;obtain⟨q9,q1,q2⟩:=hpat2 j sz' sl' k x hj hp;obtain⟨r1,r2⟩:=h.sq j sz' q9 k x q1 q2;refine⟨fun i c hi hc=>?_,fun i sz3 sl3 k' hi hpi=>?_⟩
  .obtain ⟨c',q3,q4⟩:=was i c hi hc;exact r1 i c' q3 q4
  .obtain ⟨sl4,q5,q6⟩:=hpat2 i sz3 sl3 k' x hi hpi;exact r2 i sz3 sl4 k' q5 q6
end
end Go.Ev
