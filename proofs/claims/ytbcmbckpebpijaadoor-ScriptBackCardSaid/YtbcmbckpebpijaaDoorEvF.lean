/- The abstract machine: deep data, cells, owned objects, operations and code, and their evaluation. Conditions: none, these are definitions. -/
import Derived.Orders
import Derived.Laws.CopyRow
open Array renaming getD->gX,getElem?_eq_none->dT,getElem?_eq_some_iff->aP
open BitVec renaming ofInt->cm
open Bool renaming false_eq_true->aM
open List renaming all_eq_true->aQ,append_nil->aW,flatMap_cons->bd,flatten_cons->da,getElem?_append_left->bn,getElem?_append_right->bo,getElem?_drop->bw,getElem?_eq_getElem->ai,getElem?_eq_some_iff->ah,getElem?_map->aB,getElem?_take->dh,getElem_of_mem->fx,length_map->aK,length_set->gi,length_take->dp,map->jf,mem_append->aj,mem_cons->aD,mem_cons_of_mem->av,mem_flatten->cY,mem_of_getElem?->aT,mem_singleton->am,nodup_append->cA,nodup_cons->fm,nodup_nil->fU,range->dz,replicate->aw
open Nat renaming add_assoc->cg,add_zero->cN,le_refl->ak,le_succ->bg,le_trans->dg,lt_of_lt_of_le->bQ,lt_succ_self->aS,mul_le_mul_right->aF,mul_one->iC,zero_add->bD,zero_mul->gq
open Option renaming bind_eq_some_iff->bE,map_eq_some_iff->aG
open Option.some renaming inj->aa,injEq->bH
open Prod.mk renaming inj->ad
namespace Go.Ev
inductive D where
 |lit (v:Value)
 |sl (sz:Nat) (rows:List (List D))
 |pt (cells:List D)
 |fn (f:FuncId) (caps:List D)
 deriving Inhabited
inductive C where
 |d (x:D)
 |dq (sz id off len:Nat)
 |ep (id dv off:Nat)
 |op (id off:Nat)
 |kR (f:FuncId) (caps:List C)
 |om (id:Nat)
 deriving Inhabited
inductive TV where
 |c (x:C)
 |agg (cells:List C)
 |eU (xs:List TV)
 deriving Inhabited
inductive iq where
 |nil
 |bf (rows:List (List D))
 |out (id len:Nat)
 deriving Inhabited
inductive Ob where
 |aH (sz:Nat) (rows:List (List D))
 |lB (sz:Nat) (rows:List (List D))
 |box (cells:List C)
 |kA (cells:List D)
 |map (ka va:Bool) (es:List (List Value×List D×Nat)) (bA:Nat)
 |cap (sz:Nat) (rows:List (List D)) (cp:Nat)
 |nst (sz:Nat) (slots:List iq)
 deriving Inhabited
inductive T where
 |d (x:D)
 |sl (sz:Nat) (rows:List (List D))
 |pt (cells:List T)
 |ui (sz:Nat) (rows:List (Option (List (List D))))
 |mp (ka va:Bool) (es:List (List Value×List D×Nat)) (bA:Nat)
 |qV
 deriving Inhabited
inductive A where
 |d (x:D)
 |agg (cells:List D)
 |mt (t:T)
 deriving Inhabited
inductive R where
 |c (t:T)
 |agg (cells:List T)
 deriving Inhabited
def ck:Value->Bool
 |.bool _|.int _ _|.float _ _|.string _|.pointer none|.slice none 0 0|.map none|.nilFunc|.nilIface=>true
 |_=>false
def yL:Nat:=2147483648
def bM{α:Type}:List (Nat×α)->Nat->Option α
 |[],_=>none
 |(a,x)::r,k=>bif a==k then some x else bM r k
abbrev gy:=List (Nat×TV)
abbrev bl:=List (Nat×Option Ob)
abbrev dD:=List (Nat×Option Ob)
def au(h:bl)(id:Nat):Option Ob:=(bM h id).join
inductive Kd where
 |b
 |i (k:IntKind)
 |s
 deriving Inhabited,DecidableEq
inductive K where
 |mv
 |pick
 |alloc (zero:List Value)
 |box
 |build (zero:List Value) (places:List (Nat×Nat))
 |buildSlice (sz len:Nat) (zero:List Value) (places:List Nat)
 |load (agg:Bool) (n:Nat)
 |store (n:Nat)
 |nilCheck
 |t8 (op:BinOp)
 |pO (neg:Bool)
 |mK (kind:Nat) (neg:Bool)
 |tP (neg:Bool) (ks:List Kd)
 |un (op:UnOp)
 |qn (k:IntKind)
 |zk (k:FloatKind)
 |oC
 |Do (f:FuncId)
 |makeSlice (zero:List Value)
 |slice (str:Bool) (sz:Nat) (lo hi:Bool)
 |fieldAddr (off n:Nat)
 |field (agg:Bool) (off n:Nat)
 |indexAddr (aH:Option Nat) (sz:Nat)
 |lA
 |index (agg:Bool) (len sz:Nat)
 |extract (i:Nat)
 |len (str:Bool)
 |ne (isMax:Bool)
 |append (sz:Nat)
 |copy (sz:Nat)
 |clear (zero:List Value)
 |vX (sz:Nat)
 |Gw
 |Me (zero:List Value)
 |LD
 |call (ro:Bool) (gJ:List Bool)
 |makeMap (ka va:Bool)
 |lookup (ka:Bool) (ks:List Kd) (va:Bool) (zero:List Value) (ok:Bool)
 |mapEntry (ka:Bool) (ks:List Kd) (va:Bool) (zero:List Value)
 |entryStore (va:Bool) (m:Nat)
 |ve (szi:Nat)
 |pk
 |og (ka:Bool) (ks:List Kd) (va:Bool) (n:Nat)
 |oh (ka:Bool) (ks:List Kd)
 |KW (sz len:Nat) (zero:List Value) (places:List Nat)
 |Nb (sz:Nat)
 |dM
 deriving Inhabited
structure km where
 dst:Option Nat
 k:K
 args:List Operand
 guard:Option (Nat×Bool)
 deriving Inhabited
inductive CC where
 |skip
 |region (ops:List km) (jT:List Nat)
 |drawn (ops:List km) (dyn:List (Nat×Nat)) (jT:List Nat)
 |seq (a b:CC)
 |cond (c:Operand) (a b:CC)
 |block (id:Nat) (a:CC)
 |loop (jT:List Nat) (a:CC)
 |exit (id:Nat)
 |ret
 |dM
 deriving Inhabited
structure St where
 cG:gy
 heap:bl
 next:Nat
 gh:List C
 deriving Inhabited
inductive nL where
 |normal
 |exit (id:Nat)
 |ret
 deriving Inhabited,DecidableEq
def Lo:Nat->Option D:=fun g => if g = 2 then some (.pt [.lit (.complex .f32 0 1)]) else if g = 3 then some (.pt [.lit (.complex .f32 0 1)]) else none
def cv:Value->Option TV
 |.agg cs=>if cs.toList.all ck then some (.agg (cs.toList.map fun v=>.d (.lit v)))else none
 |v=>if ck v then some (.c (.d (.lit v)))else none
def g_(e:gy):Operand->Option TV
 |.tmp t=>bM e t
 |.const v=>cv v
 |.global g=>(Lo g).map fun d=>.c (.d d)
 |.func f=>some (.c (.d (.fn f [])))
def cellsOf:TV->Option (List C)
 |.c x=>some [x]
 |.agg cs=>some cs
 |.eU _=>none
def dk:List Value->List C:=jf fun v=>.d (.lit v)
def cn:List Value->List D:=jf D.lit
def aV{α:Type}(l:List α)(off:Nat)(p:List α):List α:=l.take off++p++l.drop (off+p.length)
def ig(cells:List C):List ((Nat×Nat)×TV)->Option (List C)
 |[]=>some cells
 |((off,n),v)::r=>match cellsOf v with|some cs=>if cs.length=n/\off+n<=cells.length then ig (aV cells off cs) r else none|none=>none
def js{α:Type}(sz:Nat):Nat->List α->List (List α)
 |0,_=>[]
 |n+1,l=>l.take sz::js sz n (l.drop sz)
def EA(sz:Nat):iq->Option D
 |.nil=>some (.lit (.slice none 0 0))
 |.bf rows=>some (.sl sz rows)
 |.out _ _=>none
def me(sz:Nat):List iq->Option (List (List D))
 |[]=>some []
 |s::r=>match EA sz s,me sz r with|some x,some l=>some ([x]::l)|_,_=>none
def I1:iq->Option (Option (List (List D)))
 |.nil=>some none
 |.bf rows=>some (some rows)
 |.out _ _=>none
def pD:List iq->Option (List (Option (List (List D))))
 |[]=>some []
 |s::r=>match I1 s,pD r with|some x,some l=>some (x::l)|_,_=>none
def jO:Option (List (List D))->iq
 |none=>.nil
 |some rows=>.bf rows
mutual
def cW(h:bl):Nat->C->Option (D×List Nat)
 |_,.d x=>some (x,[])
 |_,.dq sz id off len=>match au h id with|some (.aH _ rows)|some (.lB _ rows)=>if off+len<=rows.length then some (.sl sz ((rows.drop off).take len),[id])else none|some (.nst szi slots)=>if off=0/\len=slots.length then(match me szi slots with|some rows=>some (.sl sz rows,[id])|none=>none)else none|_=>none
 |_,.ep id dv off=>
  match au h id with
  |some (.aH _ rows)|some (.lB _ rows)=>match rows[dv]?with|some r=>if off<=r.length then some (.pt (r.drop off),[id])else none|none=>none
  |_=>none
 |0,_=>none
 |n+1,.op id off=>
  match au h id with
  |some (.kA cells)=>if off<=cells.length then some (.pt (cells.drop off),[id])else none
  |some (.box cells)=>match eh h n cells with|some (ds,ap)=>if off<=ds.length then some (.pt (ds.drop off),id::ap)else none|none=>none
  |_=>none
 |n+1,.kR f caps=>match eh h n caps with|some (ds,ap)=>some (.fn f ds,ap)|none=>none
 |_+1,.om _=>none
def eh(h:bl):Nat->List C->Option (List D×List Nat)
 |_,[]=>some ([],[])
 |0,_=>none
 |n+1,c::cs=>match cW h n c,eh h n cs with|some (x,a),some (xs,b)=>some (x::xs,a++b)|_,_=>none
end
def gF(h:bl)(all:List Nat)(id:Nat):Option Ob:=
 match au h id with
 |some (.aH sz rows)=>some (.lB sz rows)
 |some (.lB sz rows)=>some (.lB sz rows)
 |some (.kA cells)=>some (.kA cells)
 |some (.box cells)=>match eh h 300 cells with|some (ds,ap)=>if ap.all (fun i=>all.contains i)then some (.kA ds)else none|none=>none
 |some (.map _ _ _ _)=>none
 |some (.cap _ _ _)=>none
 |some (.nst szi slots)=>match me szi slots with|some rows=>some (.lB 1 rows)|none=>none
 |none=>none
def cq(h:bl)(all:List Nat):List Nat->Option dD
 |[]=>some []
 |id::r=>match gF h all id,cq h all r with|some o,some u=>some ((id,some o)::u)|_,_=>none
def cH(h:bl):List C->Option (List D×List Nat)
 |[]=>some ([],[])
 |c::cs=>match cW h 300 c,cH h cs with|some (x,a),some (xs,b)=>some (x::xs,a++b)|_,_=>none
mutual
def cR(h:bl):Nat->C->Option (T×List Nat×List Nat)
 |_,.d x=>some (.d x,[],[])
 |_,.dq sz id off len=>match au h id with|some (.aH _ rows)=>if off+len<=rows.length then some (.sl sz ((rows.drop off).take len),[id],[id])else none|some (.lB _ rows)=>if off+len<=rows.length then some (.d (.sl sz ((rows.drop off).take len)),[],[id])else none|some (.nst szi slots)=>if off=0/\len=slots.length then(match pD slots with|some rows=>some (.ui szi rows,[id],[id])|none=>none)else none|_=>none
 |_,.om id=>match au h id with|some (.map ka va es bA)=>some (.mp ka va es bA,[id],[id])|_=>none
 |0,_=>none
 |n+1,.op id 0=>
  match au h id with
  |some (.box cells)=>match fF h n cells with|some (ts,bf,ap)=>some (.pt ts,id::bf,id::ap)|none=>none
  |some (.kA cells)=>some (.d (.pt cells),[],[id])
  |_=>none
 |_+1,_=>none
def fF(h:bl):Nat->List C->Option (List T×List Nat×List Nat)
 |_,[]=>some ([],[],[])
 |0,_=>none
 |n+1,c::cs=>match cR h n c,fF h n cs with|some (x,a,i),some (xs,b,j)=>some (x::xs,a++b,i++j)|_,_=>none
end
mutual
def gY(nxt:Nat):T->C×dD×Nat
 |.d x=>(.d x,[],nxt+1)
 |.qV=>(.d (.lit .nilFunc),[],nxt+1)
 |.sl sz rows=>(.dq sz nxt 0 rows.length,[(nxt,some (.aH sz rows))],nxt+1)
 |.ui sz rows=>(.dq 1 nxt 0 rows.length,[(nxt,some (.nst sz (rows.map jO)))],nxt+1)
 |.mp ka va es bA=>(.om nxt,[(nxt,some (.map ka va es bA))],nxt+1)
 |.pt ts=>let(cs,u,m):=fy (nxt+1) ts;(.op nxt 0,(nxt,some (.box cs))::u,m)
def fy(nxt:Nat):List T->List C×dD×Nat
 |[]=>([],[],nxt)
 |t::ts=>let(c,u,m):=gY nxt t;let(cs,v,k):=fy m ts;(c::cs,u++v,k)
end
def rj(nxt:Nat):R->TV×dD×Nat
 |.c t=>let(c,u,m):=gY nxt t;(.c c,u,m)
 |.agg ts=>let(cs,u,m):=fy nxt ts;(.agg cs,u,m)
def eW(nxt:Nat):List R->List TV×dD×Nat
 |[]=>([],[],nxt)
 |r::rs=>let(v,u,m):=rj nxt r;let(vs,w,k):=eW m rs;(v::vs,u++w,k)
abbrev Call:=FuncId->List A->Option (List R×List T)
abbrev Bu:=Option (TV×dD×List Nat×Nat)
def lv(v:Value):TV:=.c (.d (.lit v))
def j9(op:BinOp):Value->Value->Option Value
 |.int k a,.int k' b=>
  match op with
  |.shl=>if b<0 then none else some (.int k (k.wrap (a*2^(min b.toNat k.bits))))
  |.shr=>if b<0 then none else some (.int k (a.fdiv (2^(min b.toNat k.bits))))
  |op=>if k=k' then
   (match op with
   |.add=>some (.int k (k.wrap (a+b)))
   |.sub=>some (.int k (k.wrap (a-b)))
   |.mul=>some (.int k (k.wrap (a*b)))
   |.quo=>if b=0 then none else some (.int k (k.wrap (a.tdiv b)))
   |.rem=>if b=0 then none else some (.int k (a.tmod b))
   |.and=>some (.int k (k.wrap (cm k.bits a&&&cm k.bits b).toNat))
   |.or=>some (.int k (k.wrap (cm k.bits a|||cm k.bits b).toNat))
   |.xor=>some (.int k (k.wrap (cm k.bits a^^^cm k.bits b).toNat))
   |.andNot=>some (.int k (k.wrap (cm k.bits a&&&~~~cm k.bits b).toNat))
   |.eql=>some (.bool (a==b))
   |.neq=>some (.bool (a !=b))
   |.lss=>some (.bool (a<b))
   |.leq=>some (.bool (a<=b))
   |.gtr=>some (.bool (a>b))
   |.geq=>some (.bool (a>=b))
   |_=>none)else none
 |.float k a,.float k' b=>
  if k=k' then
   match op with|.add=>(k.format.add a b).map (.float k)|.sub=>(k.format.sub a b).map (.float k)|.mul=>(k.format.mul a b).map (.float k)|.quo=>(k.format.div a b).map (.float k)|.eql=>some (.bool (k.format.order a b==some .eq))|.neq=>some (.bool (k.format.order a b !=some .eq))|.lss=>some (.bool (k.format.order a b==some .lt))|.leq=>some (.bool (k.format.order a b==some .lt||k.format.order a b==some .eq))|.gtr=>some (.bool (k.format.order a b==some .gt))|.geq=>some (.bool (k.format.order a b==some .gt||k.format.order a b==some .eq))|_=>none
  else none
 |.string x,.string y=>match op with|.add=>if((x.size+y.size:Nat):Int)>IntKind.i64.max then none else some (.string (x++y))|.eql=>some (.bool (x.toList==y.toList))|.neq=>some (.bool !(x.toList==y.toList))|.lss=>some (.bool (Op.bytesLess x.toList y.toList))|.leq=>some (.bool (Op.bytesLess x.toList y.toList||x.toList==y.toList))|.gtr=>some (.bool !(Op.bytesLess x.toList y.toList||x.toList==y.toList))|.geq=>some (.bool !(Op.bytesLess x.toList y.toList))|_=>none
 |_,_=>none
def o_(k:FloatKind):Nat:=match k with|.f32=>0x7fc00000|.f64=>0x7ff8000000000001
def rG(op:BinOp):Value->Value->Option Value
 |.float k a,.float k' b=>
  if k=k' then
   match op with|.add=>if k.format.add a b=none then some (.float k (o_ k))else none|.sub=>if k.format.sub a b=none then some (.float k (o_ k))else none|.mul=>if k.format.mul a b=none then some (.float k (o_ k))else none|.quo=>if k.format.div a b=none then some (.float k (o_ k))else none|_=>none
  else none
 |_,_=>none
def jK(op:BinOp)(x y:Value):Option Value:=match j9 op x y with|some v=>some v|none=>rG op x y
def Jv(op:UnOp):Value->Option Value
 |.bool b=>match op with|.not=>some (.bool !b)|_=>none
 |.int k n=>match op with|.neg=>some (.int k (k.wrap (0-n)))|.xor=>some (.int k (k.wrap (cm k.bits (if k.signed then-1 else k.max)^^^cm k.bits n).toNat))|_=>none
 |.float k b=>match op with|.neg=>some (.float k (Op.negFloat k b))|_=>none
 |_=>none
def xo:Kd->Value->Value->Option Bool
 |.i q,.int k a,.int k' b=>if k=q/\k'=q then some (a==b)else none
 |.b,.bool a,.bool b=>some (a==b)
 |.s,.string a,.string b=>some (a==b)
 |_,_,_=>none
def eu:List Kd->List Value->List Value->Option Bool
 |[],[],[]=>some true
 |k::ks,x::xs,y::ys=>match xo k x y,eu ks xs ys with|some a,some b=>some (a&&b)|_,_=>none
 |_,_,_=>none
def iR:List C->Option (List Value)
 |[]=>some []
 |.d (.lit v)::r=>match iR r with|some l=>some (v::l)|none=>none
 |_=>none
def ux(isMax:Bool):Value->Value->Option Value
 |.int k x,.int k' y=>if k=k' then some (.int k (if isMax then(if y>x then y else x)else(if y<x then y else x)))else none
 |.float k x,.float k' y=>
  if k=k' then match k.format.order x y with|none=>some (.float k (o_ k))|some .lt=>some (.float k (if isMax then y else x))|some .gt=>some (.float k (if isMax then x else y))|some .eq=>some (.float k (if isMax then(if(k.decode x).neg then y else x)else(if(k.decode x).neg then x else y)))
  else none
 |_,_=>none
def Fi(isMax:Bool):Value->List (Option TV)->Option Value
 |x,[]=>some x
 |x,some (.c (.d (.lit y)))::r=>match ux isMax x y with|some z=>Fi isMax z r|none=>none
 |_,_=>none
def yN(agg:Bool)(n:Nat)(cells:List C):Option TV:=if agg then(if n<=cells.length then some (.agg (cells.take n))else none)else match cells with|x::_=>some (.c x)|[]=>none
def I_(agg:Bool)(n:Nat)(cells:List D):Option TV:=if agg then(if n<=cells.length then some (.agg ((cells.take n).map .d))else none)else match cells with|x::_=>some (.c (.d x))|[]=>none
def e_(agg:Bool)(n:Nat)(p:C)(h:bl):Option (TV×List Nat):=
 match p with
 |.d (.pt cells)=>match I_ agg n cells with|some v=>some (v,[])|none=>none
 |.ep id dv off=>
  match au h id with
  |some (.aH _ rows)|some (.lB _ rows)=>
   match rows[dv]?with
   |some r=>match I_ agg n (r.drop off)with|some v=>some (v,[id])|none=>none
   |none=>none
  |_=>none
 |.op id off=>
  match au h id with
  |some (.box cells)=>match yN agg n (cells.drop off)with|some v=>some (v,[id])|none=>none
  |some (.kA cells)=>match I_ agg n (cells.drop off)with|some v=>some (v,[id])|none=>none
  |_=>none
 |_=>none
def nn(id dv sz:Nat)(slots:List iq)(cs:List C)(h:bl):Option (dD×List Nat):=
 match cs with
 |[.d (.lit (.slice none 0 0))]=>some ([(id,some (.nst sz (slots.set dv .nil)))],[id])
 |[.dq sz' id2 0 len]=>match au h id2 with|some (.aH _ rows)=>if sz'=sz/\len=rows.length/\id2≠id then some ([(id,some (.nst sz (slots.set dv (.bf rows)))),(id2,none)],[id,id2])else none|_=>none
 |_=>none
def iI(agg:Bool)(n:Nat)(p:C)(h:bl)(nxt:Nat):Bu:=
 match p with
 |.ep id dv 0=>
  match au h id with
  |some (.nst sz slots)=>if agg=false/\n=1 then
   (match slots[dv]?with
   |some .nil=>some (.c (.d (.lit (.slice none 0 0))),[],[id],nxt)
   |some (.bf rows)=>some (.c (.dq sz nxt 0 rows.length),[(nxt,some (.aH sz rows)),(id,some (.nst sz (slots.set dv (.out nxt rows.length))))],[id],nxt+1)
   |_=>none)else none
  |_=>none
 |_=>none
def jg(n:Nat)(p:C)(v:TV)(h:bl):Option (dD×List Nat):=
 match cellsOf v with
 |none=>none
 |some cs=>
  if cs.length=n then
   match p with
   |.ep id dv off=>
    match au h id with
    |some (.aH sz rows)=>
     match rows[dv]?,cH h cs with
     |some r,some (ds,ap)=>match cq h ap ap with|some u=>if off+n<=r.length/\ap.contains id=false then some ((id,some (.aH sz (rows.set dv (aV r off ds))))::u,id::ap)else none|none=>none
     |_,_=>none
    |some (.nst sz slots)=>if off=0/\n=1/\dv<slots.length then nn id dv sz slots cs h else none
    |_=>none
   |.op id off=>match au h id with|some (.box cells)=>if off+n<=cells.length then some ([(id,some (.box (aV cells off cs)))],[id])else none|_=>none
   |_=>none
  else none
def bL:Option TV->Option Int
 |some (.c (.d (.lit (.int _ n))))=>some n
 |_=>none
def dX(str:Bool)(sz:Nat)(x:C)(lo hi:Option Int):Option C:=
 if str then match x with
 |.d (.lit (.string s))=>
  let h:=hi.getD s.size;let l:=lo.getD 0
  if 0<=l/\l<=h/\h<=s.size then some (.d (.lit (.string (s.extract l.toNat h.toNat))))else none
 |_=>none
 else match x with
 |.d (.lit (.slice none 0 0))=>if 0<=lo.getD 0/\lo.getD 0<=hi.getD 0/\hi.getD 0<=0 then some x else none
 |.dq sz' id off len=>
  let h:=hi.getD len;let l:=lo.getD 0
  if sz'=sz/\0<=l/\l<=h/\h<=len then some (.dq sz id (off+l.toNat) (h.toNat-l.toNat))else none
 |.d (.sl sz' rows)=>
  let h:=hi.getD rows.length;let l:=lo.getD 0
  if sz'=sz/\0<=l/\l<=h/\h<=rows.length then some (.d (.sl sz ((rows.drop l.toNat).take (h.toNat-l.toNat))))else none
 |_=>none
def ki(str:Bool)(sz:Nat)(x:C)(l u:Int)(h:bl):Option (C×List Nat):=
 match str,x with
 |false,.dq sz' id off _=>match au h id with|some (.aH _ rows)=>if sz'=sz/\0<=l/\l<=u/\off+u.toNat<=rows.length then some (.dq sz id (off+l.toNat) (u.toNat-l.toNat),[id])else none|some (.cap _ _ cp)=>if sz'=sz/\0<=l/\l<=u/\off+u.toNat<=cp then some (.dq sz id (off+l.toNat) (u.toNat-l.toNat),[id])else none|_=>none
 |_,_=>none
def F_(sz:Nat)(x:C)(l u m:Int)(nxt:Nat):Option C:=match x with|.dq sz' _ _ len=>if sz'=sz/\0<=l/\l<=u/\u<=m/\m<=len then some (.dq sz nxt 0 (u.toNat-l.toNat))else none|_=>none
def k_(zero:List Value)(x:C)(h:bl):Option (dD×List Nat):=
 match x with
 |.dq sz id off len=>match au h id with|some (.aH _ rows)=>if sz=zero.length/\off+len<=rows.length then some ([(id,some (.aH sz (aV rows off (aw len (cn zero)))))],[id])else none|_=>none
 |_=>none
def gM(off n:Nat):C->Option C
 |.op id o=>some (.op id (o+off))
 |.ep id r o=>some (.ep id r (o+off))
 |.d (.pt cells)=>if off+n<=cells.length then some (.d (.pt ((cells.drop off).take n)))else none
 |_=>none
def fG(aH:Option Nat)(sz:Nat)(x:C)(i:Int):Option C:=
 match aH with
 |none=>match x with|.dq sz' id off len=>if 0<=i/\i<len/\sz'=sz then some (.ep id (off+i.toNat) 0)else none|.d (.sl sz' rows)=>if 0<=i/\sz'=sz then(match rows[i.toNat]?with|some r=>some (.d (.pt r))|none=>none)else none|_=>none
 |some n=>
  if 0<=i/\i<n then
   match x with|.op id o=>some (.op id (o+i.toNat*sz))|.ep id r o=>some (.ep id r (o+i.toNat*sz))|.d (.pt cells)=>if i.toNat*sz+sz<=cells.length then some (.d (.pt ((cells.drop (i.toNat*sz)).take sz)))else none|_=>none
  else none
def pn:Bool->C->Option Int
 |true,.d (.lit (.string s))=>some s.size
 |false,.d (.lit (.slice none 0 0))=>some 0
 |false,.dq _ _ _ len=>some len
 |false,.d (.sl _ rows)=>some rows.length
 |_,_=>none
def ga(sz:Nat)(h:bl):C->Option (List (List D)×List Nat)
 |.d (.lit (.slice none 0 0))=>some ([],[])
 |.d (.sl sz' rows)=>if sz'=sz then some (rows,[])else none
 |.dq sz' id off len=>match au h id with|some (.aH _ rows)|some (.lB _ rows)=>if sz'=sz/\off+len<=rows.length then some ((rows.drop off).take len,[id])else none|_=>none
 |_=>none
def kC(sz:Nat)(s x:C)(h:bl)(nxt:Nat):Bu:=
 match ga sz h x with
 |none=>none
 |some (new,ap)=>
  match s with
  |.d (.lit (.slice none 0 0))=>
   if new.length<=yL then
    match new with|[]=>some (.c s,[],ap,nxt)|new=>some (.c (.dq sz nxt 0 new.length),[(nxt,some (.aH sz new))],ap,nxt+1)
   else none
  |.dq sz' id off len=>
   match au h id with
   |some (.aH _ rows)=>
    if sz'=sz/\off+len<=rows.length/\len+new.length<=yL then
     some (.c (.dq sz nxt 0 (len+new.length)),[(id,none),(nxt,some (.aH sz ((rows.drop off).take len++new++rows.drop (off+len+new.length))))],id::ap,nxt+1)
    else none
   |_=>none
  |_=>none
def k9(sz:Nat)(dst src:C)(h:bl):Option (Int×dD×List Nat):=
 match dst,src with
 |.dq sz' id off len,.dq sz2 id2 off2 len2=>
  match au h id,au h id2 with
  |some (.cap _ rows cp),some (.aH _ rows2)=>
   if sz'=sz/\sz2=sz/\off<=rows.length/\off2+min len2 len<=rows2.length then
    some ((min len2 len:Nat),[(id,some (.cap sz (aV rows off ((rows2.drop off2).take (min len2 len))) cp))],[id,id2])
   else none
  |some (.cap _ rows cp),some (.cap _ rows2 _)=>
   if sz'=sz/\sz2=sz/\off<=rows.length/\off2+min len2 len<=rows2.length then
    some ((min len2 len:Nat),[(id,some (.cap sz (aV rows off ((rows2.drop off2).take (min len2 len))) cp))],[id,id2])
   else none
  |_,_=>none
 |_,_=>none
def vu(zero:List Value)(x:C)(k:Int)(h:bl)(nxt:Nat):Bu:=
 match x with
 |.dq sz' id off len=>
  match au h id with
  |some (.cap _ rows cp)=>
   if sz'=zero.length/\0<=k/\len+k.toNat<=yL/\off+len<=rows.length/\cp<off+len+k.toNat then
    some (.c (.dq zero.length nxt 0 (len+k.toNat)),[(nxt,some (.aH zero.length ((rows.drop off).take len++aw k.toNat (cn zero))))],[id],nxt+1)
   else none
  |_=>none
 |_=>none
def tO(x:C)(h:bl):Option (Nat×List Nat):=
 match x with
 |.dq _ id off _=>match au h id with|some (.cap _ _ cp)=>some (cp-off,[id])|_=>none
 |_=>none
def tN(x y:C)(h:bl):Option (List Nat):=
 match x,y with
 |.dq _ a _ _,.dq _ b _ _=>match au h a,au h b with|some (.aH _ _),some (.cap _ _ cp)=>if a≠b/\0<cp then some [a,b]else none|_,_=>none
 |_,_=>none
def jr(sz:Nat)(dst src:C)(h:bl):Option (Int×dD×List Nat):=
 match ga sz h src,dst with
 |some (_,ap),.d (.lit (.slice none 0 0))=>some (0,[],ap)
 |some (new,ap),.dq sz' id off len=>
  match au h id with
  |some (.aH _ rows)=>
   if sz'=sz/\off+len<=rows.length then
    some ((min new.length len:Nat),[(id,some (.aH sz (aV rows off (new.take len))))],id::ap)
   else none
  |_=>none
 |_,_=>none
def eA(h:bl):List TV->List Bool->Option (List A×List Nat×List (C×List Nat×List Nat))
 |[],_=>some ([],[],[])
 |v::vs,ms=>
  match eA h vs ms.tail with
  |none=>none
  |some (as,ap,lent)=>
   if ms.headD false then
    match v with
    |.c c=>match cR h 300 c with|some (t,bf,rd)=>some (.mt t::as,ap,(c,bf,rd)::lent)|none=>none
    |_=>none
   else match v with
    |.c c=>match cW h 300 c with|some (x,i)=>some (.d x::as,i++ap,lent)|none=>none
    |.agg cs=>match cH h cs with|some (xs,i)=>some (.agg xs::as,i++ap,lent)|none=>none
    |.eU _=>none
def cQ(nxt:Nat):List (C×List Nat×List Nat)->List T->Option (dD×Nat)
 |[],[]=>some ([],nxt)
 |(_,[],_)::r,.d _::ts=>cQ nxt r ts
 |(.op id 0,bf,_)::r,.pt ts'::ts=>match cQ (fy nxt ts').2.2 r ts with|some (w,k)=>if bf.contains id then some ((id,some (.box (fy nxt ts').1))::(fy nxt ts').2.1++bf.map (fun i=>(i,none))++w,k)else none|none=>none
 |(.dq sz id 0 len,bf,_)::r,.sl sz' rows::ts=>
  if rows.length=len/\sz'=sz/\bf=[id]then
   match cQ nxt r ts with|some (w,k)=>some ((id,some (.aH sz rows))::w,k)|none=>none
  else none
 |(.dq sz id 0 len,bf,_)::r,.ui szi rows::ts=>
  if rows.length=len/\sz=1/\bf=[id]then
   match cQ nxt r ts with|some (w,k)=>some ((id,some (.nst szi (rows.map jO)))::w,k)|none=>none
  else none
 |(_,bf,_)::r,.qV::ts=>match cQ nxt r ts with|some (w,k)=>some (bf.map (fun i=>(i,none))++w,k)|none=>none
 |_,_=>none
def qO:R->Bool
 |.c (.d (.lit _))=>true
 |.agg ts=>ts.all fun|.d (.lit _)=>true|_=>false
 |_=>false
def Ap:T->Bool
 |.d (.lit _)=>true
 |.sl _ rows=>rows.all fun r=>r.all fun|.lit _=>true|_=>false
 |.qV=>true
 |_=>false
def nY:List TV->TV
 |[v]=>v
 |vs=>.eU vs
def cT{α:Type}:List (Option α)->Option (List α)
 |[]=>some []
 |some x::r=>match cT r with|some xs=>some (x::xs)|none=>none
 |none::_=>none
def de(h:bl):List (C×List Nat×List Nat)->Bool
 |[]=>true
 |(.dq _ id off len,_)::r=>(match au h id with|some (.aH _ rows)=>off==0&&len==rows.length|some (.nst _ slots)=>off==0&&len==slots.length|_=>false)&&de h r
 |_::r=>de h r
def pN(call:Call)(ro:Bool)(gJ:List Bool)(f:Option TV)(vs:List (Option TV))(h:bl)(nxt:Nat):Bu:=
 match(match f with|some (.c (.d (.fn f caps)))=>some (f,caps.map C.d)|some (.c (.kR f caps))=>some (f,caps)|_=>none),cT vs with
 |some (f,caps),some vs=>
  match eA h (vs++caps.map TV.c) gJ with
  |none=>none
  |some (as,ap,lent)=>
   if de h lent/\(lent.flatMap (·.2.1)).Nodup/\(lent.flatMap (·.2.1)).all (fun i=>!ap.contains i)then
    match call f as with
    |none=>none
    |some (rs,outs)=>
     if ro then
      if rs.all qO/\outs.all Ap then
       match cQ nxt lent outs with
       |none=>none
       |some (bu,m)=>
        let(vs,u,k):=eW m rs
        some (nY vs,u++bu,ap++lent.flatMap (·.2.2),k)
      else none
     else
      match cq h ap ap with
      |none=>none
      |some fu=>
       match cQ nxt lent outs with
       |none=>none
       |some (bu,m)=>
        let(vs,u,k):=eW m rs
        some (nY vs,u++bu++fu,ap++lent.flatMap (·.2.2),k)
   else none
 |_,_=>none
def l5:Nat->C->Option Bool
 |0,.d (.lit (.slice none 0 0))=>some true
 |0,.d (.sl _ _)|0,.dq _ _ _ _=>some false
 |1,.d (.lit (.pointer none))=>some true
 |1,.d (.pt _)|1,.ep _ _ _|1,.op _ _=>some false
 |2,.d (.lit .nilFunc)=>some true
 |2,.d (.fn _ _)|2,.kR _ _=>some false
 |_,_=>none
def tT:List C->Option (List D)
 |[]=>some []
 |.d x::r=>match tT r with|some l=>some (x::l)|none=>none
 |_=>none
abbrev mS:=List Value×List D×Nat
def jb(ks:List Kd)(key:List Value):List mS->Nat->Option (Option Nat)
 |[],_=>some none
 |e::r,i=>match eu ks key e.1 with|some true=>some (some i)|some false=>jb ks key r (i+1)|none=>none
def lk(va:Bool)(ds:List D):Option TV:=if va then some (.agg (ds.map .d))else match ds with|[x]=>some (.c (.d x))|_=>none
def Du:Kd->Value->Bool
 |.i q,.int k _=>decide (k=q)
 |.b,.bool _=>true
 |.s,.string _=>true
 |_,_=>false
def r_:List Kd->List Value->Bool
 |[],[]=>true
 |k::ks,x::xs=>Du k x&&r_ ks xs
 |_,_=>false
def jC(ka:Bool)(ks:List Kd):TV->Option (List Value)
 |.agg cs=>if ka=true/\cs.length=ks.length then(match iR cs with|some l=>if r_ ks l=true then some l else none|none=>none)else none
 |.c x=>if ka=false/\ks.length=1 then(match iR [x]with|some l=>if r_ ks l=true then some l else none|none=>none)else none
 |.eU _=>none
def fq(ka:Bool)(ks:List Kd)(va:Bool)(zero:List Value)(ok:Bool)(m:C)(k:TV)(h:bl):Option (TV×List Nat):=
 match m,jC ka ks k with
 |.d (.lit (.map none)),some _=>match lk va (cn zero)with|some v=>some (if ok then .eU [v,lv (.bool false)]else v,[])|none=>none
 |.om id,some key=>
  match au h id with
  |some (.map ka' va' es _)=>
   if ka'=ka/\va'=va then
    match jb ks key es 0 with
    |some (some i)=>match lk va (es.getD i default).2.1 with|some v=>some (if ok then .eU [v,lv (.bool true)]else v,[id])|none=>none
    |some none=>match lk va (cn zero)with|some v=>some (if ok then .eU [v,lv (.bool false)]else v,[id])|none=>none
    |none=>none
   else none
  |_=>none
 |_,_=>none
def jV(ka:Bool)(ks:List Kd)(va:Bool)(zero:List Value)(m:C)(k:TV)(h:bl):Option (TV×dD×List Nat):=
 match m,jC ka ks k with
 |.om id,some key=>
  match au h id with
  |some (.map ka' va' es bA)=>
   if ka'=ka/\va'=va then
    match jb ks key es 0 with
    |some (some i)=>match lk va (es.getD i default).2.1 with|some v=>some (.eU [v,lv (.int .i64 (es.getD i default).2.2)],[(id,some (.map ka va es bA))],[id])|none=>none
    |some none=>match lk va (cn zero)with|some v=>some (.eU [v,lv (.int .i64 bA)],[(id,some (.map ka va (es++[(key,cn zero,bA)]) (bA+1)))],[id])|none=>none
    |none=>none
   else none
  |_=>none
 |_,_=>none
def lY:TV->Bool
 |.agg _=>true
 |_=>false
def jW(va:Bool)(n:Nat)(m:C)(st:Option TV)(x:TV)(h:bl):Option (dD×List Nat):=
 match m,bL st,(cellsOf x).bind tT with
 |.om id,some s,some ds=>
  match au h id with
  |some (.map ka va' es bA)=>
   if va'=va/\ds.length=n/\lY x=va then
    match es.findIdx? (fun e=>decide ((e.2.2:Int)=s))with|some i=>some ([(id,some (.map ka va (es.set i ((es.getD i default).1,ds,(es.getD i default).2.2)) bA))],[id])|none=>none
   else none
  |_=>none
 |_,_,_=>none
def nq(ka:Bool)(ks:List Kd)(va:Bool)(n:Nat)(m:C)(k x:TV)(h:bl):Option (dD×List Nat):=
 match m,jC ka ks k,cellsOf x with
 |.om id,some key,some cs=>
  match cH h cs with
  |some (ds,ap)=>
   match cq h ap ap with
   |some fu=>
    match au h id with
    |some (.map ka' va' es bA)=>
     if ka'=ka/\va'=va/\ds.length=n/\lY x=va/\ap.contains id=false then
      match jb ks key es 0 with|some (some i)=>some ((id,some (.map ka va (es.set i ((es.getD i default).1,ds,(es.getD i default).2.2)) bA))::fu,id::ap)|some none=>some ((id,some (.map ka va (es++[(key,ds,bA)]) (bA+1)))::fu,id::ap)|none=>none
     else none
    |_=>none
   |none=>none
  |none=>none
 |_,_,_=>none
def nr(ka:Bool)(ks:List Kd)(m:C)(k:TV)(h:bl):Option (dD×List Nat):=
 match m,jC ka ks k with
 |.d (.lit (.map none)),some _=>some ([],[])
 |.om id,some key=>
  match au h id with
  |some (.map ka' va es bA)=>
   if ka'=ka then
    match jb ks key es 0 with|some (some i)=>some ([(id,some (.map ka va (es.eraseIdx i) bA))],[id])|some none=>some ([(id,some (.map ka va es bA))],[id])|none=>none
   else none
  |_=>none
 |_,_=>none
def Ga(sz:Nat)(x:C)(i:Int):Option C:=match x with|.dq sz' id off len=>if 0<=i/\i<len/\sz'=sz then some (.op id ((off+i.toNat)*sz))else none|_=>none
def bN(call:Call)(k:K)(vs:List (Option TV))(h:bl)(nxt:Nat):Bu:=
 match k,vs with
 |.mv,[some x]=>some (x,[],[],nxt)
 |.pick,[some (.c (.d (.lit (.bool c)))),a,b]=>match(if c then a else b)with|some v=>some (v,[],[],nxt)|none=>none
 |.alloc zero,[]=>some (.c (.op nxt 0),[(nxt,some (.box (dk zero)))],[],nxt+1)
 |.box,[some x]=>match cellsOf x with|some cs=>some (.c (.op nxt 0),[(nxt,some (.box cs))],[],nxt+1)|none=>none
 |.build zero places,vs=>
  match cT vs with
  |some xs=>match ig (dk zero) (places.zip xs)with|some cs=>some (.agg cs,[],[],nxt)|none=>none
  |none=>none
 |.buildSlice sz len zero places,vs=>
  match cT vs with
  |some xs=>
   match ig (dk zero) ((places.map fun i=>(i*sz,sz)).zip xs)with
   |some cs=>
    match cH h cs with
    |some (ds,ap)=>match cq h ap ap with|some u=>some (.c (.dq sz nxt 0 len),(nxt,some (.aH sz (js sz len ds)))::u,ap,nxt+1)|none=>none
    |none=>none
   |none=>none
  |none=>none
 |.load agg n,[some (.c p)]=>match e_ agg n p h with|some (v,ap)=>some (v,[],ap,nxt)|none=>none
 |.pk,[some (.c p)]=>match e_ false 1 p h with|some (v,ap)=>some (v,[],ap,nxt)|none=>iI false 1 p h nxt
 |.KW sz len zero places,vs=>
  match cT vs with
  |some xs=>match ig (dk zero) ((places.map fun i=>(i*sz,sz)).zip xs)with|some cs=>some (.c (.dq sz nxt 0 len),[(nxt,some (.box cs))],[],nxt+1)|none=>none
  |none=>none
 |.Nb sz,[some (.c x),i]=>
  match bL i with
  |some i=>match Ga sz x i with|some y=>some (.c y,[],[],nxt)|none=>none
  |none=>none
 |.store n,[some (.c p),some v]=>match jg n p v h with|some (u,ap)=>some (.eU [],u,ap,nxt)|none=>none
 |.nilCheck,[some (.c x)]=>match x with|.d (.pt _)|.d (.fn _ _)|.ep _ _ _|.op _ _|.kR _ _=>some (.c x,[],[],nxt)|_=>none
 |.t8 op,[some (.c (.d (.lit x))),some (.c (.d (.lit y)))]=>match jK op x y with|some v=>some (lv v,[],[],nxt)|none=>none
 |.pO neg,[some (.c (.d (.lit (.bool x)))),some (.c (.d (.lit (.bool y))))]=>some (lv (.bool (if neg then !(x==y)else x==y)),[],[],nxt)
 |.mK kind neg,[some (.c x)]=>match l5 kind x with|some b=>some (lv (.bool (if neg then !b else b)),[],[],nxt)|none=>none
 |.tP neg ks,[some (.agg xs),some (.agg ys)]=>
  match iR xs,iR ys with
  |some xs,some ys=>match eu ks xs ys with|some b=>some (lv (.bool (if neg then !b else b)),[],[],nxt)|none=>none
  |_,_=>none
 |.un op,[some (.c (.d (.lit x)))]=>match Jv op x with|some v=>some (lv v,[],[],nxt)|none=>none
 |.qn k,[some (.c (.d (.lit (.int _ n))))]=>some (lv (.int k (k.wrap n)),[],[],nxt)
 |.zk k,[some (.c (.d (.lit (.int _ n))))]=>some (lv (.float k (k.nearest n)),[],[],nxt)
 |.oC,[some (.c (.d (.lit (.string s))))]=>some (lv (.string s),[],[],nxt)
 |.Do f,vs=>
  match cT vs with
  |some xs=>match cT (xs.map fun|.c c=>some c|_=>none)with|some cs=>some (.c (.kR f cs),[],[],nxt)|none=>none
  |none=>none
 |.makeSlice zero,[l,c]=>
  match bL l,bL c with
  |some l,some c=>
   if 0<=l/\l<=c/\c<=yL then
    some (.c (.dq zero.length nxt 0 l.toNat),[(nxt,some (.aH zero.length (aw l.toNat (cn zero))))],[],nxt+1)
   else none
  |_,_=>none
 |.ve szi,[l,c]=>match bL l,bL c with|some l,some c=>if 0<=l/\l<=c/\c<=yL then some (.c (.dq 1 nxt 0 l.toNat),[(nxt,some (.nst szi (aw l.toNat .nil)))],[],nxt+1)else none|_,_=>none
 |.slice str sz lo hi,some (.c x)::r=>
  match lo,hi,r with
  |false,false,[]=>match dX str sz x none none with|some y=>some (.c y,[],[],nxt)|none=>none
  |true,false,[l]=>match bL l with|some l=>(match dX str sz x (some l) none with|some y=>some (.c y,[],[],nxt)|none=>none)|none=>none
  |false,true,[u]=>match bL u with|some u=>(match dX str sz x none (some u)with|some y=>some (.c y,[],[],nxt)|none=>(match ki str sz x 0 u h with|some (y,ap)=>some (.c y,[],ap,nxt)|none=>none))|none=>none
  |true,true,[l,u]=>
   match bL l,bL u with
   |some l,some u=>match dX str sz x (some l) (some u)with|some y=>some (.c y,[],[],nxt)|none=>(match ki str sz x l u h with|some (y,ap)=>some (.c y,[],ap,nxt)|none=>none)
   |_,_=>none
  |_,_,_=>none
 |.vX sz,[some (.c x),l,u,m]=>
  match bL l,bL u,bL m with
  |some l,some u,some m=>match F_ sz x l u m nxt with|some y=>some (.c y,[],[],nxt+1)|none=>none
  |_,_,_=>none
 |.clear zero,[some (.c x)]=>match k_ zero x h with|some (u,ap)=>some (.eU [],u,ap,nxt)|none=>none
 |.fieldAddr off n,[some (.c x)]=>match gM off n x with|some y=>some (.c y,[],[],nxt)|none=>none
 |.field agg off n,[some (.agg cs)]=>match yN agg n (cs.drop off)with|some v=>some (v,[],[],nxt)|none=>none
 |.indexAddr aH sz,[some (.c x),i]=>
  match bL i with
  |some i=>match fG aH sz x i with|some y=>some (.c y,[],[],nxt)|none=>none
  |none=>none
 |.lA,[some (.c (.d (.lit (.string s)))),i]=>
  match bL i with
  |some i=>match(if 0<=i then s[i.toNat]?else none)with|some b=>some (lv (.int .u8 b.toNat),[],[],nxt)|none=>none
  |none=>none
 |.index agg len sz,[some (.agg cs),i]=>
  match bL i with
  |some i=>if 0<=i/\i<len then match yN agg sz (cs.drop (i.toNat*sz))with|some v=>some (v,[],[],nxt)|none=>none else none
  |none=>none
 |.extract i,[some (.eU xs)]=>match xs[i]?with|some v=>some (v,[],[],nxt)|none=>none
 |.len str,[some (.c x)]=>match pn str x with|some n=>some (lv (.int .i64 n),[],[],nxt)|none=>none
 |.ne m,some (.c (.d (.lit x)))::r=>match Fi m x r with|some v=>some (lv v,[],[],nxt)|none=>none
 |.append sz,[some (.c s),some (.c x)]=>kC sz s x h nxt
 |.copy sz,[some (.c d),some (.c s)]=>match jr sz d s h with|some (i,u,ap)=>some (lv (.int .i64 i),u,ap,nxt)|none=>(match k9 sz d s h with|some (i,u,ap)=>some (lv (.int .i64 i),u,ap,nxt)|none=>none)
 |.Gw,[some (.c x)]=>match tO x h with|some (n,ap)=>some (lv (.int .i64 n),[],ap,nxt)|none=>none
 |.Me zero,[some (.c x),some (.c (.d (.lit (.int _ k))))]=>vu zero x k h nxt
 |.LD,[some (.c x),some (.c y)]=>match tN x y h with|some ap=>some (lv (.bool false),[],ap,nxt)|none=>none
 |.call ro gJ,f::vs=>pN call ro gJ f vs h nxt
 |.makeMap ka va,[]=>some (.c (.om nxt),[(nxt,some (.map ka va [] 0))],[],nxt+1)
 |.lookup ka ks va zero ok,[some (.c m),some k]=>match fq ka ks va zero ok m k h with|some (v,ap)=>some (v,[],ap,nxt)|none=>none
 |.mapEntry ka ks va zero,[some (.c m),some k]=>match jV ka ks va zero m k h with|some (v,u,ap)=>some (v,u,ap,nxt)|none=>none
 |.og ka ks va n,[some (.c m),some k,some x]=>match nq ka ks va n m k x h with|some (u,ap)=>some (.eU [],u,ap,nxt)|none=>none
 |.oh ka ks,[some (.c m),some k]=>match nr ka ks m k h with|some (u,ap)=>some (.eU [],u,ap,nxt)|none=>none
 |.entryStore va n,[some (.c m),s,some x]=>match jW va n m s x h with|some (u,ap)=>some (.eU [],u,ap,nxt)|none=>none
 |_,_=>none
def gZ(e:gy):Option (Nat×Bool)->Option Bool
 |none=>some true
 |some (t,b)=>match bM e t with|some (.c (.d (.lit (.bool x))))=>some (x==b)|some (.eU [])=>some false|_=>none
def put(e:gy)(dst:Option Nat)(v:TV):gy:=match dst with|some d=>(d,v)::e|none=>e
def drop(e:gy)(dst:Option Nat):gy:=put e dst (.eU [])
def fS:Nat:=1000000
def jX(calls:Nat->Call)(aL:Nat):List km->Nat->gy->bl->Option (gy×bl×List (List Nat×List Nat))
 |[],_,e,h=>some (e,h,[])
 |o::r,i,e,h=>
  match gZ e o.guard with
  |some true=>
   match bN (calls i) o.k (o.args.map (g_ e)) h (aL+fS*i)with
   |some (v,u,ap,n)=>
    if n<=aL+fS*(i+1)then
     match jX calls aL r (i+1) (put e o.dst v) (u++h)with|some (e,h,tr)=>some (e,h,(ap,u.map (·.1))::tr)|none=>none
    else none
   |none=>none
  |some false=>match jX calls aL r (i+1) (drop e o.dst) h with|some (e,h,tr)=>some (e,h,([],[])::tr)|none=>none
  |none=>none
def jc(a b:List Nat×List Nat):Bool:=a.2.all (fun i=>!b.1.contains i&&!b.2.contains i)&&b.2.all (fun i=>!a.1.contains i)
def zY(tr:List (List Nat×List Nat))(i j:Nat):Bool:=
 match tr[i]?,tr[j]?with
 |some a,some b=>jc a b||(match a with|([id],[])=>((tr.take j).drop (i+1)).all (fun x=>!x.2.contains id)|_=>false)
 |_,_=>true
def vy(tr:List (List Nat×List Nat))(dyn:List (Nat×Nat)):Bool:=dyn.all fun(i,j)=>if 1000<=j then zY tr i (j-1000)else match tr[i]?,tr[j]?with|some a,some b=>jc a b|_,_=>true
def dl:C->List Nat
 |.d _=>[]
 |.dq _ id _ _|.ep id _ _|.op id _|.om id=>[id]
 |.kR _ caps=>jI caps
where jI:List C->List Nat
 |[]=>[]
 |c::r=>dl c++jI r
def ja:TV->List Nat
 |.c x=>dl x
 |.agg cs=>dl.jI cs
 |.eU xs=>uy xs
where uy:List TV->List Nat
 |[]=>[]
 |x::r=>ja x++uy r
inductive RV where
 |tmp (t:Nat)
 |cell (t:Nat) (agg:Bool) (n:Nat)
 deriving Inhabited
def enter:List A->Nat->Nat->gy×bl×Nat×List C
 |[],_,n=>([],[],n,[])
 |.d x::r,i,n=>let(e,h,m,l):=enter r (i+1) n;((i,.c (.d x))::e,h,m,l)
 |.agg xs::r,i,n=>let(e,h,m,l):=enter r (i+1) n;((i,.agg (xs.map .d))::e,h,m,l)
 |.mt t::r,i,n=>let(c,u,k):=gY n t;let(e,h,m,l):=enter r (i+1) k;((i,.c c)::e,u++h,m,c::l)
def rn(s:St):RV->Option TV
 |.tmp t=>bM s.cG t
 |.cell t agg n=>match bM s.cG t with|some (.c p)=>(match e_ agg n p s.heap with|some (v,_)=>some v|none=>none)|_=>none
def nC(h:bl):TV->Option (R×List Nat)
 |.c c=>match cR h 300 c with|some (t,ap,_)=>some (.c t,ap)|none=>none
 |.agg cs=>match fF h 300 cs with|some (ts,ap,_)=>some (.agg ts,ap)|none=>none
 |.eU _=>none
def pK(h:bl):List TV->Option (List R×List Nat)
 |[]=>some ([],[])
 |v::vs=>match nC h v,pK h vs with|some (r,a),some (rs,b)=>some (r::rs,a++b)|_,_=>none
structure Fn where
 np:Nat
 ntmps:Nat
 gO:List RV
 body:CC
 deriving Inhabited
def rH(k:FloatKind)(n:Nat):Prop:=(k.format.read n).isNaN=true
def AU:Value->Bool
 |.nilIface|.iface _ _=>true
 |_=>false
inductive RD(S:Nat->Prop)(w:World):D->Value->Prop
 |lit {v:Value} (h:ck v=true):RD S w (.lit v) v
 |nan {k:FloatKind} {n m:Nat} (hn:rH k n) (hm:rH k m):RD S w (.lit (.float k n)) (.float k m)
 |ex {k:FloatKind} {n:Nat}:RD S w (.lit (.complex k n 0)) (.float k n)
 |jk {v:Value} (h:AU v=true):RD S w (.lit (.complex .f32 0 1)) v
 |sl {sz:Nat} {rows:List (List D)} {b off cap:Nat} (f:Nat->Nat->Value) (hb:S b) (hsz:0<sz) (hcap:rows.length<=cap)
   (hrow:∀(i:Nat)(r:List D),rows[i]?=some r->r.length=sz)
   (hcell:∀(i:Nat)(r:List D),rows[i]?=some r->∀(j:Nat)(x:D),r[j]?=some x->w.cell? ⟨b,off+i*sz+j,none⟩=some (f i j))
   (hrd:∀(i:Nat)(r:List D),rows[i]?=some r->∀(j:Nat)(x:D),r[j]?=some x->RD S w x (f i j)):
   RD S w (.sl sz rows) (.slice (some ⟨b,off,none⟩) rows.length cap)
 |nV {sz:Nat} {a:Addr} (hsz:0<sz):RD S w (.sl sz []) (.slice (some a) 0 0)
 |pt {cells:List D} {b off:Nat} (f:Nat->Value) (hb:S b)
   (hcell:∀(j:Nat)(x:D),cells[j]?=some x->w.cell? ⟨b,off+j,none⟩=some (f j))
   (hrd:∀(j:Nat)(x:D),cells[j]?=some x->RD S w x (f j)):
   RD S w (.pt cells) (.pointer (some ⟨b,off,none⟩))
 |fn {g:FuncId} {caps:List D} {vs:Array Value} (hlen:caps.length=vs.size)
   (hrd:∀(j:Nat)(x:D),caps[j]?=some x->RD S w x (vs.getD j undef)):
   RD S w (.fn g caps) (.func (.func g) #[] vs)
structure eM(S:Nat->Prop)(w:World)(S':Nat->Prop)(w':World):Prop where
 sub:∀b,S b->S' b
 same:∀b,S b->w'.heap[b]?=w.heap[b]?
theorem eM.refl(S:Nat->Prop)(w:World):eM S w S w:=⟨fun _ h=>h,fun _ _=>rfl⟩
theorem eM.trans{S S' S'':Nat->Prop}{w w' w'':World}(a:eM S w S' w')(b:eM S' w' S'' w''):eM S w S'' w'':=⟨fun x h=>b.sub x (a.sub x h),fun x h=>(b.same x (a.sub x h)).trans (a.same x h)⟩
theorem jt{w w':World}{b:Nat}(h:w'.heap[b]?=w.heap[b]?)(off:Nat):w'.cell? ⟨b,off,none⟩=w.cell? ⟨b,off,none⟩:=by simp[World.cell?,h]
theorem RD.mono{S S':Nat->Prop}{w w':World}(hs:eM S w S' w'){x:D}{v:Value}(h:RD S w x v):RD S' w' x v:=by induction h with|lit h=>exact .lit h|nan hn hm=>exact .nan hn hm|ex=>exact .ex|jk h=>exact .jk h|sl f hb hsz hcap hrow hcell hrd ih=>exact .sl f (hs.sub _ hb) hsz hcap hrow (fun i r hi j x hj=>(jt (hs.same _ hb) _).trans (hcell i r hi j x hj)) ih|nV h=>exact .nV h|pt f hb hcell hrd ih=>exact .pt f (hs.sub _ hb) (fun j x hj=>(jt (hs.same _ hb) _).trans (hcell j x hj)) ih|fn hlen hrd ih=>exact .fn hlen ih
structure eG where
 bU:Nat
 aL:Nat
 sz:Nat
 ext:Nat
 cap:Nat
 deriving Inhabited
inductive RC(S:Nat->Prop)(w:World)(Kn:Nat->Prop)(φ:Nat->eG):C->Value->Prop
 |d {x:D} {v:Value} (h:RD S w x v):RC S w Kn φ (.d x) v
 |dq {id off len cap addr:Nat} (hk:Kn id) (hcap:len<=cap) (haddr:0<cap->addr=(φ id).aL+off*(φ id).sz) (hext:addr+cap*(φ id).sz<=(φ id).ext) (hc:off+cap=(φ id).cap):
   RC S w Kn φ (.dq (φ id).sz id off len) (.slice (some ⟨(φ id).bU,addr,none⟩) len cap)
 |ep {id dv off:Nat} (hk:Kn id):RC S w Kn φ (.ep id dv off) (.pointer (some ⟨(φ id).bU,(φ id).aL+dv*(φ id).sz+off,none⟩))
 |op {id off:Nat} (hk:Kn id):RC S w Kn φ (.op id off) (.pointer (some ⟨(φ id).bU,(φ id).aL+off,none⟩))
 |kR {g:FuncId} {caps:List C} {vs:Array Value} (hlen:caps.length=vs.size)
   (hrc:∀(j:Nat)(x:C),caps[j]?=some x->RC S w Kn φ x (vs.getD j undef)):
   RC S w Kn φ (.kR g caps) (.func (.func g) #[] vs)
 |om {id:Nat} (hk:Kn id):RC S w Kn φ (.om id) (.map (some (φ id).bU))
structure Ren(Kn:Nat->Prop)(φ:Nat->eG)(Kn':Nat->Prop)(φ':Nat->eG):Prop where
 sub:∀i,Kn i->Kn' i
 same:∀i,Kn i->φ' i=φ i
theorem Ren.refl(Kn:Nat->Prop)(φ:Nat->eG):Ren Kn φ Kn φ:=⟨fun _ h=>h,fun _ _=>rfl⟩
theorem RC.mono{S S':Nat->Prop}{w w':World}{Kn Kn':Nat->Prop}{φ φ':Nat->eG}(hs:eM S w S' w')(hr:Ren Kn φ Kn' φ'){x:C}{v:Value}
  (h:RC S w Kn φ x v):RC S' w' Kn' φ' x v:=by
 induction h with|d h=>exact .d (h.mono hs)|dq hk hcap haddr hext hc=>rw[<-hr.same _ hk]at hext haddr hc|-;exact .dq (hr.sub _ hk) hcap haddr hext hc|ep hk=>rw[<-hr.same _ hk];exact .ep (hr.sub _ hk)|op hk=>rw[<-hr.same _ hk];exact .op (hr.sub _ hk)|kR hlen hrc ih=>exact .kR hlen ih|om hk=>rw[<-hr.same _ hk];exact .om (hr.sub _ hk)
inductive dO(S:Nat->Prop)(w:World)(Kn:Nat->Prop)(φ:Nat->eG):TV->Value->Prop
 |c {x:C} {v:Value} (h:RC S w Kn φ x v):dO S w Kn φ (.c x) v
 |agg {cs:List C} {aH:Array Value} (hlen:cs.length=aH.size) (h:∀(i:Nat)(x:C),cs[i]?=some x->RC S w Kn φ x (aH.getD i undef)):dO S w Kn φ (.agg cs) (.agg aH)
 |eU {xs:List TV} {aH:Array Value} (hlen:xs.length=aH.size) (h:∀(i:Nat)(x:TV),xs[i]?=some x->dO S w Kn φ x (aH.getD i undef)):dO S w Kn φ (.eU xs) (.tuple aH)
theorem dO.mono{S S':Nat->Prop}{w w':World}{Kn Kn':Nat->Prop}{φ φ':Nat->eG}(hs:eM S w S' w')(hr:Ren Kn φ Kn' φ'){x:TV}{v:Value}
  (h:dO S w Kn φ x v):dO S' w' Kn' φ' x v:=by
 induction h with|c h=>exact .c (h.mono hs hr)|agg hlen h=>exact .agg hlen fun i x hi=>(h i x hi).mono hs hr|eU hlen h ih=>exact .eU hlen ih
def one:Value->Bool
 |.agg _|.tuple _=>false
 |_=>true
theorem qe{v:Value}(h:ck v=true):one v=true:=by cases v<;>simp_all[ck,one]
theorem RD.one{S:Nat->Prop}{w:World}{x:D}{v:Value}(h:RD S w x v):one v=true:=by cases h with|lit h=>exact qe h|jk h=>cases v<;>simp_all[AU,Ev.one]|_=>rfl
theorem RC.one{S:Nat->Prop}{w:World}{Kn:Nat->Prop}{φ:Nat->eG}{x:C}{v:Value}(h:RC S w Kn φ x v):one v=true:=by cases h with|d h=>exact h.one|_=>rfl
theorem nu{v:Value}(h:one v=true):v.cells= #[v]:=by cases v<;>simp_all[Ev.one,Value.cells]
def kN(w:World)(b:Nat)(aH:Array Value):Prop:=∃t,w.heap[b]?=some (.cells aH t (0,0))
theorem kN.cell{w:World}{b:Nat}{aH:Array Value}(h:kN w b aH)(i:Nat):w.cell? ⟨b,i,none⟩=aH[i]?:=by obtain⟨t,h⟩:=h;simp[World.cell?,h]
theorem kN.lt{w:World}{b:Nat}{aH:Array Value}(h:kN w b aH):b<w.heap.size:=by obtain⟨t,h⟩:=h;exact(aP.1 h).1
theorem kN.jR{w w':World}{b:Nat}{aH:Array Value}(h:kN w b aH)(hs:w'.heap[b]?=w.heap[b]?):kN w' b aH:=by obtain⟨t,h⟩:=h;exact⟨t,hs.trans h⟩
def bS(S:Nat->Prop)(w:World)(sz:Nat)(get:Nat->Option Value)(aL:Nat)(rows:List (List D)):Prop:=
 (∀(i:Nat)(r:List D),rows[i]?=some r->r.length=sz)/\
 ∀(i:Nat)(r:List D),rows[i]?=some r->∀(j:Nat)(x:D),r[j]?=some x->∃v,get (aL+i*sz+j)=some v/\RD S w x v
def bP:Ob->Bool
 |.aH _ _|.box _|.map _ _ _ _|.cap _ _ _|.nst _ _=>true
 |_=>false
def Cv(S:Nat->Prop)(w:World)(sz:Nat)(rows:List (List D))(v:Value)(b:Nat):Prop:=∃(addr cap:Nat)(aH:Array Value),v=.slice (some ⟨b,addr,none⟩) rows.length cap/\0<sz/\kN w b aH/\rows.length<=cap/\addr+cap*sz<=aH.size/\bS S w sz (fun i=>aH[i]?) addr rows
inductive ug(S K:Nat->Prop)(w:World)(Kn:Nat->Prop)(φ:Nat->eG)(sz:Nat):iq->Value->Prop
 |nil:ug S K w Kn φ sz .nil (.slice none 0 0)
 |bf {rows:List (List D)} {v:Value} {b:Nat} (h:Cv S w sz rows v b) (hS:¬S b) (hK:¬K b):ug S K w Kn φ sz (.bf rows) v
 |out {id len:Nat} {v:Value} (h:RC S w Kn φ (.dq sz id 0 len) v):ug S K w Kn φ sz (.out id len) v
def rM:Value->Option Nat
 |.slice (some a) _ _=>some a.block
 |_=>none
def nH(w:World)(l:eG)(slots:List iq)(k x:Nat):Prop:=∃rows v,slots[k]?=some (.bf rows)/\w.cell? ⟨l.bU,l.aL+k,none⟩=some v/\rM v=some x
def xj(ka:Bool)(k:List Value)(v:Value):Prop:=(∀x∈k,ck x=true)/\if ka then v=.agg k.toArray else k=[v]
def ny(S:Nat->Prop)(w:World)(va:Bool)(ds:List D)(v:Value):Prop:=if va then∃aH:Array Value,v=.agg aH/\ds.length=aH.size/\∀(i:Nat)(x:D),ds[i]?=some x->RD S w x (aH.getD i undef)else∃x,ds=[x]/\RD S w x v
theorem ny.mono{S S':Nat->Prop}{w w':World}(hs:eM S w S' w'){va:Bool}{ds:List D}{v:Value}(h:ny S w va ds v):ny S' w' va ds v:=by
 unfold ny at h|-;split
 .rename_i hv;rw[if_pos hv]at h;obtain⟨aH,h1,h2,h3⟩:=h;exact⟨aH,h1,h2,fun i x hi=>(h3 i x hi).mono hs⟩
 .rename_i hv;rw[if_neg hv]at h;obtain⟨x,h1,h2⟩:=h;exact⟨x,h1,h2.mono hs⟩
inductive RO(S:Nat->Prop)(K:Nat->Prop)(w:World)(Kn:Nat->Prop)(φ:Nat->eG)(l:eG):Ob->Prop
 |aH {sz:Nat} {rows:List (List D)} {aH:Array Value} (hsz:0<sz) (hl:l.sz=sz) (hS:¬S l.bU) (hK:¬K l.bU) (ho:kN w l.bU aH) (hext:aH.size=l.ext)
   (hfit:l.aL+rows.length*sz<=l.ext) (hr:bS S w sz (fun i=>aH[i]?) l.aL rows) (hv:rows.length<=l.cap):RO S K w Kn φ l (.aH sz rows)
 |lB {sz:Nat} {rows:List (List D)} (hsz:0<sz) (hl:l.sz=sz) (hS:S l.bU)
   (hr:bS S w sz (fun i=>w.cell? ⟨l.bU,i,none⟩) l.aL rows):RO S K w Kn φ l (.lB sz rows)
 |box {cells:List C} {aH:Array Value} (hb:l.aL=0) (hS:¬S l.bU) (hK:¬K l.bU) (ho:kN w l.bU aH) (hlen:cells.length=aH.size)
   (hr:∀(i:Nat)(x:C),cells[i]?=some x->RC S w Kn φ x (aH.getD i undef)):RO S K w Kn φ l (.box cells)
 |kA {cells:List D} (hb:l.aL=0) (hS:S l.bU)
   (hr:∀(i:Nat)(x:D),cells[i]?=some x->∃v,w.cell? ⟨l.bU,i,none⟩=some v/\RD S w x v):RO S K w Kn φ l (.kA cells)
 |map {ka va:Bool} {es:List (List Value×List D×Nat)} {bA:Nat} {ms:Array MapEntry} (hS:¬S l.bU) (hK:¬K l.bU) (ho:w.heap[l.bU]?=some (.map ms bA)) (hlen:es.length=ms.size)
   (hr:∀(i:Nat)(e:List Value×List D×Nat)(m:MapEntry),es[i]?=some e->ms[i]?=some m->xj ka e.1 m.key/\ny S w va e.2.1 m.val/\m.born=e.2.2):RO S K w Kn φ l (.map ka va es bA)
 |cap {sz:Nat} {rows:List (List D)} {cp:Nat} {aH:Array Value} (hsz:0<sz) (hl:l.sz=sz) (hS:¬S l.bU) (hK:¬K l.bU) (ho:kN w l.bU aH) (hext:aH.size=l.ext)
   (hfit:l.aL+cp*sz<=l.ext) (hr:bS S w sz (fun i=>aH[i]?) l.aL rows) (hv:rows.length<=cp) (hc:l.cap=cp):RO S K w Kn φ l (.cap sz rows cp)
 |nst {sz:Nat} {slots:List iq} {aH:Array Value} (hsz:0<sz) (hl:l.sz=1) (hS:¬S l.bU) (hK:¬K l.bU) (ho:kN w l.bU aH) (hext:aH.size=l.ext)
   (hfit:l.aL+slots.length<=l.ext) (hr:∀(i:Nat)(s:iq),slots[i]?=some s->∃v,aH[l.aL+i]?=some v/\ug S K w Kn φ sz s v) (hv:slots.length<=l.cap):RO S K w Kn φ l (.nst sz slots)
theorem bS.mono{S S':Nat->Prop}{w w':World}(hs:eM S w S' w'){sz aL:Nat}{get:Nat->Option Value}{rows:List (List D)}(h:bS S w sz get aL rows):
  bS S' w' sz get aL rows:=
 ⟨h.1,fun i r hi j x hj=>let⟨v,hg,hr⟩:=h.2 i r hi j x hj;⟨v,hg,hr.mono hs⟩⟩
def Le(S':Nat->Prop)(w w':World)(l:eG)(o:Ob):Prop:=∀sz slots,o=.nst sz slots->∀k x,nH w l slots k x->w'.heap[x]?=w.heap[x]?/\¬S' x
theorem Cv.mono{S S':Nat->Prop}{w w':World}(hs:eM S w S' w'){sz b:Nat}{rows:List (List D)}{v:Value}(hb:w'.heap[b]?=w.heap[b]?)(h:Cv S w sz rows v b):Cv S' w' sz rows v b:=by obtain⟨a,c,aH,h1,h2,h3,h4,h5,h6⟩:=h;exact⟨a,c,aH,h1,h2,h3.jR hb,h4,h5,h6.mono hs⟩
theorem Cv.bU{S:Nat->Prop}{w:World}{sz b:Nat}{rows:List (List D)}{v:Value}(h:Cv S w sz rows v b):rM v=some b:=by obtain⟨a,c,aH,rfl,_⟩:=h;rfl
theorem Cv.bf{S:Nat->Prop}{w:World}{sz b:Nat}{rows:List (List D)}{v:Value}(h:Cv S w sz rows v b):∃aH,kN w b aH:=by obtain⟨a,c,aH,_,_,h,_⟩:=h;exact⟨aH,h⟩
theorem RO.mono{S S' K:Nat->Prop}{w w':World}{Kn Kn':Nat->Prop}{φ φ':Nat->eG}{l:eG}(hs:eM S w S' w')(hr:Ren Kn φ Kn' φ'){o:Ob}
  (hsame:bP o=true->w'.heap[l.bU]?=w.heap[l.bU]?/\¬S' l.bU) (hkp:Le S' w w' l o) (h:RO S K w Kn φ l o):RO S' K w' Kn' φ' l o:=by
 cases h with
 |aH hsz hl hS hK ho hext hfit hrr hv=>exact .aH hsz hl (hsame rfl).2 hK (ho.jR (hsame rfl).1) hext hfit (hrr.mono hs) hv
 |lB hsz hl hS hrr=>refine .lB hsz hl (hs.sub _ hS) ⟨hrr.1,fun i r hi j x hj=>?_⟩;obtain⟨v,hg,h⟩:=hrr.2 i r hi j x hj;exact⟨v,(jt (hs.same _ hS) _).trans hg,h.mono hs⟩
 |box hb hS hK ho hlen hrr=>exact .box hb (hsame rfl).2 hK (ho.jR (hsame rfl).1) hlen fun i x hi=>(hrr i x hi).mono hs hr
 |kA hb hS hrr=>refine .kA hb (hs.sub _ hS) fun i x hi=>?_;obtain⟨v,hg,h⟩:=hrr i x hi;exact⟨v,(jt (hs.same _ hS) _).trans hg,h.mono hs⟩
 |map hS hK ho hlen hrr=>exact .map (hsame rfl).2 hK ((hsame rfl).1.trans ho) hlen fun i e m hi hm=>let⟨h1,h2,h3⟩:=hrr i e m hi hm;⟨h1,h2.mono hs,h3⟩
 |cap hsz hl hS hK ho hext hfit hrr hv hc=>exact .cap hsz hl (hsame rfl).2 hK (ho.jR (hsame rfl).1) hext hfit (hrr.mono hs) hv hc
 |nst hsz hl hS hK ho hext hfit hrr hv=>refine .nst hsz hl (hsame rfl).2 hK (ho.jR (hsame rfl).1) hext hfit (fun i s hi=>?_) hv;obtain⟨v,h1,h2⟩:=hrr i s hi;refine⟨v,h1,?_⟩;cases h2 with|nil=>exact .nil|@bf rows _ b h hS hK=>obtain⟨k1,k2⟩:=hkp _ _ rfl i b ⟨rows,v,hi,(ho.cell _).trans h1,h.bU⟩;exact .bf (h.mono hs k1) k2 hK|out h=>exact .out (h.mono hs hr)
def Io(w0 w:World):Prop:=w.os=w0.os/\w.output=w0.output/\w.tape=w0.tape/\w0.drawn*0<=w.drawn*0
theorem Io.trans{a b c:World}(h:Io a b)(h2:Io b c):Io a c:=⟨h2.1.trans h.1,h2.2.1.trans h.2.1,h2.2.2.1.trans h.2.2.1,dg h.2.2.2 h2.2.2.2⟩
theorem Io.refl(w:World):Io w w:=⟨rfl,rfl,rfl,ak _⟩
structure Cy(K:Nat->Prop)(w0 w:World):Prop where
 AN:∀b,K b->b<w0.heap.size
 jT:∀b,K b->w.heap[b]?=w0.heap[b]?
 grow:w0.heap.size<=w.heap.size
 vi:∀a,a.block<w0.heap.size->w.frozen? a=w0.frozen? a
 bf:∀b aH,kN w0 b aH->∃arr',kN w b arr'/\arr'.size=aH.size
 io:Io w0 w
def Nz:Nat->Option (Array Value):=fun g => if g = 1 then some (([1, 10, 100, 1000, 10000, 100000, 1000000, 10000000, 100000000, 1000000000, 10000000000, 100000000000, 1000000000000, 10000000000000, 100000000000000, 1000000000000000, 10000000000000000, 100000000000000000, 1000000000000000000, 10000000000000000000] : List Int).map fun x => Value.int .u64 x).toArray else none
def ph(S:Nat->Prop)(w:World):Prop:=∀g,(∀d,Lo g=some d->RD S w d (.pointer (some ⟨g,0,none⟩)))/\∀cs,Nz g=some cs->S g/\∃t fz,w.heap[g]?=some (.cells cs t fz)
theorem ph.mono{S S':Nat->Prop}{w w':World}(h:ph S w)(hs:eM S w S' w'):ph S' w':=fun g=>⟨fun d hg=>((h g).1 d hg).mono hs,fun cs hg=>⟨hs.sub _ ((h g).2 cs hg).1,by rw[hs.same _ ((h g).2 cs hg).1];exact((h g).2 cs hg).2⟩⟩
def Ns(w:World)(φ:Nat->eG)(hf:Nat->Option Ob):Prop:=∀i sz sl k x,hf i=some (.nst sz sl)->nH w (φ i) sl k x->
 (∀j b,hf j=some b->bP b=true->(φ j).bU≠x)/\∀j sz' sl' k',hf j=some (.nst sz' sl')->nH w (φ j) sl' k' x->j=i/\k'=k
structure Inv(S K:Nat->Prop)(w0:World)(Kn:Nat->Prop)(φ:Nat->eG)(hf:Nat->Option Ob)(w:World):Prop where
 pU:∀b,S b->b<w.heap.size
 sk:∀b,S b->¬K b
 j8:Cy K w0 w
 fC:∀id o,hf id=some o->Kn id/\RO S K w Kn φ (φ id) o
 kJ:∀i j a b,hf i=some a->hf j=some b->bP a=true->bP b=true->i≠j->(φ i).bU≠(φ j).bU
 wD:ph S w
 rp:Ns w φ hf
def a_(u:dD)(hf:Nat->Option Ob)(id:Nat):Option Ob:=match bM u id with|some o=>o|none=>hf id
theorem eP{α:Type}(a b:List (Nat×α))(k:Nat):bM (a++b) k=match bM a k with|some x=>some x|none=>bM b k:=by induction a with|nil=>rfl|cons p r ih=>obtain⟨i,x⟩:=p;simp only[List.cons_append,bM];cases h:(i==k)<;>simp[ih]
theorem eI(u:dD)(h:bl):au (u++h)=a_ u (au h):=by funext id;simp only[au,a_,eP];cases bM u id<;>simp
theorem dU(hf:Nat->Option Ob):a_ [] hf=hf:=rfl
theorem bB(i:Nat)(o:Option Ob)(u:dD)(hf:Nat->Option Ob)(id:Nat):a_ ((i,o)::u) hf id=if i=id then o else a_ u hf id:=by
 simp only[a_,bM];by_cases h:i=id
 .simp [h]
 .have e:(i==id)=false:=by simpa using h
  simp[h,e]
theorem cK(u v:dD)(hf:Nat->Option Ob):a_ (u++v) hf=a_ u (a_ v hf):=by funext id;simp only[a_,eP];cases bM u id<;>simp
theorem Inv.pY{S S' K:Nat->Prop}{w0 w w':World}{Kn Kn':Nat->Prop}{φ φ':Nat->eG}{hf hf':Nat->Option Ob}(h:Inv S K w0 Kn φ hf w)
  (hs:eM S w S' w') (hr:Ren Kn φ Kn' φ') (hslt:∀b,S' b->b<w'.heap.size) (hsk:∀b,S' b->¬K b) (hfrm:Cy K w0 w')
  (hobj:∀id o,hf' id=some o->(hf id=some o/\(bP o=true->w'.heap[(φ id).bU]?=w.heap[(φ id).bU]?/\¬S' (φ id).bU)/\Le S' w w' (φ id) o)\/(Kn' id/\RO S' K w' Kn' φ' (φ' id) o))
  (hdist:∀i j a b,hf' i=some a->hf' j=some b->bP a=true->bP b=true->i≠j->(φ' i).bU≠(φ' j).bU) (hprv:Ns w' φ' hf'):
  Inv S' K w0 Kn' φ' hf' w' where
 pU:=hslt
 sk:=hsk
 j8:=hfrm
 kJ:=hdist
 wD:=h.wD.mono hs
 rp:=hprv
 fC id o ho:=by
  rcases hobj id o ho with⟨h1,h2,h3⟩|h1
  .obtain ⟨hk,hro⟩:=h.fC id o h1;refine⟨hr.sub _ hk,?_⟩;rw[hr.same _ hk];exact hro.mono hs hr h2 h3
  .exact h1
theorem nH.same{w w':World}{l:eG}{sl:List iq}{k x:Nat}(h:w'.heap[l.bU]?=w.heap[l.bU]?):nH w' l sl k x<->nH w l sl k x:=by unfold nH;rw[show∀i,w'.cell? ⟨l.bU,i,none⟩=w.cell? ⟨l.bU,i,none⟩from fun i=>jt h i]
theorem RO.C3{S K:Nat->Prop}{w:World}{Kn:Nat->Prop}{φ:Nat->eG}{l:eG}{sz:Nat}{sl:List iq}{k x:Nat}(h:RO S K w Kn φ l (.nst sz sl))(hp:nH w l sl k x):
  ¬S x/\¬K x/\x<w.heap.size/\∃rows v,sl[k]?=some (.bf rows)/\w.cell? ⟨l.bU,l.aL+k,none⟩=some v/\Cv S w sz rows v x:=by
 cases h with
 |nst hsz hl hS hK ho hext hfit hr hv=>
  obtain⟨rows,v,h1,h2,h3⟩:=hp;obtain⟨v',h4,h5⟩:=hr k _ h1;obtain rfl:v'=v:=by rw[ho.cell,h4]at h2;exact aa h2
  cases h5 with
  |@bf _ _ b h6 hS hK=>
   obtain rfl:b=x:=by rw[h6.bU]at h3;exact aa h3
   obtain⟨aH,h7⟩:=h6.bf;exact⟨hS,hK,h7.lt,rows,v',h1,h2,h6⟩
theorem Inv.C3{S K:Nat->Prop}{w0 w:World}{Kn:Nat->Prop}{φ:Nat->eG}{hf:Nat->Option Ob}(h:Inv S K w0 Kn φ hf w){i sz k x:Nat}{sl:List iq}(hi:hf i=some (.nst sz sl))(hp:nH w (φ i) sl k x):
  ¬S x/\¬K x/\x<w.heap.size/\∃rows v,sl[k]?=some (.bf rows)/\w.cell? ⟨(φ i).bU,(φ i).aL+k,none⟩=some v/\Cv S w sz rows v x:=(h.fC i _ hi).2.C3 hp
def Ld(S':Nat->Prop)(w w':World)(φ φ':Nat->eG)(hf hf':Nat->Option Ob):Prop:=∀id sz sl,hf' id=some (.nst sz sl)->hf id=some (.nst sz sl)/\w'.heap[(φ id).bU]?=w.heap[(φ id).bU]?/\
 ∀k x,nH w (φ id) sl k x->w'.heap[x]?=w.heap[x]?/\¬S' x/\∀j b,hf' j=some b->bP b=true->(φ' j).bU≠x
theorem Inv.ll{S S' K:Nat->Prop}{w0 w w':World}{Kn Kn':Nat->Prop}{φ φ':Nat->eG}{hf hf':Nat->Option Ob}(h:Inv S K w0 Kn φ hf w)
  (hs:eM S w S' w') (hr:Ren Kn φ Kn' φ') (hslt:∀b,S' b->b<w'.heap.size) (hsk:∀b,S' b->¬K b) (hfrm:Cy K w0 w')
  (hobj:∀id o,hf' id=some o->(hf id=some o/\(bP o=true->w'.heap[(φ id).bU]?=w.heap[(φ id).bU]?/\¬S' (φ id).bU))\/(Kn' id/\RO S' K w' Kn' φ' (φ' id) o))
  (hdist:∀i j a b,hf' i=some a->hf' j=some b->bP a=true->bP b=true->i≠j->(φ' i).bU≠(φ' j).bU) (hrest:Ld S' w w' φ φ' hf hf'):
  Inv S' K w0 Kn' φ' hf' w':=by
 have e:∀id sz sl,hf' id=some (.nst sz sl)->φ' id=φ id:=fun id sz sl hi=>hr.same _ (h.fC id _ (hrest id sz sl hi).1).1;have hpat:∀id sz sl k x,hf' id=some (.nst sz sl)->nH w' (φ' id) sl k x->nH w (φ id) sl k x:=fun id sz sl k x hi hp=>by rw[e id sz sl hi]at hp;exact(nH.same (hrest id sz sl hi).2.1).1 hp
 refine h.pY hs hr hslt hsk hfrm (fun id o ho=>?_) hdist fun i sz sl k x hi hp=>?_
 .rcases hobj id o ho with⟨h1,h2⟩|h1
  .exact .inl ⟨h1,h2,fun sz sl eo k x hp=>by subst eo;obtain⟨a,b,_⟩:=(hrest id sz sl ho).2.2 k x hp;exact⟨a,b⟩⟩
  .exact .inr h1
 .have hp':=hpat i sz sl k x hi hp;refine⟨((hrest i sz sl hi).2.2 k x hp').2.2,fun j sz' sl' k' hj hpj=>?_⟩;exact(h.rp i sz sl k x (hrest i sz sl hi).1 hp').2 j sz' sl' k' (hrest j sz' sl' hj).1 (hpat j sz' sl' k' x hj hpj)
theorem fJ{w:World}{o:Obj}{b:Nat}(h:b<w.heap.size):({w with heap:=w.heap.push o}:World).heap[b]?=w.heap[b]?:=by simp[Array.getElem?_push,Nat.ne_of_lt h]
theorem sW(w:World)(aH:Array Value)(t:TypeId):kN {w with heap:=w.heap.push (.cells aH t)} w.heap.size aH:=⟨t,by simp⟩
theorem yY(w:World)(aH:Array Value)(t:TypeId)(a:Addr):({w with heap:=w.heap.push (.cells aH t)}:World).frozen? a=w.frozen? a:=by
 unfold World.frozen?;rcases Nat.lt_trichotomy a.block w.heap.size with h|h|h
 .rw [fJ h]
 .simp [h]
 .rw [dT (by simp;omega),dT (by omega)]
theorem Cy.push{K:Nat->Prop}{w0 w:World}(h:Cy K w0 w)(aH:Array Value)(t:TypeId):Cy K w0 {w with heap:=w.heap.push (.cells aH t)}where
 AN:=h.AN
 jT b hb:=(fJ (bQ (h.AN b hb) h.grow)).trans (h.jT b hb)
 grow:=by have:=h.grow;simp;omega
 vi a ha:=(yY w aH t a).trans (h.vi a ha)
 bf b a ha:=let⟨a',h1,h2⟩:=h.bf b a ha;⟨a',h1.jR (fJ h1.lt),h2⟩
 io:=h.io
theorem Cy.sU{K:Nat->Prop}{w0 w w':World}(h:Cy K w0 w){c:Nat}(hother:∀b,b≠c->w'.heap[b]?=w.heap[b]?)
  (hsz:∀aH,kN w c aH->∃arr',kN w' c arr'/\arr'.size=aH.size) (b:Nat) (aH:Array Value) (ho:kN w0 b aH):∃arr',kN w' b arr'/\arr'.size=aH.size:=by
 obtain⟨a,h1,h2⟩:=h.bf b aH ho;by_cases e:b=c
 .subst e;obtain⟨a',h3,h4⟩:=hsz a h1;exact⟨a',h3,h4.trans h2⟩
 .exact ⟨a,h1.jR (hother b e),h2⟩
theorem Cy.pf{K:Nat->Prop}{w0 w:World}(h:Cy K w0 w)(n:Nat)(hn:w.drawn<=n):Cy K w0 {w with drawn:=n}:=⟨h.AN,h.jT,h.grow,h.vi,h.bf,h.io.1,h.io.2.1,h.io.2.2.1,ak _⟩
theorem eM.push{S:Nat->Prop}{w:World}(hs:∀b,S b->b<w.heap.size)(o:Obj):eM S w S {w with heap:=w.heap.push o}:=⟨fun _ h=>h,fun b h=>fJ (hs b h)⟩
theorem eM.pf(S:Nat->Prop)(w:World)(n:Nat):eM S w S {w with drawn:=n}:=⟨fun _ h=>h,fun _ _=>rfl⟩
theorem Inv.xT{S K:Nat->Prop}{w0 w w':World}{Kn Kn':Nat->Prop}{φ φ':Nat->eG}{hf:Nat->Option Ob}(h:Inv S K w0 Kn φ hf w)(hr:Ren Kn φ Kn' φ')(hs:∀b,b<w.heap.size->w'.heap[b]?=w.heap[b]?):Ld S w w' φ φ' hf hf:=fun id sz sl hi=>by
 obtain⟨_,h1⟩:=h.fC id _ hi;have hlt:(φ id).bU<w.heap.size:=by cases h1 with|nst _ _ _ _ ho=>exact ho.lt
 refine⟨hi,hs _ hlt,fun k x hp=>?_⟩;obtain⟨h2,_,h3,_⟩:=h.C3 hi hp;refine⟨hs x h3,h2,fun j b hj hb=>?_⟩;rw[hr.same j (h.fC j b hj).1];exact(h.rp id sz sl k x hi hp).1 j b hj hb
theorem Inv.uV{S K:Nat->Prop}{w0 w w':World}{Kn:Nat->Prop}{φ:Nat->eG}{hf:Nat->Option Ob}(h:Inv S K w0 Kn φ hf w)(hs:∀b,b<w.heap.size->w'.heap[b]?=w.heap[b]?):Ld S w w' φ φ hf hf:=h.xT (Ren.refl _ _) hs
theorem Inv.pf{S K:Nat->Prop}{w0 w:World}{Kn:Nat->Prop}{φ:Nat->eG}{hf:Nat->Option Ob}(h:Inv S K w0 Kn φ hf w)(n:Nat)(hn:w.drawn<=n):
  Inv S K w0 Kn φ hf {w with drawn:=n}:=
 h.ll (eM.pf S w n) (Ren.refl _ _) h.pU h.sk (h.j8.pf n hn) (fun id o ho=>.inl ⟨ho,fun hown=>⟨rfl,by obtain⟨_,hro⟩:=h.fC id o ho;cases hro<;>simp_all[bP]⟩⟩) h.kJ (h.uV fun _ _=>rfl)
theorem RO.bf{S K:Nat->Prop}{w:World}{Kn:Nat->Prop}{φ:Nat->eG}{l:eG}{o:Ob}(h:RO S K w Kn φ l o)(ho:bP o=true):
  ¬S l.bU/\¬K l.bU/\l.bU<w.heap.size:=by
 cases h with|aH hsz hl hS hK hown=>exact⟨hS,hK,hown.lt⟩|box hb hS hK hown=>exact⟨hS,hK,hown.lt⟩|map hS hK hmp=>exact⟨hS,hK,(aP.1 hmp).1⟩|cap hsz hl hS hK hown=>exact⟨hS,hK,hown.lt⟩|nst hsz hl hS hK hown=>exact⟨hS,hK,hown.lt⟩|_=>simp[bP]at ho
def ext(φ:Nat->eG)(i:Nat)(l:eG):Nat->eG:=fun j=>if j=i then l else φ j
theorem fW{Kn:Nat->Prop}{φ:Nat->eG}{i:Nat}(l:eG)(hi:¬Kn i):Ren Kn φ (fun j=>Kn j\/j=i) (ext φ i l):=⟨fun _ h=>.inl h,fun j h=>by simp only[ext];rw[if_neg];rintro rfl;exact hi h⟩
abbrev Cw(o:Ob):Prop:=∀sz sl(k:Nat)rows,o=.nst sz sl->sl[k]?≠some (iq.bf rows)
theorem Inv.B1{S K:Nat->Prop}{w0 w w':World}{Kn:Nat->Prop}{φ:Nat->eG}{hf:Nat->Option Ob}(h:Inv S K w0 Kn φ hf w){i:Nat}{l:eG}{o:Ob}(hno:Cw o)
  (hsame:∀b,b<w.heap.size->w'.heap[b]?=w.heap[b]?) (hl:bP o=true->∀id sz sl k x,hf id=some (.nst sz sl)->nH w (φ id) sl k x->l.bU≠x):Ns w' (ext φ i l) (a_ [(i,some o)] hf):=by
 have key:∀a sz sl k x,a_ [(i,some o)] hf a=some (.nst sz sl)->nH w' (ext φ i l a) sl k x->hf a=some (.nst sz sl)/\nH w (φ a) sl k x:=by
  intro a sz sl k x ha hp;rw[bB]at ha;by_cases e:i=a
  .rw [if_pos e]at ha;obtain rfl:=aa ha;obtain⟨rows,v,h1,_⟩:=hp;exact absurd h1 (hno _ _ _ _ rfl)
  .rw [if_neg e,dU]at ha;refine⟨ha,?_⟩;have e1:ext φ i l a=φ a:=by simp only[ext];rw[if_neg (fun q=>e q.symm)]
   rw[e1]at hp;obtain⟨_,h1⟩:=h.fC a _ ha;exact(nH.same (hsame _ (by cases h1 with|nst _ _ _ _ ho=>exact ho.lt))).1 hp
 intro a sz sl k x ha hp;obtain⟨h1,h2⟩:=key a sz sl k x ha hp;obtain⟨p1,p2⟩:=h.rp a sz sl k x h1 h2;refine⟨fun j b hj hown=>?_,fun j sz' sl' k' hj hpj=>?_⟩
 .rw [bB]at hj;by_cases e:i=j
  .rw [if_pos e]at hj;obtain rfl:=aa hj;simp only[ext];rw[if_pos e.symm];exact hl hown a sz sl k x h1 h2
  .rw [if_neg e,dU]at hj;simp only[ext];rw[if_neg (fun q=>e q.symm)];exact p1 j b hj hown
 .obtain ⟨h3,h4⟩:=key j sz' sl' k' x hj hpj;exact p2 j sz' sl' k' h3 h4
theorem Inv.yQ{S K:Nat->Prop}{w0 w w':World}{Kn:Nat->Prop}{φ:Nat->eG}{hf:Nat->Option Ob}(h:Inv S K w0 Kn φ hf w){id:Nat}{o:Ob}(ho:hf id=some o)(hsame:∀b,b<w.heap.size->w'.heap[b]?=w.heap[b]?):Le S w w' (φ id) o:=by intro sz sl e k x hp;subst e;obtain⟨h1,_,h2,_⟩:=h.C3 ho hp;exact⟨hsame x h2,h1⟩
theorem Inv.alloc{S K:Nat->Prop}{w0 w:World}{Kn:Nat->Prop}{φ:Nat->eG}{hf:Nat->Option Ob}(h:Inv S K w0 Kn φ hf w){i:Nat}(hi:¬Kn i)
  (aH:Array Value) (t:TypeId) (sz c:Nat) (o:Ob)
  (hro:RO S K {w with heap:=w.heap.push (.cells aH t)} (fun j=>Kn j\/j=i) (ext φ i ⟨w.heap.size,0,sz,aH.size,c⟩) ⟨w.heap.size,0,sz,aH.size,c⟩ o) (hno:Cw o:=by intro _ _ _ _ e;cases e):
  Inv S K w0 (fun j=>Kn j\/j=i) (ext φ i ⟨w.heap.size,0,sz,aH.size,c⟩) (a_ [(i,some o)] hf) {w with heap:=w.heap.push (.cells aH t)}:=by
 refine h.pY (eM.push h.pU _) (fW _ hi) (fun b hb=>by have:=h.pU b hb;simp;omega) h.sk (h.j8.push aH t) ?_ ?_ (h.B1 hno (fun b hb=>fJ hb) fun _ id sz sl k x ha hp e=>by have:=(h.C3 ha hp).2.2.1;simp only at e;omega)
 .intro id o' ho;rw[bB]at ho;by_cases e:i=id
  .subst e;rw[if_pos rfl]at ho;obtain rfl:o=o':=by simpa using ho
   refine .inr ⟨.inr rfl,?_⟩;simpa[ext]using hro
  .rw [if_neg e,dU]at ho;refine .inl ⟨ho,fun hown=>?_,h.yQ ho fun b hb=>fJ hb⟩;obtain⟨_,h2⟩:=h.fC id o' ho;obtain⟨a,b,c⟩:=h2.bf hown;exact⟨fJ c,a⟩
 .have key:∀j b,j≠i->hf j=some b->bP b=true->(ext φ i ⟨w.heap.size,0,sz,aH.size,c⟩ j).bU<w.heap.size:=by intro j b hj hb hown;obtain⟨_,h2⟩:=h.fC j b hb;simpa[ext,hj]using(h2.bf hown).2.2
  intro a b oa ob ha hb hoa hob hne;rw[bB]at ha hb;by_cases ea:i=a
  .by_cases eb:i=b
   .exact absurd (ea.symm.trans eb) hne
   .rw [if_neg eb,dU]at hb;have:=key b ob (fun e=>eb e.symm) hb hob;have e1:(ext φ i ⟨w.heap.size,0,sz,aH.size,c⟩ a).bU=w.heap.size:=by simp[ext,ea]
    omega
  .rw [if_neg ea,dU]at ha;have h1:=key a oa (fun e=>ea e.symm) ha hoa;by_cases eb:i=b
   .have e1:(ext φ i ⟨w.heap.size,0,sz,aH.size,c⟩ b).bU=w.heap.size:=by simp[ext,eb]
    omega
   .rw [if_neg eb,dU]at hb;have:=h.kJ a b oa ob ha hb hoa hob hne;have e1:¬a=i:=fun e=>ea e.symm;have e2:¬b=i:=fun e=>eb e.symm;simpa[ext,e1,e2]using this
theorem wH{w:World}{o:Obj}(ho:∀c t r,o≠.cells c t r)(a:Addr):({w with heap:=w.heap.push o}:World).frozen? a=w.frozen? a:=by
 unfold World.frozen?;rcases Nat.lt_trichotomy a.block w.heap.size with h|h|h
 .rw [fJ h]
 .rw [h];simp only[Array.getElem?_push_size,dT (ak _)];cases o with|cells c t r=>exact absurd rfl (ho c t r)|_=>rfl
 .rw [dT (by simp;omega),dT (by omega)]
theorem Inv.K8{S K:Nat->Prop}{w0 w:World}{Kn:Nat->Prop}{φ:Nat->eG}{hf:Nat->Option Ob}(h:Inv S K w0 Kn φ hf w){i:Nat}(hi:¬Kn i)
  {ob:Obj} (hob:∀c t r,ob≠.cells c t r) (l:eG) (hl:l.bU=w.heap.size) (o:Ob)
  (hro:RO S K {w with heap:=w.heap.push ob} (fun j=>Kn j\/j=i) (ext φ i l) l o) (hno:Cw o:=by intro _ _ _ _ e;cases e):
  Inv S K w0 (fun j=>Kn j\/j=i) (ext φ i l) (a_ [(i,some o)] hf) {w with heap:=w.heap.push ob}:=by
 have hfrm:Cy K w0 {w with heap:=w.heap.push ob}:=
  ⟨h.j8.AN,fun b hb=>(fJ (bQ (h.j8.AN b hb) h.j8.grow)).trans (h.j8.jT b hb),by have:=h.j8.grow;simp;omega,fun a ha=>(wH hob a).trans (h.j8.vi a ha),
   fun b a ha=>let⟨a',h1,h2⟩:=h.j8.bf b a ha;⟨a',h1.jR (fJ h1.lt),h2⟩,h.j8.io⟩
 refine h.pY (eM.push h.pU _) (fW _ hi) (fun b hb=>by have:=h.pU b hb;simp;omega) h.sk hfrm ?_ ?_ (h.B1 hno (fun b hb=>fJ hb) fun _ id sz sl k x ha hp e=>by have:=(h.C3 ha hp).2.2.1;omega)
 .intro id o' ho;rw[bB]at ho;by_cases e:i=id
  .subst e;rw[if_pos rfl]at ho;obtain rfl:o=o':=by simpa using ho
   refine .inr ⟨.inr rfl,?_⟩;simpa[ext]using hro
  .rw [if_neg e,dU]at ho;refine .inl ⟨ho,fun hown=>?_,h.yQ ho fun b hb=>fJ hb⟩;obtain⟨_,h2⟩:=h.fC id o' ho;obtain⟨a,b,c⟩:=h2.bf hown;exact⟨fJ c,a⟩
 .have key:∀j b,j≠i->hf j=some b->bP b=true->(ext φ i l j).bU<w.heap.size:=by intro j b hj hb hown;obtain⟨_,h2⟩:=h.fC j b hb;simpa[ext,hj]using(h2.bf hown).2.2
  intro a b oa ob ha hb hoa hob hne;rw[bB]at ha hb;by_cases ea:i=a
  .by_cases eb:i=b
   .exact absurd (ea.symm.trans eb) hne
   .rw [if_neg eb,dU]at hb;have:=key b ob (fun e=>eb e.symm) hb hob;have e1:(ext φ i l a).bU=w.heap.size:=by simp[ext,ea,hl]
    omega
  .rw [if_neg ea,dU]at ha;have h1:=key a oa (fun e=>ea e.symm) ha hoa;by_cases eb:i=b
   .have e1:(ext φ i l b).bU=w.heap.size:=by simp[ext,eb,hl]
    omega
   .rw [if_neg eb,dU]at hb;have:=h.kJ a b oa ob ha hb hoa hob hne;have e1:¬a=i:=fun e=>ea e.symm;have e2:¬b=i:=fun e=>eb e.symm;simpa[ext,e1,e2]using this
theorem Inv.i_{S K:Nat->Prop}{w0 w:World}{Kn:Nat->Prop}{φ:Nat->eG}{hf hf':Nat->Option Ob}(h:Inv S K w0 Kn φ hf w)(hsub:∀id o,hf' id=some o->hf id=some o):
  Inv S K w0 Kn φ hf' w:=
 ⟨h.pU,h.sk,h.j8,fun id o ho=>h.fC id o (hsub id o ho),fun i j a b ha hb=>h.kJ i j a b (hsub _ _ ha) (hsub _ _ hb),h.wD,
  fun i sz sl k x hi hp=>let⟨a,b⟩:=h.rp i sz sl k x (hsub _ _ hi) hp;⟨fun j b hj=>a j b (hsub _ _ hj),fun j sz' sl' k' hj=>b j sz' sl' k' (hsub _ _ hj)⟩⟩
theorem Inv.set{S K:Nat->Prop}{w0 w w':World}{Kn:Nat->Prop}{φ:Nat->eG}{hf:Nat->Option Ob}(h:Inv S K w0 Kn φ hf w){id:Nat}{o o':Ob}
  (ho:hf id=some o) (hown:bP o=true) (hother:∀b,b≠(φ id).bU->w'.heap[b]?=w.heap[b]?) (hsize:w'.heap.size=w.heap.size)
  (hfrz:∀a,w'.frozen? a=w.frozen? a) (hsz:∀aH,kN w (φ id).bU aH->∃arr',kN w' (φ id).bU arr'/\arr'.size=aH.size) (hio:Io w w') (hro:eM S w S w'->RO S K w' Kn φ (φ id) o') (hn:∀sz sl,o'≠.nst sz sl:=by intro _ _ e;cases e):
  eM S w S w'/\Inv S K w0 Kn φ (a_ [(id,some o')] hf) w':=by
 obtain⟨hk,h0⟩:=h.fC id o ho;obtain⟨hS,hK,hlt⟩:=h0.bf hown;have hs:eM S w S w':=⟨fun _ h=>h,fun b hb=>hother b (fun e=>hS (e▸hb))⟩
 have fix:∀i a,a_ [(id,some o')] hf i=some a->bP a=true->∃a',hf i=some a'/\bP a'=true:=by
  intro i a ha hoa;rw[bB]at ha;by_cases e:id=i
  .subst e;exact⟨o,ho,hown⟩
  .rw [if_neg e,dU]at ha;exact⟨a,ha,hoa⟩
 refine⟨hs,h.ll hs (Ren.refl _ _) (fun b hb=>hsize▸h.pU b hb) h.sk ?_ ?_ ?_ ?_⟩
 .exact ⟨h.j8.AN,fun b hb=>(hother b (fun e=>hK (e▸hb))).trans (h.j8.jT b hb),hsize▸h.j8.grow,fun a ha=>(hfrz a).trans (h.j8.vi a ha),h.j8.sU hother hsz,h.j8.io.trans hio⟩
 .intro i x hx;rw[bB]at hx;by_cases e:id=i
  .subst e;rw[if_pos rfl]at hx;obtain rfl:o'=x:=by simpa using hx
   exact .inr ⟨hk,hro hs⟩
  .rw [if_neg e,dU]at hx;refine .inl ⟨hx,fun hox=>⟨hother _ ?_,((h.fC i x hx).2.bf hox).1⟩⟩;exact(h.kJ i id x o hx ho hox hown (fun e'=>e e'.symm))
 .intro i j a b ha hb hoa hob hne;obtain⟨a',ha',hoa'⟩:=fix i a ha hoa;obtain⟨b',hb',hob'⟩:=fix j b hb hob;exact h.kJ i j a' b' ha' hb' hoa' hob' hne
 .intro a sz sl ha;rw[bB]at ha;by_cases e:id=a
  .rw [if_pos e]at ha;exact absurd (aa ha) (hn _ _)
  .rw [if_neg e,dU]at ha;refine⟨ha,hother _ (h.kJ a id _ o ha ho rfl hown fun q=>e q.symm),fun k x hp=>?_⟩;obtain⟨p1,_⟩:=h.rp a sz sl k x ha hp;refine⟨hother x fun q=>p1 id o ho hown q.symm,(h.C3 ha hp).1,fun j b hj hb=>?_⟩;obtain⟨b',hb',hob'⟩:=fix j b hj hb;exact p1 j b' hb' hob'
variable{P:Program}
def dN(P:Program)(t:TypeId):Option Nat:=(P.info? t).map (·.size)
def dY(P:Program)(t:TypeId):Option Bool:=(P.underlying t).map fun|.struct _|.array _ _=>true|_=>false
def gr(P:Program)(t:TypeId):Option (List Value):=match(P.info? t).bind (·.zero)with|some z=>if z.cells.toList.all ck then some z.cells.toList else none|none=>none
theorem kL(b off n:Nat):(⟨b,off,none⟩:Addr).add n=⟨b,off+n,none⟩:=by unfold Addr.add;split<;>simp_all
theorem eK{t:TypeId}{n:Nat}(h:dN P t=some n)(w:World):(sizeOf t).run P w=.ok n w:=by simp only[dN,aG]at h;obtain⟨i,hi,rfl⟩:=h;simp[sizeOf,typeInfo,hi]
theorem bp{t:TypeId}{d:TypeDesc}(h:P.underlying t=some d)(w:World):(underlying t).run P w=.ok d w:=by simp[underlying,h]
theorem oP{t:TypeId}{g:Bool}(h:dY P t=some g)(w:World):(isAgg t).run P w=.ok g w:=by simp only[dY,aG]at h;obtain⟨d,hd,rfl⟩:=h;simp only[isAgg,Sem.run_bind,bp hd,Result.andThen_ok];cases d<;>rfl
theorem kq{t:TypeId}{z:List Value}(h:gr P t=some z)(w:World):
  ∃v,(zeroValue t).run P w=.ok v w/\v.cells.toList=z/\∀x∈z,ck x=true:=by
 simp only[gr]at h;split at h
 .rename_i v hv;split at h
  .rename_i hp;obtain rfl:=aa h;obtain⟨i,hi,hz⟩:=bE.1 hv;exact⟨v,by simp[zeroValue,typeInfo,hi,hz],rfl,fun x hx=>aQ.1 hp x hx⟩
  .simp at h
 .simp at h
section
variable{S K:Nat->Prop}{w0 w:World}{Kn:Nat->Prop}{φ:Nat->eG}{hf:Nat->Option Ob}
theorem AM(agg:Bool)(n:Nat)(cells:List D):I_ agg n cells=yN agg n (cells.map .d):=by
 unfold I_ yN;cases agg
 .cases cells<;>rfl
 .simp [List.map_take]
theorem qG{t:TypeId}{agg:Bool}{n:Nat}(ha:dY P t=some agg)(hn:dN P t=some n){cells:List C}{b o:Nat}{v:TV}
  (hc:∀(j:Nat)(x:C),cells[j]?=some x->∃u,w.cell? ⟨b,o+j,none⟩=some u/\RC S w Kn φ x u) (h:yN agg n cells=some v):
  ∃val,(loadVar t ⟨b,o,none⟩).run P w=.ok val w/\dO S w Kn φ v val:=by
 unfold yN at h;cases agg
 .simp only[aM,if_false]at h;cases cells with
  |nil=>simp at h
  |cons x r=>
   obtain rfl:TV.c x=v:=by simpa using h
   obtain⟨u,hu,hr⟩:=hc 0 x rfl;refine⟨u,?_,.c hr⟩;simp only[loadVar,Sem.run_bind,oP ha,Result.andThen_ok,aM,if_false,run_load];simp only[cN]at hu;simp[hu]
 .simp only[if_true]at h;split at h
  .rename_i hle;obtain rfl:=aa h
   have hcell:∀j,j<n->w.cell? ((⟨b,o,none⟩:Addr).add j)=some ((w.cell? ⟨b,o+j,none⟩).getD undef):=by
    intro j hj;have hj':j<cells.length:=by omega
    obtain⟨u,hu,_⟩:=hc j cells[j] (by simp[hj']);rw[kL,hu];rfl
   refine⟨.agg ((dz n).map fun j=>(w.cell? ⟨b,o+j,none⟩).getD undef).toArray,?_,.agg (by simp;omega) ?_⟩
   .simp only[loadVar,Sem.run_bind,oP ha,Result.andThen_ok,if_true,eK hn,run_loadCells w _ n _ hcell,Sem.run_pure]
   .intro i x hi;rw[dh]at hi;split at hi
    .rename_i hin;obtain⟨u,hu,hr⟩:=hc i x hi;have:((dz n).map fun j=>(w.cell? ⟨b,o+j,none⟩).getD undef).toArray.getD i undef=u:=by simp[gX,hin,hu]
     rw[this];exact hr
    .simp at hi
  .simp at h
theorem wT{id dv:Nat}{sz:Nat}{rows:List (List D)}(hI:Inv S K w0 Kn φ hf w)(ho:hf id=some (.aH sz rows)\/hf id=some (.lB sz rows)){r:List D}(hr:rows[dv]?=some r)(off:Nat):
  (φ id).sz=sz/\r.length=sz/\∀(j:Nat)(x:C),((r.drop off).map C.d)[j]?=some x->∃u,w.cell? ⟨(φ id).bU,(φ id).aL+dv*(φ id).sz+off+j,none⟩=some u/\RC S w Kn φ x u:=by
 rcases ho with ho|ho
 .obtain ⟨hk,h0⟩:=hI.fC _ _ ho;cases h0 with|aH hsz hl hS hK hown hext hfit hrr=>refine⟨hl,hrr.1 _ _ hr,fun j x hj=>?_⟩;rw[aB,bw]at hj;obtain⟨d,hd,rfl⟩:=aG.1 hj;obtain⟨u,hu,hrd⟩:=hrr.2 dv r hr (off+j) d hd;refine⟨u,?_,.d hrd⟩;rw[hown.cell,hl,<-hu];show _=_;congr 1;omega
 .obtain ⟨hk,h0⟩:=hI.fC _ _ ho;cases h0 with|lB hsz hl hS hrr=>refine⟨hl,hrr.1 _ _ hr,fun j x hj=>?_⟩;rw[aB,bw]at hj;obtain⟨d,hd,rfl⟩:=aG.1 hj;obtain⟨u,hu,hrd⟩:=hrr.2 dv r hr (off+j) d hd;refine⟨u,?_,.d hrd⟩;rw[hl,<-hu];simp only[cg]
theorem sN{t:TypeId}{agg:Bool}{n:Nat}(ha:dY P t=some agg)(hn:dN P t=some n){p:C}{H:bl}{v:TV}{ap:List Nat}{pv:Value}
  (hI:Inv S K w0 Kn φ (au H) w) (hp:RC S w Kn φ p pv) (h:e_ agg n p H=some (v,ap)):
  ∃val,(Instr.loadAt t pv).run P w=.ok val w/\dO S w Kn φ v val:=by
 unfold e_ at h;split at h
 .rename_i cells;split at h
  .rename_i v' hv;obtain⟨rfl,rfl⟩:v'=v/\[]=ap:=by simpa using h
   rw[AM]at hv;cases hp with
   |d hd=>cases hd with|pt f hb hcell hrd=>obtain⟨val,h1,h2⟩:=qG (Kn:=Kn) (φ:=φ) (S:=S) ha hn (cells:=cells.map .d) (fun j x hj=>by rw[aB]at hj;obtain⟨d,hd,rfl⟩:=aG.1 hj;exact⟨_,hcell j d hd,.d (hrd j d hd)⟩) hv;exact⟨val,by simp[Instr.loadAt,Instr.sureAddr,h1],h2⟩
  .simp at h
 .rename_i id dv off
  have key:∀sz rows,(au H id=some (.aH sz rows)\/au H id=some (.lB sz rows))->
    (match rows[dv]?with|some r=>(match I_ agg n (r.drop off)with|some v=>some (v,[id])|none=>none)|none=>none)=some (v,ap)->
    ∃val,(Instr.loadAt t pv).run P w=.ok val w/\dO S w Kn φ v val:=by
   intro sz rows ho h;split at h
   .rename_i r hr;split at h
    .rename_i v' hv;obtain⟨rfl,rfl⟩:v'=v/\[id]=ap:=by simpa using h
     rw[AM]at hv;obtain⟨hl,hrl,hc⟩:=wT hI ho hr off;cases hp with|ep hk=>obtain⟨val,h1,h2⟩:=qG ha hn hc hv;exact⟨val,by simp[Instr.loadAt,Instr.sureAddr,h1],h2⟩
    .simp at h
   .simp at h
  split at h
  .rename_i sz rows ho;exact key sz rows (.inl ho) h
  .rename_i sz rows ho;exact key sz rows (.inr ho) h
  .simp at h
 .rename_i id off;split at h
  .rename_i cells ho;split at h
   .rename_i v' hv;obtain⟨rfl,rfl⟩:v'=v/\[id]=ap:=by simpa using h
    obtain⟨hk,h0⟩:=hI.fC _ _ ho;cases h0 with
    |box hb hS hK hown hlen hrr=>cases hp with|op hk=>obtain⟨val,h1,h2⟩:=qG (S:=S) (Kn:=Kn) (φ:=φ) ha hn (cells:=cells.drop off) (b:=(φ id).bU) (o:=(φ id).aL+off) (fun j x hj=>by rw[bw]at hj;have hlt:=(ah.1 hj).1;rw[hlen]at hlt;refine⟨_,?_,hrr _ _ hj⟩;rw[hown.cell,hb];simp[gX,hlt]) hv;exact⟨val,by simp[Instr.loadAt,Instr.sureAddr,h1],h2⟩
   .simp at h
  .rename_i cells ho;split at h
   .rename_i v' hv;obtain⟨rfl,rfl⟩:v'=v/\[id]=ap:=by simpa using h
    rw[AM]at hv;obtain⟨hk,h0⟩:=hI.fC _ _ ho;cases h0 with
    |kA hb hS hrr=>cases hp with|op hk=>obtain⟨val,h1,h2⟩:=qG (S:=S) (Kn:=Kn) (φ:=φ) ha hn (cells:=(cells.drop off).map .d) (b:=(φ id).bU) (o:=(φ id).aL+off) (fun j x hj=>by rw[aB,bw]at hj;obtain⟨d,hd,rfl⟩:=aG.1 hj;obtain⟨u,hu,hr⟩:=hrr _ _ hd;exact⟨u,by rw[hb,<-hu];simp,.d hr⟩) hv;exact⟨val,by simp[Instr.loadAt,Instr.sureAddr,h1],h2⟩
   .simp at h
  .simp at h
 .simp at h
theorem uA{w:World}{b:Nat}{old aH:Array Value}(h:kN w b old)(a:Addr):(w.setRow b aH).frozen? a=w.frozen? a:=by
 obtain⟨t,h⟩:=h;unfold World.frozen?;by_cases e:a.block=b
 .rw [e,setRow_heap w b old aH t _ h,h]
 .rw [setRow_other w b _ _ e]
theorem sV{w:World}{b:Nat}{old aH:Array Value}(h:kN w b old):kN (w.setRow b aH) b aH:=by obtain⟨t,h⟩:=h;exact⟨t,setRow_heap w b old aH t _ h⟩
theorem lq(v:Value):v.oneCell'=one v:=by cases v<;>rfl
theorem dO.cells{S:Nat->Prop}{w:World}{Kn:Nat->Prop}{φ:Nat->eG}{v:TV}{val:Value}{cs:List C}(h:dO S w Kn φ v val)(hc:cellsOf v=some cs):
  cs.length=val.cells.size/\(∀(i:Nat)(x:C),cs[i]?=some x->RC S w Kn φ x (val.cells.getD i undef))/\∀x∈val.cells.toList,one x=true:=by
 cases h with
 |@c x v h=>
  obtain rfl:[x]=cs:=by simpa[cellsOf]using hc
  have e:=nu h.one;refine⟨by rw[e];rfl,fun i y hi=>?_,fun y hy=>?_⟩
  .cases i with
   |zero=>
    rw[e];obtain rfl:x=y:=by simpa using hi
    exact h
   |succ i=>simp at hi
  .rw [e]at hy;obtain rfl:y=val:=by simpa using hy
   exact h.one
 |@agg cs' aH hlen h=>
  obtain rfl:cs'=cs:=by simpa[cellsOf]using hc
  refine⟨hlen,h,fun y hy=>?_⟩;obtain⟨i,hi,rfl⟩:=fx hy;have hi':i<aH.size:=by simpa[Value.cells]using hi
  have:=(h i (cs'[i]'(by omega)) (by simp[hlen,hi'])).one;simpa[gX,hi',Value.cells]using this
 |eU hlen h=>simp[cellsOf]at hc
theorem Hl{t:TypeId}{n:Nat}(hn:dN P t=some n){b o:Nat}{aH:Array Value}{val:Value}(ho:kN w b aH)(hlen:val.cells.size=n)(hfit:o+n<=aH.size)
  (hone:∀x∈val.cells.toList,one x=true):
  (storeVar t ⟨b,o,none⟩ val).run P w=.ok () (w.setRow b (aH.toList.take o++val.cells.toList++aH.toList.drop (o+n)).toArray):=by
 obtain⟨ty,hb⟩:=ho;have:=run_storeCells_at P b o ty val.cells.toList 0 aH w hb (by simp;omega) (fun v hv=>by rw[lq];exact hone v hv);have e:val.cells.toList.length=n:=by simpa using hlen
 rw[e]at this;simp only[cN]at this;simp only[storeVar,Sem.run_bind,eK hn,Result.andThen_ok,hlen,ne_eq,not_true_eq_false,if_false];exact this
theorem gu{α:Type}(l:List α)(off:Nat)(p:List α)(hfit:off+p.length<=l.length)(i:Nat):
  (aV l off p)[i]?=if i<off then l[i]?else if i<off+p.length then p[i-off]?else l[i]?:=by
 unfold aV;by_cases h1:i<off
 .rw [List.append_assoc,bn (by simp;omega)];simp[h1]
 .by_cases h2:i<off+p.length
  .rw [bn (by simp;omega),bo (by simp;omega)];simp only[dp,h1,h2,if_true,if_false];congr 1;omega
  .rw [bo (by simp;omega)];simp only[List.length_append,dp,bw,h1,h2,if_false];congr 1;omega
theorem c8{α:Type}(l:List α)(off:Nat)(p:List α)(hfit:off+p.length<=l.length):(aV l off p).length=l.length:=by unfold aV;simp;omega
theorem JN{aH:Array Value}{vs:List Value}{o n:Nat}(hn:vs.length=n):aH.toList.take o++vs++aH.toList.drop (o+n)=aV aH.toList o vs:=by rw[<-hn];rfl
end
section
variable{S K:Nat->Prop}{w0 w:World}{Kn:Nat->Prop}{φ:Nat->eG}{hf:Nat->Option Ob}
theorem RD.uS{sz:Nat}{rows:List (List D)}{b off len cap:Nat}(hb:S b)(hsz:0<sz)(hlen:rows.length=len)(hcap:len<=cap)
  (h:bS S w sz (fun i=>w.cell? ⟨b,i,none⟩) off rows):RD S w (.sl sz rows) (.slice (some ⟨b,off,none⟩) len cap):=by
 subst hlen;refine .sl (fun i j=>(w.cell? ⟨b,off+i*sz+j,none⟩).getD undef) hb hsz hcap h.1 (fun i r hi j x hj=>?_) (fun i r hi j x hj=>?_)
 .obtain ⟨v,hv,_⟩:=h.2 i r hi j x hj;simp only at hv;rw[hv];rfl
 .obtain ⟨v,hv,hr⟩:=h.2 i r hi j x hj;simp only at hv;rw[hv];exact hr
theorem RD.sS{cells:List D}{b off:Nat}(hb:S b)(h:∀(j:Nat)(x:D),cells[j]?=some x->∃v,w.cell? ⟨b,off+j,none⟩=some v/\RD S w x v):
  RD S w (.pt cells) (.pointer (some ⟨b,off,none⟩)):=by
 refine .pt (fun j=>(w.cell? ⟨b,off+j,none⟩).getD undef) hb (fun j x hj=>?_) (fun j x hj=>?_)
 .obtain ⟨v,hv,_⟩:=h j x hj;rw[hv];rfl
 .obtain ⟨v,hv,hr⟩:=h j x hj;rw[hv];exact hr
def m_(w:World)(l:eG):List iq->Nat->List Nat
 |[],_=>[]
 |.bf _::r,k=>(match(w.cell? ⟨l.bU,l.aL+k,none⟩).bind rM with|some b=>b::m_ w l r (k+1)|none=>m_ w l r (k+1))
 |_::r,k=>m_ w l r (k+1)
def fc(w:World)(φ:Nat->eG)(hf:Nat->Option Ob)(i:Nat):List Nat:=(φ i).bU::(match hf i with|some (.nst _ sl)=>m_ w (φ i) sl 0|_=>[])
theorem x5{l:eG}{x:Nat}:∀{sl:List iq}{k0:Nat},x∈m_ w l sl k0<->∃k rows v,sl[k]?=some (.bf rows)/\w.cell? ⟨l.bU,l.aL+(k0+k),none⟩=some v/\rM v=some x:=by
 intro sl;induction sl with
 |nil=>intro k0;simp[m_]
 |cons s sl ih=>
  intro k0;have tl:(∃k rows v,sl[k]?=some (.bf rows)/\w.cell? ⟨l.bU,l.aL+(k0+1+k),none⟩=some v/\rM v=some x)->∃k rows v,(s::sl)[k]?=some (.bf rows)/\w.cell? ⟨l.bU,l.aL+(k0+k),none⟩=some v/\rM v=some x:=by rintro⟨k,rows,v,h1,h2,h3⟩;exact⟨k+1,rows,v,by simpa using h1,by rw[<-h2,show k0+(k+1)=k0+1+k by omega],h3⟩
  have key:(∀rows,s≠.bf rows)->((∃k rows v,(s::sl)[k]?=some (.bf rows)/\w.cell? ⟨l.bU,l.aL+(k0+k),none⟩=some v/\rM v=some x)->∃k rows v,sl[k]?=some (.bf rows)/\w.cell? ⟨l.bU,l.aL+(k0+1+k),none⟩=some v/\rM v=some x):=by rintro hs ⟨k,rows,v,h1,h2,h3⟩;cases k with|zero=>exact absurd (by simpa using h1) (hs rows)|succ k=>exact⟨k,rows,v,by simpa using h1,by rw[<-h2,show k0+(k+1)=k0+1+k by omega],h3⟩
  cases s with
  |nil=>exact ih.trans ⟨tl,key fun _ e=>by cases e⟩
  |out id len=>exact ih.trans ⟨tl,key fun _ e=>by cases e⟩
  |bf rows0=>
   simp only[m_];constructor
   .intro hx;split at hx
    .rename_i b hb;rcases aD.1 hx with rfl|hx
     .obtain ⟨v,h1,h2⟩:=bE.1 hb;exact⟨0,rows0,v,rfl,h1,h2⟩
     .exact tl (ih.1 hx)
    .exact tl (ih.1 hx)
   .rintro ⟨k,rows,v,h1,h2,h3⟩;cases k with
    |zero=>
     have e:(w.cell? ⟨l.bU,l.aL+k0,none⟩).bind rM=some x:=by rw[show l.aL+k0=l.aL+(k0+0)from rfl,h2];exact h3
     rw[e];simp
    |succ k=>
     have hm:=ih.2 ⟨k,rows,v,by simpa using h1,by rw[<-h2,show k0+(k+1)=k0+1+k by omega],h3⟩;split
     .exact av _ hm
     .exact hm
theorem BR{l:eG}{x:Nat}{sl:List iq}:x∈m_ w l sl 0<->∃k,nH w l sl k x:=by rw[x5];simp only[bD];exact Iff.rfl
theorem Am{l:eG}:∀{sl:List iq}{k0:Nat},(∀k k' x rows rows' v v',sl[k]?=some (.bf rows)->w.cell? ⟨l.bU,l.aL+(k0+k),none⟩=some v->rM v=some x->sl[k']?=some (.bf rows')->w.cell? ⟨l.bU,l.aL+(k0+k'),none⟩=some v'->rM v'=some x->k=k')->(m_ w l sl k0).Nodup:=by
 intro sl;induction sl with
 |nil=>intro k0 _;exact fU
 |cons s sl ih=>
  intro k0 h;have h':(m_ w l sl (k0+1)).Nodup:=ih fun k k' x rows rows' v v' h1 h2 h3 h4 h5 h6=>by have:=h (k+1) (k'+1) x rows rows' v v' (by simpa using h1) (by rw[<-h2,show k0+(k+1)=k0+1+k by omega]) h3 (by simpa using h4) (by rw[<-h5,show k0+(k'+1)=k0+1+k' by omega]) h6;omega
  cases s with
  |nil=>exact h'
  |out id len=>exact h'
  |bf rows0=>
   simp only[m_];split
   .rename_i b hb;refine fm.2 ⟨fun hm=>?_,h'⟩;obtain⟨v0,h1,h2⟩:=bE.1 hb;obtain⟨k,rows,v,h3,h4,h5⟩:=x5.1 hm;have:=h 0 (k+1) b rows0 rows v0 v rfl h1 h2 (by simpa using h3) (by rw[<-h4,show k0+(k+1)=k0+1+k by omega]) h5;omega
   .exact h'
theorem cS{i x:Nat}:x∈fc w φ hf i<->x=(φ i).bU\/∃sz sl k,hf i=some (.nst sz sl)/\nH w (φ i) sl k x:=by
 unfold fc;rw[aD];refine or_congr_right ?_;split
 .rename_i sz sl h;rw[BR];exact⟨fun⟨k,hk⟩=>⟨sz,sl,k,h,hk⟩,fun⟨_,_,k,h1,hk⟩=>by rw[h]at h1;cases h1;exact⟨k,hk⟩⟩
 .rename_i h;exact⟨fun hx=>by simp at hx,fun⟨sz,sl,k,h1,_⟩=>(h sz sl h1).elim⟩
theorem kE(hI:Inv S K w0 Kn φ hf w){i:Nat}{o:Ob}(ho:hf i=some o)(hown:bP o=true){x:Nat}(hx:x∈fc w φ hf i):¬S x/\¬K x/\x<w.heap.size:=by
 rcases cS.1 hx with rfl|⟨sz,sl,k,h1,h2⟩
 .exact (hI.fC i o ho).2.bf hown
 .obtain ⟨a,b,c,_⟩:=hI.C3 h1 h2;exact⟨a,b,c⟩
theorem kj(hI:Inv S K w0 Kn φ hf w){i j:Nat}{a b:Ob}(hi:hf i=some a)(hj:hf j=some b)(ha:bP a=true)(hb:bP b=true)(hne:i≠j){x:Nat}(hx:x∈fc w φ hf i):x∉fc w φ hf j:=by
 intro hy;rcases cS.1 hx with rfl|⟨sz,sl,k,h1,h2⟩<;>rcases cS.1 hy with e|⟨sz',sl',k',h3,h4⟩
 .exact hI.kJ i j a b hi hj ha hb hne e
 .exact (hI.rp j sz' sl' k' _ h3 h4).1 i a hi ha rfl
 .subst e;exact(hI.rp i sz sl k _ h1 h2).1 j b hj hb rfl
 .exact hne (((hI.rp i sz sl k x h1 h2).2 j sz' sl' k' h3 h4).1).symm
theorem Bm(hI:Inv S K w0 Kn φ hf w){i:Nat}{o:Ob}(ho:hf i=some o)(hown:bP o=true):(fc w φ hf i).Nodup:=by
 unfold fc;refine fm.2 ⟨fun hm=>?_,?_⟩
 .split at hm
  .rename_i sz sl h;obtain⟨k,hk⟩:=BR.1 hm;exact(hI.rp i sz sl k _ h hk).1 i o ho hown rfl
  .simp at hm
 .split
  .rename_i sz sl h;refine Am fun k k' x rows rows' v v' h1 h2 h3 h4 h5 h6=>?_;rw[bD]at h2 h5;exact(((hI.rp i sz sl k x h ⟨rows,v,h1,h2,h3⟩).2 i sz sl k' h ⟨rows',v',h4,h5,h6⟩).2).symm
  .exact fU
theorem ik(i:Nat):(φ i).bU∈fc w φ hf i:=cS.2 (.inl rfl)
def SB(S:Nat->Prop)(w:World)(φ:Nat->eG)(hf:Nat->Option Ob)(ap:List Nat)(b:Nat):Prop:=S b\/∃i∈ap,b∈fc w φ hf i
theorem SB.uO(a b:List Nat)(h:∀i∈a,i∈b):eM (SB S w φ hf a) w (SB S w φ hf b) w:=⟨fun _ hb=>hb.imp id fun⟨i,hi,e⟩=>⟨i,h i hi,e⟩,fun _ _=>rfl⟩
theorem SB.nT(b:List Nat):eM S w (SB S w φ hf b) w:=⟨fun _ hb=>.inl hb,fun _ _=>rfl⟩
theorem Cv.rd{sz b:Nat}{rows:List (List D)}{v:Value}(h:Cv S w sz rows v b){T:Nat->Prop}(hT:eM S w T w)(hb:T b):RD T w (.sl sz rows) v:=by obtain⟨addr,cap,aH,rfl,h2,h3,h4,_,h6⟩:=h;exact .uS hb h2 rfl h4 ⟨h6.1,fun i r hi j x hj=>let⟨v,hv,hr⟩:=h6.2 i r hi j x hj;⟨v,(h3.cell _).trans hv,hr.mono hT⟩⟩
theorem yu{l:eG}{szi:Nat}{slots:List iq}(h:RO S K w Kn φ l (.nst szi slots)){rows:List (List D)}(hd:me szi slots=some rows){T:Nat->Prop}(hT:eM S w T w)(hp:∀k x,nH w l slots k x->T x):
  rows.length=slots.length/\bS T w 1 (fun i=>w.cell? ⟨l.bU,i,none⟩) l.aL rows:=by
 have key:∀(slots:List iq)(rows:List (List D)),me szi slots=some rows->rows.length=slots.length/\∀(i:Nat)(r:List D),rows[i]?=some r->∃s x,slots[i]?=some s/\EA szi s=some x/\r=[x]:=by
  intro slots;induction slots with
  |nil=>intro rows h;obtain rfl:=aa h;exact⟨rfl,fun i r hi=>by simp at hi⟩
  |cons s slots ih=>
   intro rows h;simp only[me]at h;split at h
   .rename_i x l hx hl;obtain rfl:=aa h;obtain⟨h1,h2⟩:=ih l hl;refine⟨by simp[h1],fun i r hi=>?_⟩;cases i with|zero=>exact⟨s,x,rfl,hx,(by simpa using hi:[x]=r).symm⟩|succ i=>obtain⟨s',x',e1,e2,e3⟩:=h2 i r (by simpa using hi);exact⟨s',x',by simpa using e1,e2,e3⟩
   .simp at h
 obtain⟨k1,k2⟩:=key slots rows hd;cases h with
 |nst hsz hl hS hK ho hext hfit hr hv=>
  refine⟨k1,fun i r hi=>by obtain⟨_,_,_,_,rfl⟩:=k2 i r hi;rfl,fun i r hi j x hj=>?_⟩;obtain⟨s,y,e1,e2,rfl⟩:=k2 i r hi;cases j with
  |succ j=>simp at hj
  |zero=>
   obtain rfl:y=x:=by simpa using hj
   obtain⟨v,h1,h2⟩:=hr i s e1;refine⟨v,by rw[iC,cN];exact(ho.cell _).trans h1,?_⟩;cases h2 with|nil=>obtain rfl:=aa e2;exact .lit rfl|@bf rows' _ b h3 _ _=>obtain rfl:=aa e2;exact h3.rd hT (hp i b ⟨rows',v,e1,(ho.cell _).trans h1,h3.bU⟩)|out _=>simp[EA]at e2
theorem kf{id sz:Nat}{rows:List (List D)}(hI:Inv S K w0 Kn φ hf w)(ho:hf id=some (.aH sz rows)\/hf id=some (.lB sz rows)):
  0<sz/\(φ id).sz=sz/\bS S w sz (fun i=>w.cell? ⟨(φ id).bU,i,none⟩) (φ id).aL rows:=by
 rcases ho with ho|ho
 .obtain ⟨_,h0⟩:=hI.fC _ _ ho;cases h0 with|aH hsz hl hS hK hown hext hfit hrr=>exact⟨hsz,hl,hrr.1,fun i r hi j x hj=>let⟨v,hv,hr⟩:=hrr.2 i r hi j x hj;⟨v,(hown.cell _).trans hv,hr⟩⟩
 .obtain ⟨_,h0⟩:=hI.fC _ _ ho;cases h0 with|lB hsz hl hS hrr=>exact⟨hsz,hl,hrr⟩
theorem bS.sub{sz aL:Nat}{get:Nat->Option Value}{rows:List (List D)}(h:bS S w sz get aL rows)(off len:Nat):
  bS S w sz get (aL+off*sz) ((rows.drop off).take len):=by
 have key:∀i(r:List D),((rows.drop off).take len)[i]?=some r->rows[off+i]?=some r:=by
  intro i r hi;rw[dh]at hi;split at hi
  .rwa [bw]at hi
  .simp at hi
 refine⟨fun i r hi=>h.1 _ _ (key i r hi),fun i r hi j x hj=>?_⟩;obtain⟨v,hv,hr⟩:=h.2 _ _ (key i r hi) j x hj;refine⟨v,?_,hr⟩;rw[<-hv];congr 1;rw[Nat.add_mul];omega
theorem bS.rE{sz aL addr:Nat}{get:Nat->Option Value}{rows:List (List D)}(h:bS S w sz get aL rows)(off len:Nat)(ha:0<len->addr=aL+off*sz):
  bS S w sz get addr ((rows.drop off).take len):=by
 cases len with|zero=>exact⟨fun i r hi=>by simp at hi,fun i r hi=>by simp at hi⟩|succ n=>rw[ha (Nat.succ_pos _)];exact h.sub off _
theorem xr{sz id off len:Nat}{rows:List (List D)}{v:Value}{szo:Nat}(hI:Inv S K w0 Kn φ hf w)(hc:RC S w Kn φ (.dq sz id off len) v)
  (ho:hf id=some (.aH szo rows)\/hf id=some (.lB szo rows)) (hle:off+len<=rows.length) {T:Nat->Prop} (hT:eM S w T w) (hb:T (φ id).bU):
  RD T w (.sl sz ((rows.drop off).take len)) v:=by
 obtain⟨hsz,hl,hr⟩:=kf hI ho;subst hl;cases hc with|dq hk hcap haddr hext=>exact .uS hb hsz (by simp;omega) hcap ((hr.rE off len fun h=>haddr (by omega)).mono hT)
theorem G8{id dv off sz:Nat}{rows:List (List D)}{r:List D}{v:Value}(hI:Inv S K w0 Kn φ hf w)(hc:RC S w Kn φ (.ep id dv off) v)
  (ho:hf id=some (.aH sz rows)\/hf id=some (.lB sz rows)) (hr:rows[dv]?=some r) {T:Nat->Prop} (hT:eM S w T w) (hb:T (φ id).bU):
  RD T w (.pt (r.drop off)) v:=by
 obtain⟨hsz,hl,hrr⟩:=kf hI ho;cases hc with|ep hk=>refine .sS hb fun j x hj=>?_;rw[bw]at hj;obtain⟨u,hu,hd⟩:=hrr.2 dv r hr (off+j) x hj;refine⟨u,?_,hd.mono hT⟩;rw[<-hu,hl];simp only[cg]
theorem uI{H:bl}(hI:Inv S K w0 Kn φ (au H) w)(n:Nat)(c:C)(x:D)(ap:List Nat)(v:Value)(hleaf:match c with|.op _ _|.kR _ _=>False|_=>True)
  (h:cW H n c=some (x,ap)) (hc:RC S w Kn φ c v):RD (SB S w φ (au H) ap) w x v:=by
 cases c with
 |d y=>simp only[cW,bH,Prod.mk.injEq]at h;obtain⟨rfl,rfl⟩:=h;cases hc with|d hd=>exact hd.mono (SB.nT _)
 |dq sz id off len=>
  simp only[cW]at h
  have key:∀szo rows,(au H id=some (.aH szo rows)\/au H id=some (.lB szo rows))->(if off+len<=rows.length then some (D.sl sz ((rows.drop off).take len),[id])else none)=some (x,ap)->RD (SB S w φ (au H) ap) w x v:=by
   intro szo rows ho h;split at h
   .rename_i hle;obtain⟨rfl,rfl⟩:=ad (aa h);exact xr hI hc ho hle (SB.nT _) (.inr ⟨_,by simp,ik _⟩)
   .simp at h
  split at h
  .exact key _ _ (.inl (by assumption)) h
  .exact key _ _ (.inr (by assumption)) h
  .rename_i szi slots ho;split at h
   .rename_i he;obtain⟨rfl,rfl⟩:=he;split at h
    .rename_i rows hd;obtain⟨rfl,rfl⟩:=ad (aa h);obtain⟨_,hro⟩:=hI.fC _ _ ho;obtain⟨h1,h2⟩:=yu hro hd (SB.nT (hf:=au H) (φ:=φ) [id]) fun k x hp=>.inr ⟨id,by simp,cS.2 (.inr ⟨szi,slots,k,ho,hp⟩)⟩;cases hro with
     |nst hsz hl=>
      cases hc with
      |dq hk hcap haddr hext=>rw[hl];refine .uS (.inr ⟨id,by simp,ik id⟩) Nat.one_pos h1 hcap ?_;cases hs:slots with|nil=>have:rows=[]:=List.length_eq_zero_iff.1 (by rw[h1,hs];rfl);rw[this];exact⟨fun i r hi=>by simp at hi,fun i r hi=>by simp at hi⟩|cons s r=>rw[hs]at hcap;have:=haddr (by simp at hcap;omega);rw[this,hl,gq,cN];exact h2
    .simp at h
   .simp at h
  .simp at h
 |ep id dv off=>
  simp only[cW]at h
  have key:∀szo rows,(au H id=some (.aH szo rows)\/au H id=some (.lB szo rows))->
    (match rows[dv]?with|some r=>if off<=r.length then some (D.pt (r.drop off),[id])else none|none=>none)=some (x,ap)->RD (SB S w φ (au H) ap) w x v:=by
   intro szo rows ho h;split at h
   .rename_i r hr;split at h
    .obtain ⟨rfl,rfl⟩:=ad (aa h);exact G8 hI hc ho hr (SB.nT _) (.inr ⟨_,by simp,ik _⟩)
    .simp at h
   .simp at h
  split at h
  .exact key _ _ (.inl (by assumption)) h
  .exact key _ _ (.inr (by assumption)) h
  .simp at h
 |op id off=>exact hleaf.elim
 |kR f caps=>exact hleaf.elim
 |om id=>cases n<;>simp[cW]at h
theorem px{H:bl}(hI:Inv S K w0 Kn φ (au H) w):∀n,
  (∀c x ap v,cW H n c=some (x,ap)->RC S w Kn φ c v->RD (SB S w φ (au H) ap) w x v)/\
  (∀cs xs ap,eh H n cs=some (xs,ap)->∀(get:Nat->Option Value),(∀(i:Nat)(c:C),cs[i]?=some c->∃v,get i=some v/\RC S w Kn φ c v)->
   xs.length=cs.length/\∀(i:Nat)(x:D),xs[i]?=some x->∃v,get i=some v/\RD (SB S w φ (au H) ap) w x v):=by
 intro n;induction n with
 |zero=>
  refine⟨fun c x ap v h hc=>?_,fun cs xs ap h get hg=>?_⟩
  .cases c with|op id off=>simp[cW]at h|kR f caps=>simp[cW]at h|_=>exact uI hI 0 _ x ap v trivial h hc
  .cases cs with
   |nil=>
    obtain⟨rfl,rfl⟩:[]=xs/\[]=ap:=by simpa[eh]using h
    exact⟨rfl,fun i x hi=>by simp at hi⟩
   |cons c cs=>simp[eh]at h
 |succ n ih=>
  obtain⟨ihc,ihl⟩:=ih;refine⟨fun c x ap v h hc=>?_,fun cs xs ap h get hg=>?_⟩
  .cases c with
   |op id off=>
    simp only[cW]at h;split at h
    .rename_i cells ho;split at h
     .obtain ⟨rfl,rfl⟩:=ad (aa h);obtain⟨_,h0⟩:=hI.fC _ _ ho;cases h0 with
      |kA hb hS hr=>cases hc with|op hk=>refine .sS (.inl hS) fun j x hj=>?_;rw[bw]at hj;obtain⟨u,hu,hd⟩:=hr _ _ hj;exact⟨u,by rw[<-hu,hb,bD],hd.mono (SB.nT _)⟩
     .simp at h
    .rename_i cells ho;split at h
     .rename_i ds ids' hv;split at h
      .obtain ⟨rfl,rfl⟩:=ad (aa h);obtain⟨_,h0⟩:=hI.fC _ _ ho;cases h0 with
       |@box _ aH hb hS hK hown hlen hr=>cases hc with|op hk=>obtain⟨h1,h2⟩:=ihl cells ds ids' hv (fun i=>w.cell? ⟨(φ id).bU,i,none⟩) (fun i c hi=>by have hlt:=(ah.1 hi).1;rw[hlen]at hlt;exact⟨aH.getD i undef,by rw[hown.cell];simp[gX,hlt],hr i c hi⟩);refine .sS (.inr ⟨id,by simp,ik _⟩) fun j x hj=>?_;rw[bw]at hj;obtain⟨u,hu,hd⟩:=h2 _ _ hj;exact⟨u,by rw[<-hu,hb,bD],hd.mono (SB.uO _ _ fun i hi=>by simp[hi])⟩
      .simp at h
     .simp at h
    .simp at h
   |kR f caps=>
    simp only[cW]at h;split at h
    .rename_i ds ids' hv;obtain⟨rfl,rfl⟩:=ad (aa h);cases hc with
     |@kR _ _ vs hlen hr=>
      obtain⟨h1,h2⟩:=ihl caps ds ids' hv (fun i=>vs[i]?) (fun i c hi=>by have hlt:=(ah.1 hi).1;rw[hlen]at hlt;exact⟨vs.getD i undef,by simp[gX,hlt],hr i c hi⟩);refine .fn (h1.trans hlen) fun j x hj=>?_;obtain⟨u,hu,hd⟩:=h2 j x hj;have hu':vs[j]?=some u:=hu;have:vs.getD j undef=u:=by simp[hu']
      rw[this];exact hd
    .simp at h
   |_=>exact uI hI (n+1) _ x ap v trivial h hc
  .cases cs with
   |nil=>
    obtain⟨rfl,rfl⟩:[]=xs/\[]=ap:=by simpa[eh]using h
    exact⟨rfl,fun i x hi=>by simp at hi⟩
   |cons c cs=>
    simp only[eh]at h;split at h
    .rename_i x0 a xs0 b hx hxs;obtain⟨rfl,rfl⟩:=ad (aa h);obtain⟨v0,hv0,hc0⟩:=hg 0 c rfl;have h0:=ihc c x0 a v0 hx hc0;obtain⟨h1,h2⟩:=ihl cs xs0 b hxs (fun i=>get (i+1)) (fun i c hi=>hg (i+1) c (by simpa using hi));refine⟨by simp[h1],fun i x hi=>?_⟩;cases i with
     |zero=>
      obtain rfl:x0=x:=by simpa using hi
      exact⟨v0,hv0,h0.mono (SB.uO _ _ fun i hi=>by simp[hi])⟩
     |succ i=>obtain⟨u,hu,hd⟩:=h2 i x (by simpa using hi);exact⟨u,hu,hd.mono (SB.uO _ _ fun i hi=>by simp[hi])⟩
    .simp at h
theorem kU{H:bl}(hI:Inv S K w0 Kn φ (au H) w):∀cs xs ap,cH H cs=some (xs,ap)->∀(get:Nat->Option Value),(∀(i:Nat)(c:C),cs[i]?=some c->∃v,get i=some v/\RC S w Kn φ c v)->
   xs.length=cs.length/\∀(i:Nat)(x:D),xs[i]?=some x->∃v,get i=some v/\RD (SB S w φ (au H) ap) w x v:=by
 intro cs;induction cs with
 |nil=>
  intro xs ap h get hg;obtain⟨rfl,rfl⟩:[]=xs/\[]=ap:=by simpa[cH]using h
  exact⟨rfl,fun i x hi=>by simp at hi⟩
 |cons c cs ih=>
  intro xs ap h get hg;simp only[cH]at h;split at h
  .rename_i x0 a xs0 b hx hxs;obtain⟨rfl,rfl⟩:=ad (aa h);obtain⟨v0,hv0,hc0⟩:=hg 0 c rfl;have h0:=(px hI 300).1 c x0 a v0 hx hc0;obtain⟨h1,h2⟩:=ih xs0 b hxs (fun i=>get (i+1)) (fun i c hi=>hg (i+1) c (by simpa using hi));refine⟨by simp[h1],fun i x hi=>?_⟩;cases i with
   |zero=>
    obtain rfl:x0=x:=by simpa using hi
    exact⟨v0,hv0,h0.mono (SB.uO _ _ fun i hi=>by simp[hi])⟩
   |succ i=>obtain⟨u,hu,hd⟩:=h2 i x (by simpa using hi);exact⟨u,hu,hd.mono (SB.uO _ _ fun i hi=>by simp[hi])⟩
  .simp at h
theorem gS{H:bl}{all:List Nat}:∀(l:List Nat)(u:dD),cq H all l=some u->
  ∀id,(id∈l->∃o,gF H all id=some o/\bM u id=some (some o))/\(id∉l->bM u id=none):=by
 intro l;induction l with
 |nil=>
  intro u h id;obtain rfl:[]=u:=by simpa[cq]using h
  exact⟨fun h=>by simp at h,fun _=>rfl⟩
 |cons a l ih=>
  intro u h id;simp only[cq]at h;split at h
  .rename_i o u' ho hu;obtain rfl:=aa h;by_cases e:a=id
   .subst e;exact⟨fun _=>⟨o,ho,by simp[bM]⟩,fun hn=>absurd (List.mem_cons_self ..) hn⟩
   .obtain ⟨h1,h2⟩:=ih u' hu id;have e':(a==id)=false:=by simpa using e
    refine⟨fun hm=>?_,fun hn=>?_⟩
    .obtain ⟨o',ho',hf'⟩:=h1 ((aD.1 hm).resolve_left (fun e2=>e e2.symm));exact⟨o',ho',by simp[bM,e',hf']⟩
    .simp only[bM,e',cond_false];exact h2 (fun hm=>hn (av _ hm))
  .simp at h
theorem vj{H:bl}{all:List Nat}{id:Nat}{o:Ob}(hI:Inv S K w0 Kn φ (au H) w)(hmem:id∈all)(h:gF H all id=some o):
  bP o=false/\(∃o0,au H id=some o0)/\RO (SB S w φ (au H) all) K w Kn φ (φ id) o:=by
 unfold gF at h;have hb:SB S w φ (au H) all (φ id).bU:=.inr ⟨id,hmem,ik _⟩;split at h
 .rename_i sz rows ho;obtain rfl:=aa h;obtain⟨hsz,hl,hr⟩:=kf hI (.inl ho);exact⟨rfl,⟨_,ho⟩,.lB hsz hl hb (hr.mono (SB.nT _))⟩
 .rename_i sz rows ho;obtain rfl:=aa h;obtain⟨hsz,hl,hr⟩:=kf hI (.inr ho);exact⟨rfl,⟨_,ho⟩,.lB hsz hl hb (hr.mono (SB.nT _))⟩
 .rename_i cells ho;obtain rfl:=aa h;obtain⟨_,h0⟩:=hI.fC _ _ ho;cases h0 with|kA hbase hS hr=>exact⟨rfl,⟨_,ho⟩,.kA hbase hb fun i x hi=>let⟨v,hv,hd⟩:=hr i x hi;⟨v,hv,hd.mono (SB.nT _)⟩⟩
 .rename_i cells ho;split at h
  .rename_i ds ap hv;split at h
   .rename_i hall;obtain rfl:=aa h;obtain⟨_,h0⟩:=hI.fC _ _ ho;cases h0 with|@box _ aH hbase hS hK hown hlen hr=>obtain⟨h1,h2⟩:=(px hI 300).2 cells ds ap hv (fun i=>w.cell? ⟨(φ id).bU,i,none⟩) (fun i c hi=>by have hlt:=(ah.1 hi).1;rw[hlen]at hlt;exact⟨aH.getD i undef,by rw[hown.cell];simp[gX,hlt],hr i c hi⟩);refine⟨rfl,⟨_,ho⟩,.kA hbase hb fun i x hi=>?_⟩;obtain⟨u,hu,hd⟩:=h2 i x hi;exact⟨u,hu,hd.mono (SB.uO _ _ fun i hi=>by simpa using aQ.1 hall i hi)⟩
   .simp at h
  .simp at h
 .simp at h
 .simp at h
 .rename_i szi slots ho;split at h
  .rename_i rows hd;obtain rfl:=aa h;obtain⟨_,hro⟩:=hI.fC _ _ ho;obtain⟨_,h2⟩:=yu hro hd (SB.nT (hf:=au H) (φ:=φ) all) fun k x hp=>.inr ⟨id,hmem,cS.2 (.inr ⟨szi,slots,k,ho,hp⟩)⟩;cases hro with|nst hsz hl=>exact⟨rfl,⟨_,ho⟩,.lB Nat.one_pos hl hb h2⟩
  .simp at h
 .simp at h
theorem Inv.wI{H:bl}{ap:List Nat}{u:dD}(hI:Inv S K w0 Kn φ (au H) w)(h:cq H ap ap=some u):
  Inv (SB S w φ (au H) ap) K w0 Kn φ (a_ u (au H)) w:=by
 have hfr:∀id∈ap,∃o,bM u id=some (some o)/\bP o=false/\(∃o0,au H id=some o0)/\RO (SB S w φ (au H) ap) K w Kn φ (φ id) o:=by
  intro id hid;obtain⟨o,ho,hfn⟩:=((gS ap u h id).1 hid)
  exact⟨o,hfn,vj hI hid ho⟩
 have hold:∀id o,a_ u (au H) id=some o->bP o=true->id∉ap/\au H id=some o:=by
  intro id o ho hown;by_cases hm:id∈ap
  .obtain ⟨o',hfn,hno,_⟩:=hfr id hm;simp only[a_,hfn]at ho;obtain rfl:=aa ho;rw[hno]at hown;simp at hown
  .refine ⟨hm,?_⟩;simpa only[a_,(gS ap u h id).2 hm]using ho
 have hnb:∀id o,au H id=some o->bP o=true->id∉ap->∀x∈fc w φ (au H) id,¬SB S w φ (au H) ap x:=by
  intro id o ho hown hm x hx hb;have hx1:=(kE hI ho hown hx).1;rcases hb with hb|⟨i,hi,e⟩
  .exact hx1 hb
  .obtain ⟨_,_,_,⟨o0,ho0⟩,_⟩:=hfr i hi;by_cases hoi:bP o0=true
   .exact kj hI ho ho0 hown hoi (fun e'=>hm (e'▸hi)) hx e
   .obtain ⟨_,h1⟩:=hI.fC i o0 ho0;rcases cS.1 e with rfl|⟨sz,sl,k,h2,_⟩
    .exact hx1 (by
      cases h1 with
      |lB hsz hl hS _=>exact hS
      |kA hb hS _=>exact hS
      |_=>simp[bP]at hoi)
    .rw [ho0]at h2;obtain rfl:=aa h2;simp[bP]at hoi
 refine hI.ll (SB.nT _) (Ren.refl _ _) ?_ ?_ hI.j8 ?_ ?_ ?_
 .intro b hb;rcases hb with hb|⟨i,hi,hb⟩
  .exact hI.pU b hb
  .obtain ⟨_,_,_,⟨o0,ho0⟩,_⟩:=hfr i hi;by_cases hoi:bP o0=true
   .exact (kE hI ho0 hoi hb).2.2
   .obtain ⟨_,h1⟩:=hI.fC i o0 ho0;rcases cS.1 hb with rfl|⟨sz,sl,k,h2,h3⟩
    .cases h1 with|lB hsz hl hS=>exact hI.pU _ hS|kA hb hS=>exact hI.pU _ hS|_=>simp[bP]at hoi
    .exact (hI.C3 h2 h3).2.2.1
 .intro b hb;rcases hb with hb|⟨i,hi,hb⟩
  .exact hI.sk b hb
  .obtain ⟨_,_,_,⟨o0,ho0⟩,_⟩:=hfr i hi;by_cases hoi:bP o0=true
   .exact (kE hI ho0 hoi hb).2.1
   .obtain ⟨_,h1⟩:=hI.fC i o0 ho0;rcases cS.1 hb with rfl|⟨sz,sl,k,h2,h3⟩
    .cases h1 with|lB hsz hl hS=>exact hI.sk _ hS|kA hb hS=>exact hI.sk _ hS|_=>simp[bP]at hoi
    .exact (hI.C3 h2 h3).2.1
 .intro id o ho;by_cases hm:id∈ap
  .obtain ⟨o',hfn,hno,⟨o0,ho0⟩,hro⟩:=hfr id hm;simp only[a_,hfn]at ho;obtain rfl:=aa ho;exact .inr ⟨(hI.fC id o0 ho0).1,hro⟩
  .have ho':au H id=some o:=by simpa only[a_,(gS ap u h id).2 hm]using ho
   exact .inl ⟨ho',fun hown=>⟨rfl,hnb id o ho' hown hm _ (ik _)⟩⟩
 .intro i j a b ha hb hoa hob hne;exact hI.kJ i j a b (hold i a ha hoa).2 (hold j b hb hob).2 hoa hob hne
 .intro id sz sl hi;obtain⟨h1,h2⟩:=hold id _ hi rfl;refine⟨h2,rfl,fun k x hp=>⟨rfl,hnb id _ h2 rfl h1 x (cS.2 (.inr ⟨sz,sl,k,h2,hp⟩)),fun j b hj hb=>?_⟩⟩;exact(hI.rp id sz sl k x h2 hp).1 j b (hold j b hj hb).2 hb
end
def xg(S:Nat->Prop)(w:World)(sz:Nat):Option (List (List D))->Value->List Nat->Prop
 |none,v,fp=>v=.slice none 0 0/\fp=[]
 |some rows,v,fp=>∃b,fp=[b]/\Cv S w sz rows v b
inductive RT(S:Nat->Prop)(w:World):T->Value->List Nat->Prop
 |d {x:D} {v:Value} (h:RD S w x v):RT S w (.d x) v []
 |sl {sz:Nat} {rows:List (List D)} {b off len cap:Nat} {aH:Array Value} (hsz:0<sz) (ho:kN w b aH) (hlen:rows.length=len) (hcap:len<=cap)
   (hext:off+cap*sz<=aH.size) (hr:bS S w sz (fun i=>aH[i]?) off rows):RT S w (.sl sz rows) (.slice (some ⟨b,off,none⟩) len cap) [b]
 |pt {ts:List T} {b:Nat} {aH:Array Value} {fps:List (List Nat)} (ho:kN w b aH) (hlen:ts.length=aH.size) (hfl:fps.length=ts.length)
   (h:∀(i:Nat)(t:T)(fp:List Nat),ts[i]?=some t->fps[i]?=some fp->RT S w t (aH.getD i undef) fp):
   RT S w (.pt ts) (.pointer (some ⟨b,0,none⟩)) (b::fps.flatten)
 |ui {sz:Nat} {rows:List (Option (List (List D)))} {b off cap:Nat} {aH:Array Value} {fps:List (List Nat)} (hsz:0<sz) (ho:kN w b aH) (hcap:rows.length<=cap) (hext:off+cap<=aH.size) (hfl:fps.length=rows.length)
   (h:∀(i:Nat)(r:Option (List (List D)))(fp:List Nat),rows[i]?=some r->fps[i]?=some fp->∃v,aH[off+i]?=some v/\xg S w sz r v fp):
   RT S w (.ui sz rows) (.slice (some ⟨b,off,none⟩) rows.length cap) (b::fps.flatten)
 |mp {ka va:Bool} {es:List (List Value×List D×Nat)} {bA b:Nat} {ms:Array MapEntry} (ho:w.heap[b]?=some (.map ms bA)) (hlen:es.length=ms.size)
   (hr:∀(i:Nat)(e:List Value×List D×Nat)(m:MapEntry),es[i]?=some e->ms[i]?=some m->xj ka e.1 m.key/\ny S w va e.2.1 m.val/\m.born=e.2.2):RT S w (.mp ka va es bA) (.map (some b)) [b]
theorem xg.mono{S S':Nat->Prop}{w w':World}(hs:eM S w S' w'){sz:Nat}{r:Option (List (List D))}{v:Value}{fp:List Nat}(h:xg S w sz r v fp)(hb:∀b∈fp,w'.heap[b]?=w.heap[b]?):xg S' w' sz r v fp:=by cases r with|none=>exact h|some rows=>obtain⟨b,rfl,h⟩:=h;exact⟨b,rfl,h.mono hs (hb b (by simp))⟩
theorem xg.lt{S:Nat->Prop}{w:World}{sz:Nat}{r:Option (List (List D))}{v:Value}{fp:List Nat}(h:xg S w sz r v fp):∀b∈fp,b<w.heap.size:=by cases r with|none=>obtain⟨_,rfl⟩:=h;intro b hb;simp at hb|some rows=>obtain⟨b,rfl,h⟩:=h;intro b' hb;obtain rfl:=am.1 hb;obtain⟨aH,h⟩:=h.bf;exact h.lt
theorem RT.mono{S S':Nat->Prop}{w w':World}(hs:eM S w S' w'){t:T}{v:Value}{fp:List Nat}(h:RT S w t v fp)(hb:∀b∈fp,w'.heap[b]?=w.heap[b]?):RT S' w' t v fp:=by induction h with|d h=>exact .d (h.mono hs)|sl hsz ho hlen hcap hext hr=>exact .sl hsz (ho.jR (hb _ (by simp))) hlen hcap hext (hr.mono hs)|pt ho hlen hfl h ih=>refine .pt (ho.jR (hb _ (by simp))) hlen hfl fun i t fp hi hf=>ih i t fp hi hf fun b hbm=>hb b ?_;exact av _ (cY.2 ⟨fp,aT hf,hbm⟩)|ui hsz ho hcap hext hfl h=>refine .ui hsz (ho.jR (hb _ (by simp))) hcap hext hfl fun i r fp hi hf=>?_;obtain⟨v,h1,h2⟩:=h i r fp hi hf;exact⟨v,h1,h2.mono hs fun b hbm=>hb b (av _ (cY.2 ⟨fp,aT hf,hbm⟩))⟩|mp ho hlen hr=>exact .mp ((hb _ (by simp)).trans ho) hlen fun i e m hi hm=>let⟨h1,h2,h3⟩:=hr i e m hi hm;⟨h1,h2.mono hs,h3⟩
theorem RT.lt{S:Nat->Prop}{w:World}{t:T}{v:Value}{fp:List Nat}(h:RT S w t v fp):∀b∈fp,b<w.heap.size:=by
 induction h with
 |d h=>intro b hb;simp at hb
 |sl hsz ho=>intro b hb;obtain rfl:=am.1 hb;exact ho.lt
 |pt ho hlen hfl h ih=>
  intro b hb;rcases aD.1 hb with rfl|hb
  .exact ho.lt
  .obtain ⟨fp,hfp,hbf⟩:=cY.1 hb;obtain⟨i,hi,rfl⟩:=fx hfp;exact ih i _ _ (ai (by omega:i<_)) (ai hi) b hbf
 |ui hsz ho hcap hext hfl h=>
  intro b hb;rcases aD.1 hb with rfl|hb
  .exact ho.lt
  .obtain ⟨fp,hfp,hbf⟩:=cY.1 hb;obtain⟨i,hi,rfl⟩:=fx hfp;obtain⟨v,_,h2⟩:=h i _ _ (ai (by omega:i<_)) (ai hi);exact h2.lt b hbf
 |mp ho=>intro b hb;obtain rfl:=am.1 hb;exact(aP.1 ho).1
section
variable{S K:Nat->Prop}{w0 w:World}{Kn:Nat->Prop}{φ:Nat->eG}{hf:Nat->Option Ob}
theorem jY{id:Nat}(h:∀sz sl,hf id≠some (.nst sz sl)):fc w φ hf id=[(φ id).bU]:=by
 unfold fc;split
 .rename_i sz sl e;exact absurd e (h sz sl)
 .rfl
theorem CO{l:eG}{sz:Nat}{get:Nat->Option Value}(hget:∀i,w.cell? ⟨l.bU,i,none⟩=get i):∀(slots:List iq)(k0:Nat)(rows:List (Option (List (List D)))),(∀(i:Nat)(s:iq),slots[i]?=some s->∃v,get (l.aL+(k0+i))=some v/\ug S K w Kn φ sz s v)->pD slots=some rows->
  rows.length=slots.length/\∃fps:List (List Nat),fps.length=rows.length/\fps.flatten=m_ w l slots k0/\∀(i:Nat)(r:Option (List (List D)))(fp:List Nat),rows[i]?=some r->fps[i]?=some fp->∃v,get (l.aL+(k0+i))=some v/\xg S w sz r v fp:=by
 intro slots;induction slots with
 |nil=>intro k0 rows _ h;obtain rfl:=aa h;exact⟨rfl,[],rfl,rfl,fun i r fp hi=>by simp at hi⟩
 |cons s slots ih=>
  intro k0 rows hr h;simp only[pD]at h;split at h
  .rename_i x rs hx hrs;obtain rfl:=aa h;obtain⟨h1,fps,h2,h3,h4⟩:=ih (k0+1) rs (fun i s hi=>by obtain⟨v,e1,e2⟩:=hr (i+1) s (by simpa using hi);exact⟨v,by rw[<-e1,show k0+(i+1)=k0+1+i by omega],e2⟩) hrs;obtain⟨v,e1,e2⟩:=hr 0 s rfl
   have fin:∀fp0,xg S w sz x v fp0->fp0++m_ w l slots (k0+1)=m_ w l (s::slots) k0->(x::rs).length=(s::slots).length/\∃fps:List (List Nat),fps.length=(x::rs).length/\fps.flatten=m_ w l (s::slots) k0/\∀(i:Nat)(r:Option (List (List D)))(fp:List Nat),(x::rs)[i]?=some r->fps[i]?=some fp->∃v,get (l.aL+(k0+i))=some v/\xg S w sz r v fp:=by
    intro fp0 h5 h6;refine⟨by simp[h1],fp0::fps,by simp[h2],by rw[da,h3,h6],fun i r fp hi hf=>?_⟩;cases i with
    |zero=>
     obtain rfl:x=r:=by simpa using hi
     obtain rfl:fp0=fp:=by simpa using hf
     exact⟨v,e1,h5⟩
    |succ i=>obtain⟨v',q1,q2⟩:=h4 i r fp (by simpa using hi) (by simpa using hf);exact⟨v',by rw[<-q1,show k0+(i+1)=k0+1+i by omega],q2⟩
   cases e2 with|nil=>obtain rfl:=aa hx;exact fin [] ⟨rfl,rfl⟩ rfl|@bf rows0 _ b q1 _ _=>obtain rfl:=aa hx;refine fin [b] ⟨b,rfl,q1⟩ ?_;simp only[m_];rw[show l.aL+k0=l.aL+(k0+0)from rfl,hget,e1];simp only[Option.bind_some,q1.bU,List.singleton_append]|out _=>simp[I1]at hx
  .simp at h
theorem x_{H:bl}{sz id off len:Nat}{t:T}{bf rd:List Nat}{v:Value}(hI:Inv S K w0 Kn φ (au H) w)(hc:RC S w Kn φ (.dq sz id off len) v)
  (h:(match au H id with
  |some (.aH _ rows)=>if off+len<=rows.length then some (T.sl sz ((rows.drop off).take len),[id],[id])else none
  |some (.lB _ rows)=>if off+len<=rows.length then some (.d (.sl sz ((rows.drop off).take len)),[],[id])else none
  |some (.nst szi slots)=>if off=0/\len=slots.length then(match pD slots with|some rows=>some (.ui szi rows,[id],[id])|none=>none)else none
  |_=>none)=some (t,bf,rd)):
  RT S w t v (bf.flatMap (fc w φ (au H)))/\∀i∈bf,∃o,au H i=some o/\bP o=true:=by
 split at h
 .rename_i szo rows ho;split at h
  .rename_i hle;obtain⟨rfl,rfl,rfl⟩:T.sl sz ((rows.drop off).take len)=t/\[id]=bf/\[id]=rd:=by simpa using h
   obtain⟨hk,h0⟩:=hI.fC _ _ ho;cases h0 with
   |aH hsz hl hS hK hown hext hfit hr=>
    subst hl;cases hc with
    |dq hk hcap haddr hx=>
     rw[bd,List.flatMap_nil,aW,jY fun _ _ e=>by rw[ho]at e;cases e];refine⟨.sl hsz hown (by simp;omega) hcap (by omega) (hr.rE off len fun h=>haddr (by omega)),fun i hi=>?_⟩
     .obtain rfl:=am.1 hi;exact⟨_,ho,rfl⟩
  .simp at h
 .rename_i szo rows ho;split at h
  .rename_i hle;obtain⟨rfl,rfl,rfl⟩:T.d (.sl sz ((rows.drop off).take len))=t/\[]=bf/\[id]=rd:=by simpa using h
   obtain⟨hk,h0⟩:=hI.fC _ _ ho;have hS:S (φ id).bU:=by cases h0 with|lB hsz hl hS _=>exact hS
   exact⟨.d (xr hI hc (.inr ho) hle (eM.refl _ _) hS),fun i hi=>by simp at hi⟩
  .simp at h
 .rename_i szi slots ho;split at h
  .rename_i he;obtain⟨rfl,rfl⟩:=he;split at h
   .rename_i rows hrows;obtain⟨rfl,rfl,rfl⟩:T.ui szi rows=t/\[id]=bf/\[id]=rd:=by simpa using h
    obtain⟨hk,h0⟩:=hI.fC _ _ ho;cases h0 with
    |@nst _ _ aH hsz hl hS hK hown hext hfit hr hv=>
     obtain⟨h1,fps,h2,h3,h4⟩:=CO (get:=fun i=>aH[i]?) hown.cell slots 0 rows (fun i s hi=>by rw[bD];exact hr i s hi) hrows;cases hc with
     |@dq _ _ _ cap addr hk hcap haddr hx hcc=>
      rw[bd,List.flatMap_nil,aW];have e:fc w φ (au H) id=(φ id).bU::fps.flatten:=by unfold fc;rw[ho,h3]
      rw[e,<-h1];refine⟨.ui (sz:=szi) (rows:=rows) hsz hown (by omega) (by rw[hl,iC]at hx;omega) h2 fun i r fp hi hf=>?_,fun i hi=>?_⟩
      .obtain ⟨v,q1,q2⟩:=h4 i r fp hi hf;have hlt:=(ah.1 hi).1;rw[bD]at q1;exact⟨v,by rw[haddr (by omega),gq,cN];exact q1,q2⟩
      .obtain rfl:=am.1 hi;exact⟨_,ho,rfl⟩
   .simp at h
  .simp at h
 .simp at h
theorem BT{H:bl}{id:Nat}{t:T}{bf rd:List Nat}{v:Value}(hI:Inv S K w0 Kn φ (au H) w)(hc:RC S w Kn φ (.om id) v)
  (h:(match au H id with
  |some (.map ka va es bA)=>some (T.mp ka va es bA,[id],[id])
  |_=>none)=some (t,bf,rd)):
  RT S w t v (bf.flatMap (fc w φ (au H)))/\∀i∈bf,∃o,au H i=some o/\bP o=true:=by
 split at h
 .rename_i ka va es bA ho;obtain⟨rfl,rfl,rfl⟩:T.mp ka va es bA=t/\[id]=bf/\[id]=rd:=by simpa using h
  obtain⟨_,h0⟩:=hI.fC _ _ ho;cases h0 with
  |map hS hK hm hlen hr=>cases hc with|om hk=>rw[bd,List.flatMap_nil,aW,jY fun _ _ e=>by rw[ho]at e;cases e];exact⟨.mp hm hlen hr,fun i hi=>by obtain rfl:=am.1 hi;exact⟨_,ho,rfl⟩⟩
 .simp at h
theorem nc{H:bl}(hI:Inv S K w0 Kn φ (au H) w):∀n,
  (∀c t bf rd v,cR H n c=some (t,bf,rd)->RC S w Kn φ c v->RT S w t v (bf.flatMap (fc w φ (au H)))/\∀i∈bf,∃o,au H i=some o/\bP o=true)/\
  (∀cs ts bf rd,fF H n cs=some (ts,bf,rd)->∀(get:Nat->Value),(∀(i:Nat)(c:C),cs[i]?=some c->RC S w Kn φ c (get i))->
   ts.length=cs.length/\(∃fps:List (List Nat),fps.length=ts.length/\fps.flatten=bf.flatMap (fc w φ (au H))/\
    ∀(i:Nat)(t:T)(fp:List Nat),ts[i]?=some t->fps[i]?=some fp->RT S w t (get i) fp)/\∀i∈bf,∃o,au H i=some o/\bP o=true):=by
 intro n;induction n with
 |zero=>
  refine⟨fun c t bf rd v h hc=>?_,fun cs ts bf rd h get hg=>?_⟩
  .cases c with
   |d x=>
    obtain⟨rfl,rfl,rfl⟩:T.d x=t/\[]=bf/\[]=rd:=by simpa[cR]using h
    cases hc with|d hd=>exact⟨.d hd,fun i hi=>by simp at hi⟩
   |dq sz id off len=>simp only[cR]at h;exact x_ hI hc h
   |om id=>simp only[cR]at h;exact BT hI hc h
   |_=>simp[cR]at h
  .cases cs with
   |nil=>
    obtain⟨rfl,rfl,rfl⟩:[]=ts/\[]=bf/\[]=rd:=by simpa[fF]using h
    exact⟨rfl,⟨[],rfl,rfl,fun i t fp hi=>by simp at hi⟩,fun i hi=>by simp at hi⟩
   |cons c cs=>simp[fF]at h
 |succ n ih=>
  obtain⟨ihc,ihl⟩:=ih;refine⟨fun c t bf rd v h hc=>?_,fun cs ts bf rd h get hg=>?_⟩
  .cases c with
   |d x=>
    obtain⟨rfl,rfl,rfl⟩:T.d x=t/\[]=bf/\[]=rd:=by simpa[cR]using h
    cases hc with|d hd=>exact⟨.d hd,fun i hi=>by simp at hi⟩
   |dq sz id off len=>simp only[cR]at h;exact x_ hI hc h
   |op id off=>
    cases off with
    |succ off=>simp[cR]at h
    |zero=>
     simp only[cR]at h;split at h
     .rename_i cells ho;split at h
      .rename_i ts own' rd' hp;obtain⟨rfl,rfl,rfl⟩:T.pt ts=t/\id::own'=bf/\id::rd'=rd:=by simpa using h
       obtain⟨hk,h0⟩:=hI.fC _ _ ho;cases h0 with
       |@box _ aH hb hS hK hown hlen hr=>
        obtain⟨h1,⟨fps,h2,h3,h4⟩,h5⟩:=ihl cells ts own' rd' hp (fun i=>aH.getD i undef) hr;cases hc with
        |op hk=>
         rw[hb];refine⟨?_,fun i hi=>?_⟩
         .rw [bd,<-h3,jY fun _ _ e=>by rw[ho]at e;cases e];exact .pt hown (h1.trans hlen) h2 h4
         .rcases aD.1 hi with rfl|hi
          .exact ⟨_,ho,rfl⟩
          .exact h5 i hi
      .simp at h
     .rename_i cells ho;obtain⟨rfl,rfl,rfl⟩:T.d (.pt cells)=t/\[]=bf/\[id]=rd:=by simpa using h
      obtain⟨hk,h0⟩:=hI.fC _ _ ho;cases h0 with
      |kA hb hS hr=>cases hc with|op hk=>exact⟨.d (.sS hS fun j x hj=>by obtain⟨u,hu,hd⟩:=hr j x hj;exact⟨u,by rw[<-hu,hb];simp,hd⟩),fun i hi=>by simp at hi⟩
     .simp at h
   |ep id dv off=>simp[cR]at h
   |kR f caps=>simp[cR]at h
   |om id=>simp only[cR]at h;exact BT hI hc h
  .cases cs with
   |nil=>
    obtain⟨rfl,rfl,rfl⟩:[]=ts/\[]=bf/\[]=rd:=by simpa[fF]using h
    exact⟨rfl,⟨[],rfl,rfl,fun i t fp hi=>by simp at hi⟩,fun i hi=>by simp at hi⟩
   |cons c cs=>
    simp only[fF]at h;split at h
    .rename_i t0 a i0 ts0 b j0 hx hxs;obtain⟨rfl,rfl,rfl⟩:t0::ts0=ts/\a++b=bf/\i0++j0=rd:=by simpa using h
     obtain⟨p1,p2⟩:=ihc c t0 a i0 (get 0) hx (hg 0 c rfl);obtain⟨h1,⟨fps,h2,h3,h4⟩,h5⟩:=ihl cs ts0 b j0 hxs (fun i=>get (i+1)) (fun i c hi=>hg (i+1) c (by simpa using hi));refine⟨by simp[h1],⟨(a.flatMap (fc w φ (au H)))::fps,by simp[h2],by simp[h3],fun i t fp hi hfp=>?_⟩,fun i hi=>?_⟩
     .cases i with
      |zero=>
       obtain rfl:t0=t:=by simpa using hi
       obtain rfl:(a.flatMap (fc w φ (au H)))=fp:=by simpa using hfp
       exact p1
      |succ i=>exact h4 i t fp (by simpa using hi) (by simpa using hfp)
     .rcases aj.1 hi with hi|hi
      .exact p2 i hi
      .exact h5 i hi
    .simp at h
theorem vK{bf:List Nat}(hI:Inv S K w0 Kn φ hf w)(hn:bf.Nodup)(ho:∀i∈bf,∃o,hf i=some o/\bP o=true):(bf.flatMap (fc w φ hf)).Nodup:=by induction bf with|nil=>exact fU|cons a l ih=>rw[fm]at hn;obtain⟨o1,h1,h2⟩:=ho a (by simp);rw[bd,cA];refine⟨Bm hI h1 h2,ih hn.2 fun i hi=>ho i (av _ hi),fun x hx y hy e=>?_⟩;subst e;obtain⟨i,hi,hy⟩:=List.mem_flatMap.1 hy;obtain⟨o2,h3,h4⟩:=ho i (av _ hi);exact kj hI h1 h3 h2 h4 (fun e'=>hn.1 (e'▸hi)) hx hy
def kF(Kn:Nat->Prop)(a b:Nat)(j:Nat):Prop:=Kn j\/(a<=j/\j<b)
theorem Inv.name(h:Inv S K w0 Kn φ hf w){i:Nat}(hi:¬Kn i)(l:eG)(o:Ob)(hfree:bP o=true->∀j b,hf j=some b->bP b=true->l.bU∉fc w φ hf j)
  (hro:RO S K w (fun j=>Kn j\/j=i) (ext φ i l) l o)
  (hp:∀sz sl k x,o=.nst sz sl->nH w l sl k x->x≠l.bU/\(∀j b,hf j=some b->bP b=true->x∉fc w φ hf j)/\∀k',nH w l sl k' x->k'=k:=by intro _ _ _ _ e;cases e):
  Inv S K w0 (fun j=>Kn j\/j=i) (ext φ i l) (a_ [(i,some o)] hf) w:=by
 have hold:∀j b,a_ [(i,some o)] hf j=some b->(j=i/\b=o/\ext φ i l j=l)\/(j≠i/\hf j=some b/\ext φ i l j=φ j):=by
  intro j b hj;rw[bB]at hj;by_cases e:i=j
  .rw [if_pos e]at hj;exact .inl ⟨e.symm,(aa hj).symm,by simp[ext,e]⟩
  .rw [if_neg e,dU]at hj;have e1:¬j=i:=fun q=>e q.symm;exact .inr ⟨e1,hj,by simp[ext,e1]⟩
 refine h.pY (eM.refl _ _) (fW _ hi) h.pU h.sk h.j8 ?_ ?_ ?_
 .intro id o' ho;rcases hold id o' ho with⟨rfl,rfl,e⟩|⟨_,ho,_⟩
  .exact .inr ⟨.inr rfl,by rw[e];exact hro⟩
  .exact .inl ⟨ho,fun hown=>⟨rfl,((h.fC id o' ho).2.bf hown).1⟩,h.yQ ho fun _ _=>rfl⟩
 .intro a b oa ob ha hb hoa hob hne;rcases hold a oa ha with⟨h1,h2,e1⟩|⟨_,ha',e1⟩<;>rcases hold b ob hb with⟨h3,h4,e2⟩|⟨_,hb',e2⟩
  .exact absurd (h1.trans h3.symm) hne
  .rw [e1,e2];exact fun e=>hfree (h2▸hoa) b ob hb' hob (cS.2 (.inl e))
  .rw [e1,e2];exact fun e=>hfree (h4▸hob) a oa ha' hoa (cS.2 (.inl e.symm))
  .rw [e1,e2];exact h.kJ a b oa ob ha' hb' hoa hob hne
 .intro a sz sl k x ha hpa;rcases hold a _ ha with⟨ea,eo,e1⟩|⟨hne,ha',e1⟩<;>rw[e1]at hpa
  .obtain ⟨p1,p2,p3⟩:=hp sz sl k x eo.symm hpa;refine⟨fun j b hj hown=>?_,fun j sz' sl' k' hj hpj=>?_⟩
   .rcases hold j b hj with⟨_,_,e2⟩|⟨_,hj',e2⟩<;>rw[e2]
    .exact fun e=>p1 e.symm
    .exact fun e=>p2 j b hj' hown (cS.2 (.inl e.symm))
   .rcases hold j _ hj with⟨ej,eo2,e2⟩|⟨_,hj',e2⟩<;>rw[e2]at hpj
    .rw [<-eo]at eo2;cases eo2;exact⟨ej.trans ea.symm,p3 k' hpj⟩
    .exact absurd (cS.2 (.inr ⟨sz',sl',k',hj',hpj⟩)) (p2 j _ hj' rfl)
  .obtain ⟨p1,p2⟩:=h.rp a sz sl k x ha' hpa;refine⟨fun j b hj hown=>?_,fun j sz' sl' k' hj hpj=>?_⟩
   .rcases hold j b hj with⟨_,eo,e2⟩|⟨_,hj',e2⟩<;>rw[e2]
    .exact fun e=>hfree (eo▸hown) a _ ha' rfl (cS.2 (.inr ⟨sz,sl,k,ha',e▸hpa⟩))
    .exact p1 j b hj' hown
   .rcases hold j _ hj with⟨_,eo,e2⟩|⟨_,hj',e2⟩<;>rw[e2]at hpj
    .exact absurd (cS.2 (.inr ⟨sz,sl,k,ha',hpa⟩)) ((hp sz' sl' k' x eo.symm hpj).2.1 a _ ha' rfl)
    .exact p2 j sz' sl' k' hj' hpj
theorem Inv.kn{Kn':Nat->Prop}(h:Inv S K w0 Kn φ hf w)(hs:∀i,Kn i->Kn' i):Inv S K w0 Kn' φ hf w:=h.ll (eM.refl _ _) ⟨hs,fun _ _=>rfl⟩ h.pU h.sk h.j8 (fun id o ho=>.inl ⟨ho,fun hown=>⟨rfl,((h.fC id o ho).2.bf hown).1⟩⟩) h.kJ (h.uV fun _ _=>rfl)
structure nz(S K:Nat->Prop)(w0 w:World)(Kn:Nat->Prop)(φ:Nat->eG)(hf:Nat->Option Ob)(fp:List Nat)(nxt m:Nat)(u:dD)(φ':Nat->eG):Prop where
 le:nxt<=m
 nZ:Ren Kn φ (kF Kn nxt m) φ'
 inv:Inv S K w0 (kF Kn nxt m) φ' (a_ u hf) w
 eJ:∀p∈u,nxt<=p.1/\p.1<m
 bU:∀p∈u,∀x∈fc w φ' (a_ u hf) p.1,x∈fp
theorem lT(a b:Nat):Ren Kn φ (kF Kn a b) φ:=⟨fun _ h=>.inl h,fun _ _=>rfl⟩
theorem nz.nil(h:Inv S K w0 Kn φ hf w)(fp:List Nat)(n:Nat):nz S K w0 w Kn φ hf fp n n [] φ:=⟨ak _,lT _ _,h.kn fun _ hi=>.inl hi,fun p hp=>by simp at hp,fun p hp=>by simp at hp⟩
theorem nz.skip(h:Inv S K w0 Kn φ hf w)(fp:List Nat)(n:Nat):nz S K w0 w Kn φ hf fp n (n+1) [] φ:=⟨bg _,lT _ _,h.kn fun _ hi=>.inl hi,fun p hp=>by simp at hp,fun p hp=>by simp at hp⟩
theorem iA{α:Type}{u:List (Nat×α)}{id:Nat}(h:∀p∈u,p.1≠id):bM u id=none:=by
 induction u with
 |nil=>rfl
 |cons p r ih=>
  obtain⟨i,x⟩:=p;have e:(i==id)=false:=by simpa using h (i,x) (by simp)
  simp only[bM,e,cond_false];exact ih fun q hq=>h q (by simp[hq])
def pj(w:World)(φ:Nat->eG)(hf:Nat->Option Ob)(fp:List Nat):Prop:=∀j b,hf j=some b->bP b=true->∀x∈fc w φ hf j,x∉fp
theorem ng{a b c:Nat}(h1:a<=b)(h2:b<=c)(j:Nat):kF (kF Kn a b) b c j<->kF Kn a c j:=by
 unfold kF;constructor
 .rintro ((h|h)|h)
  .exact .inl h
  .exact .inr (by omega)
  .exact .inr (by omega)
 .rintro (h|h)
  .exact .inl (.inl h)
  .by_cases e:j<b
   .exact .inl (.inr (by omega))
   .exact .inr (by omega)
theorem Inv.qj{Kn':Nat->Prop}(h:Inv S K w0 Kn φ hf w)(hs:∀i,Kn i<->Kn' i):Inv S K w0 Kn' φ hf w:=h.kn fun i hi=>(hs i).1 hi
theorem RC.kn{Kn':Nat->Prop}{c:C}{v:Value}(h:RC S w Kn φ c v)(hs:∀i,Kn i->Kn' i):RC S w Kn' φ c v:=h.mono (eM.refl _ _) ⟨hs,fun _ _=>rfl⟩
theorem eC{φ':Nat->eG}{hf':Nat->Option Ob}{i:Nat}(h1:φ i=φ' i)(h2:hf i=hf' i):fc w φ hf i=fc w φ' hf' i:=by unfold fc;rw[h1,h2]
theorem nz.lJ{fa fb:List Nat}{n m k:Nat}{u v:dD}{φ1 φ2:Nat->eG}(a:nz S K w0 w Kn φ hf fa n m u φ1)(b:nz S K w0 w (kF Kn n m) φ1 (a_ u hf) fb m k v φ2):
  nz S K w0 w Kn φ hf (fa++fb) n k (v++u) φ2 where
 le:=dg a.le b.le
 nZ:=⟨fun i h=>.inl h,fun i h=>(b.nZ.same i (.inl h)).trans (a.nZ.same i h)⟩
 inv:=by rw[cK];exact b.inv.qj fun i=>ng a.le b.le i
 eJ p hp:=by
  have:=a.le;have:=b.le;rcases aj.1 hp with h|h
  .have:=b.eJ p h;omega
  .have:=a.eJ p h;omega
 bU p hp:=by
  intro x hx;rcases aj.1 hp with h|h
  .rw [cK]at hx;exact List.mem_append_right _ (b.bU p h x hx)
  .have hn:bM v p.1=none:=iA fun q hq e=>by have:=a.eJ p h;have:=b.eJ q hq;omega
   have e:a_ (v++u) hf p.1=a_ u hf p.1:=by simp only[a_,eP,hn]
   have e2:=eC (w:=w) (b.nZ.same p.1 (.inr (a.eJ p h))) e;rw[e2]at hx;exact List.mem_append_left _ (a.bU p h x hx)
theorem jw{u v:dD}(h:∀p∈u,∀q∈v,p.1≠q.1):a_ (u++v) hf=a_ (v++u) hf:=by
 funext id;simp only[a_,eP];cases hu:bM u id with
 |none=>cases bM v id<;>simp
 |some x=>
  have:bM v id=none:=by
   refine iA fun q hq e=>?_
   have hm:∃p∈u,p.1=id:=by
    clear h;induction u with
    |nil=>simp[bM]at hu
    |cons p r ih=>
     obtain⟨i,y⟩:=p;by_cases e':i=id
     .exact ⟨(i,y),by simp,e'⟩
     .have e2:(i==id)=false:=by simpa using e'
      simp only[bM,e2,cond_false]at hu;obtain⟨p,hp,hpe⟩:=ih hu;exact⟨p,by simp[hp],hpe⟩
   obtain⟨p,hp,hpe⟩:=hm;exact h p hp q hq (hpe.trans e.symm)
  simp[this]
theorem ma(nxt:Nat)(ts:List T):gY nxt (.pt ts)=(.op nxt 0,(nxt,some (.box (fy (nxt+1) ts).1))::(fy (nxt+1) ts).2.1,(fy (nxt+1) ts).2.2):=rfl
theorem mu(nxt:Nat)(t:T)(ts:List T):fy nxt (t::ts)=((gY nxt t).1::(fy (gY nxt t).2.2 ts).1,(gY nxt t).2.1++(fy (gY nxt t).2.2 ts).2.1,(fy (gY nxt t).2.2 ts).2.2):=rfl
theorem y7{x:Nat}:∀{fps:List (List Nat)}{k k':Nat},fps.flatten.Nodup->fps[k]?=some [x]->fps[k']?=some [x]->k=k':=by
 intro fps;induction fps with
 |nil=>intro k k' _ h;simp at h
 |cons fp fps ih=>
  intro k k' hn h1 h2;rw[da,cA]at hn;have hm:∀k,fps[k]?=some [x]->x∈fps.flatten:=fun k h=>cY.2 ⟨[x],aT h,by simp⟩;cases k with
  |zero=>
   obtain rfl:fp=[x]:=by simpa using h1
   cases k' with|zero=>rfl|succ k'=>exact absurd rfl (hn.2.2 x (by simp) x (hm k' (by simpa using h2)))
  |succ k=>
   cases k' with
   |zero=>
    obtain rfl:fp=[x]:=by simpa using h2
    exact absurd rfl (hn.2.2 x (by simp) x (hm k (by simpa using h1)))
   |succ k'=>exact congrArg Nat.succ (ih hn.2.1 (by simpa using h1) (by simpa using h2))
mutual
theorem Ej(t:T):∀nxt,nxt<=(gY nxt t).2.2:=by intro nxt;cases t with|d x=>exact bg _|qV=>exact bg _|sl sz rows=>exact bg _|ui sz rows=>exact bg _|mp ka va es bA=>exact bg _|pt ts=>rw[ma];exact Nat.le_of_succ_le (qv ts (nxt+1))
theorem qv(ts:List T):∀nxt,nxt<=(fy nxt ts).2.2:=by intro nxt;cases ts with|nil=>exact ak _|cons t ts=>rw[mu];exact dg (Ej t nxt) (qv ts _)
end
mutual
theorem qw(t:T):∀{Kn:Nat->Prop}{φ:Nat->eG}{hf:Nat->Option Ob}(nxt:Nat)(v:Value)(fp:List Nat),Inv S K w0 Kn φ hf w->(∀j,nxt<=j->j<(gY nxt t).2.2->¬Kn j)->
  RT S w t v fp->fp.Nodup->(∀b∈fp,¬S b/\¬K b)->pj w φ hf fp->
  ∃φ',nz S K w0 w Kn φ hf fp nxt (gY nxt t).2.2 (gY nxt t).2.1 φ'/\RC S w (kF Kn nxt (gY nxt t).2.2) φ' (gY nxt t).1 v:=by
 intro Kn φ hf nxt v fp hI hfr hr hnd hSK haw;cases t with
 |qV=>cases hr
 |d x=>cases hr with|d hd=>exact⟨φ,nz.skip hI _ _,.d hd⟩
 |sl sz rows=>
  cases hr with
  |@sl _ _ b off len cap aH hsz ho hlen hcap hext hrr=>
   have hnx:¬Kn nxt:=hfr nxt (ak _) (aS _);refine⟨ext φ nxt ⟨b,off,sz,aH.size,cap⟩,?_,?_⟩
   .have hin:=hI.name (hnx) ⟨b,off,sz,aH.size,cap⟩ (.aH sz rows) (fun _ j o hj hown hm=>haw j o hj hown _ hm (by simp))
     (.aH hsz rfl (hSK b (by simp)).1 (hSK b (by simp)).2 ho rfl (by have:rows.length*sz<=cap*sz:=aF _ (by omega);simp only;omega) hrr (by simp only;omega))
    refine⟨bg _,⟨fun i h=>.inl h,(fW _ (hnx)).same⟩,hin.qj fun i=>?_,fun p hp=>?_,fun p hp=>?_⟩
    .simp only[kF,gY];constructor
     .rintro (h|rfl)
      .exact .inl h
      .exact .inr (by omega)
     .rintro (h|h)
      .exact .inl h
      .exact .inr (by omega)
    .obtain rfl:p=_:=by simpa[gY]using hp
     simp[gY]
    .obtain rfl:p=_:=by simpa[gY]using hp
     rw[jY fun _ _ e=>by simp[gY,a_,bM]at e];simp[ext]
   .have e:(ext φ nxt ⟨b,off,sz,aH.size,cap⟩) nxt=⟨b,off,sz,aH.size,cap⟩:=by simp[ext]
    have:=RC.dq (S:=S) (w:=w) (Kn:=kF Kn nxt (nxt+1)) (φ:=ext φ nxt ⟨b,off,sz,aH.size,cap⟩) (id:=nxt) (off:=0) (len:=rows.length) (cap:=cap) (addr:=off) (.inr (by omega)) (by omega) (by rw[e];simp) (by rw[e];simpa using hext) (by rw[e];simp);rw[e]at this;simpa[gY,hlen]using this
 |ui sz rows=>
  cases hr with
  |@ui _ _ b off cap aH fps hsz ho hcap hext hfl hrr=>
   have hnx:¬Kn nxt:=hfr nxt (ak _) (aS _);rw[fm]at hnd;have hget:∀i,w.cell? ⟨b,i,none⟩=aH[i]?:=ho.cell;have hpat:∀k x,nH w ⟨b,off,1,aH.size,cap⟩ (rows.map jO) k x->∃fp,fps[k]?=some fp/\fp=[x]:=by rintro k x ⟨rs,v,h1,h2,h3⟩;rw[aB]at h1;obtain⟨r,hr1,hr2⟩:=aG.1 h1;have hlt:=(ah.1 hr1).1;have hf:fps[k]?=some fps[k]:=ai (by omega);obtain⟨v',q1,q2⟩:=hrr k r fps[k] hr1 hf;simp only[hget,q1,bH]at h2;subst h2;cases r with|none=>cases hr2|some rows'=>obtain⟨b',q3,q4⟩:=q2;rw[q4.bU]at h3;obtain rfl:=aa h3;exact⟨_,hf,q3⟩
   have hmem:∀k x,nH w ⟨b,off,1,aH.size,cap⟩ (rows.map jO) k x->x∈fps.flatten:=fun k x hp=>by obtain⟨fp,h1,rfl⟩:=hpat k x hp;exact cY.2 ⟨[x],aT h1,by simp⟩
   have hin:=hI.name (hnx) ⟨b,off,1,aH.size,cap⟩ (.nst sz (rows.map jO)) (fun _ j o hj hown hm=>haw j o hj hown _ hm (by simp))
    (.nst hsz rfl (hSK b (by simp)).1 (hSK b (by simp)).2 ho rfl (by simp only[aK];omega) (fun i s hi=>by
     rw[aB]at hi;obtain⟨r,hr1,rfl⟩:=aG.1 hi;have hlt:=(ah.1 hr1).1;have hf:fps[i]?=some fps[i]:=ai (by omega);obtain⟨v,q1,q2⟩:=hrr i r fps[i] hr1 hf;refine⟨v,q1,?_⟩;cases r with
     |none=>obtain⟨rfl,_⟩:=q2;exact .nil
     |some rows'=>obtain⟨b',q3,q4⟩:=q2;have hm:b'∈fps.flatten:=cY.2 ⟨fps[i],List.getElem_mem _,by rw[q3];simp⟩;exact .bf q4 (hSK b' (av _ hm)).1 (hSK b' (av _ hm)).2) (by simp only[aK];omega))
    (fun sz' sl' k x eo hp=>by cases eo;have hm:=hmem k x hp;refine⟨fun e=>hnd.1 (by have e:x=b:=e;rw[<-e];exact hm),fun j b' hj hown hx=>haw j b' hj hown x hx (av _ hm),fun k' hp'=>?_⟩;obtain⟨fp,h1,rfl⟩:=hpat k x hp;obtain⟨fp',h2,rfl⟩:=hpat k' x hp';exact y7 hnd.2 h2 h1)
   refine⟨ext φ nxt ⟨b,off,1,aH.size,cap⟩,?_,?_⟩
   .refine ⟨bg _,⟨fun i h=>.inl h,(fW _ (hnx)).same⟩,hin.qj fun i=>?_,fun p hp=>?_,fun p hp x hx=>?_⟩
    .simp only[kF,gY];constructor
     .rintro (h|rfl)
      .exact .inl h
      .exact .inr (by omega)
     .rintro (h|h)
      .exact .inl h
      .exact .inr (by omega)
    .obtain rfl:p=_:=by simpa[gY]using hp
     simp[gY]
    .obtain rfl:p=_:=by simpa[gY]using hp
     have e:a_ (gY nxt (T.ui sz rows)).2.1 hf nxt=some (.nst sz (rows.map jO)):=by simp[gY,a_,bM]
     rcases cS.1 hx with rfl|⟨sz',sl',k,h1,h2⟩
     .simp [ext]
     .rw [e]at h1;cases h1;simp only[ext,if_true]at h2;exact av _ (hmem k x h2)
   .have e:(ext φ nxt ⟨b,off,1,aH.size,cap⟩) nxt=⟨b,off,1,aH.size,cap⟩:=by simp[ext]
    have:=RC.dq (S:=S) (w:=w) (Kn:=kF Kn nxt (nxt+1)) (φ:=ext φ nxt ⟨b,off,1,aH.size,cap⟩) (id:=nxt) (off:=0) (len:=rows.length) (cap:=cap) (addr:=off) (.inr (by omega)) (by omega) (by rw[e];simp) (by rw[e];simpa using hext) (by rw[e];simp);rw[e]at this;simpa[gY]using this
 |mp ka va es bA=>
  cases hr with
  |@mp _ _ _ _ b ms ho hlen hr=>
   have hnx:¬Kn nxt:=hfr nxt (ak _) (aS _);have hin:=hI.name (hnx) ⟨b,0,1,0,0⟩ (.map ka va es bA) (fun _ j o hj hown hm=>haw j o hj hown _ hm (by simp)) (.map (hSK b (by simp)).1 (hSK b (by simp)).2 ho hlen hr);refine⟨ext φ nxt ⟨b,0,1,0,0⟩,⟨bg _,⟨fun i h=>.inl h,(fW _ (hnx)).same⟩,hin.qj fun i=>?_,fun p hp=>?_,fun p hp=>?_⟩,?_⟩
   .simp only[kF,gY];constructor
    .rintro (h|rfl)
     .exact .inl h
     .exact .inr (by omega)
    .rintro (h|h)
     .exact .inl h
     .exact .inr (by omega)
   .obtain rfl:p=_:=by simpa[gY]using hp
    simp[gY]
   .obtain rfl:p=_:=by simpa[gY]using hp
    rw[jY fun _ _ e=>by simp[gY,a_,bM]at e];simp[ext]
   .have:=RC.om (S:=S) (w:=w) (Kn:=kF Kn nxt (nxt+1)) (φ:=ext φ nxt ⟨b,0,1,0,0⟩) (id:=nxt) (.inr (by omega));simpa[ext,gY]using this
 |pt ts=>
  cases hr with
  |@pt _ b aH fps ho hlen hfl h=>
   rw[fm]at hnd;have hnx:¬Kn nxt:=hfr nxt (ak _) (by rw[ma];exact qv ts (nxt+1))
   obtain⟨φ1,hL,hrc⟩:=oJ ts (Kn:=Kn) (φ:=φ) (hf:=hf) (nxt+1) (fun i=>aH.getD i undef) fps hI (fun j hj hj2=>hfr j (by omega) (by rw[ma];exact hj2)) hfl h hnd.2
    (fun b' hb'=>hSK b' (by simp[hb'])) (fun j o hj hown x hx hm=>haw j o hj hown x hx (av _ hm))
   have hm:=hL.le
   have hnk:¬kF Kn (nxt+1) (fy (nxt+1) ts).2.2 nxt:=by
    rintro(h|h)
    .exact hnx h
    .omega
   refine⟨ext φ1 nxt ⟨b,0,1,aH.size,0⟩,?_,?_⟩
   .have hin:=hL.inv.name hnk ⟨b,0,1,aH.size,0⟩ (.box (fy (nxt+1) ts).1) (fun _ j o hj hown hm=>by
      by_cases hu:∃p∈(fy (nxt+1) ts).2.1,p.1=j
      .obtain ⟨p,hp,rfl⟩:=hu;exact hnd.1 (hL.bU p hp _ hm)
      .have hfn:bM (fy (nxt+1) ts).2.1 j=none:=iA fun p hp e=>hu ⟨p,hp,e⟩;have hj':=hj;simp only[a_,hfn]at hj';have hk:=(hI.fC j o hj').1;rw[eC (hL.nZ.same j hk) (hj.trans hj'.symm)]at hm;exact haw j o hj' hown _ hm (by simp))
     (.box rfl (hSK b (by simp)).1 (hSK b (by simp)).2 ho (hrc.1.trans hlen) fun i c hi=>(hrc.2 i c hi).mono (eM.refl _ _) (fW _ hnk))
    refine⟨?_,⟨fun i h=>.inl h,fun i hi=>?_⟩,?_,fun p hp=>?_,fun p hp=>?_⟩
    .simp only[ma];exact Nat.le_of_succ_le hm
    .have:i≠nxt:=fun e=>hnx (e▸hi);simp only[ext,this,if_false];exact hL.nZ.same i hi
    .have e:a_ (gY nxt (.pt ts)).2.1 hf=a_ [(nxt,some (.box (fy (nxt+1) ts).1))] (a_ (fy (nxt+1) ts).2.1 hf):=by rw[<-cK];rfl
     rw[e];refine hin.qj fun i=>?_;simp only[kF,ma];constructor
     .rintro ((h|h)|rfl)
      .exact .inl h
      .exact .inr (by omega)
      .exact .inr (by omega)
     .rintro (h|h)
      .exact .inl (.inl h)
      .by_cases e:i=nxt
       .exact .inr e
       .exact .inl (.inr (by omega))
    .simp only[ma]at hp|-;rcases aD.1 hp with rfl|hp
     .simp only;omega
     .have:=hL.eJ p hp;omega
    .simp only[ma]at hp;rcases aD.1 hp with rfl|hp
     .rw [jY fun _ _ e=>by simp[ma,a_,bM]at e];simp[ext]
     .have hne:¬p.1=nxt:=by have:=hL.eJ p hp;omega
      have hne':(nxt==p.1)=false:=by simpa using fun e=>hne e.symm
      intro x hx;rw[eC (φ':=φ1) (hf':=a_ (fy (nxt+1) ts).2.1 hf) (by simp only[ext,hne,if_false]) (by simp only[ma,a_,bM,hne',cond_false])]at hx;exact av _ (hL.bU p hp x hx)
   .have:=RC.op (S:=S) (w:=w) (Kn:=kF Kn nxt (fy (nxt+1) ts).2.2) (φ:=ext φ1 nxt ⟨b,0,1,aH.size,0⟩) (id:=nxt) (off:=0) (.inr (by omega));simpa[ma,ext]using this
theorem oJ(ts:List T):∀{Kn:Nat->Prop}{φ:Nat->eG}{hf:Nat->Option Ob}(nxt:Nat)(get:Nat->Value)(fps:List (List Nat)),Inv S K w0 Kn φ hf w->(∀j,nxt<=j->j<(fy nxt ts).2.2->¬Kn j)->
  fps.length=ts.length->(∀(i:Nat)(t:T)(fp:List Nat),ts[i]?=some t->fps[i]?=some fp->RT S w t (get i) fp)->fps.flatten.Nodup->(∀b∈fps.flatten,¬S b/\¬K b)->pj w φ hf fps.flatten->
  ∃φ',nz S K w0 w Kn φ hf fps.flatten nxt (fy nxt ts).2.2 (fy nxt ts).2.1 φ'/\(fy nxt ts).1.length=ts.length/\
   ∀(i:Nat)(c:C),(fy nxt ts).1[i]?=some c->RC S w (kF Kn nxt (fy nxt ts).2.2) φ' c (get i):=by
 intro Kn φ hf nxt get fps hI hfr hfl hr hnd hSK haw;cases ts with
 |nil=>exact⟨φ,nz.nil hI _ _,rfl,fun i c hi=>by simp[fy]at hi⟩
 |cons t ts=>
  cases fps with
  |nil=>simp at hfl
  |cons fp fps=>
   rw[da,cA]at hnd;obtain⟨hn1,hn2,hn3⟩:=hnd;simp only[da,aj]at hSK
   obtain⟨φ1,hL1,hc1⟩:=qw t (Kn:=Kn) (φ:=φ) (hf:=hf) nxt (get 0) fp hI (fun j hj hj2=>hfr j hj (by rw[mu];exact bQ hj2 (qv ts _))) (hr 0 t fp rfl rfl) hn1 (fun b hb=>hSK b (.inl hb))
    (fun j o hj hown x hx hm=>haw j o hj hown x hx (by simp[hm]))
   obtain⟨φ2,hL2,hlen,hc2⟩:=oJ ts (Kn:=kF Kn nxt (gY nxt t).2.2) (φ:=φ1) (hf:=a_ (gY nxt t).2.1 hf) (gY nxt t).2.2 (fun i=>get (i+1)) fps hL1.inv
    (fun j hj hj2 hk=>by
     rcases hk with hk|hk
     .have:=hL1.le;exact hfr j (by omega) (by rw[mu];exact hj2) hk
     .omega) (by simpa using hfl) (fun i t fp hi hfp=>hr (i+1) t fp (by simpa using hi) (by simpa using hfp)) hn2 (fun b hb=>hSK b (.inr hb))
    (fun j o hj hown x hx hm=>by
     by_cases hu:∃p∈(gY nxt t).2.1,p.1=j
     .obtain ⟨p,hp,rfl⟩:=hu;exact hn3 _ (hL1.bU p hp x hx) _ hm rfl
     .have hfn:bM (gY nxt t).2.1 j=none:=iA fun p hp e=>hu ⟨p,hp,e⟩;have hj':=hj;simp only[a_,hfn]at hj';have hk:=(hI.fC j o hj').1;rw[eC (hL1.nZ.same j hk) (hj.trans hj'.symm)]at hx;exact haw j o hj' hown x hx (by simp[hm]))
   have hcomp:=hL1.lJ hL2;have hcm:a_ ((fy (gY nxt t).2.2 ts).2.1++(gY nxt t).2.1) hf=a_ ((gY nxt t).2.1++(fy (gY nxt t).2.2 ts).2.1) hf:=jw fun p hp q hq e=>by have h1:=hL2.eJ p hp;have h2:=hL1.eJ q hq;omega
   refine⟨φ2,?_,by simp[mu,hlen],fun i c hi=>?_⟩
   .simp only[mu,da];have hsw:∀{p:Nat×Option Ob}{a b:dD},p∈a++b->p∈b++a:=fun hp=>aj.2 (aj.1 hp).symm;exact⟨hcomp.le,hcomp.nZ,hcm▸hcomp.inv,fun p hp=>hcomp.eJ p (hsw hp),fun p hp x hx=>hcomp.bU p (hsw hp) x (hcm.symm▸hx)⟩
   .have hsub:∀i,kF (kF Kn nxt (gY nxt t).2.2) (gY nxt t).2.2 (fy (gY nxt t).2.2 ts).2.2 i->kF Kn nxt (fy (gY nxt t).2.2 ts).2.2 i:=fun i=>(ng hL1.le hL2.le i).1;cases i with
    |zero=>
     obtain rfl:(gY nxt t).1=c:=by simpa[fy]using hi
     exact(hc1.mono (eM.refl _ _) hL2.nZ).kn hsub
    |succ i=>exact(hc2 i c (by simpa[mu]using hi)).kn hsub
end
theorem oO{α:Type}{l:List α}{k i:Nat}{x y:α}(h:(l.set k x)[i]?=some y):(k=i/\y=x/\i<l.length)\/(k≠i/\l[i]?=some y):=by
 rw[List.getElem?_set]at h;split at h
 .rename_i e;split at h
  .rename_i hlt;exact .inl ⟨e,(aa h).symm,e▸hlt⟩
  .simp at h
 .rename_i e;exact .inr ⟨e,h⟩
theorem Inv.Mu(h:Inv S K w0 Kn φ hf w){id:Nat}{o o':Ob}(ho:hf id=some o)(hown:bP o=true)(hno:Cw o')(hro:RO S K w Kn φ (φ id) o'):Inv S K w0 Kn φ (a_ [(id,some o')] hf) w:=by
 have hold:∀j b,a_ [(id,some o')] hf j=some b->(j=id/\b=o')\/(j≠id/\hf j=some b):=by
  intro j b hj;rw[bB]at hj;by_cases e:id=j
  .rw [if_pos e]at hj;exact .inl ⟨e.symm,(aa hj).symm⟩
  .rw [if_neg e,dU]at hj;exact .inr ⟨fun q=>e q.symm,hj⟩
 have was:∀j b,a_ [(id,some o')] hf j=some b->bP b=true->∃b',hf j=some b'/\bP b'=true:=by
  intro j b hj hb;rcases hold j b hj with⟨rfl,rfl⟩|⟨_,hj'⟩
  .exact ⟨o,ho,hown⟩
  .exact ⟨b,hj',hb⟩
 refine h.pY (eM.refl _ _) (Ren.refl _ _) h.pU h.sk h.j8 ?_ ?_ ?_
 .intro i x hx;rcases hold i x hx with⟨rfl,rfl⟩|⟨_,hx'⟩
  .exact .inr ⟨(h.fC i o ho).1,hro⟩
  .exact .inl ⟨hx',fun hown=>⟨rfl,((h.fC i x hx').2.bf hown).1⟩,h.yQ hx' fun _ _=>rfl⟩
 .intro i j a b ha hb hoa hob hne;obtain⟨a',h1,h2⟩:=was i a ha hoa;obtain⟨b',h3,h4⟩:=was j b hb hob;exact h.kJ i j a' b' h1 h3 h2 h4 hne
 .intro i sz sl k x hi hp;rcases hold i _ hi with⟨rfl,e⟩|⟨_,hi'⟩
  .obtain ⟨rows,v,h1,_⟩:=hp;exact absurd h1 (hno sz sl k rows e.symm)
  .obtain ⟨p1,p2⟩:=h.rp i sz sl k x hi' hp;refine⟨fun j b hj hb=>?_,fun j sz' sl' k' hj hpj=>?_⟩
   .obtain ⟨b',h1,h2⟩:=was j b hj hb;exact p1 j b' h1 h2
   .rcases hold j _ hj with⟨rfl,e⟩|⟨_,hj'⟩
    .obtain ⟨rows,v,h1,_⟩:=hpj;exact absurd h1 (hno sz' sl' k' rows e.symm)
    .exact p2 j sz' sl' k' hj' hpj
theorem Inv.split(h:Inv S K w0 Kn φ hf w){id nxt sz dv:Nat}{slots:List iq}{rows:List (List D)}(ho:hf id=some (.nst sz slots))(hs:slots[dv]?=some (.bf rows))(hn:¬Kn nxt):
  ∃l v,w.cell? ⟨(φ id).bU,(φ id).aL+dv,none⟩=some v/\RC S w (fun j=>Kn j\/j=nxt) (ext φ nxt l) (.dq sz nxt 0 rows.length) v/\
   Inv S K w0 (fun j=>Kn j\/j=nxt) (ext φ nxt l) (a_ [(nxt,some (.aH sz rows)),(id,some (.nst sz (slots.set dv (.out nxt rows.length))))] hf) w:=by
 obtain⟨hk,hro⟩:=h.fC id _ ho;have hne:id≠nxt:=fun e=>hn (e▸hk);cases hro with
 |@nst _ _ aH hsz hl hS hK hown hext hfit hr hv=>
  obtain⟨v,h1,h2⟩:=hr dv _ hs;cases h2 with
  |@bf _ _ b hrw hbS hbK=>
   obtain⟨addr,cap,ba,rfl,_,hbo,hcap,hfx,hrr⟩:=hrw;have hcell:w.cell? ⟨(φ id).bU,(φ id).aL+dv,none⟩=some (.slice (some ⟨b,addr,none⟩) rows.length cap):=(hown.cell _).trans h1;have hpat:nH w (φ id) slots dv b:=⟨rows,_,hs,hcell,rfl⟩
   obtain⟨p1,p2⟩:=h.rp id sz slots dv b ho hpat;have he:ext φ nxt ⟨b,addr,sz,ba.size,cap⟩ nxt=⟨b,addr,sz,ba.size,cap⟩:=by simp[ext]
   have heo:∀j,j≠nxt->ext φ nxt ⟨b,addr,sz,ba.size,cap⟩ j=φ j:=fun j hj=>by simp[ext,hj]
   have hren:=fW (φ:=φ) (⟨b,addr,sz,ba.size,cap⟩:eG) hn;have hrc:RC S w (fun j=>Kn j\/j=nxt) (ext φ nxt ⟨b,addr,sz,ba.size,cap⟩) (.dq sz nxt 0 rows.length) (.slice (some ⟨b,addr,none⟩) rows.length cap):=by have:=RC.dq (S:=S) (w:=w) (Kn:=fun j=>Kn j\/j=nxt) (φ:=ext φ nxt ⟨b,addr,sz,ba.size,cap⟩) (id:=nxt) (off:=0) (len:=rows.length) (cap:=cap) (addr:=addr) (.inr rfl) (by omega) (by rw[he];simp) (by rw[he];simpa using hfx) (by rw[he];simp);rw[he]at this;exact this
   refine⟨⟨b,addr,sz,ba.size,cap⟩,_,hcell,hrc,?_⟩
   have hold:∀j c,a_ [(nxt,some (.aH sz rows)),(id,some (.nst sz (slots.set dv (.out nxt rows.length))))] hf j=some c->(j=nxt/\c=.aH sz rows)\/(j=id/\c=.nst sz (slots.set dv (.out nxt rows.length)))\/(j≠nxt/\j≠id/\hf j=some c):=by
    intro j c hj;rw[bB]at hj;by_cases e:nxt=j
    .rw [if_pos e]at hj;exact .inl ⟨e.symm,(aa hj).symm⟩
    .rw [if_neg e,bB]at hj;by_cases e2:id=j
     .rw [if_pos e2]at hj;exact .inr (.inl ⟨e2.symm,(aa hj).symm⟩)
     .rw [if_neg e2,dU]at hj;exact .inr (.inr ⟨fun q=>e q.symm,fun q=>e2 q.symm,hj⟩)
   have hpat2:∀j sz' sl' k x,a_ [(nxt,some (.aH sz rows)),(id,some (.nst sz (slots.set dv (.out nxt rows.length))))] hf j=some (.nst sz' sl')->nH w (ext φ nxt ⟨b,addr,sz,ba.size,cap⟩ j) sl' k x->∃nV,hf j=some (.nst sz' nV)/\nH w (φ j) nV k x/\x≠b:=by
    intro j sz' sl' k x hj hp;rcases hold j _ hj with⟨_,e⟩|⟨rfl,e⟩|⟨e1,e2,hj'⟩
    .cases e
    .cases e;rw[heo _ hne]at hp;obtain⟨rows',v',q1,q2,q3⟩:=hp;rcases oO q1 with⟨_,e,_⟩|⟨hk',q1'⟩
     .cases e
     .have hp':nH w (φ j) slots k x:=⟨rows',v',q1',q2,q3⟩
      exact⟨slots,ho,hp',fun e=>hk' (by rw[((p2 j sz slots k ho (e▸hp')).2)])⟩
    .rw [heo _ e1]at hp;exact⟨sl',hj',hp,fun e=>e2 ((p2 j sz' sl' k hj' (e▸hp)).1)⟩
   refine h.pY (eM.refl _ _) hren h.pU h.sk h.j8 ?_ ?_ ?_
   .intro j c hj;rcases hold j c hj with⟨rfl,rfl⟩|⟨rfl,rfl⟩|⟨e1,_,hj'⟩
    .refine .inr ⟨.inr rfl,?_⟩;rw[he];exact .aH (by assumption) rfl hbS hbK hbo rfl (by have:=aF sz hcap;simp only;omega) hrr hcap
    .refine .inr ⟨.inl hk,?_⟩;rw[heo _ hne];refine .nst hsz hl hS hK hown hext (by rw[gi];exact hfit) (fun i s hi=>?_) (by rw[gi];exact hv);rcases oO hi with⟨rfl,rfl,_⟩|⟨_,hi'⟩
     .exact ⟨_,h1,.out hrc⟩
     .obtain ⟨v',q1,q2⟩:=hr i s hi';refine⟨v',q1,?_⟩;cases q2 with|nil=>exact .nil|bf h hS hK=>exact .bf h hS hK|out h=>exact .out (h.mono (eM.refl _ _) hren)
    .exact .inl ⟨hj',fun hown=>⟨rfl,((h.fC j c hj').2.bf hown).1⟩,h.yQ hj' fun _ _=>rfl⟩
   .intro i j a c ha hc hoa hoc hij
    have key:∀j c,a_ [(nxt,some (.aH sz rows)),(id,some (.nst sz (slots.set dv (.out nxt rows.length))))] hf j=some c->bP c=true->j≠nxt->(∃c',hf j=some c'/\bP c'=true)/\ext φ nxt ⟨b,addr,sz,ba.size,cap⟩ j=φ j:=by
     intro j c hj hc hjn;rcases hold j c hj with⟨e,_⟩|⟨rfl,rfl⟩|⟨_,_,hj'⟩
     .exact absurd e hjn
     .exact ⟨⟨_,ho,rfl⟩,heo _ hjn⟩
     .exact ⟨⟨c,hj',hc⟩,heo _ hjn⟩
    by_cases hi:i=nxt
    .subst hi;obtain⟨⟨c',q1,q2⟩,q3⟩:=key j c hc hoc fun e=>hij e.symm;rw[he,q3];exact fun e=>p1 j c' q1 q2 e.symm
    .obtain ⟨⟨a',q1,q2⟩,q3⟩:=key i a ha hoa hi;by_cases hj:j=nxt
     .subst hj;rw[he,q3];exact p1 i a' q1 q2
     .obtain ⟨⟨c',q4,q5⟩,q6⟩:=key j c hc hoc hj;rw[q3,q6];exact h.kJ i j a' c' q1 q4 q2 q5 hij
   .intro j sz' sl' k x hj hp;obtain⟨nV,q1,q2,q3⟩:=hpat2 j sz' sl' k x hj hp;obtain⟨r1,r2⟩:=h.rp j sz' nV k x q1 q2;refine⟨fun i c hi hc=>?_,fun i sz2 sl2 k' hi hpi=>?_⟩
    .rcases hold i c hi with⟨rfl,rfl⟩|⟨rfl,rfl⟩|⟨e1,_,hi'⟩
     .rw [he];exact fun e=>q3 e.symm
     .rw [heo _ hne];exact r1 i _ ho rfl
     .rw [heo _ e1];exact r1 i c hi' hc
    .obtain ⟨sl3,q4,q5,_⟩:=hpat2 i sz2 sl2 k' x hi hpi;exact r2 i sz2 sl3 k' q4 q5
theorem Inv.GN(h:Inv S K w0 Kn φ hf w){id id2 sz sz2 dv:Nat}{slots:List iq}{rows:List (List D)}(ho:hf id=some (.nst sz slots))(hs:slots[dv]?=some (.out id2 rows.length))(h2:hf id2=some (.aH sz2 rows)):
  Inv S K w0 Kn φ (a_ [(id,some (.nst sz (slots.set dv (.bf rows)))),(id2,none)] hf) w:=by
 obtain⟨hk,hro⟩:=h.fC id _ ho;obtain⟨hk2,hro2⟩:=h.fC id2 _ h2;have hne:id2≠id:=fun e=>by rw[e,ho]at h2;cases h2
 have hold:∀j c,a_ [(id,some (.nst sz (slots.set dv (.bf rows)))),(id2,none)] hf j=some c->(j=id/\c=.nst sz (slots.set dv (.bf rows)))\/(j≠id/\j≠id2/\hf j=some c):=by
  intro j c hj;rw[bB]at hj;by_cases e:id=j
  .rw [if_pos e]at hj;exact .inl ⟨e.symm,(aa hj).symm⟩
  .rw [if_neg e,bB]at hj;by_cases e2:id2=j
   .rw [if_pos e2]at hj;cases hj
   .rw [if_neg e2,dU]at hj;exact .inr ⟨fun q=>e q.symm,fun q=>e2 q.symm,hj⟩
 have was:∀j c,a_ [(id,some (.nst sz (slots.set dv (.bf rows)))),(id2,none)] hf j=some c->bP c=true->j≠id2/\∃c',hf j=some c'/\bP c'=true:=by
  intro j c hj hc;rcases hold j c hj with⟨rfl,rfl⟩|⟨_,e,hj'⟩
  .exact ⟨hne.symm,_,ho,rfl⟩
  .exact ⟨e,c,hj',hc⟩
 cases hro with
 |@nst _ _ aH hsz hl hS hK hown hext hfit hr hv=>
  obtain⟨v,h1,hsl⟩:=hr dv _ hs;have hcell:w.cell? ⟨(φ id).bU,(φ id).aL+dv,none⟩=some v:=(hown.cell _).trans h1
  obtain⟨hvb,hrw⟩:rM v=some (φ id2).bU/\Cv S w sz rows v (φ id2).bU:=by
   cases hsl with
   |out hrc=>
    cases hro2 with
    |@aH _ _ ba hsz2 hl2 hS2 hK2 hown2 hext2 hfit2 hr2 hv2=>cases hrc with|@dq _ _ _ cap addr hk' hcap haddr hx hcc=>refine⟨rfl,addr,cap,ba,rfl,by rw[hl2];exact hsz2,hown2,hcap,by omega,?_⟩;have:=hr2.rE (addr:=addr) 0 rows.length (fun hlt=>by rw[haddr (by omega),hl2]);rw[hl2];simpa using this
  obtain⟨hS2,hK2,_⟩:=hro2.bf rfl
  have hpat2:∀j sz' sl' k x,a_ [(id,some (.nst sz (slots.set dv (.bf rows)))),(id2,none)] hf j=some (.nst sz' sl')->nH w (φ j) sl' k x->(j=id/\k=dv/\x=(φ id2).bU)\/∃nV,hf j=some (.nst sz' nV)/\nH w (φ j) nV k x:=by
   intro j sz' sl' k x hj hp;rcases hold j _ hj with⟨rfl,e⟩|⟨e1,e2,hj'⟩
   .cases e;obtain⟨rows',v',q1,q2,q3⟩:=hp;rcases oO q1 with⟨rfl,_,_⟩|⟨hk',q1'⟩
    .refine .inl ⟨rfl,rfl,?_⟩;rw[hcell]at q2;obtain rfl:=aa q2;rw[hvb]at q3;exact(aa q3).symm
    .exact .inr ⟨slots,ho,rows',v',q1',q2,q3⟩
   .exact .inr ⟨sl',hj',hp⟩
  refine h.pY (eM.refl _ _) (Ren.refl _ _) h.pU h.sk h.j8 ?_ ?_ ?_
  .intro j c hj;rcases hold j c hj with⟨rfl,rfl⟩|⟨_,_,hj'⟩
   .refine .inr ⟨hk,.nst hsz hl hS hK hown hext (by rw[gi];exact hfit) (fun i s hi=>?_) (by rw[gi];exact hv)⟩;rcases oO hi with⟨rfl,rfl,_⟩|⟨_,hi'⟩
    .exact ⟨v,h1,.bf hrw hS2 hK2⟩
    .exact hr i s hi'
   .exact .inl ⟨hj',fun hown=>⟨rfl,((h.fC j c hj').2.bf hown).1⟩,h.yQ hj' fun _ _=>rfl⟩
  .intro i j a c ha hc hoa hoc hij;obtain⟨_,a',q1,q2⟩:=was i a ha hoa;obtain⟨_,c',q3,q4⟩:=was j c hc hoc;exact h.kJ i j a' c' q1 q3 q2 q4 hij
  .intro j sz' sl' k x hj hp;refine⟨fun i c hi hc=>?_,fun i sz3 sl3 k' hi hpi=>?_⟩
   .obtain ⟨hi2,c',q1,q2⟩:=was i c hi hc;rcases hpat2 j sz' sl' k x hj hp with⟨_,_,rfl⟩|⟨nV,q3,q4⟩
    .exact h.kJ i id2 c' _ q1 h2 q2 rfl hi2
    .exact (h.rp j sz' nV k x q3 q4).1 i c' q1 q2
   .rcases hpat2 j sz' sl' k x hj hp with⟨e1,e2,e3⟩|⟨nV,q3,q4⟩<;>rcases hpat2 i sz3 sl3 k' x hi hpi with⟨e4,e5,e6⟩|⟨sl4,q5,q6⟩
    .exact ⟨e4.trans e1.symm,e5.trans e2.symm⟩
    .exact absurd e3.symm ((h.rp i sz3 sl4 k' x q5 q6).1 id2 _ h2 rfl)
    .exact absurd e6.symm ((h.rp j sz' nV k x q3 q4).1 id2 _ h2 rfl)
    .exact (h.rp j sz' nV k x q3 q4).2 i sz3 sl4 k' q5 q6
theorem Inv.vZ{w':World}(h:Inv S K w0 Kn φ hf w){id sz dv:Nat}{slots:List iq}{s':iq}{v:Value}{aH arr':Array Value}(ho:hf id=some (.nst sz slots))(hown:kN w (φ id).bU aH)(hown':kN w' (φ id).bU arr')(hsize':arr'.size=aH.size)
  (hother:∀b,b≠(φ id).bU->w'.heap[b]?=w.heap[b]?) (hsize:w'.heap.size=w.heap.size) (hfrz:∀a,w'.frozen? a=w.frozen? a) (hio:Io w w')
  (hget:∀i,i≠(φ id).aL+dv->arr'[i]?=aH[i]?) (hv:dv<slots.length->arr'[(φ id).aL+dv]?=some v) (hslot:eM S w S w'->ug S K w' Kn φ sz s' v) (hs':∀rows,s'≠.bf rows):
  eM S w S w'/\Inv S K w0 Kn φ (a_ [(id,some (.nst sz (slots.set dv s')))] hf) w':=by
 obtain⟨hk,h0⟩:=h.fC id _ ho;obtain⟨hS,hK,hlt⟩:=h0.bf rfl;have hs:eM S w S w':=⟨fun _ h=>h,fun b hb=>hother b (fun e=>hS (e▸hb))⟩
 have hold:∀j c,a_ [(id,some (.nst sz (slots.set dv s')))] hf j=some c->(j=id/\c=.nst sz (slots.set dv s'))\/(j≠id/\hf j=some c):=by
  intro j c hj;rw[bB]at hj;by_cases e:id=j
  .rw [if_pos e]at hj;exact .inl ⟨e.symm,(aa hj).symm⟩
  .rw [if_neg e,dU]at hj;exact .inr ⟨fun q=>e q.symm,hj⟩
 have was:∀j c,a_ [(id,some (.nst sz (slots.set dv s')))] hf j=some c->bP c=true->∃c',hf j=some c'/\bP c'=true:=by
  intro j c hj hc;rcases hold j c hj with⟨rfl,rfl⟩|⟨_,hj'⟩
  .exact ⟨_,ho,rfl⟩
  .exact ⟨c,hj',hc⟩
 have hpat2:∀j sz' sl' k x,a_ [(id,some (.nst sz (slots.set dv s')))] hf j=some (.nst sz' sl')->nH w' (φ j) sl' k x->∃nV,hf j=some (.nst sz' nV)/\nH w (φ j) nV k x:=by
  intro j sz' sl' k x hj hp;rcases hold j _ hj with⟨rfl,e⟩|⟨e1,hj'⟩
  .cases e;obtain⟨rows',v',q1,q2,q3⟩:=hp;rcases oO q1 with⟨_,e,_⟩|⟨hk',q1'⟩
   .exact absurd e.symm (hs' rows')
   .refine ⟨slots,ho,rows',v',q1',?_,q3⟩;rw[hown.cell,<-hget _ (by omega),<-hown'.cell];exact q2
  .exact ⟨sl',hj',(nH.same (hother _ (h.kJ j id _ _ hj' ho rfl rfl e1))).1 hp⟩
 have hkeep:∀j sz' sl' k x,hf j=some (.nst sz' sl')->nH w (φ j) sl' k x->w'.heap[x]?=w.heap[x]?/\¬S x:=fun j sz' sl' k x hj hp=>⟨hother x fun e=>(h.rp j sz' sl' k x hj hp).1 id _ ho rfl e.symm,(h.C3 hj hp).1⟩;refine⟨hs,h.pY hs (Ren.refl _ _) (fun b hb=>hsize▸h.pU b hb) h.sk ?_ ?_ ?_ ?_⟩
 .exact ⟨h.j8.AN,fun b hb=>(hother b (fun e=>hK (e▸hb))).trans (h.j8.jT b hb),hsize▸h.j8.grow,fun a ha=>(hfrz a).trans (h.j8.vi a ha),h.j8.sU hother (fun a ha=>⟨arr',hown',by obtain⟨t1,e1⟩:=ha;obtain⟨t2,e2⟩:=hown;rw[e1]at e2;rw[hsize'];cases e2;rfl⟩),h.j8.io.trans hio⟩
 .intro j c hj;rcases hold j c hj with⟨rfl,rfl⟩|⟨e1,hj'⟩
  .refine .inr ⟨hk,?_⟩;cases h0 with
   |@nst _ _ arr0 hsz hl hS hK hown0 hext hfit hr hv0=>
    have ea:arr0=aH:=by obtain⟨t1,e1⟩:=hown0;obtain⟨t2,e2⟩:=hown;rw[e1]at e2;cases e2;rfl
    subst ea;refine .nst hsz hl hS hK hown' (hsize'.trans hext) (by rw[gi];exact hfit) (fun i s hi=>?_) (by rw[gi];exact hv0);rcases oO hi with⟨rfl,rfl,hlt⟩|⟨hne,hi'⟩
    .exact ⟨v,hv hlt,hslot hs⟩
    .obtain ⟨v',q1,q2⟩:=hr i s hi';refine⟨v',(hget _ (by omega)).trans q1,?_⟩;cases q2 with|nil=>exact .nil|@bf rows _ b q3 q4 q5=>exact .bf (q3.mono hs (hkeep j sz slots i b ho ⟨rows,v',hi',(hown.cell _).trans q1,q3.bU⟩).1) q4 q5|out q3=>exact .out (q3.mono hs (Ren.refl _ _))
  .exact .inl ⟨hj',fun hox=>⟨hother _ (h.kJ j id c _ hj' ho hox rfl e1),((h.fC j c hj').2.bf hox).1⟩,fun sz' sl' eo k x hp=>by subst eo;exact hkeep j sz' sl' k x hj' hp⟩
 .intro i j a c ha hc hoa hoc hij;obtain⟨a',q1,q2⟩:=was i a ha hoa;obtain⟨c',q3,q4⟩:=was j c hc hoc;exact h.kJ i j a' c' q1 q3 q2 q4 hij
 .intro j sz' sl' k x hj hp;obtain⟨nV,q1,q2⟩:=hpat2 j sz' sl' k x hj hp;obtain⟨r1,r2⟩:=h.rp j sz' nV k x q1 q2;refine⟨fun i c hi hc=>?_,fun i sz3 sl3 k' hi hpi=>?_⟩
  .obtain ⟨c',q3,q4⟩:=was i c hi hc;exact r1 i c' q3 q4
  .obtain ⟨sl4,q5,q6⟩:=hpat2 i sz3 sl3 k' x hi hpi;exact r2 i sz3 sl4 k' q5 q6
end
end Go.Ev
