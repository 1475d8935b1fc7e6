/- The abstract machine: deep data, cells, owned objects, operations and code, and their evaluation. Conditions: none, these are definitions. -/
import Derived.Orders
import Derived.Laws.CopyRow
open BitVec renaming ofInt->cU
open List renaming append_nil->aV,flatMap_cons->bL,flatten_cons->gu,getElem?_append_left->bG,getElem?_append_right->ck,getElem?_drop->bQ,getElem?_eq_getElem->ao,getElem?_eq_some_iff->aB,getElem?_map->aN,getElem_of_mem->b_,length_map->aD,length_set->bF,length_take->cD,map->mH,mem_append->aC,mem_cons->aW,mem_cons_of_mem->aI,mem_flatten->dP,mem_of_getElem?->aF,mem_singleton->aq,nodup_append->da,nodup_cons->il,nodup_nil->lQ,replicate->aj
open Nat renaming le_refl->am,le_succ->bn,le_trans->bo,lt_of_lt_of_le->cP,lt_succ_self->aQ,mul_le_mul_right->az,mul_one->kh,zero_add->bS
open Option renaming bind_eq_some_iff->fZ,map_eq_some_iff->aH
open Option.some renaming inj->aa,injEq->eY
open Prod.mk renaming inj->af
namespace Go.Ev
inductive D where
 |lit (v:Value)
 |sl (sz:Nat) (rows:List (List D))
 |pt (cells:List D)
 |fn (f:FuncId) (caps:List D)
 deriving Inhabited
inductive C where
 |d (x:D)
 |fx (sz id off len:Nat)
 |ep (id bv off:Nat)
 |op (id off:Nat)
 |pJ (f:FuncId) (caps:List C)
 |om (id:Nat)
 deriving Inhabited
inductive TV where
 |c (x:C)
 |agg (cells:List C)
 |gX (xs:List TV)
 deriving Inhabited
inductive k8 where
 |nil
 |bk (rows:List (List D))
 |dQ (id len:Nat)
 deriving Inhabited
inductive Ob where
 |aG (sz:Nat) (rows:List (List D))
 |qu (sz:Nat) (rows:List (List D))
 |box (cells:List C)
 |o7 (cells:List D)
 |map (ka va:Bool) (es:List (List Value×List D×Nat)) (bE:Nat)
 |cap (sz:Nat) (rows:List (List D)) (cp:Nat)
 |nst (sz:Nat) (slots:List k8)
 deriving Inhabited
inductive T where
 |d (x:D)
 |sl (sz:Nat) (rows:List (List D))
 |pt (cells:List T)
 |Bh (sz:Nat) (rows:List (Option (List (List D))))
 |mp (ka va:Bool) (es:List (List Value×List D×Nat)) (bE:Nat)
 |tF
 deriving Inhabited
inductive A where
 |d (x:D)
 |agg (cells:List D)
 |mt (t:T)
 deriving Inhabited
inductive R where
 |c (t:T)
 |agg (cells:List T)
 deriving Inhabited
def ez:Value->Bool
 |.bool _|.int _ _|.float _ _|.string _|.pointer none|.slice none 0 0|.map none|.nilFunc|.nilIface=>true
 |_=>false
def KU:Nat:=2147483648
def bV{α:Type}:List (Nat×α)->Nat->Option α
 |[],_=>none
 |(a,x)::r,k=>bif a==k then some x else bV r k
abbrev jk:=List (Nat×TV)
abbrev bp:=List (Nat×Option Ob)
abbrev eW:=List (Nat×Option Ob)
def au(h:bp)(id:Nat):Option Ob:=(bV h id).join
inductive Kd where
 |b
 |i (k:IntKind)
 |s
 deriving Inhabited,DecidableEq
inductive K where
 |mv
 |pick
 |alloc (zero:List Value)
 |box
 |build (zero:List Value) (places:List (Nat×Nat))
 |buildSlice (sz len:Nat) (zero:List Value) (places:List Nat)
 |load (agg:Bool) (n:Nat)
 |store (n:Nat)
 |nilCheck
 |A6 (op:BinOp)
 |vX (neg:Bool)
 |rT (kind:Nat) (neg:Bool)
 |AO (neg:Bool) (ks:List Kd)
 |un (op:UnOp)
 |xg (k:IntKind)
 |Ga (k:FloatKind)
 |ur
 |KQ (f:FuncId)
 |makeSlice (zero:List Value)
 |slice (str:Bool) (sz:Nat) (lo hi:Bool)
 |fieldAddr (off n:Nat)
 |field (agg:Bool) (off n:Nat)
 |indexAddr (aG:Option Nat) (sz:Nat)
 |ql
 |index (agg:Bool) (len sz:Nat)
 |extract (i:Nat)
 |len (str:Bool)
 |sO (isMax:Bool)
 |append (sz:Nat)
 |copy (sz:Nat)
 |clear (zero:List Value)
 |CW (sz:Nat)
 |OA
 |Vr (zero:List Value)
 |Uq
 |call (ro:Bool) (kq:List Bool)
 |makeMap (ka va:Bool)
 |lookup (ka:Bool) (ks:List Kd) (va:Bool) (zero:List Value) (ok:Bool)
 |mapEntry (ka:Bool) (ks:List Kd) (va:Bool) (zero:List Value)
 |entryStore (va:Bool) (m:Nat)
 |Cf (szi:Nat)
 |vq
 |uc (ka:Bool) (ks:List Kd) (va:Bool) (n:Nat)
 |ud (ka:Bool) (ks:List Kd)
 |TI (sz len:Nat) (zero:List Value) (places:List Nat)
 |Yy (sz:Nat)
 |fL
 deriving Inhabited
structure ol where
 dst:Option Nat
 k:K
 args:List Operand
 guard:Option (Nat×Bool)
 deriving Inhabited
inductive CC where
 |skip
 |region (ops:List ol) (lK:List Nat)
 |drawn (ops:List ol) (dyn:List (Nat×Nat)) (lK:List Nat)
 |seq (a b:CC)
 |cond (c:Operand) (a b:CC)
 |block (id:Nat) (a:CC)
 |loop (lK:List Nat) (a:CC)
 |exit (id:Nat)
 |ret
 |fL
 deriving Inhabited
structure St where
 cW:jk
 heap:bp
 next:Nat
 gh:List C
 deriving Inhabited
inductive rD where
 |normal
 |exit (id:Nat)
 |ret
 deriving Inhabited,DecidableEq
def UW:Nat->Option D:=fun _ => none
def cv:Value->Option TV
 |.agg cs=>if cs.toList.all ez then some (.agg (cs.toList.map fun v=>.d (.lit v)))else none
 |v=>if ez v then some (.c (.d (.lit v)))else none
def kz(e:jk):Operand->Option TV
 |.tmp t=>bV e t
 |.const v=>cv v
 |.global g=>(UW g).map fun d=>.c (.d d)
 |.func f=>some (.c (.d (.fn f [])))
def cellsOf:TV->Option (List C)
 |.c x=>some [x]
 |.agg cs=>some cs
 |.gX _=>none
def eS:List Value->List C:=mH fun v=>.d (.lit v)
def dj:List Value->List D:=mH D.lit
def aT{α:Type}(l:List α)(off:Nat)(p:List α):List α:=l.take off++p++l.drop (off+p.length)
def kU(cells:List C):List ((Nat×Nat)×TV)->Option (List C)
 |[]=>some cells
 |((off,n),v)::r=>match cellsOf v with|some cs=>if cs.length=n/\off+n<=cells.length then kU (aT cells off cs) r else none|none=>none
def nT{α:Type}(sz:Nat):Nat->List α->List (List α)
 |0,_=>[]
 |n+1,l=>l.take sz::nT sz n (l.drop sz)
def Mg(sz:Nat):k8->Option D
 |.nil=>some (.lit (.slice none 0 0))
 |.bk rows=>some (.sl sz rows)
 |.dQ _ _=>none
def rl(sz:Nat):List k8->Option (List (List D))
 |[]=>some []
 |s::r=>match Mg sz s,rl sz r with|some x,some l=>some ([x]::l)|_,_=>none
def Rb:k8->Option (Option (List (List D)))
 |.nil=>some none
 |.bk rows=>some (some rows)
 |.dQ _ _=>none
def vJ:List k8->Option (List (Option (List (List D))))
 |[]=>some []
 |s::r=>match Rb s,vJ r with|some x,some l=>some (x::l)|_,_=>none
def ny:Option (List (List D))->k8
 |none=>.nil
 |some rows=>.bk rows
mutual
def dW(h:bp):Nat->C->Option (D×List Nat)
 |_,.d x=>some (x,[])
 |_,.fx sz id off len=>match au h id with|some (.aG _ rows)|some (.qu _ rows)=>if off+len<=rows.length then some (.sl sz ((rows.drop off).take len),[id])else none|some (.nst szi slots)=>if off=0/\len=slots.length then(match rl szi slots with|some rows=>some (.sl sz rows,[id])|none=>none)else none|_=>none
 |_,.ep id bv off=>
  match au h id with
  |some (.aG _ rows)|some (.qu _ rows)=>match rows[bv]?with|some r=>if off<=r.length then some (.pt (r.drop off),[id])else none|none=>none
  |_=>none
 |0,_=>none
 |n+1,.op id off=>
  match au h id with
  |some (.o7 cells)=>if off<=cells.length then some (.pt (cells.drop off),[id])else none
  |some (.box cells)=>match gf h n cells with|some (ds,av)=>if off<=ds.length then some (.pt (ds.drop off),id::av)else none|none=>none
  |_=>none
 |n+1,.pJ f caps=>match gf h n caps with|some (ds,av)=>some (.fn f ds,av)|none=>none
 |_+1,.om _=>none
def gf(h:bp):Nat->List C->Option (List D×List Nat)
 |_,[]=>some ([],[])
 |0,_=>none
 |n+1,c::cs=>match dW h n c,gf h n cs with|some (x,a),some (xs,b)=>some (x::xs,a++b)|_,_=>none
end
def jU(h:bp)(all:List Nat)(id:Nat):Option Ob:=
 match au h id with
 |some (.aG sz rows)=>some (.qu sz rows)
 |some (.qu sz rows)=>some (.qu sz rows)
 |some (.o7 cells)=>some (.o7 cells)
 |some (.box cells)=>match gf h 300 cells with|some (ds,av)=>if av.all (fun i=>all.contains i)then some (.o7 ds)else none|none=>none
 |some (.map _ _ _ _)=>none
 |some (.cap _ _ _)=>none
 |some (.nst szi slots)=>match rl szi slots with|some rows=>some (.qu 1 rows)|none=>none
 |none=>none
def c8(h:bp)(all:List Nat):List Nat->Option eW
 |[]=>some []
 |id::r=>match jU h all id,c8 h all r with|some o,some u=>some ((id,some o)::u)|_,_=>none
def dn(h:bp):List C->Option (List D×List Nat)
 |[]=>some ([],[])
 |c::cs=>match dW h 300 c,dn h cs with|some (x,a),some (xs,b)=>some (x::xs,a++b)|_,_=>none
mutual
def dE(h:bp):Nat->C->Option (T×List Nat×List Nat)
 |_,.d x=>some (.d x,[],[])
 |_,.fx sz id off len=>match au h id with|some (.aG _ rows)=>if off+len<=rows.length then some (.sl sz ((rows.drop off).take len),[id],[id])else none|some (.qu _ rows)=>if off+len<=rows.length then some (.d (.sl sz ((rows.drop off).take len)),[],[id])else none|some (.nst szi slots)=>if off=0/\len=slots.length then(match vJ slots with|some rows=>some (.Bh szi rows,[id],[id])|none=>none)else none|_=>none
 |_,.om id=>match au h id with|some (.map ka va es bE)=>some (.mp ka va es bE,[id],[id])|_=>none
 |0,_=>none
 |n+1,.op id 0=>
  match au h id with
  |some (.box cells)=>match iU h n cells with|some (ts,bk,av)=>some (.pt ts,id::bk,id::av)|none=>none
  |some (.o7 cells)=>some (.d (.pt cells),[],[id])
  |_=>none
 |_+1,_=>none
def iU(h:bp):Nat->List C->Option (List T×List Nat×List Nat)
 |_,[]=>some ([],[],[])
 |0,_=>none
 |n+1,c::cs=>match dE h n c,iU h n cs with|some (x,a,i),some (xs,b,j)=>some (x::xs,a++b,i++j)|_,_=>none
end
mutual
def k9(nxt:Nat):T->C×eW×Nat
 |.d x=>(.d x,[],nxt+1)
 |.tF=>(.d (.lit .nilFunc),[],nxt+1)
 |.sl sz rows=>(.fx sz nxt 0 rows.length,[(nxt,some (.aG sz rows))],nxt+1)
 |.Bh sz rows=>(.fx 1 nxt 0 rows.length,[(nxt,some (.nst sz (rows.map ny)))],nxt+1)
 |.mp ka va es bE=>(.om nxt,[(nxt,some (.map ka va es bE))],nxt+1)
 |.pt ts=>let(cs,u,m):=iH (nxt+1) ts;(.op nxt 0,(nxt,some (.box cs))::u,m)
def iH(nxt:Nat):List T->List C×eW×Nat
 |[]=>([],[],nxt)
 |t::ts=>let(c,u,m):=k9 nxt t;let(cs,v,k):=iH m ts;(c::cs,u++v,k)
end
def CP(nxt:Nat):R->TV×eW×Nat
 |.c t=>let(c,u,m):=k9 nxt t;(.c c,u,m)
 |.agg ts=>let(cs,u,m):=iH nxt ts;(.agg cs,u,m)
def iC(nxt:Nat):List R->List TV×eW×Nat
 |[]=>([],[],nxt)
 |r::rs=>let(v,u,m):=CP nxt r;let(vs,w,k):=iC m rs;(v::vs,u++w,k)
abbrev Call:=FuncId->List A->Option (List R×List T)
abbrev Iv:=Option (TV×eW×List Nat×Nat)
def lv(v:Value):TV:=.c (.d (.lit v))
def qA(op:BinOp):Value->Value->Option Value
 |.int k a,.int k' b=>
  match op with
  |.shl=>if b<0 then none else some (.int k (k.wrap (a*2^(min b.toNat k.bits))))
  |.shr=>if b<0 then none else some (.int k (a.fdiv (2^(min b.toNat k.bits))))
  |op=>if k=k' then
   (match op with
   |.add=>some (.int k (k.wrap (a+b)))
   |.sub=>some (.int k (k.wrap (a-b)))
   |.mul=>some (.int k (k.wrap (a*b)))
   |.quo=>if b=0 then none else some (.int k (k.wrap (a.tdiv b)))
   |.rem=>if b=0 then none else some (.int k (a.tmod b))
   |.and=>some (.int k (k.wrap (cU k.bits a&&&cU k.bits b).toNat))
   |.or=>some (.int k (k.wrap (cU k.bits a|||cU k.bits b).toNat))
   |.xor=>some (.int k (k.wrap (cU k.bits a^^^cU k.bits b).toNat))
   |.andNot=>some (.int k (k.wrap (cU k.bits a&&&~~~cU k.bits b).toNat))
   |.eql=>some (.bool (a==b))
   |.neq=>some (.bool (a !=b))
   |.lss=>some (.bool (a<b))
   |.leq=>some (.bool (a<=b))
   |.gtr=>some (.bool (a>b))
   |.geq=>some (.bool (a>=b))
   |_=>none)else none
 |.float k a,.float k' b=>
  if k=k' then
   match op with|.add=>(k.format.add a b).map (.float k)|.sub=>(k.format.sub a b).map (.float k)|.mul=>(k.format.mul a b).map (.float k)|.quo=>(k.format.div a b).map (.float k)|.eql=>some (.bool (k.format.order a b==some .eq))|.neq=>some (.bool (k.format.order a b !=some .eq))|.lss=>some (.bool (k.format.order a b==some .lt))|.leq=>some (.bool (k.format.order a b==some .lt||k.format.order a b==some .eq))|.gtr=>some (.bool (k.format.order a b==some .gt))|.geq=>some (.bool (k.format.order a b==some .gt||k.format.order a b==some .eq))|_=>none
  else none
 |.string x,.string y=>match op with|.add=>if((x.size+y.size:Nat):Int)>IntKind.i64.max then none else some (.string (x++y))|.eql=>some (.bool (x.toList==y.toList))|.neq=>some (.bool !(x.toList==y.toList))|.lss=>some (.bool (Op.bytesLess x.toList y.toList))|.leq=>some (.bool (Op.bytesLess x.toList y.toList||x.toList==y.toList))|.gtr=>some (.bool !(Op.bytesLess x.toList y.toList||x.toList==y.toList))|.geq=>some (.bool !(Op.bytesLess x.toList y.toList))|_=>none
 |_,_=>none
def vf(k:FloatKind):Nat:=match k with|.f32=>0x7fc00000|.f64=>0x7ff8000000000001
def KK(op:BinOp):Value->Value->Option Value
 |.float k a,.float k' b=>
  if k=k' then
   match op with|.add=>if k.format.add a b=none then some (.float k (vf k))else none|.sub=>if k.format.sub a b=none then some (.float k (vf k))else none|.mul=>if k.format.mul a b=none then some (.float k (vf k))else none|.quo=>if k.format.div a b=none then some (.float k (vf k))else none|_=>none
  else none
 |_,_=>none
def pU(op:BinOp)(x y:Value):Option Value:=match qA op x y with|some v=>some v|none=>KK op x y
def T7(op:UnOp):Value->Option Value
 |.bool b=>match op with|.not=>some (.bool !b)|_=>none
 |.int k n=>match op with|.neg=>some (.int k (k.wrap (0-n)))|.xor=>some (.int k (k.wrap (cU k.bits (if k.signed then-1 else k.max)^^^cU k.bits n).toNat))|_=>none
 |.float k b=>match op with|.neg=>some (.float k (Op.negFloat k b))|_=>none
 |_=>none
def D6:Kd->Value->Value->Option Bool
 |.i q,.int k a,.int k' b=>if k=q/\k'=q then some (a==b)else none
 |.b,.bool a,.bool b=>some (a==b)
 |.s,.string a,.string b=>some (a==b)
 |_,_,_=>none
def ge:List Kd->List Value->List Value->Option Bool
 |[],[],[]=>some true
 |k::ks,x::xs,y::ys=>match D6 k x y,ge ks xs ys with|some a,some b=>some (a&&b)|_,_=>none
 |_,_,_=>none
def mn:List C->Option (List Value)
 |[]=>some []
 |.d (.lit v)::r=>match mn r with|some l=>some (v::l)|none=>none
 |_=>none
def I_(isMax:Bool):Value->Value->Option Value
 |.int k x,.int k' y=>if k=k' then some (.int k (if isMax then(if y>x then y else x)else(if y<x then y else x)))else none
 |.float k x,.float k' y=>
  if k=k' then match k.format.order x y with|none=>some (.float k (vf k))|some .lt=>some (.float k (if isMax then y else x))|some .gt=>some (.float k (if isMax then x else y))|some .eq=>some (.float k (if isMax then(if(k.decode x).neg then y else x)else(if(k.decode x).neg then x else y)))
  else none
 |_,_=>none
def Nd(isMax:Bool):Value->List (Option TV)->Option Value
 |x,[]=>some x
 |x,some (.c (.d (.lit y)))::r=>match I_ isMax x y with|some z=>Nd isMax z r|none=>none
 |_,_=>none
def FD(agg:Bool)(n:Nat)(cells:List C):Option TV:=if agg then(if n<=cells.length then some (.agg (cells.take n))else none)else match cells with|x::_=>some (.c x)|[]=>none
def Rm(agg:Bool)(n:Nat)(cells:List D):Option TV:=if agg then(if n<=cells.length then some (.agg ((cells.take n).map .d))else none)else match cells with|x::_=>some (.c (.d x))|[]=>none
def g_(agg:Bool)(n:Nat)(p:C)(h:bp):Option (TV×List Nat):=
 match p with
 |.d (.pt cells)=>match Rm agg n cells with|some v=>some (v,[])|none=>none
 |.ep id bv off=>
  match au h id with
  |some (.aG _ rows)|some (.qu _ rows)=>
   match rows[bv]?with
   |some r=>match Rm agg n (r.drop off)with|some v=>some (v,[id])|none=>none
   |none=>none
  |_=>none
 |.op id off=>
  match au h id with
  |some (.box cells)=>match FD agg n (cells.drop off)with|some v=>some (v,[id])|none=>none
  |some (.o7 cells)=>match Rm agg n (cells.drop off)with|some v=>some (v,[id])|none=>none
  |_=>none
 |_=>none
def sW(id bv sz:Nat)(slots:List k8)(cs:List C)(h:bp):Option (eW×List Nat):=
 match cs with
 |[.d (.lit (.slice none 0 0))]=>some ([(id,some (.nst sz (slots.set bv .nil)))],[id])
 |[.fx sz' id2 0 len]=>match au h id2 with|some (.aG _ rows)=>if sz'=sz/\len=rows.length/\id2≠id then some ([(id,some (.nst sz (slots.set bv (.bk rows)))),(id2,none)],[id,id2])else none|_=>none
 |_=>none
def lW(agg:Bool)(n:Nat)(p:C)(h:bp)(nxt:Nat):Iv:=
 match p with
 |.ep id bv 0=>
  match au h id with
  |some (.nst sz slots)=>if agg=false/\n=1 then
   (match slots[bv]?with
   |some .nil=>some (.c (.d (.lit (.slice none 0 0))),[],[id],nxt)
   |some (.bk rows)=>some (.c (.fx sz nxt 0 rows.length),[(nxt,some (.aG sz rows)),(id,some (.nst sz (slots.set bv (.dQ nxt rows.length))))],[id],nxt+1)
   |_=>none)else none
  |_=>none
 |_=>none
def mN(n:Nat)(p:C)(v:TV)(h:bp):Option (eW×List Nat):=
 match cellsOf v with
 |none=>none
 |some cs=>
  if cs.length=n then
   match p with
   |.ep id bv off=>
    match au h id with
    |some (.aG sz rows)=>
     match rows[bv]?,dn h cs with
     |some r,some (ds,av)=>match c8 h av av with|some u=>if off+n<=r.length/\av.contains id=false then some ((id,some (.aG sz (rows.set bv (aT r off ds))))::u,id::av)else none|none=>none
     |_,_=>none
    |some (.nst sz slots)=>if off=0/\n=1/\bv<slots.length then sW id bv sz slots cs h else none
    |_=>none
   |.op id off=>match au h id with|some (.box cells)=>if off+n<=cells.length then some ([(id,some (.box (aT cells off cs)))],[id])else none|_=>none
   |_=>none
  else none
def ce:Option TV->Option Int
 |some (.c (.d (.lit (.int _ n))))=>some n
 |_=>none
def fI(str:Bool)(sz:Nat)(x:C)(lo hi:Option Int):Option C:=
 if str then match x with
 |.d (.lit (.string s))=>
  let h:=hi.getD s.size;let l:=lo.getD 0
  if 0<=l/\l<=h/\h<=s.size then some (.d (.lit (.string (s.extract l.toNat h.toNat))))else none
 |_=>none
 else match x with
 |.d (.lit (.slice none 0 0))=>if 0<=lo.getD 0/\lo.getD 0<=hi.getD 0/\hi.getD 0<=0 then some x else none
 |.fx sz' id off len=>
  let h:=hi.getD len;let l:=lo.getD 0
  if sz'=sz/\0<=l/\l<=h/\h<=len then some (.fx sz id (off+l.toNat) (h.toNat-l.toNat))else none
 |.d (.sl sz' rows)=>
  let h:=hi.getD rows.length;let l:=lo.getD 0
  if sz'=sz/\0<=l/\l<=h/\h<=rows.length then some (.d (.sl sz ((rows.drop l.toNat).take (h.toNat-l.toNat))))else none
 |_=>none
def oF(str:Bool)(sz:Nat)(x:C)(l u:Int)(h:bp):Option (C×List Nat):=
 match str,x with
 |false,.fx sz' id off _=>match au h id with|some (.aG _ rows)=>if sz'=sz/\0<=l/\l<=u/\off+u.toNat<=rows.length then some (.fx sz id (off+l.toNat) (u.toNat-l.toNat),[id])else none|some (.cap _ _ cp)=>if sz'=sz/\0<=l/\l<=u/\off+u.toNat<=cp then some (.fx sz id (off+l.toNat) (u.toNat-l.toNat),[id])else none|_=>none
 |_,_=>none
def N6(sz:Nat)(x:C)(l u m:Int)(nxt:Nat):Option C:=match x with|.fx sz' _ _ len=>if sz'=sz/\0<=l/\l<=u/\u<=m/\m<=len then some (.fx sz nxt 0 (u.toNat-l.toNat))else none|_=>none
def pP(zero:List Value)(x:C)(h:bp):Option (eW×List Nat):=
 match x with
 |.fx sz id off len=>match au h id with|some (.aG _ rows)=>if sz=zero.length/\off+len<=rows.length then some ([(id,some (.aG sz (aT rows off (aj len (dj zero)))))],[id])else none|_=>none
 |_=>none
def kg(off n:Nat):C->Option C
 |.op id o=>some (.op id (o+off))
 |.ep id r o=>some (.ep id r (o+off))
 |.d (.pt cells)=>if off+n<=cells.length then some (.d (.pt ((cells.drop off).take n)))else none
 |_=>none
def iJ(aG:Option Nat)(sz:Nat)(x:C)(i:Int):Option C:=
 match aG with
 |none=>match x with|.fx sz' id off len=>if 0<=i/\i<len/\sz'=sz then some (.ep id (off+i.toNat) 0)else none|.d (.sl sz' rows)=>if 0<=i/\sz'=sz then(match rows[i.toNat]?with|some r=>some (.d (.pt r))|none=>none)else none|_=>none
 |some n=>
  if 0<=i/\i<n then
   match x with|.op id o=>some (.op id (o+i.toNat*sz))|.ep id r o=>some (.ep id r (o+i.toNat*sz))|.d (.pt cells)=>if i.toNat*sz+sz<=cells.length then some (.d (.pt ((cells.drop (i.toNat*sz)).take sz)))else none|_=>none
  else none
def vu:Bool->C->Option Int
 |true,.d (.lit (.string s))=>some s.size
 |false,.d (.lit (.slice none 0 0))=>some 0
 |false,.fx _ _ _ len=>some len
 |false,.d (.sl _ rows)=>some rows.length
 |_,_=>none
def jh(sz:Nat)(h:bp):C->Option (List (List D)×List Nat)
 |.d (.lit (.slice none 0 0))=>some ([],[])
 |.d (.sl sz' rows)=>if sz'=sz then some (rows,[])else none
 |.fx sz' id off len=>match au h id with|some (.aG _ rows)|some (.qu _ rows)=>if sz'=sz/\off+len<=rows.length then some ((rows.drop off).take len,[id])else none|_=>none
 |_=>none
def o9(sz:Nat)(s x:C)(h:bp)(nxt:Nat):Iv:=
 match jh sz h x with
 |none=>none
 |some (new,av)=>
  match s with
  |.d (.lit (.slice none 0 0))=>
   if new.length<=KU then
    match new with|[]=>some (.c s,[],av,nxt)|new=>some (.c (.fx sz nxt 0 new.length),[(nxt,some (.aG sz new))],av,nxt+1)
   else none
  |.fx sz' id off len=>
   match au h id with
   |some (.aG _ rows)=>
    if sz'=sz/\off+len<=rows.length/\len+new.length<=KU then
     some (.c (.fx sz nxt 0 (len+new.length)),[(id,none),(nxt,some (.aG sz ((rows.drop off).take len++new++rows.drop (off+len+new.length))))],id::av,nxt+1)
    else none
   |_=>none
  |_=>none
def pO(sz:Nat)(dst src:C)(h:bp):Option (Int×eW×List Nat):=
 match dst,src with
 |.fx sz' id off len,.fx sz2 id2 off2 len2=>
  match au h id,au h id2 with
  |some (.cap _ rows cp),some (.aG _ rows2)=>
   if sz'=sz/\sz2=sz/\off<=rows.length/\off2+min len2 len<=rows2.length then
    some ((min len2 len:Nat),[(id,some (.cap sz (aT rows off ((rows2.drop off2).take (min len2 len))) cp))],[id,id2])
   else none
  |some (.cap _ rows cp),some (.cap _ rows2 _)=>
   if sz'=sz/\sz2=sz/\off<=rows.length/\off2+min len2 len<=rows2.length then
    some ((min len2 len:Nat),[(id,some (.cap sz (aT rows off ((rows2.drop off2).take (min len2 len))) cp))],[id,id2])
   else none
  |_,_=>none
 |_,_=>none
def Ct(zero:List Value)(x:C)(k:Int)(h:bp)(nxt:Nat):Iv:=
 match x with
 |.fx sz' id off len=>
  match au h id with
  |some (.cap _ rows cp)=>
   if sz'=zero.length/\0<=k/\len+k.toNat<=KU/\off+len<=rows.length/\cp<off+len+k.toNat then
    some (.c (.fx zero.length nxt 0 (len+k.toNat)),[(nxt,some (.aG zero.length ((rows.drop off).take len++aj k.toNat (dj zero))))],[id],nxt+1)
   else none
  |_=>none
 |_=>none
def AN(x:C)(h:bp):Option (Nat×List Nat):=
 match x with
 |.fx _ id off _=>match au h id with|some (.cap _ _ cp)=>some (cp-off,[id])|_=>none
 |_=>none
def AL(x y:C)(h:bp):Option (List Nat):=
 match x,y with
 |.fx _ a _ _,.fx _ b _ _=>match au h a,au h b with|some (.aG _ _),some (.cap _ _ cp)=>if a≠b/\0<cp then some [a,b]else none|_,_=>none
 |_,_=>none
def mY(sz:Nat)(dst src:C)(h:bp):Option (Int×eW×List Nat):=
 match jh sz h src,dst with
 |some (_,av),.d (.lit (.slice none 0 0))=>some (0,[],av)
 |some (new,av),.fx sz' id off len=>
  match au h id with
  |some (.aG _ rows)=>
   if sz'=sz/\off+len<=rows.length then
    some ((min new.length len:Nat),[(id,some (.aG sz (aT rows off (new.take len))))],id::av)
   else none
  |_=>none
 |_,_=>none
def gm(h:bp):List TV->List Bool->Option (List A×List Nat×List (C×List Nat×List Nat))
 |[],_=>some ([],[],[])
 |v::vs,ms=>
  match gm h vs ms.tail with
  |none=>none
  |some (as,av,lent)=>
   if ms.headD false then
    match v with
    |.c c=>match dE h 300 c with|some (t,bk,rd)=>some (.mt t::as,av,(c,bk,rd)::lent)|none=>none
    |_=>none
   else match v with
    |.c c=>match dW h 300 c with|some (x,i)=>some (.d x::as,i++av,lent)|none=>none
    |.agg cs=>match dn h cs with|some (xs,i)=>some (.agg xs::as,i++av,lent)|none=>none
    |.gX _=>none
def dC(nxt:Nat):List (C×List Nat×List Nat)->List T->Option (eW×Nat)
 |[],[]=>some ([],nxt)
 |(_,[],_)::r,.d _::ts=>dC nxt r ts
 |(.op id 0,bk,_)::r,.pt ts'::ts=>match dC (iH nxt ts').2.2 r ts with|some (w,k)=>if bk.contains id then some ((id,some (.box (iH nxt ts').1))::(iH nxt ts').2.1++bk.map (fun i=>(i,none))++w,k)else none|none=>none
 |(.fx sz id 0 len,bk,_)::r,.sl sz' rows::ts=>
  if rows.length=len/\sz'=sz/\bk=[id]then
   match dC nxt r ts with|some (w,k)=>some ((id,some (.aG sz rows))::w,k)|none=>none
  else none
 |(.fx sz id 0 len,bk,_)::r,.Bh szi rows::ts=>
  if rows.length=len/\sz=1/\bk=[id]then
   match dC nxt r ts with|some (w,k)=>some ((id,some (.nst szi (rows.map ny)))::w,k)|none=>none
  else none
 |(_,bk,_)::r,.tF::ts=>match dC nxt r ts with|some (w,k)=>some (bk.map (fun i=>(i,none))++w,k)|none=>none
 |_,_=>none
def x5:R->Bool
 |.c (.d (.lit _))=>true
 |.agg ts=>ts.all fun|.d (.lit _)=>true|_=>false
 |_=>false
def IX:T->Bool
 |.d (.lit _)=>true
 |.sl _ rows=>rows.all fun r=>r.all fun|.lit _=>true|_=>false
 |.tF=>true
 |_=>false
def ve:List TV->TV
 |[v]=>v
 |vs=>.gX vs
def dD{α:Type}:List (Option α)->Option (List α)
 |[]=>some []
 |some x::r=>match dD r with|some xs=>some (x::xs)|none=>none
 |none::_=>none
def dY(h:bp):List (C×List Nat×List Nat)->Bool
 |[]=>true
 |(.fx _ id off len,_)::r=>(match au h id with|some (.aG _ rows)=>off==0&&len==rows.length|some (.nst _ slots)=>off==0&&len==slots.length|_=>false)&&dY h r
 |_::r=>dY h r
def vW(call:Call)(ro:Bool)(kq:List Bool)(f:Option TV)(vs:List (Option TV))(h:bp)(nxt:Nat):Iv:=
 match(match f with|some (.c (.d (.fn f caps)))=>some (f,caps.map C.d)|some (.c (.pJ f caps))=>some (f,caps)|_=>none),dD vs with
 |some (f,caps),some vs=>
  match gm h (vs++caps.map TV.c) kq with
  |none=>none
  |some (as,av,lent)=>
   if dY h lent/\(lent.flatMap (·.2.1)).Nodup/\(lent.flatMap (·.2.1)).all (fun i=>!av.contains i)then
    match call f as with
    |none=>none
    |some (rs,outs)=>
     if ro then
      if rs.all x5/\outs.all IX then
       match dC nxt lent outs with
       |none=>none
       |some (bu,m)=>
        let(vs,u,k):=iC m rs
        some (ve vs,u++bu,av++lent.flatMap (·.2.2),k)
      else none
     else
      match c8 h av av with
      |none=>none
      |some fu=>
       match dC nxt lent outs with
       |none=>none
       |some (bu,m)=>
        let(vs,u,k):=iC m rs
        some (ve vs,u++bu++fu,av++lent.flatMap (·.2.2),k)
   else none
 |_,_=>none
def qW:Nat->C->Option Bool
 |0,.d (.lit (.slice none 0 0))=>some true
 |0,.d (.sl _ _)|0,.fx _ _ _ _=>some false
 |1,.d (.lit (.pointer none))=>some true
 |1,.d (.pt _)|1,.ep _ _ _|1,.op _ _=>some false
 |2,.d (.lit .nilFunc)=>some true
 |2,.d (.fn _ _)|2,.pJ _ _=>some false
 |_,_=>none
def AS:List C->Option (List D)
 |[]=>some []
 |.d x::r=>match AS r with|some l=>some (x::l)|none=>none
 |_=>none
abbrev r_:=List Value×List D×Nat
def mE(ks:List Kd)(key:List Value):List r_->Nat->Option (Option Nat)
 |[],_=>some none
 |e::r,i=>match ge ks key e.1 with|some true=>some (some i)|some false=>mE ks key r (i+1)|none=>none
def qE(va:Bool)(ds:List D):Option TV:=if va then some (.agg (ds.map .d))else match ds with|[x]=>some (.c (.d x))|_=>none
def KW:Kd->Value->Bool
 |.i q,.int k _=>decide (k=q)
 |.b,.bool _=>true
 |.s,.string _=>true
 |_,_=>false
def zt:List Kd->List Value->Bool
 |[],[]=>true
 |k::ks,x::xs=>KW k x&&zt ks xs
 |_,_=>false
def ng(ka:Bool)(ks:List Kd):TV->Option (List Value)
 |.agg cs=>if ka=true/\cs.length=ks.length then(match mn cs with|some l=>if zt ks l=true then some l else none|none=>none)else none
 |.c x=>if ka=false/\ks.length=1 then(match mn [x]with|some l=>if zt ks l=true then some l else none|none=>none)else none
 |.gX _=>none
def ir(ka:Bool)(ks:List Kd)(va:Bool)(zero:List Value)(ok:Bool)(m:C)(k:TV)(h:bp):Option (TV×List Nat):=
 match m,ng ka ks k with
 |.d (.lit (.map none)),some _=>match qE va (dj zero)with|some v=>some (if ok then .gX [v,lv (.bool false)]else v,[])|none=>none
 |.om id,some key=>
  match au h id with
  |some (.map ka' va' es _)=>
   if ka'=ka/\va'=va then
    match mE ks key es 0 with
    |some (some i)=>match qE va (es.getD i default).2.1 with|some v=>some (if ok then .gX [v,lv (.bool true)]else v,[id])|none=>none
    |some none=>match qE va (dj zero)with|some v=>some (if ok then .gX [v,lv (.bool false)]else v,[id])|none=>none
    |none=>none
   else none
  |_=>none
 |_,_=>none
def nP(ka:Bool)(ks:List Kd)(va:Bool)(zero:List Value)(m:C)(k:TV)(h:bp):Option (TV×eW×List Nat):=
 match m,ng ka ks k with
 |.om id,some key=>
  match au h id with
  |some (.map ka' va' es bE)=>
   if ka'=ka/\va'=va then
    match mE ks key es 0 with
    |some (some i)=>match qE va (es.getD i default).2.1 with|some v=>some (.gX [v,lv (.int .i64 (es.getD i default).2.2)],[(id,some (.map ka va es bE))],[id])|none=>none
    |some none=>match qE va (dj zero)with|some v=>some (.gX [v,lv (.int .i64 bE)],[(id,some (.map ka va (es++[(key,dj zero,bE)]) (bE+1)))],[id])|none=>none
    |none=>none
   else none
  |_=>none
 |_,_=>none
def qR:TV->Bool
 |.agg _=>true
 |_=>false
def nQ(va:Bool)(n:Nat)(m:C)(st:Option TV)(x:TV)(h:bp):Option (eW×List Nat):=
 match m,ce st,(cellsOf x).bind AS with
 |.om id,some s,some ds=>
  match au h id with
  |some (.map ka va' es bE)=>
   if va'=va/\ds.length=n/\qR x=va then
    match es.findIdx? (fun e=>decide ((e.2.2:Int)=s))with|some i=>some ([(id,some (.map ka va (es.set i ((es.getD i default).1,ds,(es.getD i default).2.2)) bE))],[id])|none=>none
   else none
  |_=>none
 |_,_,_=>none
def sX(ka:Bool)(ks:List Kd)(va:Bool)(n:Nat)(m:C)(k x:TV)(h:bp):Option (eW×List Nat):=
 match m,ng ka ks k,cellsOf x with
 |.om id,some key,some cs=>
  match dn h cs with
  |some (ds,av)=>
   match c8 h av av with
   |some fu=>
    match au h id with
    |some (.map ka' va' es bE)=>
     if ka'=ka/\va'=va/\ds.length=n/\qR x=va/\av.contains id=false then
      match mE ks key es 0 with|some (some i)=>some ((id,some (.map ka va (es.set i ((es.getD i default).1,ds,(es.getD i default).2.2)) bE))::fu,id::av)|some none=>some ((id,some (.map ka va (es++[(key,ds,bE)]) (bE+1)))::fu,id::av)|none=>none
     else none
    |_=>none
   |none=>none
  |none=>none
 |_,_,_=>none
def sY(ka:Bool)(ks:List Kd)(m:C)(k:TV)(h:bp):Option (eW×List Nat):=
 match m,ng ka ks k with
 |.d (.lit (.map none)),some _=>some ([],[])
 |.om id,some key=>
  match au h id with
  |some (.map ka' va es bE)=>
   if ka'=ka then
    match mE ks key es 0 with|some (some i)=>some ([(id,some (.map ka va (es.eraseIdx i) bE))],[id])|some none=>some ([(id,some (.map ka va es bE))],[id])|none=>none
   else none
  |_=>none
 |_,_=>none
def N8(sz:Nat)(x:C)(i:Int):Option C:=match x with|.fx sz' id off len=>if 0<=i/\i<len/\sz'=sz then some (.op id ((off+i.toNat)*sz))else none|_=>none
def ci(call:Call)(k:K)(vs:List (Option TV))(h:bp)(nxt:Nat):Iv:=
 match k,vs with
 |.mv,[some x]=>some (x,[],[],nxt)
 |.pick,[some (.c (.d (.lit (.bool c)))),a,b]=>match(if c then a else b)with|some v=>some (v,[],[],nxt)|none=>none
 |.alloc zero,[]=>some (.c (.op nxt 0),[(nxt,some (.box (eS zero)))],[],nxt+1)
 |.box,[some x]=>match cellsOf x with|some cs=>some (.c (.op nxt 0),[(nxt,some (.box cs))],[],nxt+1)|none=>none
 |.build zero places,vs=>
  match dD vs with
  |some xs=>match kU (eS zero) (places.zip xs)with|some cs=>some (.agg cs,[],[],nxt)|none=>none
  |none=>none
 |.buildSlice sz len zero places,vs=>
  match dD vs with
  |some xs=>
   match kU (eS zero) ((places.map fun i=>(i*sz,sz)).zip xs)with
   |some cs=>
    match dn h cs with
    |some (ds,av)=>match c8 h av av with|some u=>some (.c (.fx sz nxt 0 len),(nxt,some (.aG sz (nT sz len ds)))::u,av,nxt+1)|none=>none
    |none=>none
   |none=>none
  |none=>none
 |.load agg n,[some (.c p)]=>match g_ agg n p h with|some (v,av)=>some (v,[],av,nxt)|none=>none
 |.vq,[some (.c p)]=>match g_ false 1 p h with|some (v,av)=>some (v,[],av,nxt)|none=>lW false 1 p h nxt
 |.TI sz len zero places,vs=>
  match dD vs with
  |some xs=>match kU (eS zero) ((places.map fun i=>(i*sz,sz)).zip xs)with|some cs=>some (.c (.fx sz nxt 0 len),[(nxt,some (.box cs))],[],nxt+1)|none=>none
  |none=>none
 |.Yy sz,[some (.c x),i]=>
  match ce i with
  |some i=>match N8 sz x i with|some y=>some (.c y,[],[],nxt)|none=>none
  |none=>none
 |.store n,[some (.c p),some v]=>match mN n p v h with|some (u,av)=>some (.gX [],u,av,nxt)|none=>none
 |.nilCheck,[some (.c x)]=>match x with|.d (.pt _)|.d (.fn _ _)|.ep _ _ _|.op _ _|.pJ _ _=>some (.c x,[],[],nxt)|_=>none
 |.A6 op,[some (.c (.d (.lit x))),some (.c (.d (.lit y)))]=>match pU op x y with|some v=>some (lv v,[],[],nxt)|none=>none
 |.vX neg,[some (.c (.d (.lit (.bool x)))),some (.c (.d (.lit (.bool y))))]=>some (lv (.bool (if neg then !(x==y)else x==y)),[],[],nxt)
 |.rT kind neg,[some (.c x)]=>match qW kind x with|some b=>some (lv (.bool (if neg then !b else b)),[],[],nxt)|none=>none
 |.AO neg ks,[some (.agg xs),some (.agg ys)]=>
  match mn xs,mn ys with
  |some xs,some ys=>match ge ks xs ys with|some b=>some (lv (.bool (if neg then !b else b)),[],[],nxt)|none=>none
  |_,_=>none
 |.un op,[some (.c (.d (.lit x)))]=>match T7 op x with|some v=>some (lv v,[],[],nxt)|none=>none
 |.xg k,[some (.c (.d (.lit (.int _ n))))]=>some (lv (.int k (k.wrap n)),[],[],nxt)
 |.Ga k,[some (.c (.d (.lit (.int _ n))))]=>some (lv (.float k (k.nearest n)),[],[],nxt)
 |.ur,[some (.c (.d (.lit (.string s))))]=>some (lv (.string s),[],[],nxt)
 |.KQ f,vs=>
  match dD vs with
  |some xs=>match dD (xs.map fun|.c c=>some c|_=>none)with|some cs=>some (.c (.pJ f cs),[],[],nxt)|none=>none
  |none=>none
 |.makeSlice zero,[l,c]=>
  match ce l,ce c with
  |some l,some c=>
   if 0<=l/\l<=c/\c<=KU then
    some (.c (.fx zero.length nxt 0 l.toNat),[(nxt,some (.aG zero.length (aj l.toNat (dj zero))))],[],nxt+1)
   else none
  |_,_=>none
 |.Cf szi,[l,c]=>match ce l,ce c with|some l,some c=>if 0<=l/\l<=c/\c<=KU then some (.c (.fx 1 nxt 0 l.toNat),[(nxt,some (.nst szi (aj l.toNat .nil)))],[],nxt+1)else none|_,_=>none
 |.slice str sz lo hi,some (.c x)::r=>
  match lo,hi,r with
  |false,false,[]=>match fI str sz x none none with|some y=>some (.c y,[],[],nxt)|none=>none
  |true,false,[l]=>match ce l with|some l=>(match fI str sz x (some l) none with|some y=>some (.c y,[],[],nxt)|none=>none)|none=>none
  |false,true,[u]=>match ce u with|some u=>(match fI str sz x none (some u)with|some y=>some (.c y,[],[],nxt)|none=>(match oF str sz x 0 u h with|some (y,av)=>some (.c y,[],av,nxt)|none=>none))|none=>none
  |true,true,[l,u]=>
   match ce l,ce u with
   |some l,some u=>match fI str sz x (some l) (some u)with|some y=>some (.c y,[],[],nxt)|none=>(match oF str sz x l u h with|some (y,av)=>some (.c y,[],av,nxt)|none=>none)
   |_,_=>none
  |_,_,_=>none
 |.CW sz,[some (.c x),l,u,m]=>
  match ce l,ce u,ce m with
  |some l,some u,some m=>match N6 sz x l u m nxt with|some y=>some (.c y,[],[],nxt+1)|none=>none
  |_,_,_=>none
 |.clear zero,[some (.c x)]=>match pP zero x h with|some (u,av)=>some (.gX [],u,av,nxt)|none=>none
 |.fieldAddr off n,[some (.c x)]=>match kg off n x with|some y=>some (.c y,[],[],nxt)|none=>none
 |.field agg off n,[some (.agg cs)]=>match FD agg n (cs.drop off)with|some v=>some (v,[],[],nxt)|none=>none
 |.indexAddr aG sz,[some (.c x),i]=>
  match ce i with
  |some i=>match iJ aG sz x i with|some y=>some (.c y,[],[],nxt)|none=>none
  |none=>none
 |.ql,[some (.c (.d (.lit (.string s)))),i]=>
  match ce i with
  |some i=>match(if 0<=i then s[i.toNat]?else none)with|some b=>some (lv (.int .u8 b.toNat),[],[],nxt)|none=>none
  |none=>none
 |.index agg len sz,[some (.agg cs),i]=>
  match ce i with
  |some i=>if 0<=i/\i<len then match FD agg sz (cs.drop (i.toNat*sz))with|some v=>some (v,[],[],nxt)|none=>none else none
  |none=>none
 |.extract i,[some (.gX xs)]=>match xs[i]?with|some v=>some (v,[],[],nxt)|none=>none
 |.len str,[some (.c x)]=>match vu str x with|some n=>some (lv (.int .i64 n),[],[],nxt)|none=>none
 |.sO m,some (.c (.d (.lit x)))::r=>match Nd m x r with|some v=>some (lv v,[],[],nxt)|none=>none
 |.append sz,[some (.c s),some (.c x)]=>o9 sz s x h nxt
 |.copy sz,[some (.c d),some (.c s)]=>match mY sz d s h with|some (i,u,av)=>some (lv (.int .i64 i),u,av,nxt)|none=>(match pO sz d s h with|some (i,u,av)=>some (lv (.int .i64 i),u,av,nxt)|none=>none)
 |.OA,[some (.c x)]=>match AN x h with|some (n,av)=>some (lv (.int .i64 n),[],av,nxt)|none=>none
 |.Vr zero,[some (.c x),some (.c (.d (.lit (.int _ k))))]=>Ct zero x k h nxt
 |.Uq,[some (.c x),some (.c y)]=>match AL x y h with|some av=>some (lv (.bool false),[],av,nxt)|none=>none
 |.call ro kq,f::vs=>vW call ro kq f vs h nxt
 |.makeMap ka va,[]=>some (.c (.om nxt),[(nxt,some (.map ka va [] 0))],[],nxt+1)
 |.lookup ka ks va zero ok,[some (.c m),some k]=>match ir ka ks va zero ok m k h with|some (v,av)=>some (v,[],av,nxt)|none=>none
 |.mapEntry ka ks va zero,[some (.c m),some k]=>match nP ka ks va zero m k h with|some (v,u,av)=>some (v,u,av,nxt)|none=>none
 |.uc ka ks va n,[some (.c m),some k,some x]=>match sX ka ks va n m k x h with|some (u,av)=>some (.gX [],u,av,nxt)|none=>none
 |.ud ka ks,[some (.c m),some k]=>match sY ka ks m k h with|some (u,av)=>some (.gX [],u,av,nxt)|none=>none
 |.entryStore va n,[some (.c m),s,some x]=>match nQ va n m s x h with|some (u,av)=>some (.gX [],u,av,nxt)|none=>none
 |_,_=>none
def ke(e:jk):Option (Nat×Bool)->Option Bool
 |none=>some true
 |some (t,b)=>match bV e t with|some (.c (.d (.lit (.bool x))))=>some (x==b)|some (.gX [])=>some false|_=>none
def put(e:jk)(dst:Option Nat)(v:TV):jk:=match dst with|some d=>(d,v)::e|none=>e
def drop(e:jk)(dst:Option Nat):jk:=put e dst (.gX [])
def AM(call:Call):List ol->St->Option St
 |[],s=>some s
 |o::r,s=>
  match ke s.cW o.guard with
  |some true=>match ci call o.k (o.args.map (kz s.cW)) s.heap s.next with|some (v,u,_,n)=>AM call r ⟨put s.cW o.dst v,u++s.heap,n,s.gh⟩|none=>none
  |some false=>AM call r ⟨drop s.cW o.dst,s.heap,s.next,s.gh⟩
  |none=>none
def ig:Nat:=1000000
def mO(calls:Nat->Call)(aL:Nat):List ol->Nat->jk->bp->Option (jk×bp×List (List Nat×List Nat))
 |[],_,e,h=>some (e,h,[])
 |o::r,i,e,h=>
  match ke e o.guard with
  |some true=>
   match ci (calls i) o.k (o.args.map (kz e)) h (aL+ig*i)with
   |some (v,u,av,n)=>
    if n<=aL+ig*(i+1)then
     match mO calls aL r (i+1) (put e o.dst v) (u++h)with|some (e,h,tr)=>some (e,h,(av,u.map (·.1))::tr)|none=>none
    else none
   |none=>none
  |some false=>match mO calls aL r (i+1) (drop e o.dst) h with|some (e,h,tr)=>some (e,h,([],[])::tr)|none=>none
  |none=>none
def mh(a b:List Nat×List Nat):Bool:=a.2.all (fun i=>!b.1.contains i&&!b.2.contains i)&&b.2.all (fun i=>!a.1.contains i)
def GR(tr:List (List Nat×List Nat))(i j:Nat):Bool:=
 match tr[i]?,tr[j]?with
 |some a,some b=>mh a b||(match a with|([id],[])=>((tr.take j).drop (i+1)).all (fun x=>!x.2.contains id)|_=>false)
 |_,_=>true
def AR(tr:List (List Nat×List Nat))(dyn:List (Nat×Nat)):Bool:=dyn.all fun(i,j)=>if 1000<=j then GR tr i (j-1000)else match tr[i]?,tr[j]?with|some a,some b=>mh a b|_,_=>true
def eT:C->List Nat
 |.d _=>[]
 |.fx _ id _ _|.ep id _ _|.op id _|.om id=>[id]
 |.pJ _ caps=>nq caps
where nq:List C->List Nat
 |[]=>[]
 |c::r=>eT c++nq r
def mD:TV->List Nat
 |.c x=>eT x
 |.agg cs=>eT.nq cs
 |.gX xs=>By xs
where By:List TV->List Nat
 |[]=>[]
 |x::r=>mD x++By r
inductive RV where
 |tmp (t:Nat)
 |cell (t:Nat) (agg:Bool) (n:Nat)
 deriving Inhabited
def enter:List A->Nat->Nat->jk×bp×Nat×List C
 |[],_,n=>([],[],n,[])
 |.d x::r,i,n=>let(e,h,m,l):=enter r (i+1) n;((i,.c (.d x))::e,h,m,l)
 |.agg xs::r,i,n=>let(e,h,m,l):=enter r (i+1) n;((i,.agg (xs.map .d))::e,h,m,l)
 |.mt t::r,i,n=>let(c,u,k):=k9 n t;let(e,h,m,l):=enter r (i+1) k;((i,.c c)::e,u++h,m,c::l)
def wA(s:St):RV->Option TV
 |.tmp t=>bV s.cW t
 |.cell t agg n=>match bV s.cW t with|some (.c p)=>(match g_ agg n p s.heap with|some (v,_)=>some v|none=>none)|_=>none
def tj(h:bp):TV->Option (R×List Nat)
 |.c c=>match dE h 300 c with|some (t,av,_)=>some (.c t,av)|none=>none
 |.agg cs=>match iU h 300 cs with|some (ts,av,_)=>some (.agg ts,av)|none=>none
 |.gX _=>none
def t7(h:bp):List TV->Option (List R×List Nat)
 |[]=>some ([],[])
 |v::vs=>match tj h v,t7 h vs with|some (r,a),some (rs,b)=>some (r::rs,a++b)|_,_=>none
structure Fn where
 np:Nat
 ntmps:Nat
 jJ:List RV
 body:CC
 deriving Inhabited
def yI(k:FloatKind)(n:Nat):Prop:=(k.format.read n).isNaN=true
inductive RD(S:Nat->Prop)(w:World):D->Value->Prop
 |lit {v:Value} (h:ez v=true):RD S w (.lit v) v
 |nan {k:FloatKind} {n m:Nat} (hn:yI k n) (hm:yI k m):RD S w (.lit (.float k n)) (.float k m)
 |ex {k:FloatKind} {n:Nat}:RD S w (.lit (.complex k n 0)) (.float k n)
 |sl {sz:Nat} {rows:List (List D)} {b off cap:Nat} (f:Nat->Nat->Value) (hb:S b) (hsz:0<sz) (hcap:rows.length<=cap)
   (hrow:∀(i:Nat)(r:List D),rows[i]?=some r->r.length=sz)
   (hcell:∀(i:Nat)(r:List D),rows[i]?=some r->∀(j:Nat)(x:D),r[j]?=some x->w.cell? ⟨b,off+i*sz+j,none⟩=some (f i j))
   (hrd:∀(i:Nat)(r:List D),rows[i]?=some r->∀(j:Nat)(x:D),r[j]?=some x->RD S w x (f i j)):
   RD S w (.sl sz rows) (.slice (some ⟨b,off,none⟩) rows.length cap)
 |uJ {sz:Nat} {a:Addr} (hsz:0<sz):RD S w (.sl sz []) (.slice (some a) 0 0)
 |pt {cells:List D} {b off:Nat} (f:Nat->Value) (hb:S b)
   (hcell:∀(j:Nat)(x:D),cells[j]?=some x->w.cell? ⟨b,off+j,none⟩=some (f j))
   (hrd:∀(j:Nat)(x:D),cells[j]?=some x->RD S w x (f j)):
   RD S w (.pt cells) (.pointer (some ⟨b,off,none⟩))
 |fn {g:FuncId} {caps:List D} {vs:Array Value} (hlen:caps.length=vs.size)
   (hrd:∀(j:Nat)(x:D),caps[j]?=some x->RD S w x (vs.getD j undef)):
   RD S w (.fn g caps) (.func (.func g) #[] vs)
structure gy(S:Nat->Prop)(w:World)(S':Nat->Prop)(w':World):Prop where
 sub:∀b,S b->S' b
 dH:∀b,S b->w'.heap[b]?=w.heap[b]?
theorem gy.refl(S:Nat->Prop)(w:World):gy S w S w:=⟨fun _ h=>h,fun _ _=>rfl⟩
theorem gy.trans{S S' S'':Nat->Prop}{w w' w'':World}(a:gy S w S' w')(b:gy S' w' S'' w''):gy S w S'' w'':=⟨fun x h=>b.sub x (a.sub x h),fun x h=>(b.dH x (a.sub x h)).trans (a.dH x h)⟩
theorem mZ{w w':World}{b:Nat}(h:w'.heap[b]?=w.heap[b]?)(off:Nat):w'.cell? ⟨b,off,none⟩=w.cell? ⟨b,off,none⟩:=by simp[World.cell?,h]
theorem RD.mono{S S':Nat->Prop}{w w':World}(hs:gy S w S' w'){x:D}{v:Value}(h:RD S w x v):RD S' w' x v:=by induction h with|lit h=>exact .lit h|nan hn hm=>exact .nan hn hm|ex=>exact .ex|sl f hb hsz hcap hrow hcell hrd ih=>exact .sl f (hs.sub _ hb) hsz hcap hrow (fun i r hi j x hj=>(mZ (hs.dH _ hb) _).trans (hcell i r hi j x hj)) ih|uJ h=>exact .uJ h|pt f hb hcell hrd ih=>exact .pt f (hs.sub _ hb) (fun j x hj=>(mZ (hs.dH _ hb) _).trans (hcell j x hj)) ih|fn hlen hrd ih=>exact .fn hlen ih
structure gj where
 cQ:Nat
 aL:Nat
 sz:Nat
 ext:Nat
 cap:Nat
 deriving Inhabited
inductive RC(S:Nat->Prop)(w:World)(Kn:Nat->Prop)(φ:Nat->gj):C->Value->Prop
 |d {x:D} {v:Value} (h:RD S w x v):RC S w Kn φ (.d x) v
 |fx {id off len cap addr:Nat} (hk:Kn id) (hcap:len<=cap) (haddr:0<cap->addr=(φ id).aL+off*(φ id).sz) (hext:addr+cap*(φ id).sz<=(φ id).ext) (hc:off+cap=(φ id).cap):
   RC S w Kn φ (.fx (φ id).sz id off len) (.slice (some ⟨(φ id).cQ,addr,none⟩) len cap)
 |ep {id bv off:Nat} (hk:Kn id):RC S w Kn φ (.ep id bv off) (.pointer (some ⟨(φ id).cQ,(φ id).aL+bv*(φ id).sz+off,none⟩))
 |op {id off:Nat} (hk:Kn id):RC S w Kn φ (.op id off) (.pointer (some ⟨(φ id).cQ,(φ id).aL+off,none⟩))
 |pJ {g:FuncId} {caps:List C} {vs:Array Value} (hlen:caps.length=vs.size)
   (hrc:∀(j:Nat)(x:C),caps[j]?=some x->RC S w Kn φ x (vs.getD j undef)):
   RC S w Kn φ (.pJ g caps) (.func (.func g) #[] vs)
 |om {id:Nat} (hk:Kn id):RC S w Kn φ (.om id) (.map (some (φ id).cQ))
structure Ren(Kn:Nat->Prop)(φ:Nat->gj)(Kn':Nat->Prop)(φ':Nat->gj):Prop where
 sub:∀i,Kn i->Kn' i
 dH:∀i,Kn i->φ' i=φ i
theorem Ren.refl(Kn:Nat->Prop)(φ:Nat->gj):Ren Kn φ Kn φ:=⟨fun _ h=>h,fun _ _=>rfl⟩
theorem RC.mono{S S':Nat->Prop}{w w':World}{Kn Kn':Nat->Prop}{φ φ':Nat->gj}(hs:gy S w S' w')(hr:Ren Kn φ Kn' φ'){x:C}{v:Value}
  (h:RC S w Kn φ x v):RC S' w' Kn' φ' x v:=by
 induction h with|d h=>exact .d (h.mono hs)|fx hk hcap haddr hext hc=>rw[<-hr.dH _ hk]at hext haddr hc|-;exact .fx (hr.sub _ hk) hcap haddr hext hc|ep hk=>rw[<-hr.dH _ hk];exact .ep (hr.sub _ hk)|op hk=>rw[<-hr.dH _ hk];exact .op (hr.sub _ hk)|pJ hlen hrc ih=>exact .pJ hlen ih|om hk=>rw[<-hr.dH _ hk];exact .om (hr.sub _ hk)
inductive fz(S:Nat->Prop)(w:World)(Kn:Nat->Prop)(φ:Nat->gj):TV->Value->Prop
 |c {x:C} {v:Value} (h:RC S w Kn φ x v):fz S w Kn φ (.c x) v
 |agg {cs:List C} {aG:Array Value} (hlen:cs.length=aG.size) (h:∀(i:Nat)(x:C),cs[i]?=some x->RC S w Kn φ x (aG.getD i undef)):fz S w Kn φ (.agg cs) (.agg aG)
 |gX {xs:List TV} {aG:Array Value} (hlen:xs.length=aG.size) (h:∀(i:Nat)(x:TV),xs[i]?=some x->fz S w Kn φ x (aG.getD i undef)):fz S w Kn φ (.gX xs) (.tuple aG)
theorem fz.mono{S S':Nat->Prop}{w w':World}{Kn Kn':Nat->Prop}{φ φ':Nat->gj}(hs:gy S w S' w')(hr:Ren Kn φ Kn' φ'){x:TV}{v:Value}
  (h:fz S w Kn φ x v):fz S' w' Kn' φ' x v:=by
 induction h with|c h=>exact .c (h.mono hs hr)|agg hlen h=>exact .agg hlen fun i x hi=>(h i x hi).mono hs hr|gX hlen h ih=>exact .gX hlen ih
def one:Value->Bool
 |.agg _|.tuple _=>false
 |_=>true
theorem wM{v:Value}(h:ez v=true):one v=true:=by cases v<;>simp_all[ez,one]
theorem RD.one{S:Nat->Prop}{w:World}{x:D}{v:Value}(h:RD S w x v):one v=true:=by cases h with|lit h=>exact wM h|_=>rfl
theorem RC.one{S:Nat->Prop}{w:World}{Kn:Nat->Prop}{φ:Nat->gj}{x:C}{v:Value}(h:RC S w Kn φ x v):one v=true:=by cases h with|d h=>exact h.one|_=>rfl
theorem sZ{v:Value}(h:one v=true):v.cells= #[v]:=by cases v<;>simp_all[Ev.one,Value.cells]
def pn(w:World)(b:Nat)(aG:Array Value):Prop:=∃t,w.heap[b]?=some (.cells aG t (0,0))
theorem pn.cell{w:World}{b:Nat}{aG:Array Value}(h:pn w b aG)(i:Nat):w.cell? ⟨b,i,none⟩=aG[i]?:=by obtain⟨t,h⟩:=h;simp[World.cell?,h]
theorem pn.lt{w:World}{b:Nat}{aG:Array Value}(h:pn w b aG):b<w.heap.size:=by obtain⟨t,h⟩:=h;grind
theorem pn.nL{w w':World}{b:Nat}{aG:Array Value}(h:pn w b aG)(hs:w'.heap[b]?=w.heap[b]?):pn w' b aG:=by obtain⟨t,h⟩:=h;exact⟨t,hs.trans h⟩
def cI(S:Nat->Prop)(w:World)(sz:Nat)(get:Nat->Option Value)(aL:Nat)(rows:List (List D)):Prop:=
 (∀(i:Nat)(r:List D),rows[i]?=some r->r.length=sz)/\
 ∀(i:Nat)(r:List D),rows[i]?=some r->∀(j:Nat)(x:D),r[j]?=some x->∃v,get (aL+i*sz+j)=some v/\RD S w x v
def cA:Ob->Bool
 |.aG _ _|.box _|.map _ _ _ _|.cap _ _ _|.nst _ _=>true
 |_=>false
def JK(S:Nat->Prop)(w:World)(sz:Nat)(rows:List (List D))(v:Value)(b:Nat):Prop:=∃(addr cap:Nat)(aG:Array Value),v=.slice (some ⟨b,addr,none⟩) rows.length cap/\0<sz/\pn w b aG/\rows.length<=cap/\addr+cap*sz<=aG.size/\cI S w sz (fun i=>aG[i]?) addr rows
inductive Bc(S K:Nat->Prop)(w:World)(Kn:Nat->Prop)(φ:Nat->gj)(sz:Nat):k8->Value->Prop
 |nil:Bc S K w Kn φ sz .nil (.slice none 0 0)
 |bk {rows:List (List D)} {v:Value} {b:Nat} (h:JK S w sz rows v b) (hS:¬S b) (hK:¬K b):Bc S K w Kn φ sz (.bk rows) v
 |dQ {id len:Nat} {v:Value} (h:RC S w Kn φ (.fx sz id 0 len) v):Bc S K w Kn φ sz (.dQ id len) v
def A5:Value->Option Nat
 |.slice (some a) _ _=>some a.block
 |_=>none
def tw(w:World)(l:gj)(slots:List k8)(k x:Nat):Prop:=∃rows v,slots[k]?=some (.bk rows)/\w.cell? ⟨l.cQ,l.aL+k,none⟩=some v/\A5 v=some x
def DV(ka:Bool)(k:List Value)(v:Value):Prop:=(∀x∈k,ez x=true)/\if ka then v=.agg k.toArray else k=[v]
def tG(S:Nat->Prop)(w:World)(va:Bool)(ds:List D)(v:Value):Prop:=if va then∃aG:Array Value,v=.agg aG/\ds.length=aG.size/\∀(i:Nat)(x:D),ds[i]?=some x->RD S w x (aG.getD i undef)else∃x,ds=[x]/\RD S w x v
theorem tG.mono{S S':Nat->Prop}{w w':World}(hs:gy S w S' w'){va:Bool}{ds:List D}{v:Value}(h:tG S w va ds v):tG S' w' va ds v:=by
 unfold tG at h|-;split
 .rename_i hv;rw[if_pos hv]at h;obtain⟨aG,h1,h2,h3⟩:=h;exact⟨aG,h1,h2,fun i x hi=>(h3 i x hi).mono hs⟩
 .rename_i hv;rw[if_neg hv]at h;obtain⟨x,h1,h2⟩:=h;exact⟨x,h1,h2.mono hs⟩
inductive RO(S:Nat->Prop)(K:Nat->Prop)(w:World)(Kn:Nat->Prop)(φ:Nat->gj)(l:gj):Ob->Prop
 |aG {sz:Nat} {rows:List (List D)} {aG:Array Value} (hsz:0<sz) (hl:l.sz=sz) (hS:¬S l.cQ) (hK:¬K l.cQ) (ho:pn w l.cQ aG) (hext:aG.size=l.ext)
   (hfit:l.aL+rows.length*sz<=l.ext) (hr:cI S w sz (fun i=>aG[i]?) l.aL rows) (hv:rows.length<=l.cap):RO S K w Kn φ l (.aG sz rows)
 |qu {sz:Nat} {rows:List (List D)} (hsz:0<sz) (hl:l.sz=sz) (hS:S l.cQ)
   (hr:cI S w sz (fun i=>w.cell? ⟨l.cQ,i,none⟩) l.aL rows):RO S K w Kn φ l (.qu sz rows)
 |box {cells:List C} {aG:Array Value} (hb:l.aL=0) (hS:¬S l.cQ) (hK:¬K l.cQ) (ho:pn w l.cQ aG) (hlen:cells.length=aG.size)
   (hr:∀(i:Nat)(x:C),cells[i]?=some x->RC S w Kn φ x (aG.getD i undef)):RO S K w Kn φ l (.box cells)
 |o7 {cells:List D} (hb:l.aL=0) (hS:S l.cQ)
   (hr:∀(i:Nat)(x:D),cells[i]?=some x->∃v,w.cell? ⟨l.cQ,i,none⟩=some v/\RD S w x v):RO S K w Kn φ l (.o7 cells)
 |map {ka va:Bool} {es:List (List Value×List D×Nat)} {bE:Nat} {ms:Array MapEntry} (hS:¬S l.cQ) (hK:¬K l.cQ) (ho:w.heap[l.cQ]?=some (.map ms bE)) (hlen:es.length=ms.size)
   (hr:∀(i:Nat)(e:List Value×List D×Nat)(m:MapEntry),es[i]?=some e->ms[i]?=some m->DV ka e.1 m.key/\tG S w va e.2.1 m.val/\m.born=e.2.2):RO S K w Kn φ l (.map ka va es bE)
 |cap {sz:Nat} {rows:List (List D)} {cp:Nat} {aG:Array Value} (hsz:0<sz) (hl:l.sz=sz) (hS:¬S l.cQ) (hK:¬K l.cQ) (ho:pn w l.cQ aG) (hext:aG.size=l.ext)
   (hfit:l.aL+cp*sz<=l.ext) (hr:cI S w sz (fun i=>aG[i]?) l.aL rows) (hv:rows.length<=cp) (hc:l.cap=cp):RO S K w Kn φ l (.cap sz rows cp)
 |nst {sz:Nat} {slots:List k8} {aG:Array Value} (hsz:0<sz) (hl:l.sz=1) (hS:¬S l.cQ) (hK:¬K l.cQ) (ho:pn w l.cQ aG) (hext:aG.size=l.ext)
   (hfit:l.aL+slots.length<=l.ext) (hr:∀(i:Nat)(s:k8),slots[i]?=some s->∃v,aG[l.aL+i]?=some v/\Bc S K w Kn φ sz s v) (hv:slots.length<=l.cap):RO S K w Kn φ l (.nst sz slots)
theorem cI.mono{S S':Nat->Prop}{w w':World}(hs:gy S w S' w'){sz aL:Nat}{get:Nat->Option Value}{rows:List (List D)}(h:cI S w sz get aL rows):
  cI S' w' sz get aL rows:=
 ⟨h.1,fun i r hi j x hj=>let⟨v,hg,hr⟩:=h.2 i r hi j x hj;⟨v,hg,hr.mono hs⟩⟩
def T2(S':Nat->Prop)(w w':World)(l:gj)(o:Ob):Prop:=∀sz slots,o=.nst sz slots->∀k x,tw w l slots k x->w'.heap[x]?=w.heap[x]?/\¬S' x
theorem JK.mono{S S':Nat->Prop}{w w':World}(hs:gy S w S' w'){sz b:Nat}{rows:List (List D)}{v:Value}(hb:w'.heap[b]?=w.heap[b]?)(h:JK S w sz rows v b):JK S' w' sz rows v b:=by obtain⟨a,c,aG,h1,h2,h3,h4,h5,h6⟩:=h;exact⟨a,c,aG,h1,h2,h3.nL hb,h4,h5,h6.mono hs⟩
theorem JK.cQ{S:Nat->Prop}{w:World}{sz b:Nat}{rows:List (List D)}{v:Value}(h:JK S w sz rows v b):A5 v=some b:=by obtain⟨a,c,aG,rfl,_⟩:=h;rfl
theorem JK.bk{S:Nat->Prop}{w:World}{sz b:Nat}{rows:List (List D)}{v:Value}(h:JK S w sz rows v b):∃aG,pn w b aG:=by obtain⟨a,c,aG,_,_,h,_⟩:=h;exact⟨aG,h⟩
theorem RO.mono{S S' K:Nat->Prop}{w w':World}{Kn Kn':Nat->Prop}{φ φ':Nat->gj}{l:gj}(hs:gy S w S' w')(hr:Ren Kn φ Kn' φ'){o:Ob}
  (hsame:cA o=true->w'.heap[l.cQ]?=w.heap[l.cQ]?/\¬S' l.cQ) (hkp:T2 S' w w' l o) (h:RO S K w Kn φ l o):RO S' K w' Kn' φ' l o:=by
 cases h with
 |aG hsz hl hS hK ho hext hfit hrr hv=>exact .aG hsz hl (hsame rfl).2 hK (ho.nL (hsame rfl).1) hext hfit (hrr.mono hs) hv
 |qu hsz hl hS hrr=>refine .qu hsz hl (hs.sub _ hS) ⟨hrr.1,fun i r hi j x hj=>?_⟩;obtain⟨v,hg,h⟩:=hrr.2 i r hi j x hj;exact⟨v,(mZ (hs.dH _ hS) _).trans hg,h.mono hs⟩
 |box hb hS hK ho hlen hrr=>exact .box hb (hsame rfl).2 hK (ho.nL (hsame rfl).1) hlen fun i x hi=>(hrr i x hi).mono hs hr
 |o7 hb hS hrr=>refine .o7 hb (hs.sub _ hS) fun i x hi=>?_;obtain⟨v,hg,h⟩:=hrr i x hi;exact⟨v,(mZ (hs.dH _ hS) _).trans hg,h.mono hs⟩
 |map hS hK ho hlen hrr=>exact .map (hsame rfl).2 hK ((hsame rfl).1.trans ho) hlen fun i e m hi hm=>let⟨h1,h2,h3⟩:=hrr i e m hi hm;⟨h1,h2.mono hs,h3⟩
 |cap hsz hl hS hK ho hext hfit hrr hv hc=>exact .cap hsz hl (hsame rfl).2 hK (ho.nL (hsame rfl).1) hext hfit (hrr.mono hs) hv hc
 |nst hsz hl hS hK ho hext hfit hrr hv=>refine .nst hsz hl (hsame rfl).2 hK (ho.nL (hsame rfl).1) hext hfit (fun i s hi=>?_) hv;obtain⟨v,h1,h2⟩:=hrr i s hi;refine⟨v,h1,?_⟩;cases h2 with|nil=>exact .nil|@bk rows _ b h hS hK=>obtain⟨k1,k2⟩:=hkp _ _ rfl i b ⟨rows,v,hi,(ho.cell _).trans h1,h.cQ⟩;exact .bk (h.mono hs k1) k2 hK|dQ h=>exact .dQ (h.mono hs hr)
def Io(w0 w:World):Prop:=w.os=w0.os/\w.output=w0.output/\w.tape=w0.tape/\w0.drawn*0<=w.drawn*0
theorem Io.trans{a b c:World}(h:Io a b)(h2:Io b c):Io a c:=⟨h2.1.trans h.1,h2.2.1.trans h.2.1,h2.2.2.1.trans h.2.2.1,bo h.2.2.2 h2.2.2.2⟩
theorem Io.refl(w:World):Io w w:=⟨rfl,rfl,rfl,am _⟩
structure JM(K:Nat->Prop)(w0 w:World):Prop where
 HK:∀b,K b->b<w0.heap.size
 lK:∀b,K b->w.heap[b]?=w0.heap[b]?
 sT:w0.heap.size<=w.heap.size
 Bj:∀a,a.block<w0.heap.size->w.frozen? a=w0.frozen? a
 bk:∀b aG,pn w0 b aG->∃arr',pn w b arr'/\arr'.size=aG.size
 io:Io w0 w
def DY(S:Nat->Prop)(w:World):Prop:=∀g d,UW g=some d->RD S w d (.pointer (some ⟨g,0,none⟩))
theorem DY.mono{S S':Nat->Prop}{w w':World}(h:DY S w)(hs:gy S w S' w'):DY S' w':=fun g d hg=>(h g d hg).mono hs
def YQ(w:World)(φ:Nat->gj)(hf:Nat->Option Ob):Prop:=∀i sz sl k x,hf i=some (.nst sz sl)->tw w (φ i) sl k x->
 (∀j b,hf j=some b->cA b=true->(φ j).cQ≠x)/\∀j sz' sl' k',hf j=some (.nst sz' sl')->tw w (φ j) sl' k' x->j=i/\k'=k
structure Inv(S K:Nat->Prop)(w0:World)(Kn:Nat->Prop)(φ:Nat->gj)(hf:Nat->Option Ob)(w:World):Prop where
 uH:∀b,S b->b<w.heap.size
 sk:∀b,S b->¬K b
 oe:JM K w0 w
 iI:∀id o,hf id=some o->Kn id/\RO S K w Kn φ (φ id) o
 ph:∀i j a b,hf i=some a->hf j=some b->cA a=true->cA b=true->i≠j->(φ i).cQ≠(φ j).cQ
 Bz:DY S w
 yB:YQ w φ hf
def bf(u:eW)(hf:Nat->Option Ob)(id:Nat):Option Ob:=match bV u id with|some o=>o|none=>hf id
theorem gN{α:Type}(a b:List (Nat×α))(k:Nat):bV (a++b) k=match bV a k with|some x=>some x|none=>bV b k:=by induction a with|nil=>rfl|cons p r ih=>obtain⟨i,x⟩:=p;simp[bV];cases h:(i==k)<;>simp[ih]
theorem fH(u:eW)(h:bp):au (u++h)=bf u (au h):=by funext id;simp[au,bf,gN];cases bV u id<;>simp
theorem k_(hf:Nat->Option Ob):bf [] hf=hf:=rfl
theorem bO(i:Nat)(o:Option Ob)(u:eW)(hf:Nat->Option Ob)(id:Nat):bf ((i,o)::u) hf id=if i=id then o else bf u hf id:=by
 grind [bf,bV]
theorem dp(u v:eW)(hf:Nat->Option Ob):bf (u++v) hf=bf u (bf v hf):=by funext id;simp[bf,gN];cases bV u id<;>simp
theorem Inv.wu{S S' K:Nat->Prop}{w0 w w':World}{Kn Kn':Nat->Prop}{φ φ':Nat->gj}{hf hf':Nat->Option Ob}(h:Inv S K w0 Kn φ hf w)
  (hs:gy S w S' w') (hr:Ren Kn φ Kn' φ') (hslt:∀b,S' b->b<w'.heap.size) (hsk:∀b,S' b->¬K b) (hfrm:JM K w0 w')
  (hobj:∀id o,hf' id=some o->(hf id=some o/\(cA o=true->w'.heap[(φ id).cQ]?=w.heap[(φ id).cQ]?/\¬S' (φ id).cQ)/\T2 S' w w' (φ id) o)\/(Kn' id/\RO S' K w' Kn' φ' (φ' id) o))
  (hdist:∀i j a b,hf' i=some a->hf' j=some b->cA a=true->cA b=true->i≠j->(φ' i).cQ≠(φ' j).cQ) (hprv:YQ w' φ' hf'):
  Inv S' K w0 Kn' φ' hf' w' where
 uH:=hslt
 sk:=hsk
 oe:=hfrm
 ph:=hdist
 Bz:=h.Bz.mono hs
 yB:=hprv
 iI id o ho:=by
  rcases hobj id o ho with⟨h1,h2,h3⟩|h1
  .obtain ⟨hk,hro⟩:=h.iI id o h1;refine⟨hr.sub _ hk,?_⟩;rw[hr.dH _ hk];exact hro.mono hs hr h2 h3
  .exact h1
theorem tw.dH{w w':World}{l:gj}{sl:List k8}{k x:Nat}(h:w'.heap[l.cQ]?=w.heap[l.cQ]?):tw w' l sl k x<->tw w l sl k x:=by unfold tw;rw[fun i=>mZ h i]
theorem RO.Kp{S K:Nat->Prop}{w:World}{Kn:Nat->Prop}{φ:Nat->gj}{l:gj}{sz:Nat}{sl:List k8}{k x:Nat}(h:RO S K w Kn φ l (.nst sz sl))(hp:tw w l sl k x):
  ¬S x/\¬K x/\x<w.heap.size/\∃rows v,sl[k]?=some (.bk rows)/\w.cell? ⟨l.cQ,l.aL+k,none⟩=some v/\JK S w sz rows v x:=by
 cases h with
 |nst hsz hl hS hK ho hext hfit hr hv=>
  obtain⟨rows,v,h1,h2,h3⟩:=hp;obtain⟨v',h4,h5⟩:=hr k _ h1;obtain rfl:v'=v:=by rw[ho.cell,h4]at h2;exact aa h2
  cases h5 with
  |@bk _ _ b h6 hS hK=>
   obtain rfl:b=x:=by rw[h6.cQ]at h3;exact aa h3
   obtain⟨aG,h7⟩:=h6.bk;exact⟨hS,hK,h7.lt,rows,v',h1,h2,h6⟩
theorem Inv.Kp{S K:Nat->Prop}{w0 w:World}{Kn:Nat->Prop}{φ:Nat->gj}{hf:Nat->Option Ob}(h:Inv S K w0 Kn φ hf w){i sz k x:Nat}{sl:List k8}(hi:hf i=some (.nst sz sl))(hp:tw w (φ i) sl k x):
  ¬S x/\¬K x/\x<w.heap.size/\∃rows v,sl[k]?=some (.bk rows)/\w.cell? ⟨(φ i).cQ,(φ i).aL+k,none⟩=some v/\JK S w sz rows v x:=(h.iI i _ hi).2.Kp hp
def T0(S':Nat->Prop)(w w':World)(φ φ':Nat->gj)(hf hf':Nat->Option Ob):Prop:=∀id sz sl,hf' id=some (.nst sz sl)->hf id=some (.nst sz sl)/\w'.heap[(φ id).cQ]?=w.heap[(φ id).cQ]?/\
 ∀k x,tw w (φ id) sl k x->w'.heap[x]?=w.heap[x]?/\¬S' x/\∀j b,hf' j=some b->cA b=true->(φ' j).cQ≠x
theorem Inv.ld{S S' K:Nat->Prop}{w0 w w':World}{Kn Kn':Nat->Prop}{φ φ':Nat->gj}{hf hf':Nat->Option Ob}(h:Inv S K w0 Kn φ hf w)
  (hs:gy S w S' w') (hr:Ren Kn φ Kn' φ') (hslt:∀b,S' b->b<w'.heap.size) (hsk:∀b,S' b->¬K b) (hfrm:JM K w0 w')
  (hobj:∀id o,hf' id=some o->(hf id=some o/\(cA o=true->w'.heap[(φ id).cQ]?=w.heap[(φ id).cQ]?/\¬S' (φ id).cQ))\/(Kn' id/\RO S' K w' Kn' φ' (φ' id) o))
  (hdist:∀i j a b,hf' i=some a->hf' j=some b->cA a=true->cA b=true->i≠j->(φ' i).cQ≠(φ' j).cQ) (hrest:T0 S' w w' φ φ' hf hf'):
  Inv S' K w0 Kn' φ' hf' w':=by
 have e:=fun id sz sl hi=>hr.dH _ (h.iI id _ (hrest id sz sl hi).1).1;have hpat:∀id sz sl k x,hf' id=some _->tw w' (φ' id) sl k x->tw w _ sl k x:=fun id sz sl k x hi hp=>by rw[e id sz sl hi]at hp;exact(tw.dH (hrest id sz sl hi).2.1).1 hp
 refine h.wu hs hr hslt hsk hfrm (fun id o ho=>?_) hdist fun i sz sl k x hi hp=>?_
 .rcases hobj id o ho with⟨h1,h2⟩|h1
  .exact .inl ⟨h1,h2,fun sz sl eo k x hp=>by subst eo;obtain⟨a,b,_⟩:=(hrest id sz sl ho).2.2 k x hp;exact⟨a,b⟩⟩
  .exact .inr h1
 .have hp':=hpat i sz sl k x hi hp;refine⟨((hrest i sz sl hi).2.2 k x hp').2.2,fun j sz' sl' k' hj hpj=>?_⟩;exact(h.yB i sz sl k x (hrest i sz sl hi).1 hp').2 j sz' sl' k' (hrest j sz' sl' hj).1 (hpat j sz' sl' k' x hj hpj)
theorem jR{w:World}{o:Obj}{b:Nat}(h:b<w.heap.size):({w with heap:=w.heap.push o}:World).heap[b]?=w.heap[b]?:=by
 grind
theorem Ai(w:World)(aG:Array Value)(t:TypeId):pn {w with heap:=w.heap.push (.cells aG t)} w.heap.size aG:=⟨t,by simp⟩
theorem FP(w:World)(aG:Array Value)(t:TypeId)(a:Addr):({w with heap:=w.heap.push (.cells aG t)}:World).frozen? a=w.frozen? a:=by
 unfold World.frozen?
 grind
theorem JM.push{K:Nat->Prop}{w0 w:World}(h:JM K w0 w)(aG:Array Value)(t:TypeId):JM K w0 {w with heap:=w.heap.push (.cells aG t)}where
 HK:=h.HK
 lK b hb:=(jR (cP (h.HK b hb) h.sT)).trans (h.lK b hb)
 sT:=by have:=h.sT;simp;omega
 Bj a ha:=(FP w aG t a).trans (h.Bj a ha)
 bk b a ha:=let⟨a',h1,h2⟩:=h.bk b a ha;⟨a',h1.nL (jR h1.lt),h2⟩
 io:=h.io
theorem JM.Ag{K:Nat->Prop}{w0 w w':World}(h:JM K w0 w){c:Nat}(hother:∀b,b≠c->w'.heap[b]?=w.heap[b]?)
  (hsz:∀aG,pn w c aG->∃arr',pn w' c arr'/\arr'.size=aG.size) (b:Nat) (aG:Array Value) (ho:pn w0 b aG):∃arr',pn w' b arr'/\arr'.size=aG.size:=by
 obtain⟨a,h1,h2⟩:=h.bk b aG ho;by_cases e:b=c
 .grind
 .exact ⟨a,h1.nL (hother b e),h2⟩
theorem JM.vh{K:Nat->Prop}{w0 w:World}(h:JM K w0 w)(n:Nat)(hn:w.drawn<=n):JM K w0 {w with drawn:=n}:=⟨h.HK,h.lK,h.sT,h.Bj,h.bk,h.io.1,h.io.2.1,h.io.2.2.1,am _⟩
theorem gy.push{S:Nat->Prop}{w:World}(hs:∀b,S b->b<w.heap.size)(o:Obj):gy S w S {w with heap:=w.heap.push o}:=⟨fun _ h=>h,fun b h=>jR (hs b h)⟩
theorem gy.vh(S:Nat->Prop)(w:World)(n:Nat):gy S w S {w with drawn:=n}:=⟨fun _ h=>h,fun _ _=>rfl⟩
theorem Inv.EI{S K:Nat->Prop}{w0 w w':World}{Kn Kn':Nat->Prop}{φ φ':Nat->gj}{hf:Nat->Option Ob}(h:Inv S K w0 Kn φ hf w)(hr:Ren Kn φ Kn' φ')(hs:∀b,b<w.heap.size->w'.heap[b]?=w.heap[b]?):T0 S w w' φ φ' hf hf:=fun id sz sl hi=>by
 obtain⟨_,h1⟩:=h.iI id _ hi;have hlt:=by cases h1 with|nst _ _ _ _ ho=>exact ho.lt
 refine⟨hi,hs _ hlt,fun k x hp=>?_⟩;obtain⟨h2,_,h3,_⟩:=h.Kp hi hp;refine⟨hs x h3,h2,fun j b hj hb=>?_⟩;rw[hr.dH j (h.iI j b hj).1];exact(h.yB id sz sl k x hi hp).1 j b hj hb
theorem Inv.B0{S K:Nat->Prop}{w0 w w':World}{Kn:Nat->Prop}{φ:Nat->gj}{hf:Nat->Option Ob}(h:Inv S K w0 Kn φ hf w)(hs:∀b,b<w.heap.size->w'.heap[b]?=w.heap[b]?):T0 S w w' φ φ hf hf:=h.EI (Ren.refl _ _) hs
theorem Inv.vh{S K:Nat->Prop}{w0 w:World}{Kn:Nat->Prop}{φ:Nat->gj}{hf:Nat->Option Ob}(h:Inv S K w0 Kn φ hf w)(n:Nat)(hn:w.drawn<=n):
  Inv S K w0 Kn φ hf {w with drawn:=n}:=
 h.ld (gy.vh S w n) (Ren.refl _ _) h.uH h.sk (h.oe.vh n hn) (fun id o ho=>.inl ⟨ho,fun hown=>⟨rfl,by obtain⟨_,hro⟩:=h.iI id o ho;cases hro<;>simp_all[cA]⟩⟩) h.ph (h.B0 fun _ _=>rfl)
theorem RO.bk{S K:Nat->Prop}{w:World}{Kn:Nat->Prop}{φ:Nat->gj}{l:gj}{o:Ob}(h:RO S K w Kn φ l o)(ho:cA o=true):
  ¬S l.cQ/\¬K l.cQ/\l.cQ<w.heap.size:=by
 cases h with|aG hsz hl hS hK hown=>exact⟨hS,hK,hown.lt⟩|box hb hS hK hown=>exact⟨hS,hK,hown.lt⟩|map hS hK hmp=>grind|cap hsz hl hS hK hown=>exact⟨hS,hK,hown.lt⟩|nst hsz hl hS hK hown=>exact⟨hS,hK,hown.lt⟩|_=>simp[cA]at ho
def ext(φ:Nat->gj)(i:Nat)(l:gj):Nat->gj:=fun j=>if j=i then l else φ j
theorem iZ{Kn:Nat->Prop}{φ:Nat->gj}{i:Nat}(l:gj)(hi:¬Kn i):Ren Kn φ (fun j=>Kn j\/j=i) (ext φ i l):=⟨fun _ h=>.inl h,fun j h=>by simp only[ext];rw[if_neg];rintro rfl;exact hi h⟩
abbrev JL(o:Ob):Prop:=∀sz sl(k:Nat)rows,o=.nst sz sl->sl[k]?≠some (k8.bk rows)
theorem Inv.I6{S K:Nat->Prop}{w0 w w':World}{Kn:Nat->Prop}{φ:Nat->gj}{hf:Nat->Option Ob}(h:Inv S K w0 Kn φ hf w){i:Nat}{l:gj}{o:Ob}(hno:JL o)
  (hsame:∀b,b<w.heap.size->w'.heap[b]?=w.heap[b]?) (hl:cA o=true->∀id sz sl k x,hf id=some (.nst sz sl)->tw w (φ id) sl k x->l.cQ≠x):YQ w' (ext φ i l) (bf [(i,some o)] hf):=by
 have key:∀a sz sl k x,bf [(i,some o)] hf a=some (.nst sz sl)->tw w' (ext φ i l a) sl k x->hf a=some (.nst sz sl)/\tw w (φ a) sl k x:=by
  intro a sz sl k x ha hp;rw[bO]at ha;by_cases e:i=a
  .rw [if_pos e]at ha;obtain rfl:=aa ha;obtain⟨rows,v,h1,_⟩:=hp;exact absurd h1 (hno _ _ _ _ rfl)
  .rw [if_neg e,k_]at ha;refine⟨ha,?_⟩;have e1:ext φ i l a=φ a:=by simp only[ext];rw[if_neg (fun q=>e q.symm)]
   rw[e1]at hp;obtain⟨_,h1⟩:=h.iI a _ ha;exact(tw.dH (hsame _ (by cases h1 with|nst _ _ _ _ ho=>exact ho.lt))).1 hp
 intro a sz sl k x ha hp;obtain⟨h1,h2⟩:=key a sz sl k x ha hp;obtain⟨p1,p2⟩:=h.yB a sz sl k x h1 h2;refine⟨fun j b hj hown=>?_,fun j sz' sl' k' hj hpj=>?_⟩
 .rw [bO]at hj;by_cases e:i=j
  .simp only[ext]
   grind
  .rw [if_neg e,k_]at hj;simp only[ext]
   grind
 grind
theorem Inv.FH{S K:Nat->Prop}{w0 w w':World}{Kn:Nat->Prop}{φ:Nat->gj}{hf:Nat->Option Ob}(h:Inv S K w0 Kn φ hf w){id:Nat}{o:Ob}(ho:hf id=some o)(hsame:∀b,b<w.heap.size->w'.heap[b]?=w.heap[b]?):T2 S w w' (φ id) o:=by intro sz sl e k x hp;subst e;obtain⟨h1,_,h2,_⟩:=h.Kp ho hp;exact⟨hsame x h2,h1⟩
theorem Inv.alloc{S K:Nat->Prop}{w0 w:World}{Kn:Nat->Prop}{φ:Nat->gj}{hf:Nat->Option Ob}(h:Inv S K w0 Kn φ hf w){i:Nat}(hi:¬Kn i)
  (aG:Array Value) (t:TypeId) (sz c:Nat) (o:Ob)
  (hro:RO S K {w with heap:=w.heap.push (.cells aG t)} (fun j=>Kn j\/j=i) (ext φ i ⟨w.heap.size,0,sz,aG.size,c⟩) ⟨w.heap.size,0,sz,aG.size,c⟩ o) (hno:JL o:=by intro _ _ _ _ e;cases e):
  Inv S K w0 (fun j=>Kn j\/j=i) (ext φ i ⟨w.heap.size,0,sz,aG.size,c⟩) (bf [(i,some o)] hf) {w with heap:=w.heap.push (.cells aG t)}:=by
 refine h.wu (gy.push h.uH _) (iZ _ hi) (fun b hb=>by have:=h.uH b hb;simp;omega) h.sk (h.oe.push aG t) ?_ ?_ (h.I6 hno (fun b hb=>jR hb) fun _ id sz sl k x ha hp e=>by have:=(h.Kp ha hp).2.2.1;simp at e;omega)
 .intro id o' ho;rw[bO]at ho;by_cases e:i=id
  .subst e;obtain rfl:o=o':=by simpa using ho
   refine .inr ⟨.inr rfl,?_⟩;simpa[ext]using hro
  .rw [if_neg e]at ho;refine .inl ⟨ho,fun hown=>?_,h.FH ho fun b hb=>jR hb⟩;obtain⟨_,h2⟩:=h.iI id o' ho;obtain⟨a,b,c⟩:=h2.bk hown;exact⟨jR c,a⟩
 .have key:∀j b,j≠i->hf j=some b->cA b=true->(ext φ i ⟨w.heap.size,0,sz,aG.size,c⟩ j).cQ<w.heap.size:=by intro j b hj hb hown;obtain⟨_,h2⟩:=h.iI j b hb;simpa[ext,hj]using(h2.bk hown).2.2
  intro a b oa ob ha hb hoa hob hne;rw[bO]at ha hb;by_cases ea:i=a
  .by_cases eb:i=b
   .exact absurd (ea.symm.trans eb) hne
   .rw [if_neg eb]at hb;have:=key b ob (fun e=>eb e.symm) hb hob;have e1:(ext φ i ⟨w.heap.size,0,sz,aG.size,c⟩ a).cQ=w.heap.size:=by simp[ext,ea]
    omega
  .rw [if_neg ea]at ha;have h1:=key a oa (fun e=>ea e.symm) ha hoa;by_cases eb:i=b
   .have e1:(ext φ i ⟨w.heap.size,0,sz,aG.size,c⟩ b).cQ=w.heap.size:=by simp[ext,eb]
    omega
   .rw [if_neg eb]at hb;have:=h.ph a b oa ob ha hb hoa hob hne;have e1:¬a=i:=fun e=>ea e.symm;have e2:¬b=i:=fun e=>eb e.symm;simpa[ext,e1,e2]using this
theorem DA{w:World}{o:Obj}(ho:∀c t r,o≠.cells c t r)(a:Addr):({w with heap:=w.heap.push o}:World).frozen? a=w.frozen? a:=by
 unfold World.frozen?
 grind
theorem Inv.TR{S K:Nat->Prop}{w0 w:World}{Kn:Nat->Prop}{φ:Nat->gj}{hf:Nat->Option Ob}(h:Inv S K w0 Kn φ hf w){i:Nat}(hi:¬Kn i)
  {ob:Obj} (hob:∀c t r,ob≠.cells c t r) (l:gj) (hl:l.cQ=w.heap.size) (o:Ob)
  (hro:RO S K {w with heap:=w.heap.push ob} (fun j=>Kn j\/j=i) (ext φ i l) l o) (hno:JL o:=by intro _ _ _ _ e;cases e):
  Inv S K w0 (fun j=>Kn j\/j=i) (ext φ i l) (bf [(i,some o)] hf) {w with heap:=w.heap.push ob}:=by
 have hfrm:JM K w0 {w with heap:=w.heap.push ob}:=
  ⟨h.oe.HK,fun b hb=>(jR (cP (h.oe.HK b hb) h.oe.sT)).trans (h.oe.lK b hb),by have:=h.oe.sT;simp;omega,fun a ha=>(DA hob a).trans (h.oe.Bj a ha),
   fun b a ha=>let⟨a',h1,h2⟩:=h.oe.bk b a ha;⟨a',h1.nL (jR h1.lt),h2⟩,h.oe.io⟩
 refine h.wu (gy.push h.uH _) (iZ _ hi) (fun b hb=>by have:=h.uH b hb;simp;omega) h.sk hfrm ?_ ?_ (h.I6 hno (fun b hb=>jR hb) fun _ id sz sl k x ha hp e=>by have:=(h.Kp ha hp).2.2.1;omega)
 .intro id o' ho;rw[bO]at ho;by_cases e:i=id
  .subst e;obtain rfl:o=o':=by simpa using ho
   refine .inr ⟨.inr rfl,?_⟩;simpa[ext]using hro
  .rw [if_neg e]at ho;refine .inl ⟨ho,fun hown=>?_,h.FH ho fun b hb=>jR hb⟩;obtain⟨_,h2⟩:=h.iI id o' ho;obtain⟨a,b,c⟩:=h2.bk hown;exact⟨jR c,a⟩
 .have key:∀j b,j≠i->hf j=some b->cA b=true->(ext φ i l j).cQ<w.heap.size:=by intro j b hj hb hown;obtain⟨_,h2⟩:=h.iI j b hb;simpa[ext,hj]using(h2.bk hown).2.2
  intro a b oa ob ha hb hoa hob hne;rw[bO]at ha hb;by_cases ea:i=a
  .by_cases eb:i=b
   .exact absurd (ea.symm.trans eb) hne
   .rw [if_neg eb]at hb;have:=key b ob (fun e=>eb e.symm) hb hob;have e1:(ext φ i l a).cQ=w.heap.size:=by simp[ext,ea,hl]
    omega
  .rw [if_neg ea]at ha;have h1:=key a oa (fun e=>ea e.symm) ha hoa;by_cases eb:i=b
   .have e1:(ext φ i l b).cQ=w.heap.size:=by simp[ext,eb,hl]
    omega
   .rw [if_neg eb]at hb;have:=h.ph a b oa ob ha hb hoa hob hne;have e1:¬a=i:=fun e=>ea e.symm;have e2:¬b=i:=fun e=>eb e.symm;simpa[ext,e1,e2]using this
theorem Inv.mC{S K:Nat->Prop}{w0 w:World}{Kn:Nat->Prop}{φ:Nat->gj}{hf hf':Nat->Option Ob}(h:Inv S K w0 Kn φ hf w)(hsub:∀id o,hf' id=some o->hf id=some o):
  Inv S K w0 Kn φ hf' w:=
 ⟨h.uH,h.sk,h.oe,fun id o ho=>h.iI id o (hsub id o ho),fun i j a b ha hb=>h.ph i j a b (hsub _ _ ha) (hsub _ _ hb),h.Bz,
  fun i sz sl k x hi hp=>let⟨a,b⟩:=h.yB i sz sl k x (hsub _ _ hi) hp;⟨fun j b hj=>a j b (hsub _ _ hj),fun j sz' sl' k' hj=>b j sz' sl' k' (hsub _ _ hj)⟩⟩
theorem Inv.set{S K:Nat->Prop}{w0 w w':World}{Kn:Nat->Prop}{φ:Nat->gj}{hf:Nat->Option Ob}(h:Inv S K w0 Kn φ hf w){id:Nat}{o o':Ob}
  (ho:hf id=some o) (hown:cA o=true) (hother:∀b,b≠(φ id).cQ->w'.heap[b]?=w.heap[b]?) (hsize:w'.heap.size=w.heap.size)
  (hfrz:∀a,w'.frozen? a=w.frozen? a) (hsz:∀aG,pn w (φ id).cQ aG->∃arr',pn w' (φ id).cQ arr'/\arr'.size=aG.size) (hio:Io w w') (hro:gy S w S w'->RO S K w' Kn φ (φ id) o') (hn:∀sz sl,o'≠.nst sz sl:=by intro _ _ e;cases e):
  gy S w S w'/\Inv S K w0 Kn φ (bf [(id,some o')] hf) w':=by
 obtain⟨hk,h0⟩:=h.iI id o ho;obtain⟨hS,hK,hlt⟩:=h0.bk hown;have hs:gy S w S w':=⟨fun _ h=>h,fun b hb=>hother b (fun e=>hS (e▸hb))⟩
 have fix:∀i a,bf [(id,some o')] hf i=some a->cA a=true->∃a',hf i=some a'/\cA a'=true:=by
  intro i a ha hoa;rw[bO]at ha;by_cases e:id=i
  .subst e;exact⟨o,ho,hown⟩
  .rw [if_neg e,k_]at ha;exact⟨a,ha,hoa⟩
 refine⟨hs,h.ld hs (Ren.refl _ _) (fun b hb=>hsize▸h.uH b hb) h.sk ?_ ?_ ?_ ?_⟩
 .exact ⟨h.oe.HK,fun b hb=>(hother b (fun e=>hK (e▸hb))).trans (h.oe.lK b hb),hsize▸h.oe.sT,fun a ha=>(hfrz a).trans (h.oe.Bj a ha),h.oe.Ag hother hsz,h.oe.io.trans hio⟩
 .intro i x hx;rw[bO]at hx;by_cases e:id=i
  .simp_all
  .rw [if_neg e,k_]at hx;refine .inl ⟨hx,fun hox=>⟨hother _ ?_,((h.iI i x hx).2.bk hox).1⟩⟩;exact(h.ph i id x o hx ho hox hown (fun e'=>e e'.symm))
 .intro i j a b ha hb hoa hob hne;obtain⟨a',ha',hoa'⟩:=fix i a ha hoa;obtain⟨b',hb',hob'⟩:=fix j b hb hob;exact h.ph i j a' b' ha' hb' hoa' hob' hne
 .intro a sz sl ha;rw[bO]at ha;by_cases e:id=a
  .rw [if_pos e]at ha;exact absurd (aa ha) (hn _ _)
  .rw [if_neg e]at ha;refine⟨ha,hother _ (h.ph a id _ o ha ho rfl hown fun q=>e q.symm),fun k x hp=>?_⟩;obtain⟨p1,_⟩:=h.yB a sz sl k x ha hp;refine⟨hother x fun q=>p1 id o ho hown q.symm,(h.Kp ha hp).1,fun j b hj hb=>?_⟩
   grind
variable{P:Program}
def fw(P:Program)(t:TypeId):Option Nat:=(P.info? t).map (·.size)
def fJ(P:Program)(t:TypeId):Option Bool:=(P.underlying t).map fun|.struct _|.array _ _=>true|_=>false
def jE(P:Program)(t:TypeId):Option (List Value):=match(P.info? t).bind (·.zero)with|some z=>if z.cells.toList.all ez then some z.cells.toList else none|none=>none
theorem pk(b off n:Nat):(⟨b,off,none⟩:Addr).add n=⟨b,off+n,none⟩:=by unfold Addr.add;split<;>simp_all
theorem gG{t:TypeId}{n:Nat}(h:fw P t=some n)(w:World):(sizeOf t).run P w=.ok n w:=by simp[fw]at h;obtain⟨i,hi,rfl⟩:=h;simp[sizeOf,typeInfo,hi]
theorem bz{t:TypeId}{d:TypeDesc}(h:P.underlying t=some d)(w:World):(underlying t).run P w=.ok d w:=by simp[underlying,h]
theorem uL{t:TypeId}{g:Bool}(h:fJ P t=some g)(w:World):(isAgg t).run P w=.ok g w:=by simp[fJ]at h;obtain⟨d,hd,rfl⟩:=h;simp[isAgg,bz hd];cases d<;>rfl
theorem oU{t:TypeId}{z:List Value}(h:jE P t=some z)(w:World):
  ∃v,(zeroValue t).run P w=.ok v w/\v.cells.toList=z/\∀x∈z,ez x=true:=by
 simp only[jE]at h;split at h
 .rename_i v hv;split at h
  .rename_i hp;obtain rfl:=aa h;obtain⟨i,hi,hz⟩:=fZ.1 hv;exact⟨v,by simp[zeroValue,typeInfo,hi,hz],rfl,fun x hx=>List.all_eq_true.1 hp x hx⟩
  .simp at h
 .simp at h
section
variable{S K:Nat->Prop}{w0 w:World}{Kn:Nat->Prop}{φ:Nat->gj}{hf:Nat->Option Ob}
theorem HJ(agg:Bool)(n:Nat)(cells:List D):Rm agg n cells=FD agg n (cells.map .d):=by
 unfold Rm FD
 grind [List.map_take]
theorem xK{t:TypeId}{agg:Bool}{n:Nat}(ha:fJ P t=some agg)(hn:fw P t=some n){cells:List C}{b o:Nat}{v:TV}
  (hc:∀(j:Nat)(x:C),cells[j]?=some x->∃u,w.cell? ⟨b,o+j,none⟩=some u/\RC S w Kn φ x u) (h:FD agg n cells=some v):
  ∃val,(loadVar t ⟨b,o,none⟩).run P w=.ok val w/\fz S w Kn φ v val:=by
 unfold FD at h;cases agg
 .cases cells with
  |nil=>simp at h
  |cons x r=>
   obtain rfl:TV.c x=v:=by simpa using h
   obtain⟨u,hu,hr⟩:=hc 0 x rfl;refine⟨u,?_,.c hr⟩;simp_all[loadVar,uL,if_false,run_load]
 .simp only[if_true]at h;split at h
  .obtain rfl:=aa h
   have hcell:∀j,j<n->w.cell? ((⟨b,o,none⟩:Addr).add j)=some ((w.cell? ⟨b,o+j,none⟩).getD undef):=by
    intro j hj;have hj':=by omega
    obtain⟨u,hu,_⟩:=hc j cells[j] (by simp[hj']);rw[pk,hu];rfl
   refine⟨.agg ((List.range n).map fun j=>(w.cell? ⟨b,o+j,none⟩).getD undef).toArray,?_,.agg (by simp;omega) ?_⟩
   .simp_all [loadVar,uL,if_true,gG,run_loadCells]
   .intro i x hi;rw[List.getElem?_take]at hi;split at hi
    .obtain ⟨u,hu,hr⟩:=hc i x hi;simp_all
    .simp at hi
  .simp at h
theorem DM{id bv:Nat}{sz:Nat}{rows:List (List D)}(hI:Inv S K w0 Kn φ hf w)(ho:hf id=some (.aG sz rows)\/hf id=some (.qu sz rows)){r:List D}(hr:rows[bv]?=some r)(off:Nat):
  (φ id).sz=sz/\r.length=sz/\∀(j:Nat)(x:C),((r.drop off).map C.d)[j]?=some x->∃u,w.cell? ⟨(φ id).cQ,(φ id).aL+bv*(φ id).sz+off+j,none⟩=some u/\RC S w Kn φ x u:=by
 rcases ho with ho|ho
 .obtain ⟨hk,h0⟩:=hI.iI _ _ ho;cases h0 with|aG hsz hl hS hK hown hext hfit hrr=>refine⟨hl,hrr.1 _ _ hr,fun j x hj=>?_⟩;rw[aN,bQ]at hj;obtain⟨d,hd,rfl⟩:=aH.1 hj;obtain⟨u,hu,hrd⟩:=hrr.2 bv r hr _ d hd;refine⟨u,?_,.d hrd⟩;rw[hown.cell,hl,<-hu];show _=_;congr 1;omega
 .obtain ⟨hk,h0⟩:=hI.iI _ _ ho;cases h0 with
  |qu hsz hl hS hrr=>
   refine⟨hl,hrr.1 _ _ hr,fun j x hj=>?_⟩;rw[aN,bQ]at hj;obtain⟨d,hd,rfl⟩:=aH.1 hj;obtain⟨u,hu,hrd⟩:=hrr.2 bv r hr _ d hd;refine⟨u,?_,.d hrd⟩
   grind
theorem zZ{t:TypeId}{agg:Bool}{n:Nat}(ha:fJ P t=some agg)(hn:fw P t=some n){p:C}{H:bp}{v:TV}{av:List Nat}{pv:Value}
  (hI:Inv S K w0 Kn φ (au H) w) (hp:RC S w Kn φ p pv) (h:g_ agg n p H=some (v,av)):
  ∃val,(Instr.loadAt t pv).run P w=.ok val w/\fz S w Kn φ v val:=by
 unfold g_ at h;split at h
 .rename_i cells;split at h
  .rename_i v' hv;rw[HJ]at hv;cases hp with
   |d hd=>
    cases hd with
    |pt f hb hcell hrd=>
     obtain⟨val,h1,h2⟩:=xK (Kn:=Kn) (φ:=φ) (S:=S) ha hn (cells:=cells.map .d) (fun j x hj=>by rw[aN]at hj;obtain⟨d,hd,rfl⟩:=aH.1 hj;exact⟨_,hcell j d hd,.d (hrd j d hd)⟩) hv
     grind [Instr.loadAt,Instr.sureAddr]
  .simp at h
 .rename_i id bv off
  have key:∀sz rows,(au H id=some (.aG sz rows)\/au H id=some (.qu sz rows))->
    (match rows[bv]?with|some r=>(match Rm agg n (r.drop off)with|some v=>some (v,[id])|none=>none)|none=>none)=some (v,av)->
    ∃val,(Instr.loadAt t pv).run P w=.ok val w/\fz S w Kn φ v val:=by
   intro sz rows ho h;split at h
   .rename_i r hr;split at h
    .rename_i v' hv;rw[HJ]at hv;obtain⟨hl,hrl,hc⟩:=DM hI ho hr off;cases hp with
     |ep hk=>
      obtain⟨val,h1,h2⟩:=xK ha hn hc hv
      grind [Instr.loadAt,Instr.sureAddr]
    .simp at h
   .simp at h
  grind
 .rename_i id off;split at h
  .rename_i cells ho;split at h
   .rename_i v' hv;obtain⟨hk,h0⟩:=hI.iI _ _ ho;cases h0 with
    |box hb hS hK hown hlen hrr=>
     cases hp with
     |op hk=>
      obtain⟨val,h1,h2⟩:=xK (S:=S) (Kn:=Kn) (φ:=φ) ha hn (b:=(φ id).cQ) (o:=(φ id).aL+off) (fun j x hj=>by rw[bQ]at hj;have hlt:=(aB.1 hj).1;rw[hlen]at hlt;refine⟨_,?_,hrr _ _ hj⟩;rw[hown.cell,hb];simp[Array.getD,hlt]) hv
      grind [Instr.loadAt,Instr.sureAddr]
   .simp at h
  .rename_i cells ho;split at h
   .rename_i v' hv;rw[HJ]at hv;obtain⟨hk,h0⟩:=hI.iI _ _ ho;cases h0 with
    |o7 hb hS hrr=>
     cases hp with
     |op hk=>
      obtain⟨val,h1,h2⟩:=xK (S:=S) (Kn:=Kn) (φ:=φ) ha hn (b:=(φ id).cQ) (o:=(φ id).aL+off) (fun j x hj=>by rw[aN,bQ]at hj;obtain⟨d,hd,rfl⟩:=aH.1 hj;obtain⟨u,hu,hr⟩:=hrr _ _ hd;exact⟨u,by rw[hb,<-hu];simp,.d hr⟩) hv
      grind [Instr.loadAt,Instr.sureAddr]
   .simp at h
  .simp at h
 .simp at h
theorem BB{w:World}{b:Nat}{old aG:Array Value}(h:pn w b old)(a:Addr):(w.setRow b aG).frozen? a=w.frozen? a:=by
 obtain⟨t,h⟩:=h;unfold World.frozen?;by_cases e:a.block=b
 .rw [e,setRow_heap w b old aG t _ h,h]
 .rw [setRow_other w b _ _ e]
theorem Ah{w:World}{b:Nat}{old aG:Array Value}(h:pn w b old):pn (w.setRow b aG) b aG:=by obtain⟨t,h⟩:=h;exact⟨t,setRow_heap w b old aG t _ h⟩
theorem sM(v:Value):v.oneCell'=one v:=by cases v<;>rfl
theorem fz.cells{S:Nat->Prop}{w:World}{Kn:Nat->Prop}{φ:Nat->gj}{v:TV}{val:Value}{cs:List C}(h:fz S w Kn φ v val)(hc:cellsOf v=some cs):
  cs.length=val.cells.size/\(∀(i:Nat)(x:C),cs[i]?=some x->RC S w Kn φ x (val.cells.getD i undef))/\∀x∈val.cells.toList,one x=true:=by
 cases h with
 |@c x v h=>
  obtain rfl:[x]=cs:=by simpa[cellsOf]using hc
  have e:=sZ h.one;refine⟨by rw[e];rfl,fun i y hi=>?_,fun y hy=>?_⟩
  .cases i with|zero=>simp_all|succ i=>simp at hi
  .rw [e]at hy;obtain rfl:y=val:=by simpa using hy
   exact h.one
 |@agg cs' aG hlen h=>
  obtain rfl:cs'=cs:=by simpa[cellsOf]using hc
  refine⟨hlen,h,fun y hy=>?_⟩;obtain⟨i,hi,rfl⟩:=b_ hy;have hi':i<aG.size:=by simpa
  have:=(h i (cs'[i]'(by omega)) (by simp)).one;simpa[hi',Value.cells]using this
 |gX hlen h=>simp[cellsOf]at hc
theorem PA{t:TypeId}{n:Nat}(hn:fw P t=some n){b o:Nat}{aG:Array Value}{val:Value}(ho:pn w b aG)(hlen:val.cells.size=n)(hfit:o+n<=aG.size)
  (hone:∀x∈val.cells.toList,one x=true):
  (storeVar t ⟨b,o,none⟩ val).run P w=.ok () (w.setRow b (aG.toList.take o++val.cells.toList++aG.toList.drop (o+n)).toArray):=by
 obtain⟨ty,hb⟩:=ho;have:=run_storeCells_at P b o ty val.cells.toList 0 aG w hb (by simp;omega) (fun v hv=>by exact hone v hv);simp_all[storeVar,gG]
theorem jG{α:Type}(l:List α)(off:Nat)(p:List α)(hfit:off+p.length<=l.length)(i:Nat):
  (aT l off p)[i]?=if i<off then l[i]?else if i<off+p.length then p[i-off]?else l[i]?:=by
 unfold aT;by_cases h1:i<off
 .grind [List.append_assoc,bG]
 .by_cases h2:i<off+p.length
  .rw [bG (by simp;omega),ck (by simp;omega)];simp only[cD,h1,h2,if_true,if_false];congr 1;omega
  .rw [ck (by simp;omega)];simp only[List.length_append,cD,bQ,h1,h2,if_false];congr 1;omega
theorem eL{α:Type}(l:List α)(off:Nat)(p:List α)(hfit:off+p.length<=l.length):(aT l off p).length=l.length:=by unfold aT;simp;omega
theorem Sp{aG:Array Value}{vs:List Value}{o n:Nat}(hn:vs.length=n):aG.toList.take o++vs++aG.toList.drop (o+n)=aT aG.toList o vs:=by rw[<-hn];rfl
end
section
variable{S K:Nat->Prop}{w0 w:World}{Kn:Nat->Prop}{φ:Nat->gj}{hf:Nat->Option Ob}
theorem RD.BW{sz:Nat}{rows:List (List D)}{b off len cap:Nat}(hb:S b)(hsz:0<sz)(hlen:rows.length=len)(hcap:len<=cap)
  (h:cI S w sz (fun i=>w.cell? ⟨b,i,none⟩) off rows):RD S w (.sl sz rows) (.slice (some ⟨b,off,none⟩) len cap):=by
 subst hlen;refine .sl (fun i j=>(w.cell? ⟨b,off+i*sz+j,none⟩).getD undef) hb hsz hcap h.1 (fun i r hi j x hj=>?_) (fun i r hi j x hj=>?_)
 .obtain ⟨v,hv,_⟩:=h.2 i r hi j x hj;simp at hv;rw[hv];rfl
 .obtain ⟨v,hv,hr⟩:=h.2 i r hi j x hj;simp at hv;rw[hv];exact hr
theorem RD.Ac{cells:List D}{b off:Nat}(hb:S b)(h:∀(j:Nat)(x:D),cells[j]?=some x->∃v,w.cell? ⟨b,off+j,none⟩=some v/\RD S w x v):
  RD S w (.pt cells) (.pointer (some ⟨b,off,none⟩)):=by
 refine .pt (fun j=>(w.cell? ⟨b,off+j,none⟩).getD undef) hb (fun j x hj=>?_) (fun j x hj=>?_)
 .grind
 grind
def tD(w:World)(l:gj):List k8->Nat->List Nat
 |[],_=>[]
 |.bk _::r,k=>(match(w.cell? ⟨l.cQ,l.aL+k,none⟩).bind A5 with|some b=>b::tD w l r (k+1)|none=>tD w l r (k+1))
 |_::r,k=>tD w l r (k+1)
def ij(w:World)(φ:Nat->gj)(hf:Nat->Option Ob)(i:Nat):List Nat:=(φ i).cQ::(match hf i with|some (.nst _ sl)=>tD w (φ i) sl 0|_=>[])
theorem EQ{l:gj}{x:Nat}:∀{sl:List k8}{k0:Nat},x∈tD w l sl k0<->∃k rows v,sl[k]?=some (.bk rows)/\w.cell? ⟨l.cQ,l.aL+(k0+k),none⟩=some v/\A5 v=some x:=by
 intro sl;induction sl with
 |nil=>intro k0;simp[tD]
 |cons s sl ih=>
  intro k0;have tl:(∃k rows v,sl[k]?=some (.bk rows)/\w.cell? ⟨l.cQ,l.aL+(k0+1+k),none⟩=some v/\A5 v=some x)->∃k rows v,(s::sl)[k]?=some (.bk rows)/\w.cell? ⟨l.cQ,l.aL+(k0+k),none⟩=some v/\A5 v=some x:=by rintro⟨k,rows,v,h1,h2,h3⟩;exact⟨k+1,rows,v,by simpa using h1,by rw[<-h2,show k0+(k+1)=k0+1+k by omega],h3⟩
  have key:(∀rows,s≠.bk rows)->((∃k rows v,(s::sl)[k]?=some (.bk rows)/\w.cell? ⟨l.cQ,l.aL+(k0+k),none⟩=some v/\A5 v=some x)->∃k rows v,sl[k]?=some (.bk rows)/\w.cell? ⟨l.cQ,l.aL+(k0+1+k),none⟩=some v/\A5 v=some x):=by
   grind
  cases s with
  |nil=>exact ih.trans ⟨tl,key fun _ e=>by cases e⟩
  |dQ id len=>exact ih.trans ⟨tl,key fun _ e=>by cases e⟩
  |bk rows0=>
   simp only[tD];constructor
   .intro hx;split at hx
    .rename_i b hb;rcases aW.1 hx with rfl|hx
     .obtain ⟨v,h1,h2⟩:=fZ.1 hb;exact⟨0,rows0,v,rfl,h1,h2⟩
     .exact tl (ih.1 hx)
    .exact tl (ih.1 hx)
   grind
theorem IW{l:gj}{x:Nat}{sl:List k8}:x∈tD w l sl 0<->∃k,tw w l sl k x:=by rw[EQ];simp only[bS];exact Iff.rfl
theorem Hf{l:gj}:∀{sl:List k8}{k0:Nat},(∀k k' x rows rows' v v',sl[k]?=some (.bk rows)->w.cell? ⟨l.cQ,l.aL+(k0+k),none⟩=some v->A5 v=some x->sl[k']?=some (.bk rows')->w.cell? ⟨l.cQ,l.aL+(k0+k'),none⟩=some v'->A5 v'=some x->k=k')->(tD w l sl k0).Nodup:=by
 intro sl;induction sl with
 |nil=>intro k0 _;exact lQ
 |cons s sl ih=>
  intro k0 h;have h':=ih fun k k' x rows rows' v v' h1 h2 h3 h4 h5 h6=>by have:=h (k+1) (k'+1) x rows rows' v v' (by simpa using h1) (by rw[<-h2,show k0+(k+1)=k0+1+k by omega]) h3 (by simpa using h4) (by rw[<-h5,show k0+(k'+1)=k0+1+k' by omega]) h6;omega
  cases s with
  |nil=>exact h'
  |dQ id len=>exact h'
  |bk rows0=>
   simp[tD];split
   .rename_i b hb;refine il.2 ⟨fun hm=>?_,h'⟩;obtain⟨v0,h1,h2⟩:=fZ.1 hb;obtain⟨k,rows,v,h3,h4,h5⟩:=EQ.1 hm;have:=h 0 (k+1) b rows0 rows v0 v rfl h1 h2 (by simpa using h3) (by rw[<-h4,show k0+(k+1)=k0+1+k by omega]) h5;omega
   .exact h'
theorem dF{i x:Nat}:x∈ij w φ hf i<->x=(φ i).cQ\/∃sz sl k,hf i=some (.nst sz sl)/\tw w (φ i) sl k x:=by
 unfold ij
 grind [IW]
theorem nU(hI:Inv S K w0 Kn φ hf w){i:Nat}{o:Ob}(ho:hf i=some o)(hown:cA o=true){x:Nat}(hx:x∈ij w φ hf i):¬S x/\¬K x/\x<w.heap.size:=by
 rcases dF.1 hx with rfl|⟨sz,sl,k,h1,h2⟩
 .exact (hI.iI i o ho).2.bk hown
 .obtain ⟨a,b,c,_⟩:=hI.Kp h1 h2;exact⟨a,b,c⟩
theorem oH(hI:Inv S K w0 Kn φ hf w){i j:Nat}{a b:Ob}(hi:hf i=some a)(hj:hf j=some b)(ha:cA a=true)(hb:cA b=true)(hne:i≠j){x:Nat}(hx:x∈ij w φ hf i):x∉ij w φ hf j:=by
 intro hy;rcases dF.1 hx with rfl|⟨sz,sl,k,h1,h2⟩<;>rcases dF.1 hy with e|⟨sz',sl',k',h3,h4⟩
 .exact hI.ph i j a b hi hj ha hb hne e
 .exact (hI.yB j sz' sl' k' _ h3 h4).1 i a hi ha rfl
 .subst e;exact(hI.yB i sz sl k _ h1 h2).1 j b hj hb rfl
 .exact hne (((hI.yB i sz sl k x h1 h2).2 j sz' sl' k' h3 h4).1).symm
theorem Im(hI:Inv S K w0 Kn φ hf w){i:Nat}{o:Ob}(ho:hf i=some o)(hown:cA o=true):(ij w φ hf i).Nodup:=by
 refine il.2 ⟨fun hm=>?_,?_⟩
 .split at hm
  .rename_i sz sl h;obtain⟨k,hk⟩:=IW.1 hm;exact(hI.yB i sz sl k _ h hk).1 i o ho hown rfl
  .simp at hm
 .split
  .rename_i sz sl h;refine Hf fun k k' x rows rows' v v' h1 h2 h3 h4 h5 h6=>?_;rw[bS]at h2 h5;exact(((hI.yB i sz sl k x h ⟨rows,v,h1,h2,h3⟩).2 i sz sl k' h ⟨rows',v',h4,h5,h6⟩).2).symm
  .exact lQ
theorem kW(i:Nat):(φ i).cQ∈ij w φ hf i:=dF.2 (.inl rfl)
def SB(S:Nat->Prop)(w:World)(φ:Nat->gj)(hf:Nat->Option Ob)(av:List Nat)(b:Nat):Prop:=S b\/∃i∈av,b∈ij w φ hf i
theorem SB.BQ(a b:List Nat)(h:∀i∈a,i∈b):gy (SB S w φ hf a) w (SB S w φ hf b) w:=⟨fun _ hb=>hb.imp id fun⟨i,hi,e⟩=>⟨i,h i hi,e⟩,fun _ _=>rfl⟩
theorem SB.tR(b:List Nat):gy S w (SB S w φ hf b) w:=⟨fun _ hb=>.inl hb,fun _ _=>rfl⟩
theorem JK.rd{sz b:Nat}{rows:List (List D)}{v:Value}(h:JK S w sz rows v b){T:Nat->Prop}(hT:gy S w T w)(hb:T b):RD T w (.sl sz rows) v:=by obtain⟨addr,cap,aG,rfl,h2,h3,h4,_,h6⟩:=h;exact .BW hb h2 rfl h4 ⟨h6.1,fun i r hi j x hj=>let⟨v,hv,hr⟩:=h6.2 i r hi j x hj;⟨v,(h3.cell _).trans hv,hr.mono hT⟩⟩
theorem Fb{l:gj}{szi:Nat}{slots:List k8}(h:RO S K w Kn φ l (.nst szi slots)){rows:List (List D)}(hd:rl szi slots=some rows){T:Nat->Prop}(hT:gy S w T w)(hp:∀k x,tw w l slots k x->T x):
  rows.length=slots.length/\cI T w 1 (fun i=>w.cell? ⟨l.cQ,i,none⟩) l.aL rows:=by
 have key:∀(slots:List k8)(rows:List (List D)),rl szi slots=some rows->rows.length=slots.length/\∀(i:Nat)(r:List D),rows[i]?=some r->∃s x,slots[i]?=some s/\Mg szi s=some x/\r=[x]:=by
  intro slots;induction slots with
  |nil=>intro rows h;obtain rfl:=aa h;simp_all
  |cons s slots ih=>
   intro rows h;simp only[rl]at h
   grind
 obtain⟨k1,k2⟩:=key slots rows hd;cases h with
 |nst hsz hl hS hK ho hext hfit hr hv=>
  refine⟨k1,fun i r hi=>by grind,fun i r hi j x hj=>?_⟩;obtain⟨s,y,e1,e2,rfl⟩:=k2 i r hi;cases j with
  |succ j=>simp at hj
  |zero=>
   obtain rfl:y=x:=by simpa using hj
   obtain⟨v,h1,h2⟩:=hr i s e1;refine⟨v,by rw[kh];exact(ho.cell _).trans h1,?_⟩;cases h2 with|nil=>obtain rfl:=aa e2;exact .lit rfl|@bk rows' _ b h3 _ _=>obtain rfl:=aa e2;exact h3.rd hT (hp i b ⟨rows',v,e1,(ho.cell _).trans h1,h3.cQ⟩)|dQ _=>simp[Mg]at e2
theorem ow{id sz:Nat}{rows:List (List D)}(hI:Inv S K w0 Kn φ hf w)(ho:hf id=some (.aG sz rows)\/hf id=some (.qu sz rows)):
  0<sz/\(φ id).sz=sz/\cI S w sz (fun i=>w.cell? ⟨(φ id).cQ,i,none⟩) (φ id).aL rows:=by
 rcases ho with ho|ho
 .obtain ⟨_,h0⟩:=hI.iI _ _ ho;cases h0 with|aG hsz hl hS hK hown hext hfit hrr=>exact⟨hsz,hl,hrr.1,fun i r hi j x hj=>let⟨v,hv,hr⟩:=hrr.2 i r hi j x hj;⟨v,(hown.cell _).trans hv,hr⟩⟩
 .obtain ⟨_,h0⟩:=hI.iI _ _ ho;cases h0 with|qu hsz hl hS hrr=>exact⟨hsz,hl,hrr⟩
theorem cI.sub{sz aL:Nat}{get:Nat->Option Value}{rows:List (List D)}(h:cI S w sz get aL rows)(off len:Nat):
  cI S w sz get (aL+off*sz) ((rows.drop off).take len):=by
 have key:∀i(r:List D),((rows.drop off).take len)[i]?=some r->rows[off+i]?=some r:=by
  grind
 refine⟨fun i r hi=>h.1 _ _ (key i r hi),fun i r hi j x hj=>?_⟩;obtain⟨v,hv,hr⟩:=h.2 _ _ (key i r hi) j x hj
 grind
theorem cI.yR{sz aL addr:Nat}{get:Nat->Option Value}{rows:List (List D)}(h:cI S w sz get aL rows)(off len:Nat)(ha:0<len->addr=aL+off*sz):
  cI S w sz get addr ((rows.drop off).take len):=by
 cases len with|zero=>exact⟨fun i r hi=>by simp at hi,fun i r hi=>by simp at hi⟩|succ n=>rw[ha (Nat.succ_pos _)];exact h.sub off _
theorem Ea{sz id off len:Nat}{rows:List (List D)}{v:Value}{szo:Nat}(hI:Inv S K w0 Kn φ hf w)(hc:RC S w Kn φ (.fx sz id off len) v)
  (ho:hf id=some (.aG szo rows)\/hf id=some (.qu szo rows)) (hle:off+len<=rows.length) {T:Nat->Prop} (hT:gy S w T w) (hb:T (φ id).cQ):
  RD T w (.sl sz ((rows.drop off).take len)) v:=by
 obtain⟨hsz,hl,hr⟩:=ow hI ho;subst hl;cases hc with|fx hk hcap haddr hext=>exact .BW hb hsz (by simp;omega) hcap ((hr.yR off len fun h=>haddr (by omega)).mono hT)
theorem Ph{id bv off sz:Nat}{rows:List (List D)}{r:List D}{v:Value}(hI:Inv S K w0 Kn φ hf w)(hc:RC S w Kn φ (.ep id bv off) v)
  (ho:hf id=some (.aG sz rows)\/hf id=some (.qu sz rows)) (hr:rows[bv]?=some r) {T:Nat->Prop} (hT:gy S w T w) (hb:T (φ id).cQ):
  RD T w (.pt (r.drop off)) v:=by
 obtain⟨hsz,hl,hrr⟩:=ow hI ho;cases hc with
 |ep hk=>
  refine .Ac hb fun j x hj=>?_;rw[bQ]at hj;obtain⟨u,hu,hd⟩:=hrr.2 bv r hr _ x hj;refine⟨u,?_,hd.mono hT⟩
  grind
theorem BM{H:bp}(hI:Inv S K w0 Kn φ (au H) w)(n:Nat)(c:C)(x:D)(av:List Nat)(v:Value)(hleaf:match c with|.op _ _|.pJ _ _=>False|_=>True)
  (h:dW H n c=some (x,av)) (hc:RC S w Kn φ c v):RD (SB S w φ (au H) av) w x v:=by
 cases c with
 |d y=>simp only[dW,Prod.mk.injEq]at h;obtain⟨rfl,rfl⟩:=h;cases hc with|d hd=>exact hd.mono (SB.tR _)
 |fx sz id off len=>
  simp only[dW]at h
  have key:∀szo rows,(au H id=some (.aG szo rows)\/au H id=some (.qu szo rows))->(if off+len<=rows.length then some (D.sl sz ((rows.drop off).take len),[id])else none)=some (x,av)->RD (SB S w φ (au H) av) w x v:=by
   intro szo rows ho h;split at h
   .rename_i hle;obtain⟨rfl,rfl⟩:=af (aa h);exact Ea hI hc ho hle (SB.tR _) (.inr ⟨_,by simp,kW _⟩)
   .simp at h
  split at h
  .exact key _ _ (.inl (by assumption)) h
  .exact key _ _ (.inr (by assumption)) h
  .rename_i szi slots ho;split at h
   .rename_i he;obtain⟨rfl,rfl⟩:=he;split at h
    .rename_i rows hd;obtain⟨rfl,rfl⟩:=af (aa h);obtain⟨_,hro⟩:=hI.iI _ _ ho;obtain⟨h1,h2⟩:=Fb hro hd (SB.tR (hf:=au H) (φ:=φ) [id]) fun k x hp=>.inr ⟨id,by simp,dF.2 (.inr ⟨szi,slots,k,ho,hp⟩)⟩;cases hro with
     |nst hsz hl=>
      cases hc with
      |fx hk hcap haddr hext=>rw[hl];refine .BW (.inr ⟨id,by simp,kW id⟩) Nat.one_pos h1 hcap ?_;cases hs:slots with|nil=>have:rows=[]:=List.length_eq_zero_iff.1 (by rw[h1,hs];rfl);rw[this];exact⟨fun i r hi=>by simp at hi,fun i r hi=>by simp at hi⟩|cons s r=>grind
    .simp at h
   .simp at h
  .simp at h
 |ep id bv off=>
  simp only[dW]at h
  have key:∀szo rows,(au H id=some (.aG szo rows)\/au H id=some (.qu szo rows))->
    (match rows[bv]?with|some r=>if off<=r.length then some (D.pt (r.drop off),[id])else none|none=>none)=some (x,av)->RD (SB S w φ (au H) av) w x v:=by
   intro szo rows ho h;split at h
   .rename_i r hr;split at h
    .obtain ⟨rfl,rfl⟩:=af (aa h);exact Ph hI hc ho hr (SB.tR _) (.inr ⟨_,by simp,kW _⟩)
    .simp at h
   .simp at h
  grind
 |op id off=>exact hleaf.elim
 |pJ f caps=>exact hleaf.elim
 |om id=>cases n<;>simp[dW]at h
theorem vB{H:bp}(hI:Inv S K w0 Kn φ (au H) w):∀n,
  (∀c x av v,dW H n c=some (x,av)->RC S w Kn φ c v->RD (SB S w φ (au H) av) w x v)/\
  (∀cs xs av,gf H n cs=some (xs,av)->∀(get:Nat->Option Value),(∀(i:Nat)(c:C),cs[i]?=some c->∃v,get i=some v/\RC S w Kn φ c v)->
   xs.length=cs.length/\∀(i:Nat)(x:D),xs[i]?=some x->∃v,get i=some v/\RD (SB S w φ (au H) av) w x v):=by
 intro n;induction n with
 |zero=>
  refine⟨fun c x av v h hc=>?_,fun cs xs av h get hg=>?_⟩
  .cases c with|op id off=>simp[dW]at h|pJ f caps=>simp[dW]at h|_=>exact BM hI 0 _ x av v trivial h hc
  .cases cs with
   |nil=>
    obtain⟨rfl,rfl⟩:[]=xs/\[]=av:=by simpa[gf]using h
    simp_all
   |cons c cs=>simp[gf]at h
 |succ n ih=>
  obtain⟨ihc,ihl⟩:=ih;refine⟨fun c x av v h hc=>?_,fun cs xs av h get hg=>?_⟩
  .cases c with
   |op id off=>
    simp only[dW]at h;split at h
    .rename_i cells ho;split at h
     .obtain ⟨rfl,rfl⟩:=af (aa h);obtain⟨_,h0⟩:=hI.iI _ _ ho;cases h0 with
      |o7 hb hS hr=>cases hc with|op hk=>refine .Ac (.inl hS) fun j x hj=>?_;rw[bQ]at hj;obtain⟨u,hu,hd⟩:=hr _ _ hj;exact⟨u,by rw[<-hu,hb,bS],hd.mono (SB.tR _)⟩
     .simp at h
    .rename_i cells ho;split at h
     .rename_i ds ids' hv;split at h
      .obtain ⟨rfl,rfl⟩:=af (aa h);obtain⟨_,h0⟩:=hI.iI _ _ ho;cases h0 with
       |@box _ aG hb hS hK hown hlen hr=>cases hc with|op hk=>obtain⟨h1,h2⟩:=ihl cells ds ids' hv (fun i=>w.cell? ⟨(φ id).cQ,i,none⟩) (fun i c hi=>by have hlt:=(aB.1 hi).1;rw[hlen]at hlt;exact⟨aG.getD i undef,by rw[hown.cell];simp[Array.getD,hlt],hr i c hi⟩);refine .Ac (.inr ⟨id,by simp,kW _⟩) fun j x hj=>?_;rw[bQ]at hj;obtain⟨u,hu,hd⟩:=h2 _ _ hj;exact⟨u,by rw[<-hu,hb,bS],hd.mono (SB.BQ _ _ fun i hi=>by simp[hi])⟩
      .simp at h
     .simp at h
    .simp at h
   |pJ f caps=>
    simp only[dW]at h;split at h
    .rename_i ds ids' hv;obtain⟨rfl,rfl⟩:=af (aa h);cases hc with|@pJ _ _ vs hlen hr=>obtain⟨h1,h2⟩:=ihl caps ds ids' hv (fun i=>vs[i]?) (fun i c hi=>by have hlt:=(aB.1 hi).1;rw[hlen]at hlt;exact⟨vs.getD i undef,by simp[Array.getD,hlt],hr i c hi⟩);refine .fn (h1.trans hlen) fun j x hj=>?_;obtain⟨u,hu,hd⟩:=h2 j x hj;simp_all
    .simp at h
   |_=>exact BM hI (n+1) _ x av v trivial h hc
  .cases cs with
   |nil=>
    obtain⟨rfl,rfl⟩:[]=xs/\[]=av:=by simpa[gf]using h
    simp_all
   |cons c cs=>
    simp only[gf]at h;split at h
    .rename_i x0 a xs0 b hx hxs;obtain⟨rfl,rfl⟩:=af (aa h);obtain⟨v0,hv0,hc0⟩:=hg 0 c rfl;have h0:=ihc c x0 a v0 hx hc0;obtain⟨h1,h2⟩:=ihl cs xs0 b hxs _ (fun i c hi=>hg (i+1) c (by simpa using hi));refine⟨by simp[h1],fun i x hi=>?_⟩;cases i with
     |zero=>
      obtain rfl:x0=x:=by simpa using hi
      exact⟨v0,hv0,h0.mono (SB.BQ _ _ fun i hi=>by simp[hi])⟩
     |succ i=>obtain⟨u,hu,hd⟩:=h2 i x (by simpa using hi);exact⟨u,hu,hd.mono (SB.BQ _ _ fun i hi=>by simp[hi])⟩
    .simp at h
theorem pC{H:bp}(hI:Inv S K w0 Kn φ (au H) w):∀cs xs av,dn H cs=some (xs,av)->∀(get:Nat->Option Value),(∀(i:Nat)(c:C),cs[i]?=some c->∃v,get i=some v/\RC S w Kn φ c v)->
   xs.length=cs.length/\∀(i:Nat)(x:D),xs[i]?=some x->∃v,get i=some v/\RD (SB S w φ (au H) av) w x v:=by
 intro cs;induction cs with
 |nil=>
  intro xs av h get hg;obtain⟨rfl,rfl⟩:[]=xs/\[]=av:=by simpa[dn]using h
  simp_all
 |cons c cs ih=>
  intro xs av h get hg;simp[dn]at h;split at h
  .rename_i x0 a xs0 b hx hxs;obtain⟨rfl,rfl⟩:=af (aa h);obtain⟨v0,hv0,hc0⟩:=hg 0 c rfl;have h0:=(vB hI 300).1 c x0 a v0 hx hc0;obtain⟨h1,h2⟩:=ih xs0 b hxs _ (fun i c hi=>hg (i+1) c (by simpa using hi));refine⟨by simp[h1],fun i x hi=>?_⟩;cases i with
   |zero=>
    obtain rfl:x0=x:=by simpa using hi
    exact⟨v0,hv0,h0.mono (SB.BQ _ _ fun i hi=>by simp[hi])⟩
   |succ i=>obtain⟨u,hu,hd⟩:=h2 i x (by simpa using hi);exact⟨u,hu,hd.mono (SB.BQ _ _ fun i hi=>by simp[hi])⟩
  .simp at h
theorem ku{H:bp}{all:List Nat}:∀(l:List Nat)(u:eW),c8 H all l=some u->
  ∀id,(id∈l->∃o,jU H all id=some o/\bV u id=some (some o))/\(id∉l->bV u id=none):=by
 intro l;induction l with
 |nil=>
  intro u h id;obtain rfl:[]=u:=by simpa[c8]using h
  exact⟨fun h=>by simp at h,fun _=>rfl⟩
 |cons a l ih=>
  intro u h id;simp[c8]at h;split at h
  .obtain rfl:=aa h;by_cases e:a=id
   .grind [bV,absurd,List.mem_cons_self]
   .have e':(a==id)=false:=by simpa using e
    refine⟨fun hm=>?_,fun hn=>?_⟩
    .grind [bV]
    .simp [bV,e'];simp_all
  .simp at h
theorem Cm{H:bp}{all:List Nat}{id:Nat}{o:Ob}(hI:Inv S K w0 Kn φ (au H) w)(hmem:id∈all)(h:jU H all id=some o):
  cA o=false/\(∃o0,au H id=some o0)/\RO (SB S w φ (au H) all) K w Kn φ (φ id) o:=by
 unfold jU at h;have hb:SB S w φ (au H) all (φ id).cQ:=.inr ⟨id,hmem,kW _⟩;split at h
 .rename_i sz rows ho;obtain rfl:=aa h;obtain⟨hsz,hl,hr⟩:=ow hI (.inl ho);exact⟨rfl,⟨_,ho⟩,.qu hsz hl hb (hr.mono (SB.tR _))⟩
 .rename_i sz rows ho;obtain rfl:=aa h;obtain⟨hsz,hl,hr⟩:=ow hI (.inr ho);exact⟨rfl,⟨_,ho⟩,.qu hsz hl hb (hr.mono (SB.tR _))⟩
 .rename_i cells ho;obtain rfl:=aa h;obtain⟨_,h0⟩:=hI.iI _ _ ho;cases h0 with|o7 hbase hS hr=>exact⟨rfl,⟨_,ho⟩,.o7 hbase hb fun i x hi=>let⟨v,hv,hd⟩:=hr i x hi;⟨v,hv,hd.mono (SB.tR _)⟩⟩
 .rename_i cells ho;split at h
  .rename_i ds av hv;split at h
   .obtain rfl:=aa h;obtain⟨_,h0⟩:=hI.iI _ _ ho;cases h0 with|@box _ aG hbase hS hK hown hlen hr=>obtain⟨h1,h2⟩:=(vB hI 300).2 cells ds av hv (fun i=>w.cell? ⟨(φ id).cQ,i,none⟩) (fun i c hi=>by have hlt:=(aB.1 hi).1;rw[hlen]at hlt;exact⟨aG.getD i undef,by rw[hown.cell];simp[hlt],hr i c hi⟩);refine⟨rfl,⟨_,ho⟩,.o7 hbase hb fun i x hi=>?_⟩;obtain⟨u,hu,hd⟩:=h2 i x hi;exact⟨u,hu,hd.mono (SB.BQ _ _ fun i hi=>by simp_all)⟩
   .simp at h
  .simp at h
 .simp at h
 .simp at h
 .rename_i szi slots ho;split at h
  .rename_i rows hd;obtain rfl:=aa h;obtain⟨_,hro⟩:=hI.iI _ _ ho;obtain⟨_,h2⟩:=Fb hro hd (SB.tR all) fun k x hp=>.inr ⟨id,hmem,dF.2 (.inr ⟨szi,slots,k,ho,hp⟩)⟩;cases hro with|nst hsz hl=>exact⟨rfl,⟨_,ho⟩,.qu Nat.one_pos hl hb h2⟩
  .simp at h
 .simp at h
theorem Inv.DB{H:bp}{av:List Nat}{u:eW}(hI:Inv S K w0 Kn φ (au H) w)(h:c8 H av av=some u):
  Inv (SB S w φ (au H) av) K w0 Kn φ (bf u (au H)) w:=by
 have hfr:∀id∈av,∃o,bV u id=some (some o)/\cA o=false/\(∃o0,au H id=some o0)/\RO (SB S w φ (au H) av) K w Kn φ (φ id) o:=by
  intro id hid;obtain⟨o,ho,hfn⟩:=((ku av u h id).1 hid)
  exact⟨o,hfn,Cm hI hid ho⟩
 have hold:∀id o,bf u (au H) id=some o->cA o=true->id∉av/\au H id=some o:=by
  intro id o ho hown;by_cases hm:id∈av
  .obtain ⟨o',hfn,hno,_⟩:=hfr id hm;simp only[bf,hfn]at ho;simp_all
  grind [bf,ku]
 have hnb:∀id o,au H id=some o->cA o=true->id∉av->∀x∈ij w φ (au H) id,¬SB S w φ (au H) av x:=by
  intro id o ho hown hm x hx hb;have hx1:=(nU hI ho hown hx).1;rcases hb with hb|⟨i,hi,e⟩
  .exact hx1 hb
  .obtain ⟨_,_,_,⟨o0,ho0⟩,_⟩:=hfr i hi;by_cases hoi:cA o0=true
   .grind [oH]
   .obtain ⟨_,h1⟩:=hI.iI i o0 ho0;rcases dF.1 e with rfl|⟨sz,sl,k,h2,_⟩
    .exact hx1 (by
      cases h1 with
      |qu hsz hl hS _=>exact hS
      |o7 hb hS _=>exact hS
      |_=>simp[cA]at hoi)
    .rw [ho0]at h2;obtain rfl:=aa h2;simp[cA]at hoi
 refine hI.ld (SB.tR _) (Ren.refl _ _) ?_ ?_ hI.oe ?_ ?_ ?_
 .intro b hb;rcases hb with hb|⟨i,hi,hb⟩
  .exact hI.uH b hb
  .obtain ⟨_,_,_,⟨o0,ho0⟩,_⟩:=hfr i hi;by_cases hoi:cA o0=true
   .exact (nU hI ho0 hoi hb).2.2
   .obtain ⟨_,h1⟩:=hI.iI i o0 ho0;rcases dF.1 hb with rfl|⟨sz,sl,k,h2,h3⟩
    .cases h1 with|qu hsz hl hS=>exact hI.uH _ hS|o7 hb hS=>exact hI.uH _ hS|_=>simp[cA]at hoi
    .exact (hI.Kp h2 h3).2.2.1
 .intro b hb;rcases hb with hb|⟨i,hi,hb⟩
  .exact hI.sk b hb
  .obtain ⟨_,_,_,⟨o0,ho0⟩,_⟩:=hfr i hi;by_cases hoi:cA o0=true
   .exact (nU hI ho0 hoi hb).2.1
   .obtain ⟨_,h1⟩:=hI.iI i o0 ho0;rcases dF.1 hb with rfl|⟨sz,sl,k,h2,h3⟩
    .cases h1 with|qu hsz hl hS=>exact hI.sk _ hS|o7 hb hS=>exact hI.sk _ hS|_=>simp[cA]at hoi
    .exact (hI.Kp h2 h3).2.1
 .intro id o ho;by_cases hm:id∈av
  .obtain ⟨o',hfn,hno,⟨o0,ho0⟩,hro⟩:=hfr id hm;simp only[bf,hfn]at ho;obtain rfl:=aa ho;exact .inr ⟨(hI.iI id o0 ho0).1,hro⟩
  .have ho':=by simpa only[bf,(ku av u h id).2 hm]using ho
   exact .inl ⟨ho',fun hown=>⟨rfl,hnb id o ho' hown hm _ (kW _)⟩⟩
 .intro i j a b ha hb hoa hob hne;exact hI.ph i j a b (hold i a ha hoa).2 (hold j b hb hob).2 hoa hob hne
 .intro id sz sl hi;obtain⟨h1,h2⟩:=hold id _ hi rfl;refine⟨h2,rfl,fun k x hp=>⟨rfl,hnb id _ h2 rfl h1 x (dF.2 (.inr ⟨sz,sl,k,h2,hp⟩)),fun j b hj hb=>?_⟩⟩;exact(hI.yB id sz sl k x h2 hp).1 j b (hold j b hj hb).2 hb
end
def DU(S:Nat->Prop)(w:World)(sz:Nat):Option (List (List D))->Value->List Nat->Prop
 |none,v,fp=>v=.slice none 0 0/\fp=[]
 |some rows,v,fp=>∃b,fp=[b]/\JK S w sz rows v b
inductive RT(S:Nat->Prop)(w:World):T->Value->List Nat->Prop
 |d {x:D} {v:Value} (h:RD S w x v):RT S w (.d x) v []
 |sl {sz:Nat} {rows:List (List D)} {b off len cap:Nat} {aG:Array Value} (hsz:0<sz) (ho:pn w b aG) (hlen:rows.length=len) (hcap:len<=cap)
   (hext:off+cap*sz<=aG.size) (hr:cI S w sz (fun i=>aG[i]?) off rows):RT S w (.sl sz rows) (.slice (some ⟨b,off,none⟩) len cap) [b]
 |pt {ts:List T} {b:Nat} {aG:Array Value} {fps:List (List Nat)} (ho:pn w b aG) (hlen:ts.length=aG.size) (hfl:fps.length=ts.length)
   (h:∀(i:Nat)(t:T)(fp:List Nat),ts[i]?=some t->fps[i]?=some fp->RT S w t (aG.getD i undef) fp):
   RT S w (.pt ts) (.pointer (some ⟨b,0,none⟩)) (b::fps.flatten)
 |Bh {sz:Nat} {rows:List (Option (List (List D)))} {b off cap:Nat} {aG:Array Value} {fps:List (List Nat)} (hsz:0<sz) (ho:pn w b aG) (hcap:rows.length<=cap) (hext:off+cap<=aG.size) (hfl:fps.length=rows.length)
   (h:∀(i:Nat)(r:Option (List (List D)))(fp:List Nat),rows[i]?=some r->fps[i]?=some fp->∃v,aG[off+i]?=some v/\DU S w sz r v fp):
   RT S w (.Bh sz rows) (.slice (some ⟨b,off,none⟩) rows.length cap) (b::fps.flatten)
 |mp {ka va:Bool} {es:List (List Value×List D×Nat)} {bE b:Nat} {ms:Array MapEntry} (ho:w.heap[b]?=some (.map ms bE)) (hlen:es.length=ms.size)
   (hr:∀(i:Nat)(e:List Value×List D×Nat)(m:MapEntry),es[i]?=some e->ms[i]?=some m->DV ka e.1 m.key/\tG S w va e.2.1 m.val/\m.born=e.2.2):RT S w (.mp ka va es bE) (.map (some b)) [b]
theorem DU.mono{S S':Nat->Prop}{w w':World}(hs:gy S w S' w'){sz:Nat}{r:Option (List (List D))}{v:Value}{fp:List Nat}(h:DU S w sz r v fp)(hb:∀b∈fp,w'.heap[b]?=w.heap[b]?):DU S' w' sz r v fp:=by cases r with|none=>exact h|some rows=>obtain⟨b,rfl,h⟩:=h;exact⟨b,rfl,h.mono hs (hb b (by simp))⟩
theorem DU.lt{S:Nat->Prop}{w:World}{sz:Nat}{r:Option (List (List D))}{v:Value}{fp:List Nat}(h:DU S w sz r v fp):∀b∈fp,b<w.heap.size:=by cases r with|none=>obtain⟨_,rfl⟩:=h;intro b hb;simp at hb|some rows=>obtain⟨b,rfl,h⟩:=h;intro b' hb;obtain rfl:=aq.1 hb;obtain⟨aG,h⟩:=h.bk;exact h.lt
theorem RT.mono{S S':Nat->Prop}{w w':World}(hs:gy S w S' w'){t:T}{v:Value}{fp:List Nat}(h:RT S w t v fp)(hb:∀b∈fp,w'.heap[b]?=w.heap[b]?):RT S' w' t v fp:=by
 induction h with
 |d h=>exact .d (h.mono hs)
 |sl hsz ho hlen hcap hext hr=>exact .sl hsz (ho.nL (hb _ (by simp))) hlen hcap hext (hr.mono hs)
 |pt ho hlen hfl h ih=>
  refine .pt (ho.nL (hb _ (by simp))) hlen hfl fun i t fp hi hf=>ih i t fp hi hf fun b hbm=>hb b ?_
  grind [aI,dP,aF]
 |Bh hsz ho hcap hext hfl h=>refine .Bh hsz (ho.nL (hb _ (by simp))) hcap hext hfl fun i r fp hi hf=>?_;obtain⟨v,h1,h2⟩:=h i r fp hi hf;exact⟨v,h1,h2.mono hs fun b hbm=>hb b (aI _ (dP.2 ⟨fp,aF hf,hbm⟩))⟩
 |mp ho hlen hr=>exact .mp ((hb _ (by simp)).trans ho) hlen fun i e m hi hm=>let⟨h1,h2,h3⟩:=hr i e m hi hm;⟨h1,h2.mono hs,h3⟩
theorem RT.lt{S:Nat->Prop}{w:World}{t:T}{v:Value}{fp:List Nat}(h:RT S w t v fp):∀b∈fp,b<w.heap.size:=by
 induction h with
 |d h=>intro b hb;simp at hb
 |sl hsz ho=>intro b hb;obtain rfl:=aq.1 hb;exact ho.lt
 |pt ho hlen hfl h ih=>
  intro b hb;rcases aW.1 hb with rfl|hb
  .exact ho.lt
  .obtain ⟨fp,hfp,hbf⟩:=dP.1 hb;obtain⟨i,hi,rfl⟩:=b_ hfp;exact ih i _ _ (ao (by omega:i<_)) (ao hi) b hbf
 |Bh hsz ho hcap hext hfl h=>
  intro b hb;rcases aW.1 hb with rfl|hb
  .exact ho.lt
  .obtain ⟨fp,hfp,hbf⟩:=dP.1 hb;obtain⟨i,hi,rfl⟩:=b_ hfp;obtain⟨v,_,h2⟩:=h i _ _ (ao (by omega:i<_)) (ao hi);exact h2.lt b hbf
 |mp ho=>grind
section
variable{S K:Nat->Prop}{w0 w:World}{Kn:Nat->Prop}{φ:Nat->gj}{hf:Nat->Option Ob}
theorem nV{id:Nat}(h:∀sz sl,hf id≠some (.nst sz sl)):ij w φ hf id=[(φ id).cQ]:=by
 grind [ij,absurd]
theorem J3{l:gj}{sz:Nat}{get:Nat->Option Value}(hget:∀i,w.cell? ⟨l.cQ,i,none⟩=get i):∀(slots:List k8)(k0:Nat)(rows:List (Option (List (List D)))),(∀(i:Nat)(s:k8),slots[i]?=some s->∃v,get (l.aL+(k0+i))=some v/\Bc S K w Kn φ sz s v)->vJ slots=some rows->
  rows.length=slots.length/\∃fps:List (List Nat),fps.length=rows.length/\fps.flatten=tD w l slots k0/\∀(i:Nat)(r:Option (List (List D)))(fp:List Nat),rows[i]?=some r->fps[i]?=some fp->∃v,get (l.aL+(k0+i))=some v/\DU S w sz r v fp:=by
 intro slots;induction slots with
 |nil=>intro k0 rows _ h;obtain rfl:=aa h;exact⟨rfl,[],rfl,rfl,fun i r fp hi=>by simp at hi⟩
 |cons s slots ih=>
  intro k0 rows hr h;simp[vJ]at h;split at h
  .rename_i x rs hx hrs;obtain rfl:=aa h
   obtain⟨h1,fps,h2,h3,h4⟩:=ih (k0+1) rs (fun i s hi=>by
    obtain⟨v,e1,e2⟩:=hr (i+1) s (by simpa using hi)
    grind) hrs
   obtain⟨v,e1,e2⟩:=hr 0 s rfl
   have qU:∀fp0,DU S w sz x v fp0->fp0++tD w l slots (k0+1)=tD w l (s::slots) k0->(x::rs).length=(s::slots).length/\∃fps:List _,fps.length=(x::rs).length/\fps.flatten=tD w l (s::slots) k0/\∀(i:Nat)(r:Option _)(fp:List Nat),(x::rs)[i]?=some r->fps[i]?=some fp->∃v,get (l.aL+(k0+i))=some v/\DU S w sz r v fp:=by
    intro fp0 h5 h6;refine⟨by simp[h1],fp0::fps,by simp[h2],by rw[gu,h3,h6],fun i r fp hi hf=>?_⟩;cases i with
    |zero=>
     obtain rfl:x=r:=by simpa using hi
     obtain rfl:fp0=fp:=by simpa using hf
     exact⟨v,e1,h5⟩
    |succ i=>obtain⟨v',q1,q2⟩:=h4 i r fp (by simpa using hi) (by simpa using hf);exact⟨v',by rw[<-q1,show k0+(i+1)=k0+1+i by omega],q2⟩
   cases e2 with|nil=>obtain rfl:=aa hx;exact qU [] ⟨rfl,rfl⟩ rfl|@bk rows0 _ b q1 _ _=>obtain rfl:=aa hx;refine qU [b] ⟨b,rfl,q1⟩ ?_;simp[tD];rw[show l.aL+k0=l.aL+(k0+0)from rfl,hget,e1];simp[q1.cQ]|dQ _=>simp[Rb]at hx
  .simp at h
theorem EW{H:bp}{sz id off len:Nat}{t:T}{bk rd:List Nat}{v:Value}(hI:Inv S K w0 Kn φ (au H) w)(hc:RC S w Kn φ (.fx sz id off len) v)
  (h:(match au H id with
  |some (.aG _ rows)=>if off+len<=rows.length then some (T.sl sz ((rows.drop off).take len),[id],[id])else none
  |some (.qu _ rows)=>if off+len<=rows.length then some (.d (.sl sz ((rows.drop off).take len)),[],[id])else none
  |some (.nst szi slots)=>if off=0/\len=slots.length then(match vJ slots with|some rows=>some (.Bh szi rows,[id],[id])|none=>none)else none
  |_=>none)=some (t,bk,rd)):
  RT S w t v (bk.flatMap (ij w φ (au H)))/\∀i∈bk,∃o,au H i=some o/\cA o=true:=by
 split at h
 .rename_i szo rows ho;split at h
  .rename_i hle;obtain⟨rfl,rfl,rfl⟩:T.sl sz _=t/\[id]=bk/\[id]=rd:=by simpa using h
   obtain⟨hk,h0⟩:=hI.iI _ _ ho;cases h0 with
   |aG hsz hl hS hK hown hext hfit hr=>
    subst hl;cases hc with
    |fx hk hcap haddr hx=>
     rw[bL,List.flatMap_nil,aV,nV fun _ _ e=>by rw[ho]at e;cases e];refine⟨.sl hsz hown (by simp;omega) hcap (by omega) (hr.yR off len fun h=>haddr (by omega)),fun i hi=>?_⟩
     .obtain rfl:=aq.1 hi;exact⟨_,ho,rfl⟩
  .simp at h
 .rename_i szo rows ho;split at h
  .rename_i hle;obtain⟨rfl,rfl,rfl⟩:T.d _=t/\[]=bk/\[id]=rd:=by simpa using h
   obtain⟨hk,h0⟩:=hI.iI _ _ ho;have hS:S (φ id).cQ:=by cases h0 with|qu hsz hl hS _=>exact hS
   exact⟨.d (Ea hI hc (.inr ho) hle (gy.refl _ _) hS),fun i hi=>by simp at hi⟩
  .simp at h
 .rename_i szi slots ho;split at h
  .rename_i he;obtain⟨rfl,rfl⟩:=he;split at h
   .rename_i rows hrows;obtain⟨rfl,rfl,rfl⟩:T.Bh szi rows=t/\[id]=bk/\[id]=rd:=by simpa using h
    obtain⟨hk,h0⟩:=hI.iI _ _ ho;cases h0 with
    |@nst _ _ aG hsz hl hS hK hown hext hfit hr hv=>
     obtain⟨h1,fps,h2,h3,h4⟩:=J3 hown.cell slots 0 rows (fun i s hi=>by rw[bS];exact hr i s hi) hrows;cases hc with
     |@fx _ _ _ cap addr hk hcap haddr hx hcc=>
      rw[bL,List.flatMap_nil,aV];have e:ij w φ (au H) id=(φ id).cQ::fps.flatten:=by unfold ij;rw[ho,h3]
      rw[e,<-h1];refine⟨.Bh (sz:=szi) (rows:=rows) hsz hown (by omega) (by rw[hl,kh]at hx;omega) h2 fun i r fp hi hf=>?_,fun i hi=>?_⟩
      .grind
      .obtain rfl:=aq.1 hi;exact⟨_,ho,rfl⟩
   .simp at h
  .simp at h
 .simp at h
theorem IZ{H:bp}{id:Nat}{t:T}{bk rd:List Nat}{v:Value}(hI:Inv S K w0 Kn φ (au H) w)(hc:RC S w Kn φ (.om id) v)
  (h:(match au H id with
  |some (.map ka va es bE)=>some (T.mp ka va es bE,[id],[id])
  |_=>none)=some (t,bk,rd)):
  RT S w t v (bk.flatMap (ij w φ (au H)))/\∀i∈bk,∃o,au H i=some o/\cA o=true:=by
 split at h
 .rename_i ka va es bE ho;obtain⟨rfl,rfl,rfl⟩:T.mp ka va es bE=t/\[id]=bk/\[id]=rd:=by simpa using h
  obtain⟨_,h0⟩:=hI.iI _ _ ho;cases h0 with
  |map hS hK hm hlen hr=>cases hc with|om hk=>rw[bL,nV fun _ _ e=>by rw[ho]at e;cases e];exact⟨.mp hm hlen hr,fun i hi=>by obtain rfl:=aq.1 hi;exact⟨_,ho,rfl⟩⟩
 .simp at h
theorem sL{H:bp}(hI:Inv S K w0 Kn φ (au H) w):∀n,
  (∀c t bk rd v,dE H n c=some (t,bk,rd)->RC S w Kn φ c v->RT S w t v (bk.flatMap (ij w φ (au H)))/\∀i∈bk,∃o,au H i=some o/\cA o=true)/\
  (∀cs ts bk rd,iU H n cs=some (ts,bk,rd)->∀(get:Nat->Value),(∀(i:Nat)(c:C),cs[i]?=some c->RC S w Kn φ c (get i))->
   ts.length=cs.length/\(∃fps:List (List Nat),fps.length=ts.length/\fps.flatten=bk.flatMap (ij w φ (au H))/\
    ∀(i:Nat)(t:T)(fp:List Nat),ts[i]?=some t->fps[i]?=some fp->RT S w t (get i) fp)/\∀i∈bk,∃o,au H i=some o/\cA o=true):=by
 intro n;induction n with
 |zero=>
  refine⟨fun c t bk rd v h hc=>?_,fun cs ts bk rd h get hg=>?_⟩
  .cases c with
   |d x=>
    obtain⟨rfl,rfl,rfl⟩:T.d x=t/\[]=bk/\[]=rd:=by simpa[dE]using h
    cases hc with|d hd=>exact⟨.d hd,fun i hi=>by simp at hi⟩
   |fx sz id off len=>simp only[dE]at h;exact EW hI hc h
   |om id=>simp only[dE]at h;exact IZ hI hc h
   |_=>simp[dE]at h
  .cases cs with
   |nil=>
    obtain⟨rfl,rfl,rfl⟩:[]=ts/\[]=bk/\[]=rd:=by simpa[iU]using h
    simp_all
   |cons c cs=>simp[iU]at h
 |succ n ih=>
  obtain⟨ihc,ihl⟩:=ih;refine⟨fun c t bk rd v h hc=>?_,fun cs ts bk rd h get hg=>?_⟩
  .cases c with
   |d x=>
    obtain⟨rfl,rfl,rfl⟩:T.d x=t/\[]=bk/\[]=rd:=by simpa[dE]using h
    cases hc with|d hd=>exact⟨.d hd,fun i hi=>by simp at hi⟩
   |fx sz id off len=>simp only[dE]at h;exact EW hI hc h
   |op id off=>
    cases off with
    |succ off=>simp[dE]at h
    |zero=>
     simp only[dE]at h;split at h
     .rename_i cells ho;split at h
      .rename_i ts own' rd' hp;obtain⟨rfl,rfl,rfl⟩:T.pt ts=t/\id::own'=bk/\id::rd'=rd:=by simpa using h
       obtain⟨hk,h0⟩:=hI.iI _ _ ho;cases h0 with
       |@box _ aG hb hS hK hown hlen hr=>
        obtain⟨h1,⟨fps,h2,h3,h4⟩,h5⟩:=ihl cells ts own' rd' hp _ hr;cases hc with
        |op hk=>
         rw[hb];refine⟨?_,fun i hi=>?_⟩
         .rw [bL,<-h3,nV fun _ _ e=>by rw[ho]at e;cases e];exact .pt hown (h1.trans hlen) h2 h4
         .rcases aW.1 hi with rfl|hi
          .exact ⟨_,ho,rfl⟩
          .exact h5 i hi
      .simp at h
     .rename_i cells ho;obtain⟨rfl,rfl,rfl⟩:T.d (.pt cells)=t/\[]=bk/\[id]=rd:=by simpa using h
      obtain⟨hk,h0⟩:=hI.iI _ _ ho;cases h0 with
      |o7 hb hS hr=>cases hc with|op hk=>exact⟨.d (.Ac hS fun j x hj=>by simp_all),fun i hi=>by simp at hi⟩
     .simp at h
   |ep id bv off=>simp[dE]at h
   |pJ f caps=>simp[dE]at h
   |om id=>simp only[dE]at h;exact IZ hI hc h
  .cases cs with
   |nil=>
    obtain⟨rfl,rfl,rfl⟩:[]=ts/\[]=bk/\[]=rd:=by simpa[iU]using h
    simp_all
   |cons c cs=>
    simp only[iU]at h;split at h
    .rename_i t0 a i0 ts0 b j0 hx hxs;obtain⟨rfl,rfl,rfl⟩:t0::ts0=ts/\a++b=bk/\i0++j0=rd:=by simpa using h
     obtain⟨p1,p2⟩:=ihc c t0 a i0 (get 0) hx (hg 0 c rfl);obtain⟨h1,⟨fps,h2,h3,h4⟩,h5⟩:=ihl cs ts0 b j0 hxs (fun i=>get (i+1)) (fun i c hi=>hg (i+1) c (by simpa using hi));refine⟨by simp[h1],⟨(a.flatMap (ij w φ (au H)))::fps,by simp[h2],by simp[h3],fun i t fp hi hfp=>?_⟩,fun i hi=>?_⟩
     .grind
     grind
    .simp at h
theorem yp{bk:List Nat}(hI:Inv S K w0 Kn φ hf w)(hn:bk.Nodup)(ho:∀i∈bk,∃o,hf i=some o/\cA o=true):(bk.flatMap (ij w φ hf)).Nodup:=by
 induction bk with
 |nil=>exact lQ
 |cons a l ih=>
  rw[il]at hn;obtain⟨o1,h1,h2⟩:=ho a (by simp);rw[bL,da]
  grind [Im,aI,oH]
def po(Kn:Nat->Prop)(a b:Nat)(j:Nat):Prop:=Kn j\/(a<=j/\j<b)
theorem Inv.name(h:Inv S K w0 Kn φ hf w){i:Nat}(hi:¬Kn i)(l:gj)(o:Ob)(hfree:cA o=true->∀j b,hf j=some b->cA b=true->l.cQ∉ij w φ hf j)
  (hro:RO S K w (fun j=>Kn j\/j=i) (ext φ i l) l o)
  (hp:∀sz sl k x,o=.nst sz sl->tw w l sl k x->x≠l.cQ/\(∀j b,hf j=some b->cA b=true->x∉ij w φ hf j)/\∀k',tw w l sl k' x->k'=k:=by intro _ _ _ _ e;cases e):
  Inv S K w0 (fun j=>Kn j\/j=i) (ext φ i l) (bf [(i,some o)] hf) w:=by
 have hold:∀j b,bf [(i,some o)] hf j=some b->(j=i/\b=o/\ext φ i l j=l)\/(j≠i/\hf j=some b/\ext φ i l j=φ j):=by
  intro j b hj;rw[bO]at hj;by_cases e:i=j
  .rw [if_pos e]at hj;exact .inl ⟨e.symm,(aa hj).symm,by simp[ext,e]⟩
  .rw [if_neg e]at hj;have e1:¬j=i:=fun q=>e q.symm;exact .inr ⟨e1,hj,by simp[ext,e1]⟩
 refine h.wu (gy.refl _ _) (iZ _ hi) h.uH h.sk h.oe ?_ ?_ ?_
 .intro id o' ho;rcases hold id o' ho with⟨rfl,rfl,e⟩|⟨_,ho,_⟩
  .simp_all
  .exact .inl ⟨ho,fun hown=>⟨rfl,((h.iI id o' ho).2.bk hown).1⟩,h.FH ho fun _ _=>rfl⟩
 .intro a b oa ob ha hb hoa hob hne;rcases hold a oa ha with⟨h1,h2,e1⟩|⟨_,ha',e1⟩<;>rcases hold b ob hb with⟨h3,h4,e2⟩|⟨_,hb',e2⟩
  .exact absurd (h1.trans h3.symm) hne
  .rw [e1,e2];exact fun e=>hfree (h2▸hoa) b ob hb' hob (dF.2 (.inl e))
  .rw [e1,e2];exact fun e=>hfree (h4▸hob) a oa ha' hoa (dF.2 (.inl e.symm))
  .rw [e1,e2];exact h.ph a b oa ob ha' hb' hoa hob hne
 .intro a sz sl k x ha hpa;rcases hold a _ ha with⟨ea,eo,e1⟩|⟨hne,ha',e1⟩<;>rw[e1]at hpa
  .obtain ⟨p1,p2,p3⟩:=hp sz sl k x eo.symm hpa;refine⟨fun j b hj hown=>?_,fun j sz' sl' k' hj hpj=>?_⟩
   .rcases hold j b hj with⟨_,_,e2⟩|⟨_,hj',e2⟩<;>rw[e2]
    .exact fun e=>p1 e.symm
    .exact fun e=>p2 j b hj' hown (dF.2 (.inl e.symm))
   .rcases hold j _ hj with⟨ej,eo2,e2⟩|⟨_,hj',e2⟩<;>rw[e2]at hpj
    .grind
    .exact absurd (dF.2 (.inr ⟨sz',sl',k',hj',hpj⟩)) (p2 j _ hj' rfl)
  .obtain ⟨p1,p2⟩:=h.yB a sz sl k x ha' hpa;refine⟨fun j b hj hown=>?_,fun j sz' sl' k' hj hpj=>?_⟩
   .rcases hold j b hj with⟨_,eo,e2⟩|⟨_,hj',e2⟩<;>rw[e2]
    .exact fun e=>hfree (eo▸hown) a _ ha' rfl (dF.2 (.inr ⟨sz,sl,k,ha',e▸hpa⟩))
    .exact p1 j b hj' hown
   .rcases hold j _ hj with⟨_,eo,e2⟩|⟨_,hj',e2⟩<;>rw[e2]at hpj
    .exact absurd (dF.2 (.inr ⟨sz,sl,k,ha',hpa⟩)) ((hp sz' sl' k' x eo.symm hpj).2.1 a _ ha' rfl)
    .exact p2 j sz' sl' k' hj' hpj
theorem Inv.kn{Kn':Nat->Prop}(h:Inv S K w0 Kn φ hf w)(hs:∀i,Kn i->Kn' i):Inv S K w0 Kn' φ hf w:=h.ld (gy.refl _ _) ⟨hs,fun _ _=>rfl⟩ h.uH h.sk h.oe (fun id o ho=>.inl ⟨ho,fun hown=>⟨rfl,((h.iI id o ho).2.bk hown).1⟩⟩) h.ph (h.B0 fun _ _=>rfl)
structure tg(S K:Nat->Prop)(w0 w:World)(Kn:Nat->Prop)(φ:Nat->gj)(hf:Nat->Option Ob)(fp:List Nat)(nxt m:Nat)(u:eW)(φ':Nat->gj):Prop where
 le:nxt<=m
 uN:Ren Kn φ (po Kn nxt m) φ'
 inv:Inv S K w0 (po Kn nxt m) φ' (bf u hf) w
 fP:∀p∈u,nxt<=p.1/\p.1<m
 cQ:∀p∈u,∀x∈ij w φ' (bf u hf) p.1,x∈fp
theorem qM(a b:Nat):Ren Kn φ (po Kn a b) φ:=⟨fun _ h=>.inl h,fun _ _=>rfl⟩
theorem tg.nil(h:Inv S K w0 Kn φ hf w)(fp:List Nat)(n:Nat):tg S K w0 w Kn φ hf fp n n [] φ:=⟨am _,qM _ _,h.kn fun _ hi=>.inl hi,fun p hp=>by simp at hp,fun p hp=>by simp at hp⟩
theorem tg.skip(h:Inv S K w0 Kn φ hf w)(fp:List Nat)(n:Nat):tg S K w0 w Kn φ hf fp n (n+1) [] φ:=⟨bn _,qM _ _,h.kn fun _ hi=>.inl hi,fun p hp=>by simp at hp,fun p hp=>by simp at hp⟩
theorem lM{α:Type}{u:List (Nat×α)}{id:Nat}(h:∀p∈u,p.1≠id):bV u id=none:=by
 induction u with
 |nil=>rfl
 |cons p r ih=>
  obtain⟨i,x⟩:=p;have e:(i==id)=false:=by simpa using h (i,x) (by simp)
  simp[bV,e];exact ih fun q hq=>h q (by simp[hq])
def vk(w:World)(φ:Nat->gj)(hf:Nat->Option Ob)(fp:List Nat):Prop:=∀j b,hf j=some b->cA b=true->∀x∈ij w φ hf j,x∉fp
theorem sR{a b c:Nat}(h1:a<=b)(h2:b<=c)(j:Nat):po (po Kn a b) b c j<->po Kn a c j:=by unfold po;grind
theorem Inv.wV{Kn':Nat->Prop}(h:Inv S K w0 Kn φ hf w)(hs:∀i,Kn i<->Kn' i):Inv S K w0 Kn' φ hf w:=h.kn fun i hi=>(hs i).1 hi
theorem RC.kn{Kn':Nat->Prop}{c:C}{v:Value}(h:RC S w Kn φ c v)(hs:∀i,Kn i->Kn' i):RC S w Kn' φ c v:=h.mono (gy.refl _ _) ⟨hs,fun _ _=>rfl⟩
theorem gp{φ':Nat->gj}{hf':Nat->Option Ob}{i:Nat}(h1:φ i=φ' i)(h2:hf i=hf' i):ij w φ hf i=ij w φ' hf' i:=by unfold ij;rw[h1,h2]
theorem tg.pR{fa fb:List Nat}{n m k:Nat}{u v:eW}{φ1 φ2:Nat->gj}(a:tg S K w0 w Kn φ hf fa n m u φ1)(b:tg S K w0 w (po Kn n m) φ1 (bf u hf) fb m k v φ2):
  tg S K w0 w Kn φ hf (fa++fb) n k (v++u) φ2 where
 le:=bo a.le b.le
 uN:=⟨fun i h=>.inl h,fun i h=>(b.uN.dH i (.inl h)).trans (a.uN.dH i h)⟩
 inv:=by rw[dp];exact b.inv.wV fun i=>sR a.le b.le i
 fP p hp:=by
  have:=a.le;have:=b.le;rcases aC.1 hp with h|h
  .have:=b.fP p h;omega
  .have:=a.fP p h;omega
 cQ p hp:=by
  intro x hx;rcases aC.1 hp with h|h
  .rw [dp]at hx;exact List.mem_append_right _ (b.cQ p h x hx)
  .have hn:bV v p.1=none:=lM fun q hq e=>by have:=a.fP p h;have:=b.fP q hq;omega
   have e:bf (v++u) hf p.1=bf u hf p.1:=by simp[bf,gN,hn]
   have e2:=gp (w:=w) (b.uN.dH p.1 (.inr (a.fP p h))) e;rw[e2]at hx;exact List.mem_append_left _ (a.cQ p h x hx)
theorem m9{u v:eW}(h:∀p∈u,∀q∈v,p.1≠q.1):bf (u++v) hf=bf (v++u) hf:=by
 funext id;simp[bf,gN];cases hu:bV u id with
 |none=>cases bV v id<;>simp
 |some x=>
  have:bV v id=none:=by
   refine lM fun q hq e=>?_
   have hm:∃p∈u,p.1=id:=by
    induction u with
    |nil=>simp[bV]at hu
    |cons p r ih=>
     obtain⟨i,y⟩:=p;by_cases e':i=id
     .exact ⟨(i,y),by simp,e'⟩
     .have e2:(i==id)=false:=by simpa using e'
      simp_all[bV]
   grind
  simp[this]
theorem ri(nxt:Nat)(ts:List T):k9 nxt (.pt ts)=(.op nxt 0,(nxt,some (.box (iH (nxt+1) ts).1))::(iH (nxt+1) ts).2.1,(iH (nxt+1) ts).2.2):=rfl
theorem rG(nxt:Nat)(t:T)(ts:List T):iH nxt (t::ts)=((k9 nxt t).1::(iH (k9 nxt t).2.2 ts).1,(k9 nxt t).2.1++(iH (k9 nxt t).2.2 ts).2.1,(iH (k9 nxt t).2.2 ts).2.2):=rfl
theorem FU{x:Nat}:∀{fps:List (List Nat)}{k k':Nat},fps.flatten.Nodup->fps[k]?=some [x]->fps[k']?=some [x]->k=k':=by
 intro fps;induction fps with
 |nil=>intro k k' _ h;simp at h
 |cons fp fps ih=>
  have hm:∀k,fps[k]?=some [x]->x∈fps.flatten:=fun k h=>dP.2 ⟨[x],aF h,by simp⟩
  grind
mutual
theorem LX(t:T):∀nxt,nxt<=(k9 nxt t).2.2:=by intro nxt;cases t with|d x=>exact bn _|tF=>exact bn _|sl sz rows=>exact bn _|Bh sz rows=>exact bn _|mp ka va es bE=>exact bn _|pt ts=>rw[ri];exact Nat.le_of_succ_le (xA ts (nxt+1))
theorem xA(ts:List T):∀nxt,nxt<=(iH nxt ts).2.2:=by intro nxt;cases ts with|nil=>exact am _|cons t ts=>rw[rG];exact bo (LX t nxt) (xA ts _)
end
mutual
theorem xB(t:T):∀{Kn:Nat->Prop}{φ:Nat->gj}{hf:Nat->Option Ob}(nxt:Nat)(v:Value)(fp:List Nat),Inv S K w0 Kn φ hf w->(∀j,nxt<=j->j<(k9 nxt t).2.2->¬Kn j)->
  RT S w t v fp->fp.Nodup->(∀b∈fp,¬S b/\¬K b)->vk w φ hf fp->
  ∃φ',tg S K w0 w Kn φ hf fp nxt (k9 nxt t).2.2 (k9 nxt t).2.1 φ'/\RC S w (po Kn nxt (k9 nxt t).2.2) φ' (k9 nxt t).1 v:=by
 intro Kn φ hf nxt v fp hI hfr hr hnd hSK haw;cases t with
 |tF=>cases hr
 |d x=>cases hr with|d hd=>exact⟨φ,tg.skip hI _ _,.d hd⟩
 |sl sz rows=>
  cases hr with
  |@sl _ _ b off len cap aG hsz ho hlen hcap hext hrr=>
   have hnx:¬Kn nxt:=hfr nxt (am _) (aQ _);refine⟨ext φ nxt ⟨b,off,sz,aG.size,cap⟩,?_,?_⟩
   .have hin:=hI.name (hnx) ⟨b,off,sz,aG.size,cap⟩ (.aG sz rows) (fun _ j o hj hown hm=>haw j o hj hown _ hm (by simp))
     (.aG hsz rfl (hSK b (by simp)).1 (hSK b (by simp)).2 ho rfl (by have:rows.length*sz<=cap*sz:=az _ (by omega);simp only;omega) hrr (by simp only;omega))
    refine⟨bn _,⟨fun i h=>.inl h,(iZ _ (hnx)).dH⟩,hin.wV fun i=>?_,fun p hp=>?_,fun p hp=>?_⟩
    .simp only[po,k9]
     grind
    .obtain rfl:p=_:=by simpa[k9]using hp
     simp[k9]
    .obtain rfl:p=_:=by simpa[k9]using hp
     simp_all[nV,k9,bf,bV,ext]
   .have e:(ext φ nxt ⟨b,off,sz,aG.size,cap⟩) nxt=⟨b,off,sz,aG.size,cap⟩:=by simp[ext]
    have:=RC.fx (S:=S) (w:=w) (Kn:=po Kn nxt (nxt+1)) (φ:=ext φ nxt ⟨b,off,sz,aG.size,cap⟩) (id:=nxt) (off:=0) (len:=rows.length) (cap:=cap) (addr:=off) (.inr (by omega)) (by omega) (by rw[e];simp) (by rw[e];simpa using hext) (by rw[e];simp);rw[e]at this;simpa[k9,hlen]using this
 |Bh sz rows=>
  cases hr with
  |@Bh _ _ b off cap aG fps hsz ho hcap hext hfl hrr=>
   have hnx:¬Kn nxt:=hfr nxt (am _) (aQ _);rw[il]at hnd;have hget:∀i,w.cell? ⟨b,i,none⟩=aG[i]?:=ho.cell;have hpat:∀k x,tw w ⟨b,off,1,aG.size,cap⟩ (rows.map ny) k x->∃fp,fps[k]?=some fp/\fp=[x]:=by rintro k x ⟨rs,v,h1,h2,h3⟩;rw[aN]at h1;obtain⟨r,hr1,hr2⟩:=aH.1 h1;have hlt:=(aB.1 hr1).1;have hf:fps[k]?=some fps[k]:=ao (by omega);obtain⟨v',q1,q2⟩:=hrr k r fps[k] hr1 hf;simp only[hget,q1,eY]at h2;subst h2;cases r with|none=>cases hr2|some rows'=>obtain⟨b',q3,q4⟩:=q2;rw[q4.cQ]at h3;simp_all
   have hmem:∀k x,tw w ⟨b,off,1,aG.size,cap⟩ (rows.map ny) k x->x∈fps.flatten:=fun k x hp=>by obtain⟨fp,h1,rfl⟩:=hpat k x hp;exact dP.2 ⟨[x],aF h1,by simp⟩
   have hin:=hI.name (hnx) ⟨b,off,1,aG.size,cap⟩ (.nst sz (rows.map ny)) (fun _ j o hj hown hm=>haw j o hj hown _ hm (by simp))
    (.nst hsz rfl (hSK b (by simp)).1 (hSK b (by simp)).2 ho rfl (by simp only[aD];omega) (fun i s hi=>by
     rw[aN]at hi;obtain⟨r,hr1,rfl⟩:=aH.1 hi;have hlt:=(aB.1 hr1).1;have hf:fps[i]?=some fps[i]:=ao (by omega);obtain⟨v,q1,q2⟩:=hrr i r fps[i] hr1 hf;refine⟨v,q1,?_⟩;cases r with
     |none=>obtain⟨rfl,_⟩:=q2;exact .nil
     |some rows'=>obtain⟨b',q3,q4⟩:=q2;have hm:b'∈fps.flatten:=dP.2 ⟨fps[i],List.getElem_mem _,by rw[q3];simp⟩;exact .bk q4 (hSK b' (aI _ hm)).1 (hSK b' (aI _ hm)).2) (by simp only[aD];omega))
    (fun sz' sl' k x eo hp=>by cases eo;have hm:=hmem k x hp;refine⟨fun e=>hnd.1 (by simp_all),fun j b' hj hown hx=>haw j b' hj hown x hx (aI _ hm),fun k' hp'=>?_⟩;obtain⟨fp,h1,rfl⟩:=hpat k x hp;obtain⟨fp',h2,rfl⟩:=hpat k' x hp';exact FU hnd.2 h2 h1)
   refine⟨ext φ nxt ⟨b,off,1,aG.size,cap⟩,?_,?_⟩
   .refine ⟨bn _,⟨fun i h=>.inl h,(iZ _ (hnx)).dH⟩,hin.wV fun i=>?_,fun p hp=>?_,fun p hp x hx=>?_⟩
    .simp only[po,k9]
     grind
    .obtain rfl:p=_:=by simpa[k9]using hp
     simp[k9]
    .obtain rfl:p=_:=by simpa[k9]using hp
     have e:bf (k9 nxt (T.Bh sz rows)).2.1 hf nxt=some (.nst sz (rows.map ny)):=by simp[k9,bf,bV]
     rcases dF.1 hx with rfl|⟨sz',sl',k,h1,h2⟩
     .simp [ext]
     .rw [e]at h1;cases h1;simp only[ext,if_true]at h2
      grind
   .have e:(ext φ nxt ⟨b,off,1,aG.size,cap⟩) nxt=⟨b,off,1,aG.size,cap⟩:=by simp[ext]
    have:=RC.fx (S:=S) (w:=w) (Kn:=po Kn nxt (nxt+1)) (φ:=ext φ nxt ⟨b,off,1,aG.size,cap⟩) (id:=nxt) (off:=0) (len:=rows.length) (cap:=cap) (addr:=off) (.inr (by omega)) (by omega) (by rw[e];simp) (by rw[e];simpa using hext) (by rw[e];simp);rw[e]at this;simpa[k9]using this
 |mp ka va es bE=>
  cases hr with
  |@mp _ _ _ _ b ms ho hlen hr=>
   have hnx:¬Kn nxt:=hfr nxt (am _) (aQ _);have hin:=hI.name (hnx) ⟨b,0,1,0,0⟩ (.map ka va es bE) (fun _ j o hj hown hm=>haw j o hj hown _ hm (by simp)) (.map (hSK b (by simp)).1 (hSK b (by simp)).2 ho hlen hr);refine⟨ext φ nxt ⟨b,0,1,0,0⟩,⟨bn _,⟨fun i h=>.inl h,(iZ _ (hnx)).dH⟩,hin.wV fun i=>?_,fun p hp=>?_,fun p hp=>?_⟩,?_⟩
   .simp only[po,k9]
    grind
   .obtain rfl:p=_:=by simpa[k9]using hp
    simp[k9]
   .obtain rfl:p=_:=by simpa[k9]using hp
    simp_all[nV,k9,bf,bV,ext]
   .have:=RC.om (S:=S) (w:=w) (Kn:=po Kn nxt (nxt+1)) (φ:=ext φ nxt ⟨b,0,1,0,0⟩) (id:=nxt) (.inr (by omega));simpa[ext,k9]using this
 |pt ts=>
  cases hr with
  |@pt _ b aG fps ho hlen hfl h=>
   rw[il]at hnd;have hnx:¬Kn nxt:=hfr nxt (am _) (by rw[ri];exact xA ts (nxt+1))
   obtain⟨φ1,hL,hrc⟩:=uB ts (Kn:=Kn) (φ:=φ) (hf:=hf) (nxt+1) (fun i=>aG.getD i undef) fps hI (fun j hj hj2=>hfr j (by omega) (by rw[ri];exact hj2)) hfl h hnd.2
    (fun b' hb'=>hSK b' (by simp[hb'])) (fun j o hj hown x hx hm=>haw j o hj hown x hx (aI _ hm))
   have hm:=hL.le
   have hnk:¬po Kn (nxt+1) (iH (nxt+1) ts).2.2 nxt:=by
    rintro(h|h)
    .exact hnx h
    .omega
   refine⟨ext φ1 nxt ⟨b,0,1,aG.size,0⟩,?_,?_⟩
   .have hin:=hL.inv.name hnk ⟨b,0,1,aG.size,0⟩ (.box (iH (nxt+1) ts).1) (fun _ j o hj hown hm=>by
      by_cases hu:∃p∈(iH (nxt+1) ts).2.1,p.1=j
      .obtain ⟨p,hp,rfl⟩:=hu;exact hnd.1 (hL.cQ p hp _ hm)
      .have hfn:bV (iH (nxt+1) ts).2.1 j=none:=lM fun p hp e=>hu ⟨p,hp,e⟩;have hj':=hj;simp only[bf,hfn]at hj';have hk:=(hI.iI j o hj').1;rw[gp (hL.uN.dH j hk) (hj.trans hj'.symm)]at hm;exact haw j o hj' hown _ hm (by simp))
     (.box rfl (hSK b (by simp)).1 (hSK b (by simp)).2 ho (hrc.1.trans hlen) fun i c hi=>(hrc.2 i c hi).mono (gy.refl _ _) (iZ _ hnk))
    refine⟨?_,⟨fun i h=>.inl h,fun i hi=>?_⟩,?_,fun p hp=>?_,fun p hp=>?_⟩
    .simp only[ri];exact Nat.le_of_succ_le hm
    .have:i≠nxt:=fun e=>hnx (e▸hi);simp only[ext,this,if_false];exact hL.uN.dH i hi
    .have e:bf (k9 nxt (.pt ts)).2.1 hf=bf [(nxt,some (.box (iH (nxt+1) ts).1))] (bf (iH (nxt+1) ts).2.1 hf):=by rw[<-dp];rfl
     rw[e];refine hin.wV fun i=>?_;simp only[po,ri]
     grind
    .simp only[ri]at hp|-;rcases aW.1 hp with rfl|hp
     .simp only;omega
     .have:=hL.fP p hp;omega
    .simp only[ri]at hp;rcases aW.1 hp with rfl|hp
     .simp_all [nV,ri,bf,bV,ext]
     .have hne:¬p.1=nxt:=by have:=hL.fP p hp;omega
      have hne':(nxt==p.1)=false:=by simpa using fun e=>hne e.symm
      intro x hx;rw[gp (φ':=φ1) (hf':=bf (iH (nxt+1) ts).2.1 hf) (by simp only[ext,hne,if_false]) (by simp only[ri,bf,bV,hne',cond_false])]at hx;exact aI _ (hL.cQ p hp x hx)
   .have:=RC.op (S:=S) (w:=w) (Kn:=po Kn nxt (iH (nxt+1) ts).2.2) (φ:=ext φ1 nxt ⟨b,0,1,aG.size,0⟩) (id:=nxt) (off:=0) (.inr (by omega));simpa[ri,ext]using this
theorem uB(ts:List T):∀{Kn:Nat->Prop}{φ:Nat->gj}{hf:Nat->Option Ob}(nxt:Nat)(get:Nat->Value)(fps:List (List Nat)),Inv S K w0 Kn φ hf w->(∀j,nxt<=j->j<(iH nxt ts).2.2->¬Kn j)->
  fps.length=ts.length->(∀(i:Nat)(t:T)(fp:List Nat),ts[i]?=some t->fps[i]?=some fp->RT S w t (get i) fp)->fps.flatten.Nodup->(∀b∈fps.flatten,¬S b/\¬K b)->vk w φ hf fps.flatten->
  ∃φ',tg S K w0 w Kn φ hf fps.flatten nxt (iH nxt ts).2.2 (iH nxt ts).2.1 φ'/\(iH nxt ts).1.length=ts.length/\
   ∀(i:Nat)(c:C),(iH nxt ts).1[i]?=some c->RC S w (po Kn nxt (iH nxt ts).2.2) φ' c (get i):=by
 intro Kn φ hf nxt get fps hI hfr hfl hr hnd hSK haw;cases ts with
 |nil=>exact⟨φ,tg.nil hI _ _,rfl,fun i c hi=>by simp[iH]at hi⟩
 |cons t ts=>
  cases fps with
  |nil=>simp at hfl
  |cons fp fps=>
   rw[gu,da]at hnd;obtain⟨hn1,hn2,hn3⟩:=hnd;simp only[gu,aC]at hSK
   obtain⟨φ1,hL1,hc1⟩:=xB t (Kn:=Kn) (φ:=φ) (hf:=hf) nxt (get 0) fp hI (fun j hj hj2=>hfr j hj (by rw[rG];exact cP hj2 (xA ts _))) (hr 0 t fp rfl rfl) hn1 (fun b hb=>hSK b (.inl hb))
    (fun j o hj hown x hx hm=>haw j o hj hown x hx (by simp[hm]))
   obtain⟨φ2,hL2,hlen,hc2⟩:=uB ts (Kn:=po Kn nxt (k9 nxt t).2.2) (φ:=φ1) (hf:=bf (k9 nxt t).2.1 hf) (k9 nxt t).2.2 (fun i=>get (i+1)) fps hL1.inv
    (fun j hj hj2 hk=>by
     rcases hk with hk|hk
     .have:=hL1.le;exact hfr j (by omega) (by rw[rG];exact hj2) hk
     .omega) (by simpa using hfl) (fun i t fp hi hfp=>hr (i+1) t fp (by simpa using hi) (by simpa using hfp)) hn2 (fun b hb=>hSK b (.inr hb))
    (fun j o hj hown x hx hm=>by
     by_cases hu:∃p∈(k9 nxt t).2.1,p.1=j
     .obtain ⟨p,hp,rfl⟩:=hu;exact hn3 _ (hL1.cQ p hp x hx) _ hm rfl
     .have hfn:bV (k9 nxt t).2.1 j=none:=lM fun p hp e=>hu ⟨p,hp,e⟩;have hj':=hj;simp only[bf,hfn]at hj';have hk:=(hI.iI j o hj').1;rw[gp (hL1.uN.dH j hk) (hj.trans hj'.symm)]at hx;exact haw j o hj' hown x hx (by simp[hm]))
   have hcomp:=hL1.pR hL2;have hcm:bf ((iH (k9 nxt t).2.2 ts).2.1++(k9 nxt t).2.1) hf=bf ((k9 nxt t).2.1++(iH (k9 nxt t).2.2 ts).2.1) hf:=m9 fun p hp q hq e=>by have h1:=hL2.fP p hp;have h2:=hL1.fP q hq;omega
   refine⟨φ2,?_,by simp[rG,hlen],fun i c hi=>?_⟩
   .simp only[rG,gu];have hsw:∀{p:Nat×Option Ob}{a b:eW},p∈a++b->p∈b++a:=fun hp=>aC.2 (aC.1 hp).symm;exact⟨hcomp.le,hcomp.uN,hcm▸hcomp.inv,fun p hp=>hcomp.fP p (hsw hp),fun p hp x hx=>hcomp.cQ p (hsw hp) x (hcm.symm▸hx)⟩
   .have hsub:∀i,po (po Kn nxt (k9 nxt t).2.2) (k9 nxt t).2.2 (iH (k9 nxt t).2.2 ts).2.2 i->po Kn nxt (iH (k9 nxt t).2.2 ts).2.2 i:=fun i=>(sR hL1.le hL2.le i).1;cases i with
    |zero=>
     obtain rfl:(k9 nxt t).1=c:=by simpa[iH]using hi
     exact(hc1.mono (gy.refl _ _) hL2.uN).kn hsub
    |succ i=>exact(hc2 i c (by simpa[rG]using hi)).kn hsub
end
theorem uK{α:Type}{l:List α}{k i:Nat}{x y:α}(h:(l.set k x)[i]?=some y):(k=i/\y=x/\i<l.length)\/(k≠i/\l[i]?=some y):=by
 grind
theorem Inv.VK(h:Inv S K w0 Kn φ hf w){id:Nat}{o o':Ob}(ho:hf id=some o)(hown:cA o=true)(hno:JL o')(hro:RO S K w Kn φ (φ id) o'):Inv S K w0 Kn φ (bf [(id,some o')] hf) w:=by
 have hold:∀j b,bf [(id,some o')] hf j=some b->(j=id/\b=o')\/(j≠id/\hf j=some b):=by
  intro j b hj;rw[bO]at hj;by_cases e:id=j
  .simp_all
  .rw [if_neg e]at hj;exact .inr ⟨fun q=>e q.symm,hj⟩
 have was:∀j b,bf [(id,some o')] hf j=some b->cA b=true->∃b',hf j=some b'/\cA b'=true:=by
  grind
 refine h.wu (gy.refl _ _) (Ren.refl _ _) h.uH h.sk h.oe ?_ ?_ ?_
 .intro i x hx;rcases hold i x hx with⟨rfl,rfl⟩|⟨_,hx'⟩
  .exact .inr ⟨(h.iI i o ho).1,hro⟩
  .exact .inl ⟨hx',fun hown=>⟨rfl,((h.iI i x hx').2.bk hown).1⟩,h.FH hx' fun _ _=>rfl⟩
 .intro i j a b ha hb hoa hob hne;obtain⟨a',h1,h2⟩:=was i a ha hoa;obtain⟨b',h3,h4⟩:=was j b hb hob;exact h.ph i j a' b' h1 h3 h2 h4 hne
 .intro i sz sl k x hi hp;rcases hold i _ hi with⟨rfl,e⟩|⟨_,hi'⟩
  .obtain ⟨rows,v,h1,_⟩:=hp
   grind
  .obtain ⟨p1,p2⟩:=h.yB i sz sl k x hi' hp;refine⟨fun j b hj hb=>?_,fun j sz' sl' k' hj hpj=>?_⟩
   .grind
   .rcases hold j _ hj with⟨rfl,e⟩|⟨_,hj'⟩
    .obtain ⟨rows,v,h1,_⟩:=hpj
     grind
    .exact p2 j sz' sl' k' hj' hpj
theorem Inv.split(h:Inv S K w0 Kn φ hf w){id nxt sz bv:Nat}{slots:List k8}{rows:List (List D)}(ho:hf id=some (.nst sz slots))(hs:slots[bv]?=some (.bk rows))(hn:¬Kn nxt):
  ∃l v,w.cell? ⟨(φ id).cQ,(φ id).aL+bv,none⟩=some v/\RC S w (fun j=>Kn j\/j=nxt) (ext φ nxt l) (.fx sz nxt 0 rows.length) v/\
   Inv S K w0 (fun j=>Kn j\/j=nxt) (ext φ nxt l) (bf [(nxt,some (.aG sz rows)),(id,some (.nst sz (slots.set bv (.dQ nxt rows.length))))] hf) w:=by
 obtain⟨hk,hro⟩:=h.iI id _ ho;have hne:id≠nxt:=fun e=>hn (e▸hk);cases hro with
 |@nst _ _ aG hsz hl hS hK hown hext hfit hr hv=>
  obtain⟨v,h1,h2⟩:=hr bv _ hs;cases h2 with
  |@bk _ _ b hrw hbS hbK=>
   obtain⟨addr,cap,ba,rfl,_,hbo,hcap,hfx,hrr⟩:=hrw;have hcell:=(hown.cell _).trans h1;have hpat:tw w (φ id) slots bv b:=⟨rows,_,hs,hcell,rfl⟩
   obtain⟨p1,p2⟩:=h.yB id sz slots bv b ho hpat;have he:ext φ nxt ⟨b,addr,sz,ba.size,cap⟩ nxt=⟨b,addr,sz,ba.size,cap⟩:=by simp[ext]
   have heo:∀j,j≠nxt->ext φ nxt ⟨b,addr,sz,ba.size,cap⟩ j=φ j:=fun j hj=>by simp[ext,hj]
   have hren:=iZ (φ:=φ) (⟨b,addr,sz,ba.size,cap⟩:gj) hn;have hrc:=by have:=RC.fx (S:=S) (w:=w) (Kn:=fun j=>Kn j\/j=nxt) (φ:=ext φ nxt ⟨b,addr,sz,ba.size,cap⟩) (id:=nxt) (off:=0) (len:=rows.length) (cap:=cap) (addr:=addr) (.inr rfl) (by omega) (by rw[he];simp) (by rw[he];simpa using hfx) (by rw[he];simp);rw[he]at this;exact this
   refine⟨⟨b,addr,sz,ba.size,cap⟩,_,hcell,hrc,?_⟩
   have hold:∀j c,bf [(nxt,some (.aG sz rows)),(id,some (.nst sz (slots.set bv (.dQ nxt rows.length))))] hf j=some c->(j=nxt/\c=.aG sz rows)\/(j=id/\c=.nst sz (slots.set bv (.dQ nxt rows.length)))\/(j≠nxt/\j≠id/\hf j=some c):=by
    intro j c hj;rw[bO]at hj;by_cases e:nxt=j
    .grind
    .rw [if_neg e,bO]at hj;by_cases e2:id=j
     .grind
     .rw [if_neg e2,k_]at hj;grind
   have hpat2:∀j sz' sl' k x,bf [(nxt,some (.aG sz rows)),(id,some (.nst sz (slots.set bv (.dQ nxt rows.length))))] hf j=some (.nst sz' sl')->tw w (ext φ nxt ⟨b,addr,sz,ba.size,cap⟩ j) sl' k x->∃uJ,hf j=some (.nst sz' uJ)/\tw w (φ j) uJ k x/\x≠b:=by
    intro j sz' sl' k x hj hp;rcases hold j _ hj with⟨_,e⟩|⟨rfl,e⟩|⟨e1,e2,hj'⟩
    .cases e
    .cases e;rw[heo _ hne]at hp;obtain⟨rows',v',q1,q2,q3⟩:=hp;rcases uK q1 with⟨_,e,_⟩|⟨hk',q1'⟩
     .cases e
     .have hp':tw w (φ j) slots k x:=⟨rows',v',q1',q2,q3⟩
      grind
    grind
   refine h.wu (gy.refl _ _) hren h.uH h.sk h.oe ?_ ?_ ?_
   .intro j c hj;rcases hold j c hj with⟨rfl,rfl⟩|⟨rfl,rfl⟩|⟨e1,_,hj'⟩
    .refine .inr ⟨.inr rfl,?_⟩;rw[he];exact .aG (by assumption) rfl hbS hbK hbo rfl (by have:=az sz hcap;simp only;omega) hrr hcap
    .refine .inr ⟨.inl hk,?_⟩;rw[heo _ hne];refine .nst hsz hl hS hK hown hext (by rw[bF];exact hfit) (fun i s hi=>?_) (by rw[bF];exact hv);rcases uK hi with⟨rfl,rfl,_⟩|⟨_,hi'⟩
     .exact ⟨_,h1,.dQ hrc⟩
     .obtain ⟨v',q1,q2⟩:=hr i s hi';refine⟨v',q1,?_⟩;cases q2 with|nil=>exact .nil|bk h hS hK=>exact .bk h hS hK|dQ h=>exact .dQ (h.mono (gy.refl _ _) hren)
    .exact .inl ⟨hj',fun hown=>⟨rfl,((h.iI j c hj').2.bk hown).1⟩,h.FH hj' fun _ _=>rfl⟩
   .intro i j a c ha hc hoa hoc hij
    have key:∀j c,bf [(nxt,some (.aG sz rows)),(id,some (.nst sz (slots.set bv (.dQ nxt rows.length))))] hf j=some c->cA c=true->j≠nxt->(∃c',hf j=some c'/\cA c'=true)/\ext φ nxt ⟨b,addr,sz,ba.size,cap⟩ j=φ j:=by
     intro j c hj hc hjn;rcases hold j c hj with⟨e,_⟩|⟨rfl,rfl⟩|⟨_,_,hj'⟩
     .exact absurd e hjn
     .exact ⟨⟨_,ho,rfl⟩,heo _ hjn⟩
     grind
    by_cases hi:i=nxt
    .grind
    .obtain ⟨⟨a',q1,q2⟩,q3⟩:=key i a ha hoa hi;by_cases hj:j=nxt
     .grind
     .obtain ⟨⟨c',q4,q5⟩,q6⟩:=key j c hc hoc hj;rw[q3,q6];exact h.ph i j a' c' q1 q4 q2 q5 hij
   .intro j sz' sl' k x hj hp;obtain⟨uJ,q1,q2,q3⟩:=hpat2 j sz' sl' k x hj hp;obtain⟨r1,r2⟩:=h.yB j sz' uJ k x q1 q2;refine⟨fun i c hi hc=>?_,fun i sz2 sl2 k' hi hpi=>?_⟩
    .rcases hold i c hi with⟨rfl,rfl⟩|⟨rfl,rfl⟩|⟨e1,_,hi'⟩
     .rw [he];exact fun e=>q3 e.symm
     .rw [heo _ hne];exact r1 i _ ho rfl
     .rw [heo _ e1];exact r1 i c hi' hc
    .obtain ⟨sl3,q4,q5,_⟩:=hpat2 i sz2 sl2 k' x hi hpi;exact r2 i sz2 sl3 k' q4 q5
theorem Inv.OU(h:Inv S K w0 Kn φ hf w){id id2 sz sz2 bv:Nat}{slots:List k8}{rows:List (List D)}(ho:hf id=some (.nst sz slots))(hs:slots[bv]?=some (.dQ id2 rows.length))(h2:hf id2=some (.aG sz2 rows)):
  Inv S K w0 Kn φ (bf [(id,some (.nst sz (slots.set bv (.bk rows)))),(id2,none)] hf) w:=by
 obtain⟨hk,hro⟩:=h.iI id _ ho;obtain⟨hk2,hro2⟩:=h.iI id2 _ h2;have hne:id2≠id:=fun e=>by rw[e,ho]at h2;cases h2
 have hold:∀j c,bf [(id,some (.nst sz (slots.set bv (.bk rows)))),(id2,none)] hf j=some c->(j=id/\c=.nst sz (slots.set bv (.bk rows)))\/(j≠id/\j≠id2/\hf j=some c):=by
  intro j c hj;rw[bO]at hj;by_cases e:id=j
  .simp_all
  .rw [if_neg e,bO]at hj;by_cases e2:id2=j
   .rw [if_pos e2]at hj;cases hj
   .rw [k_]at hj;grind
 have was:∀j c,bf [(id,some (.nst sz (slots.set bv (.bk rows)))),(id2,none)] hf j=some c->cA c=true->j≠id2/\∃c',hf j=some c'/\cA c'=true:=by
  intro j c hj hc;rcases hold j c hj with⟨rfl,rfl⟩|⟨_,e,hj'⟩
  .exact ⟨hne.symm,_,ho,rfl⟩
  .exact ⟨e,c,hj',hc⟩
 cases hro with
 |@nst _ _ aG hsz hl hS hK hown hext hfit hr hv=>
  obtain⟨v,h1,hsl⟩:=hr bv _ hs;have hcell:=(hown.cell _).trans h1
  obtain⟨hvb,hrw⟩:A5 v=some (φ id2).cQ/\JK S w sz rows v (φ id2).cQ:=by
   cases hsl with
   |dQ hrc=>
    cases hro2 with
    |@aG _ _ ba hsz2 hl2 hS2 hK2 hown2 hext2 hfit2 hr2 hv2=>cases hrc with|@fx _ _ _ cap addr hk' hcap haddr hx hcc=>refine⟨rfl,addr,cap,ba,rfl,by rw[hl2];exact hsz2,hown2,hcap,by omega,?_⟩;have:=hr2.yR (addr:=addr) 0 rows.length (fun hlt=>by rw[haddr (by omega),hl2]);rw[hl2];simpa using this
  obtain⟨hS2,hK2,_⟩:=hro2.bk rfl
  have hpat2:∀j sz' sl' k x,bf [(id,some (.nst sz (slots.set bv (.bk rows)))),(id2,none)] hf j=some (.nst sz' sl')->tw w (φ j) sl' k x->(j=id/\k=bv/\x=(φ id2).cQ)\/∃uJ,hf j=some (.nst sz' uJ)/\tw w (φ j) uJ k x:=by
   intro j sz' sl' k x hj hp;rcases hold j _ hj with⟨rfl,e⟩|⟨e1,e2,hj'⟩
   .cases e;obtain⟨rows',v',q1,q2,q3⟩:=hp;rcases uK q1 with⟨rfl,_,_⟩|⟨hk',q1'⟩
    .simp_all
    .exact .inr ⟨slots,ho,rows',v',q1',q2,q3⟩
   .exact .inr ⟨sl',hj',hp⟩
  refine h.wu (gy.refl _ _) (Ren.refl _ _) h.uH h.sk h.oe ?_ ?_ ?_
  .intro j c hj;rcases hold j c hj with⟨rfl,rfl⟩|⟨_,_,hj'⟩
   .refine .inr ⟨hk,.nst hsz hl hS hK hown hext (by rw[bF];exact hfit) (fun i s hi=>?_) (by rw[bF];exact hv)⟩;rcases uK hi with⟨rfl,rfl,_⟩|⟨_,hi'⟩
    .exact ⟨v,h1,.bk hrw hS2 hK2⟩
    .exact hr i s hi'
   .exact .inl ⟨hj',fun hown=>⟨rfl,((h.iI j c hj').2.bk hown).1⟩,h.FH hj' fun _ _=>rfl⟩
  .intro i j a c ha hc hoa hoc hij;obtain⟨_,a',q1,q2⟩:=was i a ha hoa;obtain⟨_,c',q3,q4⟩:=was j c hc hoc;exact h.ph i j a' c' q1 q3 q2 q4 hij
  .intro j sz' sl' k x hj hp;refine⟨fun i c hi hc=>?_,fun i sz3 sl3 k' hi hpi=>?_⟩
   .obtain ⟨hi2,c',q1,q2⟩:=was i c hi hc;rcases hpat2 j sz' sl' k x hj hp with⟨_,_,rfl⟩|⟨uJ,q3,q4⟩
    .exact h.ph i id2 c' _ q1 h2 q2 rfl hi2
    .exact (h.yB j sz' uJ k x q3 q4).1 i c' q1 q2
   .rcases hpat2 j sz' sl' k x hj hp with⟨e1,e2,e3⟩|⟨uJ,q3,q4⟩<;>rcases hpat2 i sz3 sl3 k' x hi hpi with⟨e4,e5,e6⟩|⟨sl4,q5,q6⟩
    .omega
    .exact absurd e3.symm ((h.yB i sz3 sl4 k' x q5 q6).1 id2 _ h2 rfl)
    .exact absurd e6.symm ((h.yB j sz' uJ k x q3 q4).1 id2 _ h2 rfl)
    .exact (h.yB j sz' uJ k x q3 q4).2 i sz3 sl4 k' q5 q6
theorem Inv.Xo{w':World}(h:Inv S K w0 Kn φ hf w){id sz bv:Nat}{slots:List k8}{s':k8}{v:Value}{aG arr':Array Value}(ho:hf id=some (.nst sz slots))(hown:pn w (φ id).cQ aG)(hown':pn w' (φ id).cQ arr')(hsize':arr'.size=aG.size)
  (hother:∀b,b≠(φ id).cQ->w'.heap[b]?=w.heap[b]?) (hsize:w'.heap.size=w.heap.size) (hfrz:∀a,w'.frozen? a=w.frozen? a) (hio:Io w w')
  (hget:∀i,i≠(φ id).aL+bv->arr'[i]?=aG[i]?) (hv:bv<slots.length->arr'[(φ id).aL+bv]?=some v) (hslot:gy S w S w'->Bc S K w' Kn φ sz s' v) (hs':∀rows,s'≠.bk rows):
  gy S w S w'/\Inv S K w0 Kn φ (bf [(id,some (.nst sz (slots.set bv s')))] hf) w':=by
 obtain⟨hk,h0⟩:=h.iI id _ ho;obtain⟨hS,hK,hlt⟩:=h0.bk rfl;have hs:gy S w S w':=⟨fun _ h=>h,fun b hb=>hother b (fun e=>hS (e▸hb))⟩
 have hold:∀j c,bf [(id,some (.nst sz (slots.set bv s')))] hf j=some c->(j=id/\c=.nst sz (slots.set bv s'))\/(j≠id/\hf j=some c):=by
  intro j c hj;rw[bO]at hj;by_cases e:id=j
  .simp_all
  .rw [if_neg e,k_]at hj;exact .inr ⟨fun q=>e q.symm,hj⟩
 have was:∀j c,bf [(id,some (.nst sz (slots.set bv s')))] hf j=some c->cA c=true->∃c',hf j=some c'/\cA c'=true:=by
  intro j c hj hc;rcases hold j c hj with⟨rfl,rfl⟩|⟨_,hj'⟩
  .exact ⟨_,ho,rfl⟩
  .exact ⟨c,hj',hc⟩
 have hpat2:∀j sz' sl' k x,bf [(id,some (.nst sz (slots.set bv s')))] hf j=some (.nst sz' sl')->tw w' (φ j) sl' k x->∃uJ,hf j=some (.nst sz' uJ)/\tw w (φ j) uJ k x:=by
  intro j sz' sl' k x hj hp;rcases hold j _ hj with⟨rfl,e⟩|⟨e1,hj'⟩
  .cases e;obtain⟨rows',v',q1,q2,q3⟩:=hp;rcases uK q1 with⟨_,e,_⟩|⟨hk',q1'⟩
   .exact absurd e.symm (hs' rows')
   .refine ⟨slots,ho,rows',v',q1',?_,q3⟩;rw[hown.cell,<-hget _ (by omega),<-hown'.cell];exact q2
  .exact ⟨sl',hj',(tw.dH (hother _ (h.ph j id _ _ hj' ho rfl rfl e1))).1 hp⟩
 have hkeep:∀j sz' sl' k x,hf j=some (.nst sz' sl')->tw w (φ j) sl' k x->w'.heap[x]?=w.heap[x]?/\¬S x:=fun j sz' sl' k x hj hp=>⟨hother x fun e=>(h.yB j sz' sl' k x hj hp).1 id _ ho rfl e.symm,(h.Kp hj hp).1⟩;refine⟨hs,h.wu hs (Ren.refl _ _) (fun b hb=>hsize▸h.uH b hb) h.sk ?_ ?_ ?_ ?_⟩
 .exact ⟨h.oe.HK,fun b hb=>(hother b (fun e=>hK (e▸hb))).trans (h.oe.lK b hb),hsize▸h.oe.sT,fun a ha=>(hfrz a).trans (h.oe.Bj a ha),h.oe.Ag hother (fun a ha=>⟨arr',hown',by obtain⟨t1,e1⟩:=ha;obtain⟨t2,e2⟩:=hown;simp_all⟩),h.oe.io.trans hio⟩
 .intro j c hj;rcases hold j c hj with⟨rfl,rfl⟩|⟨e1,hj'⟩
  .refine .inr ⟨hk,?_⟩;cases h0 with
   |@nst _ _ arr0 hsz hl hS hK hown0 hext hfit hr hv0=>
    have ea:arr0=aG:=by obtain⟨t1,e1⟩:=hown0;obtain⟨t2,e2⟩:=hown;rw[e1]at e2;cases e2;rfl
    subst ea;refine .nst hsz hl hS hK hown' (hsize'.trans hext) (by rw[bF];exact hfit) (fun i s hi=>?_) (by rw[bF];exact hv0);rcases uK hi with⟨rfl,rfl,hlt⟩|⟨hne,hi'⟩
    .exact ⟨v,hv hlt,hslot hs⟩
    .obtain ⟨v',q1,q2⟩:=hr i s hi';refine⟨v',(hget _ (by omega)).trans q1,?_⟩;cases q2 with|nil=>exact .nil|@bk rows _ b q3 q4 q5=>exact .bk (q3.mono hs (hkeep j sz slots i b ho ⟨rows,v',hi',(hown.cell _).trans q1,q3.cQ⟩).1) q4 q5|dQ q3=>exact .dQ (q3.mono hs (Ren.refl _ _))
  .exact .inl ⟨hj',fun hox=>⟨hother _ (h.ph j id c _ hj' ho hox rfl e1),((h.iI j c hj').2.bk hox).1⟩,fun sz' sl' eo k x hp=>by grind⟩
 .intro i j a c ha hc hoa hoc hij;obtain⟨a',q1,q2⟩:=was i a ha hoa;obtain⟨c',q3,q4⟩:=was j c hc hoc;exact h.ph i j a' c' q1 q3 q2 q4 hij
 .intro j sz' sl' k x hj hp;obtain⟨uJ,q1,q2⟩:=hpat2 j sz' sl' k x hj hp;obtain⟨r1,r2⟩:=h.yB j sz' uJ k x q1 q2;refine⟨fun i c hi hc=>?_,fun i sz3 sl3 k' hi hpi=>?_⟩
  .obtain ⟨c',q3,q4⟩:=was i c hi hc;exact r1 i c' q3 q4
  .obtain ⟨sl4,q5,q6⟩:=hpat2 i sz3 sl3 k' x hi hpi;exact r2 i sz3 sl4 k' q5 q6
end
end Go.Ev
