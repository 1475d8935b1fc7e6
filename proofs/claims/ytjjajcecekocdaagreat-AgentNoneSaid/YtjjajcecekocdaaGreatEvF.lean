/- The abstract machine: deep data, cells, owned objects, operations and code, and their evaluation. Conditions: none, these are definitions. -/
import Derived.Orders
import Derived.Laws.CopyRow
open Array renaming getD->kg,getElem?_eq_none->gk,getElem?_eq_some_iff->aY
open BitVec renaming ofInt->cZ
open Bool renaming false_eq_true->aE
open List renaming all_eq_true->aV,append_nil->bo,flatMap_cons->br,flatten_cons->eC,getElem?_append_left->bg,getElem?_append_right->bl,getElem?_drop->bL,getElem?_eq_getElem->az,getElem?_eq_some_iff->aj,getElem?_map->aL,getElem?_take->eK,getElem_of_mem->ij,length_map->aR,length_set->jf,length_take->gM,map->lV,mem_append->ak,mem_cons->aJ,mem_cons_of_mem->aC,mem_flatten->ez,mem_of_getElem?->bd,mem_singleton->aq,nodup_append->dj,nodup_cons->hP,nodup_nil->nf,range->eJ,replicate->aB
open Nat renaming add_assoc->cS,add_zero->cY,le_refl->am,le_succ->a_,le_trans->e9,lt_of_lt_of_le->dY,lt_succ_self->aQ,mul_le_mul_right->aI,mul_one->ld,zero_add->bk,zero_mul->gP
open Option renaming bind_eq_some_iff->fc,map_eq_some_iff->aM
open Option.some renaming inj->aa,injEq->bS
open Prod.mk renaming inj->ad
namespace Go.Ev
inductive D where
 |lit (v:Value)
 |sl (sz:Nat) (rows:List (List D))
 |pt (cells:List D)
 |fn (f:FuncId) (caps:List D)
 deriving Inhabited
inductive C where
 |d (x:D)
 |bP (sz id off len:Nat)
 |ep (id eU off:Nat)
 |op (id off:Nat)
 |oL (f:FuncId) (caps:List C)
 |om (id:Nat)
 deriving Inhabited
inductive TV where
 |c (x:C)
 |agg (cells:List C)
 |gB (xs:List TV)
 deriving Inhabited
inductive ko where
 |nil
 |bi (rows:List (List D))
 |kU (id len:Nat)
 deriving Inhabited
inductive Ob where
 |aF (sz:Nat) (rows:List (List D))
 |pD (sz:Nat) (rows:List (List D))
 |box (cells:List C)
 |nZ (cells:List D)
 |map (ka va:Bool) (es:List (List Value×List D×Nat)) (bN:Nat)
 |cap (sz:Nat) (rows:List (List D)) (cp:Nat)
 |nst (sz:Nat) (slots:List ko)
 deriving Inhabited
inductive T where
 |d (x:D)
 |sl (sz:Nat) (rows:List (List D))
 |pt (cells:List T)
 |zh (sz:Nat) (rows:List (Option (List (List D))))
 |mp (ka va:Bool) (es:List (List Value×List D×Nat)) (bN:Nat)
 |j6
 deriving Inhabited
inductive A where
 |d (x:D)
 |agg (cells:List D)
 |mt (t:T)
 deriving Inhabited
inductive R where
 |c (t:T)
 |agg (cells:List T)
 deriving Inhabited
def eR:Value->Bool
 |.bool _|.int _ _|.float _ _|.string _|.pointer none|.slice none 0 0|.map none|.nilFunc|.nilIface=>true
 |_=>false
def qM:Nat:=2147483648
def bQ{α:Type}:List (Nat×α)->Nat->Option α
 |[],_=>none
 |(a,x)::r,k=>bif a==k then some x else bQ r k
abbrev hZ:=List (Nat×TV)
abbrev bh:=List (Nat×Option Ob)
abbrev eg:=List (Nat×Option Ob)
def ao(h:bh)(id:Nat):Option Ob:=(bQ h id).join
inductive Kd where
 |b
 |i (k:IntKind)
 |s
 deriving Inhabited,DecidableEq
inductive K where
 |mv
 |pick
 |alloc (zero:List Value)
 |box
 |build (zero:List Value) (places:List (Nat×Nat))
 |buildSlice (sz len:Nat) (zero:List Value) (places:List Nat)
 |load (agg:Bool) (n:Nat)
 |store (n:Nat)
 |nilCheck
 |sy (op:BinOp)
 |uN (neg:Bool)
 |rg (kind:Nat) (neg:Bool)
 |yH (neg:Bool) (ks:List Kd)
 |un (op:UnOp)
 |vC (k:IntKind)
 |C3 (k:FloatKind)
 |sY
 |GA (f:FuncId)
 |makeSlice (zero:List Value)
 |slice (str:Bool) (sz:Nat) (lo hi:Bool)
 |fieldAddr (off n:Nat)
 |field (agg:Bool) (off n:Nat)
 |indexAddr (aF:Option Nat) (sz:Nat)
 |pC
 |index (agg:Bool) (len sz:Nat)
 |extract (i:Nat)
 |len (str:Bool)
 |rK (isMax:Bool)
 |append (sz:Nat)
 |copy (sz:Nat)
 |clear (zero:List Value)
 |vT (sz:Nat)
 |EI
 |NX (zero:List Value)
 |MH
 |call (ro:Bool) (jT:List Bool)
 |makeMap (ka va:Bool)
 |lookup (ka:Bool) (ks:List Kd) (va:Bool) (zero:List Value) (ok:Bool)
 |mapEntry (ka:Bool) (ks:List Kd) (va:Bool) (zero:List Value)
 |entryStore (va:Bool) (m:Nat)
 |Aa (szi:Nat)
 |uj
 |sQ (ka:Bool) (ks:List Kd) (va:Bool) (n:Nat)
 |sR (ka:Bool) (ks:List Kd)
 |Hi (szi:Nat)
 |NP (sz len:Nat) (zero:List Value) (places:List Nat)
 |SM (sz:Nat)
 |Dg (szi:Nat)
 |fG
 deriving Inhabited
structure l6 where
 dst:Option Nat
 k:K
 args:List Operand
 guard:Option (Nat×Bool)
 deriving Inhabited
inductive CC where
 |skip
 |region (ops:List l6) (md:List Nat)
 |drawn (ops:List l6) (dyn:List (Nat×Nat)) (md:List Nat)
 |seq (a b:CC)
 |cond (c:Operand) (a b:CC)
 |block (id:Nat) (a:CC)
 |loop (md:List Nat) (a:CC)
 |exit (id:Nat)
 |ret
 |fG
 deriving Inhabited
structure St where
 cR:hZ
 heap:bh
 next:Nat
 gh:List C
 deriving Inhabited
inductive ql where
 |normal
 |exit (id:Nat)
 |ret
 deriving Inhabited,DecidableEq
def Ps:Nat->Option D:=fun _ => none
def cv:Value->Option TV
 |.agg cs=>if cs.toList.all eR then some (.agg (cs.toList.map fun v=>.d (.lit v)))else none
 |v=>if eR v then some (.c (.d (.lit v)))else none
def jB(e:hZ):Operand->Option TV
 |.tmp t=>bQ e t
 |.const v=>cv v
 |.global g=>(Ps g).map fun d=>.c (.d d)
 |.func f=>some (.c (.d (.fn f [])))
def cellsOf:TV->Option (List C)
 |.c x=>some [x]
 |.agg cs=>some cs
 |.gB _=>none
def eQ:List Value->List C:=lV fun v=>.d (.lit v)
def cO:List Value->List D:=lV D.lit
def aU{α:Type}(l:List α)(off:Nat)(p:List α):List α:=l.take off++p++l.drop (off+p.length)
def kE(cells:List C):List ((Nat×Nat)×TV)->Option (List C)
 |[]=>some cells
 |((off,n),v)::r=>match cellsOf v with|some cs=>if cs.length=n/\off+n<=cells.length then kE (aU cells off cs) r else none|none=>none
def mg{α:Type}(sz:Nat):Nat->List α->List (List α)
 |0,_=>[]
 |n+1,l=>l.take sz::mg sz n (l.drop sz)
def HN(sz:Nat):ko->Option D
 |.nil=>some (.lit (.slice none 0 0))
 |.bi rows=>some (.sl sz rows)
 |.kU _ _=>none
def qu(sz:Nat):List ko->Option (List (List D))
 |[]=>some []
 |s::r=>match HN sz s,qu sz r with|some x,some l=>some ([x]::l)|_,_=>none
def L2:ko->Option (Option (List (List D)))
 |.nil=>some none
 |.bi rows=>some (some rows)
 |.kU _ _=>none
def uE:List ko->Option (List (Option (List (List D))))
 |[]=>some []
 |s::r=>match L2 s,uE r with|some x,some l=>some (x::l)|_,_=>none
def mL:Option (List (List D))->ko
 |none=>.nil
 |some rows=>.bi rows
mutual
def eu(h:bh):Nat->C->Option (D×List Nat)
 |_,.d x=>some (x,[])
 |_,.bP sz id off len=>match ao h id with|some (.aF _ rows)|some (.pD _ rows)=>if off+len<=rows.length then some (.sl sz ((rows.drop off).take len),[id])else none|some (.nst szi slots)=>if off=0/\len=slots.length then(match qu szi slots with|some rows=>some (.sl sz rows,[id])|none=>none)else none|_=>none
 |_,.ep id eU off=>
  match ao h id with
  |some (.aF _ rows)|some (.pD _ rows)=>match rows[eU]?with|some r=>if off<=r.length then some (.pt (r.drop off),[id])else none|none=>none
  |_=>none
 |0,_=>none
 |n+1,.op id off=>
  match ao h id with
  |some (.nZ cells)=>if off<=cells.length then some (.pt (cells.drop off),[id])else none
  |some (.box cells)=>match fN h n cells with|some (ds,au)=>if off<=ds.length then some (.pt (ds.drop off),id::au)else none|none=>none
  |_=>none
 |n+1,.oL f caps=>match fN h n caps with|some (ds,au)=>some (.fn f ds,au)|none=>none
 |_+1,.om _=>none
def fN(h:bh):Nat->List C->Option (List D×List Nat)
 |_,[]=>some ([],[])
 |0,_=>none
 |n+1,c::cs=>match eu h n c,fN h n cs with|some (x,a),some (xs,b)=>some (x::xs,a++b)|_,_=>none
end
def jN(h:bh)(all:List Nat)(id:Nat):Option Ob:=
 match ao h id with
 |some (.aF sz rows)=>some (.pD sz rows)
 |some (.pD sz rows)=>some (.pD sz rows)
 |some (.nZ cells)=>some (.nZ cells)
 |some (.box cells)=>match fN h 300 cells with|some (ds,au)=>if au.all (fun i=>all.contains i)then some (.nZ ds)else none|none=>none
 |some (.map _ _ _ _)=>none
 |some (.cap _ _ _)=>none
 |some (.nst szi slots)=>match qu szi slots with|some rows=>some (.pD 1 rows)|none=>none
 |none=>none
def dh(h:bh)(all:List Nat):List Nat->Option eg
 |[]=>some []
 |id::r=>match jN h all id,dh h all r with|some o,some u=>some ((id,some o)::u)|_,_=>none
def dC(h:bh):List C->Option (List D×List Nat)
 |[]=>some ([],[])
 |c::cs=>match eu h 300 c,dC h cs with|some (x,a),some (xs,b)=>some (x::xs,a++b)|_,_=>none
mutual
def dn(h:bh):Nat->C->Option (T×List Nat×List Nat)
 |_,.d x=>some (.d x,[],[])
 |_,.bP sz id off len=>match ao h id with|some (.aF _ rows)=>if off+len<=rows.length then some (.sl sz ((rows.drop off).take len),[id],[id])else none|some (.pD _ rows)=>if off+len<=rows.length then some (.d (.sl sz ((rows.drop off).take len)),[],[id])else none|some (.nst szi slots)=>if off=0/\len=slots.length then(match uE slots with|some rows=>some (.zh szi rows,[id],[id])|none=>none)else none|_=>none
 |_,.om id=>match ao h id with|some (.map ka va es bN)=>some (.mp ka va es bN,[id],[id])|_=>none
 |0,_=>none
 |n+1,.op id 0=>
  match ao h id with
  |some (.box cells)=>match iB h n cells with|some (ts,bi,au)=>some (.pt ts,id::bi,id::au)|none=>none
  |some (.nZ cells)=>some (.d (.pt cells),[],[id])
  |_=>none
 |_+1,_=>none
def iB(h:bh):Nat->List C->Option (List T×List Nat×List Nat)
 |_,[]=>some ([],[],[])
 |0,_=>none
 |n+1,c::cs=>match dn h n c,iB h n cs with|some (x,a,i),some (xs,b,j)=>some (x::xs,a++b,i++j)|_,_=>none
end
mutual
def kh(nxt:Nat):T->C×eg×Nat
 |.d x=>(.d x,[],nxt+1)
 |.j6=>(.d (.lit .nilFunc),[],nxt+1)
 |.sl sz rows=>(.bP sz nxt 0 rows.length,[(nxt,some (.aF sz rows))],nxt+1)
 |.zh sz rows=>(.bP 1 nxt 0 rows.length,[(nxt,some (.nst sz (rows.map mL)))],nxt+1)
 |.mp ka va es bN=>(.om nxt,[(nxt,some (.map ka va es bN))],nxt+1)
 |.pt ts=>let(cs,u,m):=il (nxt+1) ts;(.op nxt 0,(nxt,some (.box cs))::u,m)
def il(nxt:Nat):List T->List C×eg×Nat
 |[]=>([],[],nxt)
 |t::ts=>let(c,u,m):=kh nxt t;let(cs,v,k):=il m ts;(c::cs,u++v,k)
end
def wH(nxt:Nat):R->TV×eg×Nat
 |.c t=>let(c,u,m):=kh nxt t;(.c c,u,m)
 |.agg ts=>let(cs,u,m):=il nxt ts;(.agg cs,u,m)
def gN(nxt:Nat):List R->List TV×eg×Nat
 |[]=>([],[],nxt)
 |r::rs=>let(v,u,m):=wH nxt r;let(vs,w,k):=gN m rs;(v::vs,u++w,k)
abbrev Call:=FuncId->List A->Option (List R×List T)
abbrev Bv:=Option (TV×eg×List Nat×Nat)
def lv(v:Value):TV:=.c (.d (.lit v))
def oH(op:BinOp):Value->Value->Option Value
 |.int k a,.int k' b=>
  match op with
  |.shl=>if b<0 then none else some (.int k (k.wrap (a*2^(min b.toNat k.bits))))
  |.shr=>if b<0 then none else some (.int k (a.fdiv (2^(min b.toNat k.bits))))
  |op=>if k=k' then
   (match op with
   |.add=>some (.int k (k.wrap (a+b)))
   |.sub=>some (.int k (k.wrap (a-b)))
   |.mul=>some (.int k (k.wrap (a*b)))
   |.quo=>if b=0 then none else some (.int k (k.wrap (a.tdiv b)))
   |.rem=>if b=0 then none else some (.int k (a.tmod b))
   |.and=>some (.int k (k.wrap (cZ k.bits a&&&cZ k.bits b).toNat))
   |.or=>some (.int k (k.wrap (cZ k.bits a|||cZ k.bits b).toNat))
   |.xor=>some (.int k (k.wrap (cZ k.bits a^^^cZ k.bits b).toNat))
   |.andNot=>some (.int k (k.wrap (cZ k.bits a&&&~~~cZ k.bits b).toNat))
   |.eql=>some (.bool (a==b))
   |.neq=>some (.bool (a !=b))
   |.lss=>some (.bool (a<b))
   |.leq=>some (.bool (a<=b))
   |.gtr=>some (.bool (a>b))
   |.geq=>some (.bool (a>=b))
   |_=>none)else none
 |.float k a,.float k' b=>
  if k=k' then
   match op with|.add=>(k.format.add a b).map (.float k)|.sub=>(k.format.sub a b).map (.float k)|.mul=>(k.format.mul a b).map (.float k)|.quo=>(k.format.div a b).map (.float k)|.eql=>some (.bool (k.format.order a b==some .eq))|.neq=>some (.bool (k.format.order a b !=some .eq))|.lss=>some (.bool (k.format.order a b==some .lt))|.leq=>some (.bool (k.format.order a b==some .lt||k.format.order a b==some .eq))|.gtr=>some (.bool (k.format.order a b==some .gt))|.geq=>some (.bool (k.format.order a b==some .gt||k.format.order a b==some .eq))|_=>none
  else none
 |.string x,.string y=>match op with|.add=>if((x.size+y.size:Nat):Int)>IntKind.i64.max then none else some (.string (x++y))|.eql=>some (.bool (x.toList==y.toList))|.neq=>some (.bool !(x.toList==y.toList))|.lss=>some (.bool (Op.bytesLess x.toList y.toList))|.leq=>some (.bool (Op.bytesLess x.toList y.toList||x.toList==y.toList))|.gtr=>some (.bool !(Op.bytesLess x.toList y.toList||x.toList==y.toList))|.geq=>some (.bool !(Op.bytesLess x.toList y.toList))|_=>none
 |_,_=>none
def t_(k:FloatKind):Nat:=match k with|.f32=>0x7fc00000|.f64=>0x7ff8000000000001
def AU(op:BinOp):Value->Value->Option Value
 |.float k a,.float k' b=>
  if k=k' then
   match op with|.add=>if k.format.add a b=none then some (.float k (t_ k))else none|.sub=>if k.format.sub a b=none then some (.float k (t_ k))else none|.mul=>if k.format.mul a b=none then some (.float k (t_ k))else none|.quo=>if k.format.div a b=none then some (.float k (t_ k))else none|_=>none
  else none
 |_,_=>none
def nJ(op:BinOp)(x y:Value):Option Value:=match oH op x y with|some v=>some v|none=>AU op x y
def Ms(op:UnOp):Value->Option Value
 |.bool b=>match op with|.not=>some (.bool !b)|_=>none
 |.int k n=>match op with|.neg=>some (.int k (k.wrap (0-n)))|.xor=>some (.int k (k.wrap (cZ k.bits (if k.signed then-1 else k.max)^^^cZ k.bits n).toNat))|_=>none
 |.float k b=>match op with|.neg=>some (.float k (Op.negFloat k b))|_=>none
 |_=>none
def BB:Kd->Value->Value->Option Bool
 |.i q,.int k a,.int k' b=>if k=q/\k'=q then some (a==b)else none
 |.b,.bool a,.bool b=>some (a==b)
 |.s,.string a,.string b=>some (a==b)
 |_,_,_=>none
def fU:List Kd->List Value->List Value->Option Bool
 |[],[],[]=>some true
 |k::ks,x::xs,y::ys=>match BB k x y,fU ks xs ys with|some a,some b=>some (a&&b)|_,_=>none
 |_,_,_=>none
def lH:List C->Option (List Value)
 |[]=>some []
 |.d (.lit v)::r=>match lH r with|some l=>some (v::l)|none=>none
 |_=>none
def Bz(isMax:Bool):Value->Value->Option Value
 |.int k x,.int k' y=>if k=k' then some (.int k (if isMax then(if y>x then y else x)else(if y<x then y else x)))else none
 |.float k x,.float k' y=>
  if k=k' then match k.format.order x y with|none=>some (.float k (t_ k))|some .lt=>some (.float k (if isMax then y else x))|some .gt=>some (.float k (if isMax then x else y))|some .eq=>some (.float k (if isMax then(if(k.decode x).neg then y else x)else(if(k.decode x).neg then x else y)))
  else none
 |_,_=>none
def Iu(isMax:Bool):Value->List (Option TV)->Option Value
 |x,[]=>some x
 |x,some (.c (.d (.lit y)))::r=>match Bz isMax x y with|some z=>Iu isMax z r|none=>none
 |_,_=>none
def Cu(agg:Bool)(n:Nat)(cells:List C):Option TV:=if agg then(if n<=cells.length then some (.agg (cells.take n))else none)else match cells with|x::_=>some (.c x)|[]=>none
def L_(agg:Bool)(n:Nat)(cells:List D):Option TV:=if agg then(if n<=cells.length then some (.agg ((cells.take n).map .d))else none)else match cells with|x::_=>some (.c (.d x))|[]=>none
def gT(agg:Bool)(n:Nat)(p:C)(h:bh):Option (TV×List Nat):=
 match p with
 |.d (.pt cells)=>match L_ agg n cells with|some v=>some (v,[])|none=>none
 |.ep id eU off=>
  match ao h id with
  |some (.aF _ rows)|some (.pD _ rows)=>
   match rows[eU]?with
   |some r=>match L_ agg n (r.drop off)with|some v=>some (v,[id])|none=>none
   |none=>none
  |_=>none
 |.op id off=>
  match ao h id with
  |some (.box cells)=>match Cu agg n (cells.drop off)with|some v=>some (v,[id])|none=>none
  |some (.nZ cells)=>match L_ agg n (cells.drop off)with|some v=>some (v,[id])|none=>none
  |_=>none
 |_=>none
def rS(id eU sz:Nat)(slots:List ko)(cs:List C)(h:bh):Option (eg×List Nat):=
 match cs with
 |[.d (.lit (.slice none 0 0))]=>some ([(id,some (.nst sz (slots.set eU .nil)))],[id])
 |[.bP sz' id2 0 len]=>match ao h id2 with|some (.aF _ rows)=>if sz'=sz/\len=rows.length/\id2≠id then some ([(id,some (.nst sz (slots.set eU (.bi rows)))),(id2,none)],[id,id2])else none|_=>none
 |_=>none
def lp(agg:Bool)(n:Nat)(p:C)(h:bh)(nxt:Nat):Bv:=
 match p with
 |.ep id eU 0=>
  match ao h id with
  |some (.nst sz slots)=>if agg=false/\n=1 then
   (match slots[eU]?with
   |some .nil=>some (.c (.d (.lit (.slice none 0 0))),[],[id],nxt)
   |some (.bi rows)=>some (.c (.bP sz nxt 0 rows.length),[(nxt,some (.aF sz rows)),(id,some (.nst sz (slots.set eU (.kU nxt rows.length))))],[id],nxt+1)
   |_=>none)else none
  |_=>none
 |_=>none
def lY(n:Nat)(p:C)(v:TV)(h:bh):Option (eg×List Nat):=
 match cellsOf v with
 |none=>none
 |some cs=>
  if cs.length=n then
   match p with
   |.ep id eU off=>
    match ao h id with
    |some (.aF sz rows)=>
     match rows[eU]?,dC h cs with
     |some r,some (ds,au)=>match dh h au au with|some u=>if off+n<=r.length/\au.contains id=false then some ((id,some (.aF sz (rows.set eU (aU r off ds))))::u,id::au)else none|none=>none
     |_,_=>none
    |some (.nst sz slots)=>if off=0/\n=1/\eU<slots.length then rS id eU sz slots cs h else none
    |_=>none
   |.op id off=>match ao h id with|some (.box cells)=>if off+n<=cells.length then some ([(id,some (.box (aU cells off cs)))],[id])else none|_=>none
   |_=>none
  else none
def ci:Option TV->Option Int
 |some (.c (.d (.lit (.int _ n))))=>some n
 |_=>none
def cD(str:Bool)(sz:Nat)(x:C)(lo hi:Option Int):Option C:=
 if str then match x with
 |.d (.lit (.string s))=>
  let h:=hi.getD s.size;let l:=lo.getD 0
  if 0<=l/\l<=h/\h<=s.size then some (.d (.lit (.string (s.extract l.toNat h.toNat))))else none
 |_=>none
 else match x with
 |.d (.lit (.slice none 0 0))=>if 0<=lo.getD 0/\lo.getD 0<=hi.getD 0/\hi.getD 0<=0 then some x else none
 |.bP sz' id off len=>
  let h:=hi.getD len;let l:=lo.getD 0
  if sz'=sz/\0<=l/\l<=h/\h<=len then some (.bP sz id (off+l.toNat) (h.toNat-l.toNat))else none
 |.d (.sl sz' rows)=>
  let h:=hi.getD rows.length;let l:=lo.getD 0
  if sz'=sz/\0<=l/\l<=h/\h<=rows.length then some (.d (.sl sz ((rows.drop l.toNat).take (h.toNat-l.toNat))))else none
 |_=>none
def jw(str:Bool)(sz:Nat)(x:C)(l u:Int)(h:bh):Option (C×List Nat):=
 match str,x with
 |false,.bP sz' id off _=>match ao h id with|some (.aF _ rows)=>if sz'=sz/\0<=l/\l<=u/\off+u.toNat<=rows.length then some (.bP sz id (off+l.toNat) (u.toNat-l.toNat),[id])else none|some (.cap _ _ cp)=>if sz'=sz/\0<=l/\l<=u/\off+u.toNat<=cp then some (.bP sz id (off+l.toNat) (u.toNat-l.toNat),[id])else none|_=>none
 |_,_=>none
def Ah(sz:Nat)(x:C)(l u m:Int)(nxt:Nat):Option C:=match x with|.bP sz' _ _ len=>if sz'=sz/\0<=l/\l<=u/\u<=m/\m<=len then some (.bP sz nxt 0 (u.toNat-l.toNat))else none|_=>none
def lZ(zero:List Value)(x:C)(h:bh):Option (eg×List Nat):=
 match x with
 |.bP sz id off len=>match ao h id with|some (.aF _ rows)=>if sz=zero.length/\off+len<=rows.length then some ([(id,some (.aF sz (aU rows off (aB len (cO zero)))))],[id])else none|_=>none
 |_=>none
def jV(off n:Nat):C->Option C
 |.op id o=>some (.op id (o+off))
 |.ep id r o=>some (.ep id r (o+off))
 |.d (.pt cells)=>if off+n<=cells.length then some (.d (.pt ((cells.drop off).take n)))else none
 |_=>none
def iC(aF:Option Nat)(sz:Nat)(x:C)(i:Int):Option C:=
 match aF with
 |none=>match x with|.bP sz' id off len=>if 0<=i/\i<len/\sz'=sz then some (.ep id (off+i.toNat) 0)else none|.d (.sl sz' rows)=>if 0<=i/\sz'=sz then(match rows[i.toNat]?with|some r=>some (.d (.pt r))|none=>none)else none|_=>none
 |some n=>
  if 0<=i/\i<n then
   match x with|.op id o=>some (.op id (o+i.toNat*sz))|.ep id r o=>some (.ep id r (o+i.toNat*sz))|.d (.pt cells)=>if i.toNat*sz+sz<=cells.length then some (.d (.pt ((cells.drop (i.toNat*sz)).take sz)))else none|_=>none
  else none
def uo:Bool->C->Option Int
 |true,.d (.lit (.string s))=>some s.size
 |false,.d (.lit (.slice none 0 0))=>some 0
 |false,.bP _ _ _ len=>some len
 |false,.d (.sl _ rows)=>some rows.length
 |_,_=>none
def fY(sz:Nat)(h:bh):C->Option (List (List D)×List Nat)
 |.d (.lit (.slice none 0 0))=>some ([],[])
 |.d (.sl sz' rows)=>if sz'=sz then some (rows,[])else none
 |.bP sz' id off len=>match ao h id with|some (.aF _ rows)|some (.pD _ rows)=>if sz'=sz/\off+len<=rows.length then some ((rows.drop off).take len,[id])else none|_=>none
 |_=>none
def jk(sz:Nat)(s x:C)(h:bh)(nxt:Nat):Bv:=
 match fY sz h x with
 |none=>none
 |some (new,au)=>
  match s with
  |.d (.lit (.slice none 0 0))=>
   if new.length<=qM then
    match new with|[]=>some (.c s,[],au,nxt)|new=>some (.c (.bP sz nxt 0 new.length),[(nxt,some (.aF sz new))],au,nxt+1)
   else none
  |.bP sz' id off len=>
   match ao h id with
   |some (.aF _ rows)=>
    if sz'=sz/\off+len<=rows.length/\len+new.length<=qM then
     some (.c (.bP sz nxt 0 (len+new.length)),[(id,none),(nxt,some (.aF sz ((rows.drop off).take len++new++rows.drop (off+len+new.length))))],id::au,nxt+1)
    else none
   |_=>none
  |_=>none
def Je(sz:Nat)(x:C)(i:Int):Option C:=match x with|.bP sz' id off len=>if 0<=i/\i<len/\sz'=sz then some (.op id ((off+i.toNat)*sz))else none|_=>none
def Es(szi:Nat)(x:C)(nxt:Nat):Bv:=match x with|.bP szi' idR 0 len=>if szi'=szi/\0<szi then some (.c (.bP 1 nxt 0 1),[(nxt,some (.nst szi [.kU idR len]))],[],nxt+1)else none|_=>none
def oE(szi:Nat)(s x:C)(h:bh)(nxt:Nat):Bv:=
 match x with
 |.bP 1 idB 0 1=>
  match ao h idB with
  |some (.nst szB [.kU idR len])=>
   if szB=szi then
    (match s with
    |.d (.lit (.slice none 0 0))=>some (.c (.bP 1 nxt 0 1),[(idB,none),(nxt,some (.nst szi [.kU idR len]))],[idB],nxt+1)
    |.bP 1 idA 0 n=>match ao h idA with|some (.nst szA slots)=>if szA=szi/\n=slots.length/\idA≠idB/\slots.length+1<=qM then some (.c (.bP 1 nxt 0 (slots.length+1)),[(idA,none),(idB,none),(nxt,some (.nst szi (slots++[.kU idR len])))],[idA,idB],nxt+1)else none|_=>none
    |_=>none)else none
  |_=>none
 |_=>none
def kF(sz:Nat)(dst src:C)(h:bh):Option (Int×eg×List Nat):=
 match dst,src with
 |.bP sz' id off len,.bP sz2 id2 off2 len2=>
  match ao h id,ao h id2 with
  |some (.cap _ rows cp),some (.aF _ rows2)=>
   if sz'=sz/\sz2=sz/\off<=rows.length/\off2+min len2 len<=rows2.length then
    some ((min len2 len:Nat),[(id,some (.cap sz (aU rows off ((rows2.drop off2).take (min len2 len))) cp))],[id,id2])
   else none
  |some (.cap _ rows cp),some (.cap _ rows2 _)=>
   if sz'=sz/\sz2=sz/\off<=rows.length/\off2+min len2 len<=rows2.length then
    some ((min len2 len:Nat),[(id,some (.cap sz (aU rows off ((rows2.drop off2).take (min len2 len))) cp))],[id,id2])
   else none
  |_,_=>none
 |_,_=>none
def wS(zero:List Value)(x:C)(k:Int)(h:bh)(nxt:Nat):Bv:=
 match x with
 |.bP sz' id off len=>
  match ao h id with
  |some (.cap _ rows cp)=>
   if sz'=zero.length/\0<=k/\len+k.toNat<=qM/\off+len<=rows.length/\cp<off+len+k.toNat then
    some (.c (.bP zero.length nxt 0 (len+k.toNat)),[(nxt,some (.aF zero.length ((rows.drop off).take len++aB k.toNat (cO zero))))],[id],nxt+1)
   else none
  |_=>none
 |_=>none
def vB(x:C)(h:bh):Option (Nat×List Nat):=
 match x with
 |.bP _ id off _=>match ao h id with|some (.cap _ _ cp)=>some (cp-off,[id])|_=>none
 |_=>none
def um(x y:C)(h:bh):Option (List Nat):=
 match x,y with
 |.bP _ a _ _,.bP _ b _ _=>match ao h a,ao h b with|some (.aF _ _),some (.cap _ _ cp)=>if a≠b/\0<cp then some [a,b]else none|_,_=>none
 |_,_=>none
def jx(sz:Nat)(dst src:C)(h:bh):Option (Int×eg×List Nat):=
 match fY sz h src,dst with
 |some (_,au),.d (.lit (.slice none 0 0))=>some (0,[],au)
 |some (new,au),.bP sz' id off len=>
  match ao h id with
  |some (.aF _ rows)=>
   if sz'=sz/\off+len<=rows.length then
    some ((min new.length len:Nat),[(id,some (.aF sz (aU rows off (new.take len))))],id::au)
   else none
  |_=>none
 |_,_=>none
def ge(h:bh):List TV->List Bool->Option (List A×List Nat×List (C×List Nat×List Nat))
 |[],_=>some ([],[],[])
 |v::vs,ms=>
  match ge h vs ms.tail with
  |none=>none
  |some (as,au,lent)=>
   if ms.headD false then
    match v with
    |.c c=>match dn h 300 c with|some (t,bi,rd)=>some (.mt t::as,au,(c,bi,rd)::lent)|none=>none
    |_=>none
   else match v with
    |.c c=>match eu h 300 c with|some (x,i)=>some (.d x::as,i++au,lent)|none=>none
    |.agg cs=>match dC h cs with|some (xs,i)=>some (.agg xs::as,i++au,lent)|none=>none
    |.gB _=>none
def dX(nxt:Nat):List (C×List Nat×List Nat)->List T->Option (eg×Nat)
 |[],[]=>some ([],nxt)
 |(_,[],_)::r,.d _::ts=>dX nxt r ts
 |(.op id 0,bi,_)::r,.pt ts'::ts=>match dX (il nxt ts').2.2 r ts with|some (w,k)=>if bi.contains id then some ((id,some (.box (il nxt ts').1))::(il nxt ts').2.1++bi.map (fun i=>(i,none))++w,k)else none|none=>none
 |(.bP sz id 0 len,bi,_)::r,.sl sz' rows::ts=>
  if rows.length=len/\sz'=sz/\bi=[id]then
   match dX nxt r ts with|some (w,k)=>some ((id,some (.aF sz rows))::w,k)|none=>none
  else none
 |(.bP sz id 0 len,bi,_)::r,.zh szi rows::ts=>
  if rows.length=len/\sz=1/\bi=[id]then
   match dX nxt r ts with|some (w,k)=>some ((id,some (.nst szi (rows.map mL)))::w,k)|none=>none
  else none
 |(_,bi,_)::r,.j6::ts=>match dX nxt r ts with|some (w,k)=>some (bi.map (fun i=>(i,none))++w,k)|none=>none
 |_,_=>none
def wg:R->Bool
 |.c (.d (.lit _))=>true
 |.agg ts=>ts.all fun|.d (.lit _)=>true|_=>false
 |_=>false
def DT:T->Bool
 |.d (.lit _)=>true
 |.sl _ rows=>rows.all fun r=>r.all fun|.lit _=>true|_=>false
 |.j6=>true
 |_=>false
def sK:List TV->TV
 |[v]=>v
 |vs=>.gB vs
def dz{α:Type}:List (Option α)->Option (List α)
 |[]=>some []
 |some x::r=>match dz r with|some xs=>some (x::xs)|none=>none
 |none::_=>none
def eF(h:bh):List (C×List Nat×List Nat)->Bool
 |[]=>true
 |(.bP _ id off len,_)::r=>(match ao h id with|some (.aF _ rows)=>off==0&&len==rows.length|some (.nst _ slots)=>off==0&&len==slots.length|_=>false)&&eF h r
 |_::r=>eF h r
def uM(call:Call)(ro:Bool)(jT:List Bool)(f:Option TV)(vs:List (Option TV))(h:bh)(nxt:Nat):Bv:=
 match(match f with|some (.c (.d (.fn f caps)))=>some (f,caps.map C.d)|some (.c (.oL f caps))=>some (f,caps)|_=>none),dz vs with
 |some (f,caps),some vs=>
  match ge h (vs++caps.map TV.c) jT with
  |none=>none
  |some (as,au,lent)=>
   if eF h lent/\(lent.flatMap (·.2.1)).Nodup/\(lent.flatMap (·.2.1)).all (fun i=>!au.contains i)then
    match call f as with
    |none=>none
    |some (rs,outs)=>
     if ro then
      if rs.all wg/\outs.all DT then
       match dX nxt lent outs with
       |none=>none
       |some (bu,m)=>
        let(vs,u,k):=gN m rs
        some (sK vs,u++bu,au++lent.flatMap (·.2.2),k)
      else none
     else
      match dh h au au with
      |none=>none
      |some fu=>
       match dX nxt lent outs with
       |none=>none
       |some (bu,m)=>
        let(vs,u,k):=gN m rs
        some (sK vs,u++bu++fu,au++lent.flatMap (·.2.2),k)
   else none
 |_,_=>none
def qg:Nat->C->Option Bool
 |0,.d (.lit (.slice none 0 0))=>some true
 |0,.d (.sl _ _)|0,.bP _ _ _ _=>some false
 |1,.d (.lit (.pointer none))=>some true
 |1,.d (.pt _)|1,.ep _ _ _|1,.op _ _=>some false
 |2,.d (.lit .nilFunc)=>some true
 |2,.d (.fn _ _)|2,.oL _ _=>some false
 |_,_=>none
def yL:List C->Option (List D)
 |[]=>some []
 |.d x::r=>match yL r with|some l=>some (x::l)|none=>none
 |_=>none
abbrev rt:=List Value×List D×Nat
def lS(ks:List Kd)(key:List Value):List rt->Nat->Option (Option Nat)
 |[],_=>some none
 |e::r,i=>match fU ks key e.1 with|some true=>some (some i)|some false=>lS ks key r (i+1)|none=>none
def pm(va:Bool)(ds:List D):Option TV:=if va then some (.agg (ds.map .d))else match ds with|[x]=>some (.c (.d x))|_=>none
def GI:Kd->Value->Bool
 |.i q,.int k _=>decide (k=q)
 |.b,.bool _=>true
 |.s,.string _=>true
 |_,_=>false
def xw:List Kd->List Value->Bool
 |[],[]=>true
 |k::ks,x::xs=>GI k x&&xw ks xs
 |_,_=>false
def mB(ka:Bool)(ks:List Kd):TV->Option (List Value)
 |.agg cs=>if ka=true/\cs.length=ks.length then(match lH cs with|some l=>if xw ks l=true then some l else none|none=>none)else none
 |.c x=>if ka=false/\ks.length=1 then(match lH [x]with|some l=>if xw ks l=true then some l else none|none=>none)else none
 |.gB _=>none
def ia(ka:Bool)(ks:List Kd)(va:Bool)(zero:List Value)(ok:Bool)(m:C)(k:TV)(h:bh):Option (TV×List Nat):=
 match m,mB ka ks k with
 |.d (.lit (.map none)),some _=>match pm va (cO zero)with|some v=>some (if ok then .gB [v,lv (.bool false)]else v,[])|none=>none
 |.om id,some key=>
  match ao h id with
  |some (.map ka' va' es _)=>
   if ka'=ka/\va'=va then
    match lS ks key es 0 with
    |some (some i)=>match pm va (es.getD i default).2.1 with|some v=>some (if ok then .gB [v,lv (.bool true)]else v,[id])|none=>none
    |some none=>match pm va (cO zero)with|some v=>some (if ok then .gB [v,lv (.bool false)]else v,[id])|none=>none
    |none=>none
   else none
  |_=>none
 |_,_=>none
def mU(ka:Bool)(ks:List Kd)(va:Bool)(zero:List Value)(m:C)(k:TV)(h:bh):Option (TV×eg×List Nat):=
 match m,mB ka ks k with
 |.om id,some key=>
  match ao h id with
  |some (.map ka' va' es bN)=>
   if ka'=ka/\va'=va then
    match lS ks key es 0 with
    |some (some i)=>match pm va (es.getD i default).2.1 with|some v=>some (.gB [v,lv (.int .i64 (es.getD i default).2.2)],[(id,some (.map ka va es bN))],[id])|none=>none
    |some none=>match pm va (cO zero)with|some v=>some (.gB [v,lv (.int .i64 bN)],[(id,some (.map ka va (es++[(key,cO zero,bN)]) (bN+1)))],[id])|none=>none
    |none=>none
   else none
  |_=>none
 |_,_=>none
def qd:TV->Bool
 |.agg _=>true
 |_=>false
def mV(va:Bool)(n:Nat)(m:C)(st:Option TV)(x:TV)(h:bh):Option (eg×List Nat):=
 match m,ci st,(cellsOf x).bind yL with
 |.om id,some s,some ds=>
  match ao h id with
  |some (.map ka va' es bN)=>
   if va'=va/\ds.length=n/\qd x=va then
    match es.findIdx? (fun e=>decide ((e.2.2:Int)=s))with|some i=>some ([(id,some (.map ka va (es.set i ((es.getD i default).1,ds,(es.getD i default).2.2)) bN))],[id])|none=>none
   else none
  |_=>none
 |_,_,_=>none
def rT(ka:Bool)(ks:List Kd)(va:Bool)(n:Nat)(m:C)(k x:TV)(h:bh):Option (eg×List Nat):=
 match m,mB ka ks k,cellsOf x with
 |.om id,some key,some cs=>
  match dC h cs with
  |some (ds,au)=>
   match dh h au au with
   |some fu=>
    match ao h id with
    |some (.map ka' va' es bN)=>
     if ka'=ka/\va'=va/\ds.length=n/\qd x=va/\au.contains id=false then
      match lS ks key es 0 with|some (some i)=>some ((id,some (.map ka va (es.set i ((es.getD i default).1,ds,(es.getD i default).2.2)) bN))::fu,id::au)|some none=>some ((id,some (.map ka va (es++[(key,ds,bN)]) (bN+1)))::fu,id::au)|none=>none
     else none
    |_=>none
   |none=>none
  |none=>none
 |_,_,_=>none
def rU(ka:Bool)(ks:List Kd)(m:C)(k:TV)(h:bh):Option (eg×List Nat):=
 match m,mB ka ks k with
 |.d (.lit (.map none)),some _=>some ([],[])
 |.om id,some key=>
  match ao h id with
  |some (.map ka' va es bN)=>
   if ka'=ka then
    match lS ks key es 0 with|some (some i)=>some ([(id,some (.map ka va (es.eraseIdx i) bN))],[id])|some none=>some ([(id,some (.map ka va es bN))],[id])|none=>none
   else none
  |_=>none
 |_,_=>none
def bX(call:Call)(k:K)(vs:List (Option TV))(h:bh)(nxt:Nat):Bv:=
 match k,vs with
 |.mv,[some x]=>some (x,[],[],nxt)
 |.pick,[some (.c (.d (.lit (.bool c)))),a,b]=>match(if c then a else b)with|some v=>some (v,[],[],nxt)|none=>none
 |.alloc zero,[]=>some (.c (.op nxt 0),[(nxt,some (.box (eQ zero)))],[],nxt+1)
 |.box,[some x]=>match cellsOf x with|some cs=>some (.c (.op nxt 0),[(nxt,some (.box cs))],[],nxt+1)|none=>none
 |.build zero places,vs=>
  match dz vs with
  |some xs=>match kE (eQ zero) (places.zip xs)with|some cs=>some (.agg cs,[],[],nxt)|none=>none
  |none=>none
 |.buildSlice sz len zero places,vs=>
  match dz vs with
  |some xs=>
   match kE (eQ zero) ((places.map fun i=>(i*sz,sz)).zip xs)with
   |some cs=>
    match dC h cs with
    |some (ds,au)=>match dh h au au with|some u=>some (.c (.bP sz nxt 0 len),(nxt,some (.aF sz (mg sz len ds)))::u,au,nxt+1)|none=>none
    |none=>none
   |none=>none
  |none=>none
 |.load agg n,[some (.c p)]=>match gT agg n p h with|some (v,au)=>some (v,[],au,nxt)|none=>none
 |.uj,[some (.c p)]=>match gT false 1 p h with|some (v,au)=>some (v,[],au,nxt)|none=>lp false 1 p h nxt
 |.NP sz len zero places,vs=>
  match dz vs with
  |some xs=>match kE (eQ zero) ((places.map fun i=>(i*sz,sz)).zip xs)with|some cs=>some (.c (.bP sz nxt 0 len),[(nxt,some (.box cs))],[],nxt+1)|none=>none
  |none=>none
 |.SM sz,[some (.c x),i]=>
  match ci i with
  |some i=>match Je sz x i with|some y=>some (.c y,[],[],nxt)|none=>none
  |none=>none
 |.Hi szi,[some (.c x)]=>Es szi x nxt
 |.Dg szi,[some (.c s),some (.c x)]=>oE szi s x h nxt
 |.store n,[some (.c p),some v]=>match lY n p v h with|some (u,au)=>some (.gB [],u,au,nxt)|none=>none
 |.nilCheck,[some (.c x)]=>match x with|.d (.pt _)|.d (.fn _ _)|.ep _ _ _|.op _ _|.oL _ _=>some (.c x,[],[],nxt)|_=>none
 |.sy op,[some (.c (.d (.lit x))),some (.c (.d (.lit y)))]=>match nJ op x y with|some v=>some (lv v,[],[],nxt)|none=>none
 |.uN neg,[some (.c (.d (.lit (.bool x)))),some (.c (.d (.lit (.bool y))))]=>some (lv (.bool (if neg then !(x==y)else x==y)),[],[],nxt)
 |.rg kind neg,[some (.c x)]=>match qg kind x with|some b=>some (lv (.bool (if neg then !b else b)),[],[],nxt)|none=>none
 |.yH neg ks,[some (.agg xs),some (.agg ys)]=>
  match lH xs,lH ys with
  |some xs,some ys=>match fU ks xs ys with|some b=>some (lv (.bool (if neg then !b else b)),[],[],nxt)|none=>none
  |_,_=>none
 |.un op,[some (.c (.d (.lit x)))]=>match Ms op x with|some v=>some (lv v,[],[],nxt)|none=>none
 |.vC k,[some (.c (.d (.lit (.int _ n))))]=>some (lv (.int k (k.wrap n)),[],[],nxt)
 |.C3 k,[some (.c (.d (.lit (.int _ n))))]=>some (lv (.float k (k.nearest n)),[],[],nxt)
 |.sY,[some (.c (.d (.lit (.string s))))]=>some (lv (.string s),[],[],nxt)
 |.GA f,vs=>
  match dz vs with
  |some xs=>match dz (xs.map fun|.c c=>some c|_=>none)with|some cs=>some (.c (.oL f cs),[],[],nxt)|none=>none
  |none=>none
 |.makeSlice zero,[l,c]=>
  match ci l,ci c with
  |some l,some c=>
   if 0<=l/\l<=c/\c<=qM then
    some (.c (.bP zero.length nxt 0 l.toNat),[(nxt,some (.aF zero.length (aB l.toNat (cO zero))))],[],nxt+1)
   else none
  |_,_=>none
 |.Aa szi,[l,c]=>match ci l,ci c with|some l,some c=>if 0<=l/\l<=c/\c<=qM then some (.c (.bP 1 nxt 0 l.toNat),[(nxt,some (.nst szi (aB l.toNat .nil)))],[],nxt+1)else none|_,_=>none
 |.slice str sz lo hi,some (.c x)::r=>
  match lo,hi,r with
  |false,false,[]=>match cD str sz x none none with|some y=>some (.c y,[],[],nxt)|none=>none
  |true,false,[l]=>match ci l with|some l=>(match cD str sz x (some l) none with|some y=>some (.c y,[],[],nxt)|none=>none)|none=>none
  |false,true,[u]=>match ci u with|some u=>(match cD str sz x none (some u)with|some y=>some (.c y,[],[],nxt)|none=>(match jw str sz x 0 u h with|some (y,au)=>some (.c y,[],au,nxt)|none=>none))|none=>none
  |true,true,[l,u]=>
   match ci l,ci u with
   |some l,some u=>match cD str sz x (some l) (some u)with|some y=>some (.c y,[],[],nxt)|none=>(match jw str sz x l u h with|some (y,au)=>some (.c y,[],au,nxt)|none=>none)
   |_,_=>none
  |_,_,_=>none
 |.vT sz,[some (.c x),l,u,m]=>
  match ci l,ci u,ci m with
  |some l,some u,some m=>match Ah sz x l u m nxt with|some y=>some (.c y,[],[],nxt+1)|none=>none
  |_,_,_=>none
 |.clear zero,[some (.c x)]=>match lZ zero x h with|some (u,au)=>some (.gB [],u,au,nxt)|none=>none
 |.fieldAddr off n,[some (.c x)]=>match jV off n x with|some y=>some (.c y,[],[],nxt)|none=>none
 |.field agg off n,[some (.agg cs)]=>match Cu agg n (cs.drop off)with|some v=>some (v,[],[],nxt)|none=>none
 |.indexAddr aF sz,[some (.c x),i]=>
  match ci i with
  |some i=>match iC aF sz x i with|some y=>some (.c y,[],[],nxt)|none=>none
  |none=>none
 |.pC,[some (.c (.d (.lit (.string s)))),i]=>
  match ci i with
  |some i=>match(if 0<=i then s[i.toNat]?else none)with|some b=>some (lv (.int .u8 b.toNat),[],[],nxt)|none=>none
  |none=>none
 |.index agg len sz,[some (.agg cs),i]=>
  match ci i with
  |some i=>if 0<=i/\i<len then match Cu agg sz (cs.drop (i.toNat*sz))with|some v=>some (v,[],[],nxt)|none=>none else none
  |none=>none
 |.extract i,[some (.gB xs)]=>match xs[i]?with|some v=>some (v,[],[],nxt)|none=>none
 |.len str,[some (.c x)]=>match uo str x with|some n=>some (lv (.int .i64 n),[],[],nxt)|none=>none
 |.rK m,some (.c (.d (.lit x)))::r=>match Iu m x r with|some v=>some (lv v,[],[],nxt)|none=>none
 |.append sz,[some (.c s),some (.c x)]=>jk sz s x h nxt
 |.copy sz,[some (.c d),some (.c s)]=>match jx sz d s h with|some (i,u,au)=>some (lv (.int .i64 i),u,au,nxt)|none=>(match kF sz d s h with|some (i,u,au)=>some (lv (.int .i64 i),u,au,nxt)|none=>none)
 |.EI,[some (.c x)]=>match vB x h with|some (n,au)=>some (lv (.int .i64 n),[],au,nxt)|none=>none
 |.NX zero,[some (.c x),some (.c (.d (.lit (.int _ k))))]=>wS zero x k h nxt
 |.MH,[some (.c x),some (.c y)]=>match um x y h with|some au=>some (lv (.bool false),[],au,nxt)|none=>none
 |.call ro jT,f::vs=>uM call ro jT f vs h nxt
 |.makeMap ka va,[]=>some (.c (.om nxt),[(nxt,some (.map ka va [] 0))],[],nxt+1)
 |.lookup ka ks va zero ok,[some (.c m),some k]=>match ia ka ks va zero ok m k h with|some (v,au)=>some (v,[],au,nxt)|none=>none
 |.mapEntry ka ks va zero,[some (.c m),some k]=>match mU ka ks va zero m k h with|some (v,u,au)=>some (v,u,au,nxt)|none=>none
 |.sQ ka ks va n,[some (.c m),some k,some x]=>match rT ka ks va n m k x h with|some (u,au)=>some (.gB [],u,au,nxt)|none=>none
 |.sR ka ks,[some (.c m),some k]=>match rU ka ks m k h with|some (u,au)=>some (.gB [],u,au,nxt)|none=>none
 |.entryStore va n,[some (.c m),s,some x]=>match mV va n m s x h with|some (u,au)=>some (.gB [],u,au,nxt)|none=>none
 |_,_=>none
def jy(e:hZ):Option (Nat×Bool)->Option Bool
 |none=>some true
 |some (t,b)=>match bQ e t with|some (.c (.d (.lit (.bool x))))=>some (x==b)|some (.gB [])=>some false|_=>none
def put(e:hZ)(dst:Option Nat)(v:TV):hZ:=match dst with|some d=>(d,v)::e|none=>e
def drop(e:hZ)(dst:Option Nat):hZ:=put e dst (.gB [])
def re(call:Call):List l6->St->Option St
 |[],s=>some s
 |o::r,s=>
  match jy s.cR o.guard with
  |some true=>match bX call o.k (o.args.map (jB s.cR)) s.heap s.next with|some (v,u,_,n)=>re call r ⟨put s.cR o.dst v,u++s.heap,n,s.gh⟩|none=>none
  |some false=>re call r ⟨drop s.cR o.dst,s.heap,s.next,s.gh⟩
  |none=>none
def eL:Nat:=1000000
def jj(calls:Nat->Call)(aK:Nat):List l6->Nat->hZ->bh->Option (hZ×bh×List (List Nat×List Nat))
 |[],_,e,h=>some (e,h,[])
 |o::r,i,e,h=>
  match jy e o.guard with
  |some true=>
   match bX (calls i) o.k (o.args.map (jB e)) h (aK+eL*i)with
   |some (v,u,au,n)=>
    if n<=aK+eL*(i+1)then
     match jj calls aK r (i+1) (put e o.dst v) (u++h)with|some (e,h,tr)=>some (e,h,(au,u.map (·.1))::tr)|none=>none
    else none
   |none=>none
  |some false=>match jj calls aK r (i+1) (drop e o.dst) h with|some (e,h,tr)=>some (e,h,([],[])::tr)|none=>none
  |none=>none
def lT(a b:List Nat×List Nat):Bool:=a.2.all (fun i=>!b.1.contains i&&!b.2.contains i)&&b.2.all (fun i=>!a.1.contains i)
def DA(tr:List (List Nat×List Nat))(i j:Nat):Bool:=
 match tr[i]?,tr[j]?with
 |some a,some b=>lT a b||(match a with|([id],[])=>((tr.take j).drop (i+1)).all (fun x=>!x.2.contains id)|_=>false)
 |_,_=>true
def yK(tr:List (List Nat×List Nat))(dyn:List (Nat×Nat)):Bool:=dyn.all fun(i,j)=>if 1000<=j then DA tr i (j-1000)else match tr[i]?,tr[j]?with|some a,some b=>lT a b|_,_=>true
def eN:C->List Nat
 |.d _=>[]
 |.bP _ id _ _|.ep id _ _|.op id _|.om id=>[id]
 |.oL _ caps=>mG caps
where mG:List C->List Nat
 |[]=>[]
 |c::r=>eN c++mG r
def lR:TV->List Nat
 |.c x=>eN x
 |.agg cs=>eN.mG cs
 |.gB xs=>zy xs
where zy:List TV->List Nat
 |[]=>[]
 |x::r=>lR x++zy r
inductive RV where
 |tmp (t:Nat)
 |cell (t:Nat) (agg:Bool) (n:Nat)
 deriving Inhabited
def enter:List A->Nat->Nat->hZ×bh×Nat×List C
 |[],_,n=>([],[],n,[])
 |.d x::r,i,n=>let(e,h,m,l):=enter r (i+1) n;((i,.c (.d x))::e,h,m,l)
 |.agg xs::r,i,n=>let(e,h,m,l):=enter r (i+1) n;((i,.agg (xs.map .d))::e,h,m,l)
 |.mt t::r,i,n=>let(c,u,k):=kh n t;let(e,h,m,l):=enter r (i+1) k;((i,.c c)::e,u++h,m,c::l)
def sL(s:St):RV->Option TV
 |.tmp t=>bQ s.cR t
 |.cell t agg n=>match bQ s.cR t with|some (.c p)=>(match gT agg n p s.heap with|some (v,_)=>some v|none=>none)|_=>none
def p_(h:bh):TV->Option (R×List Nat)
 |.c c=>match dn h 300 c with|some (t,au,_)=>some (.c t,au)|none=>none
 |.agg cs=>match iB h 300 cs with|some (ts,au,_)=>some (.agg ts,au)|none=>none
 |.gB _=>none
def qw(h:bh):List TV->Option (List R×List Nat)
 |[]=>some ([],[])
 |v::vs=>match p_ h v,qw h vs with|some (r,a),some (rs,b)=>some (r::rs,a++b)|_,_=>none
def yg(h:bh):List C->Option (List T×List Nat)
 |[]=>some ([],[])
 |c::cs=>match dn h 300 c,yg h cs with|some (r,a,_),some (rs,b)=>some (r::rs,a++b)|_,_=>none
def II(ki:List RV)(s:St):Option (List R×List T):=
 match dz (ki.map (sL s))with
 |none=>none
 |some vs=>match qw s.heap vs,yg s.heap s.gh with|some (rs,a),some (ts,b)=>if(a++b).Nodup then some (rs,ts)else none|_,_=>none
structure Fn where
 np:Nat
 ntmps:Nat
 ki:List RV
 body:CC
 deriving Inhabited
def w_(k:FloatKind)(n:Nat):Prop:=(k.format.read n).isNaN=true
inductive RD(S:Nat->Prop)(w:World):D->Value->Prop
 |lit {v:Value} (h:eR v=true):RD S w (.lit v) v
 |nan {k:FloatKind} {n m:Nat} (hn:w_ k n) (hm:w_ k m):RD S w (.lit (.float k n)) (.float k m)
 |ex {k:FloatKind} {n:Nat}:RD S w (.lit (.complex k n 0)) (.float k n)
 |sl {sz:Nat} {rows:List (List D)} {b off cap:Nat} (f:Nat->Nat->Value) (hb:S b) (hsz:0<sz) (hcap:rows.length<=cap)
   (hrow:∀(i:Nat)(r:List D),rows[i]?=some r->r.length=sz)
   (hcell:∀(i:Nat)(r:List D),rows[i]?=some r->∀(j:Nat)(x:D),r[j]?=some x->w.cell? ⟨b,off+i*sz+j,none⟩=some (f i j))
   (hrd:∀(i:Nat)(r:List D),rows[i]?=some r->∀(j:Nat)(x:D),r[j]?=some x->RD S w x (f i j)):
   RD S w (.sl sz rows) (.slice (some ⟨b,off,none⟩) rows.length cap)
 |tL {sz:Nat} {a:Addr} (hsz:0<sz):RD S w (.sl sz []) (.slice (some a) 0 0)
 |pt {cells:List D} {b off:Nat} (f:Nat->Value) (hb:S b)
   (hcell:∀(j:Nat)(x:D),cells[j]?=some x->w.cell? ⟨b,off+j,none⟩=some (f j))
   (hrd:∀(j:Nat)(x:D),cells[j]?=some x->RD S w x (f j)):
   RD S w (.pt cells) (.pointer (some ⟨b,off,none⟩))
 |fn {g:FuncId} {caps:List D} {vs:Array Value} (hlen:caps.length=vs.size)
   (hrd:∀(j:Nat)(x:D),caps[j]?=some x->RD S w x (vs.getD j undef)):
   RD S w (.fn g caps) (.func (.func g) #[] vs)
structure fX(S:Nat->Prop)(w:World)(S':Nat->Prop)(w':World):Prop where
 sub:∀b,S b->S' b
 dW:∀b,S b->w'.heap[b]?=w.heap[b]?
theorem fX.refl(S:Nat->Prop)(w:World):fX S w S w:=⟨fun _ h=>h,fun _ _=>rfl⟩
theorem fX.trans{S S' S'':Nat->Prop}{w w' w'':World}(a:fX S w S' w')(b:fX S' w' S'' w''):fX S w S'' w'':=⟨fun x h=>b.sub x (a.sub x h),fun x h=>(b.dW x (a.sub x h)).trans (a.dW x h)⟩
theorem mh{w w':World}{b:Nat}(h:w'.heap[b]?=w.heap[b]?)(off:Nat):w'.cell? ⟨b,off,none⟩=w.cell? ⟨b,off,none⟩:=by simp[World.cell?,h]
theorem RD.mono{S S':Nat->Prop}{w w':World}(hs:fX S w S' w'){x:D}{v:Value}(h:RD S w x v):RD S' w' x v:=by induction h with|lit h=>exact .lit h|nan hn hm=>exact .nan hn hm|ex=>exact .ex|sl f hb hsz hcap hrow hcell hrd ih=>exact .sl f (hs.sub _ hb) hsz hcap hrow (fun i r hi j x hj=>(mh (hs.dW _ hb) _).trans (hcell i r hi j x hj)) ih|tL h=>exact .tL h|pt f hb hcell hrd ih=>exact .pt f (hs.sub _ hb) (fun j x hj=>(mh (hs.dW _ hb) _).trans (hcell j x hj)) ih|fn hlen hrd ih=>exact .fn hlen ih
structure gi where
 bT:Nat
 aK:Nat
 sz:Nat
 ext:Nat
 cap:Nat
 deriving Inhabited
inductive RC(S:Nat->Prop)(w:World)(Kn:Nat->Prop)(φ:Nat->gi):C->Value->Prop
 |d {x:D} {v:Value} (h:RD S w x v):RC S w Kn φ (.d x) v
 |bP {id off len cap addr:Nat} (hk:Kn id) (hcap:len<=cap) (haddr:0<cap->addr=(φ id).aK+off*(φ id).sz) (hext:addr+cap*(φ id).sz<=(φ id).ext) (hc:off+cap=(φ id).cap):
   RC S w Kn φ (.bP (φ id).sz id off len) (.slice (some ⟨(φ id).bT,addr,none⟩) len cap)
 |ep {id eU off:Nat} (hk:Kn id):RC S w Kn φ (.ep id eU off) (.pointer (some ⟨(φ id).bT,(φ id).aK+eU*(φ id).sz+off,none⟩))
 |op {id off:Nat} (hk:Kn id):RC S w Kn φ (.op id off) (.pointer (some ⟨(φ id).bT,(φ id).aK+off,none⟩))
 |oL {g:FuncId} {caps:List C} {vs:Array Value} (hlen:caps.length=vs.size)
   (hrc:∀(j:Nat)(x:C),caps[j]?=some x->RC S w Kn φ x (vs.getD j undef)):
   RC S w Kn φ (.oL g caps) (.func (.func g) #[] vs)
 |om {id:Nat} (hk:Kn id):RC S w Kn φ (.om id) (.map (some (φ id).bT))
structure ry(Kn:Nat->Prop)(φ:Nat->gi)(Kn':Nat->Prop)(φ':Nat->gi):Prop where
 sub:∀i,Kn i->Kn' i
 dW:∀i,Kn i->φ' i=φ i
theorem ry.refl(Kn:Nat->Prop)(φ:Nat->gi):ry Kn φ Kn φ:=⟨fun _ h=>h,fun _ _=>rfl⟩
theorem RC.mono{S S':Nat->Prop}{w w':World}{Kn Kn':Nat->Prop}{φ φ':Nat->gi}(hs:fX S w S' w')(hr:ry Kn φ Kn' φ'){x:C}{v:Value}
  (h:RC S w Kn φ x v):RC S' w' Kn' φ' x v:=by
 induction h with|d h=>exact .d (h.mono hs)|bP hk hcap haddr hext hc=>rw[<-hr.dW _ hk]at hext haddr hc|-;exact .bP (hr.sub _ hk) hcap haddr hext hc|ep hk=>rw[<-hr.dW _ hk];exact .ep (hr.sub _ hk)|op hk=>rw[<-hr.dW _ hk];exact .op (hr.sub _ hk)|oL hlen hrc ih=>exact .oL hlen ih|om hk=>rw[<-hr.dW _ hk];exact .om (hr.sub _ hk)
inductive e_(S:Nat->Prop)(w:World)(Kn:Nat->Prop)(φ:Nat->gi):TV->Value->Prop
 |c {x:C} {v:Value} (h:RC S w Kn φ x v):e_ S w Kn φ (.c x) v
 |agg {cs:List C} {aF:Array Value} (hlen:cs.length=aF.size) (h:∀(i:Nat)(x:C),cs[i]?=some x->RC S w Kn φ x (aF.getD i undef)):e_ S w Kn φ (.agg cs) (.agg aF)
 |gB {xs:List TV} {aF:Array Value} (hlen:xs.length=aF.size) (h:∀(i:Nat)(x:TV),xs[i]?=some x->e_ S w Kn φ x (aF.getD i undef)):e_ S w Kn φ (.gB xs) (.tuple aF)
theorem e_.mono{S S':Nat->Prop}{w w':World}{Kn Kn':Nat->Prop}{φ φ':Nat->gi}(hs:fX S w S' w')(hr:ry Kn φ Kn' φ'){x:TV}{v:Value}
  (h:e_ S w Kn φ x v):e_ S' w' Kn' φ' x v:=by
 induction h with|c h=>exact .c (h.mono hs hr)|agg hlen h=>exact .agg hlen fun i x hi=>(h i x hi).mono hs hr|gB hlen h ih=>exact .gB hlen ih
def one:Value->Bool
 |.agg _|.tuple _=>false
 |_=>true
theorem vo{v:Value}(h:eR v=true):one v=true:=by cases v<;>simp_all[eR,one]
theorem RD.one{S:Nat->Prop}{w:World}{x:D}{v:Value}(h:RD S w x v):one v=true:=by cases h with|lit h=>exact vo h|_=>rfl
theorem RC.one{S:Nat->Prop}{w:World}{Kn:Nat->Prop}{φ:Nat->gi}{x:C}{v:Value}(h:RC S w Kn φ x v):one v=true:=by cases h with|d h=>exact h.one|_=>rfl
theorem rW{v:Value}(h:one v=true):v.cells= #[v]:=by cases v<;>simp_all[Ev.one,Value.cells]
def nL(w:World)(b:Nat)(aF:Array Value):Prop:=∃t,w.heap[b]?=some (.cells aF t (0,0))
theorem nL.cell{w:World}{b:Nat}{aF:Array Value}(h:nL w b aF)(i:Nat):w.cell? ⟨b,i,none⟩=aF[i]?:=by obtain⟨t,h⟩:=h;simp[World.cell?,h]
theorem nL.lt{w:World}{b:Nat}{aF:Array Value}(h:nL w b aF):b<w.heap.size:=by obtain⟨t,h⟩:=h;exact(aY.1 h).1
theorem nL.mO{w w':World}{b:Nat}{aF:Array Value}(h:nL w b aF)(hs:w'.heap[b]?=w.heap[b]?):nL w' b aF:=by obtain⟨t,h⟩:=h;exact⟨t,hs.trans h⟩
def cK(S:Nat->Prop)(w:World)(sz:Nat)(get:Nat->Option Value)(aK:Nat)(rows:List (List D)):Prop:=
 (∀(i:Nat)(r:List D),rows[i]?=some r->r.length=sz)/\
 ∀(i:Nat)(r:List D),rows[i]?=some r->∀(j:Nat)(x:D),r[j]?=some x->∃v,get (aK+i*sz+j)=some v/\RD S w x v
def cn:Ob->Bool
 |.aF _ _|.box _|.map _ _ _ _|.cap _ _ _|.nst _ _=>true
 |_=>false
def FQ(S:Nat->Prop)(w:World)(sz:Nat)(rows:List (List D))(v:Value)(b:Nat):Prop:=∃(addr cap:Nat)(aF:Array Value),v=.slice (some ⟨b,addr,none⟩) rows.length cap/\0<sz/\nL w b aF/\rows.length<=cap/\addr+cap*sz<=aF.size/\cK S w sz (fun i=>aF[i]?) addr rows
inductive ze(S K:Nat->Prop)(w:World)(Kn:Nat->Prop)(φ:Nat->gi)(sz:Nat):ko->Value->Prop
 |nil:ze S K w Kn φ sz .nil (.slice none 0 0)
 |bi {rows:List (List D)} {v:Value} {b:Nat} (h:FQ S w sz rows v b) (hS:¬S b) (hK:¬K b):ze S K w Kn φ sz (.bi rows) v
 |kU {id len:Nat} {v:Value} (h:RC S w Kn φ (.bP sz id 0 len) v):ze S K w Kn φ sz (.kU id len) v
def xh:Value->Option Nat
 |.slice (some a) _ _=>some a.block
 |_=>none
def qH(w:World)(l:gi)(slots:List ko)(k x:Nat):Prop:=∃rows v,slots[k]?=some (.bi rows)/\w.cell? ⟨l.bT,l.aK+k,none⟩=some v/\xh v=some x
def Bw(ka:Bool)(k:List Value)(v:Value):Prop:=(∀x∈k,eR x=true)/\if ka then v=.agg k.toArray else k=[v]
def se(S:Nat->Prop)(w:World)(va:Bool)(ds:List D)(v:Value):Prop:=if va then∃aF:Array Value,v=.agg aF/\ds.length=aF.size/\∀(i:Nat)(x:D),ds[i]?=some x->RD S w x (aF.getD i undef)else∃x,ds=[x]/\RD S w x v
theorem se.mono{S S':Nat->Prop}{w w':World}(hs:fX S w S' w'){va:Bool}{ds:List D}{v:Value}(h:se S w va ds v):se S' w' va ds v:=by
 unfold se at h|-;split
 .rename_i hv;rw[if_pos hv]at h;obtain⟨aF,h1,h2,h3⟩:=h;exact⟨aF,h1,h2,fun i x hi=>(h3 i x hi).mono hs⟩
 .rename_i hv;rw[if_neg hv]at h;obtain⟨x,h1,h2⟩:=h;exact⟨x,h1,h2.mono hs⟩
inductive RO(S:Nat->Prop)(K:Nat->Prop)(w:World)(Kn:Nat->Prop)(φ:Nat->gi)(l:gi):Ob->Prop
 |aF {sz:Nat} {rows:List (List D)} {aF:Array Value} (hsz:0<sz) (hl:l.sz=sz) (hS:¬S l.bT) (hK:¬K l.bT) (ho:nL w l.bT aF) (hext:aF.size=l.ext)
   (hfit:l.aK+rows.length*sz<=l.ext) (hr:cK S w sz (fun i=>aF[i]?) l.aK rows) (hv:rows.length<=l.cap):RO S K w Kn φ l (.aF sz rows)
 |pD {sz:Nat} {rows:List (List D)} (hsz:0<sz) (hl:l.sz=sz) (hS:S l.bT)
   (hr:cK S w sz (fun i=>w.cell? ⟨l.bT,i,none⟩) l.aK rows):RO S K w Kn φ l (.pD sz rows)
 |box {cells:List C} {aF:Array Value} (hb:l.aK=0) (hS:¬S l.bT) (hK:¬K l.bT) (ho:nL w l.bT aF) (hlen:cells.length=aF.size)
   (hr:∀(i:Nat)(x:C),cells[i]?=some x->RC S w Kn φ x (aF.getD i undef)):RO S K w Kn φ l (.box cells)
 |nZ {cells:List D} (hb:l.aK=0) (hS:S l.bT)
   (hr:∀(i:Nat)(x:D),cells[i]?=some x->∃v,w.cell? ⟨l.bT,i,none⟩=some v/\RD S w x v):RO S K w Kn φ l (.nZ cells)
 |map {ka va:Bool} {es:List (List Value×List D×Nat)} {bN:Nat} {ms:Array MapEntry} (hS:¬S l.bT) (hK:¬K l.bT) (ho:w.heap[l.bT]?=some (.map ms bN)) (hlen:es.length=ms.size)
   (hr:∀(i:Nat)(e:List Value×List D×Nat)(m:MapEntry),es[i]?=some e->ms[i]?=some m->Bw ka e.1 m.key/\se S w va e.2.1 m.val/\m.born=e.2.2):RO S K w Kn φ l (.map ka va es bN)
 |cap {sz:Nat} {rows:List (List D)} {cp:Nat} {aF:Array Value} (hsz:0<sz) (hl:l.sz=sz) (hS:¬S l.bT) (hK:¬K l.bT) (ho:nL w l.bT aF) (hext:aF.size=l.ext)
   (hfit:l.aK+cp*sz<=l.ext) (hr:cK S w sz (fun i=>aF[i]?) l.aK rows) (hv:rows.length<=cp) (hc:l.cap=cp):RO S K w Kn φ l (.cap sz rows cp)
 |nst {sz:Nat} {slots:List ko} {aF:Array Value} (hsz:0<sz) (hl:l.sz=1) (hS:¬S l.bT) (hK:¬K l.bT) (ho:nL w l.bT aF) (hext:aF.size=l.ext)
   (hfit:l.aK+slots.length<=l.ext) (hr:∀(i:Nat)(s:ko),slots[i]?=some s->∃v,aF[l.aK+i]?=some v/\ze S K w Kn φ sz s v) (hv:slots.length<=l.cap):RO S K w Kn φ l (.nst sz slots)
theorem cK.mono{S S':Nat->Prop}{w w':World}(hs:fX S w S' w'){sz aK:Nat}{get:Nat->Option Value}{rows:List (List D)}(h:cK S w sz get aK rows):
  cK S' w' sz get aK rows:=
 ⟨h.1,fun i r hi j x hj=>let⟨v,hg,hr⟩:=h.2 i r hi j x hj;⟨v,hg,hr.mono hs⟩⟩
def N4(S':Nat->Prop)(w w':World)(l:gi)(o:Ob):Prop:=∀sz slots,o=.nst sz slots->∀k x,qH w l slots k x->w'.heap[x]?=w.heap[x]?/\¬S' x
theorem FQ.mono{S S':Nat->Prop}{w w':World}(hs:fX S w S' w'){sz b:Nat}{rows:List (List D)}{v:Value}(hb:w'.heap[b]?=w.heap[b]?)(h:FQ S w sz rows v b):FQ S' w' sz rows v b:=by obtain⟨a,c,aF,h1,h2,h3,h4,h5,h6⟩:=h;exact⟨a,c,aF,h1,h2,h3.mO hb,h4,h5,h6.mono hs⟩
theorem FQ.bT{S:Nat->Prop}{w:World}{sz b:Nat}{rows:List (List D)}{v:Value}(h:FQ S w sz rows v b):xh v=some b:=by obtain⟨a,c,aF,rfl,_⟩:=h;rfl
theorem FQ.bi{S:Nat->Prop}{w:World}{sz b:Nat}{rows:List (List D)}{v:Value}(h:FQ S w sz rows v b):∃aF,nL w b aF:=by obtain⟨a,c,aF,_,_,h,_⟩:=h;exact⟨aF,h⟩
theorem RO.mono{S S' K:Nat->Prop}{w w':World}{Kn Kn':Nat->Prop}{φ φ':Nat->gi}{l:gi}(hs:fX S w S' w')(hr:ry Kn φ Kn' φ'){o:Ob}
  (hsame:cn o=true->w'.heap[l.bT]?=w.heap[l.bT]?/\¬S' l.bT) (hkp:N4 S' w w' l o) (h:RO S K w Kn φ l o):RO S' K w' Kn' φ' l o:=by
 cases h with
 |aF hsz hl hS hK ho hext hfit hrr hv=>exact .aF hsz hl (hsame rfl).2 hK (ho.mO (hsame rfl).1) hext hfit (hrr.mono hs) hv
 |pD hsz hl hS hrr=>refine .pD hsz hl (hs.sub _ hS) ⟨hrr.1,fun i r hi j x hj=>?_⟩;obtain⟨v,hg,h⟩:=hrr.2 i r hi j x hj;exact⟨v,(mh (hs.dW _ hS) _).trans hg,h.mono hs⟩
 |box hb hS hK ho hlen hrr=>exact .box hb (hsame rfl).2 hK (ho.mO (hsame rfl).1) hlen fun i x hi=>(hrr i x hi).mono hs hr
 |nZ hb hS hrr=>refine .nZ hb (hs.sub _ hS) fun i x hi=>?_;obtain⟨v,hg,h⟩:=hrr i x hi;exact⟨v,(mh (hs.dW _ hS) _).trans hg,h.mono hs⟩
 |map hS hK ho hlen hrr=>exact .map (hsame rfl).2 hK ((hsame rfl).1.trans ho) hlen fun i e m hi hm=>let⟨h1,h2,h3⟩:=hrr i e m hi hm;⟨h1,h2.mono hs,h3⟩
 |cap hsz hl hS hK ho hext hfit hrr hv hc=>exact .cap hsz hl (hsame rfl).2 hK (ho.mO (hsame rfl).1) hext hfit (hrr.mono hs) hv hc
 |nst hsz hl hS hK ho hext hfit hrr hv=>refine .nst hsz hl (hsame rfl).2 hK (ho.mO (hsame rfl).1) hext hfit (fun i s hi=>?_) hv;obtain⟨v,h1,h2⟩:=hrr i s hi;refine⟨v,h1,?_⟩;cases h2 with|nil=>exact .nil|@bi rows _ b h hS hK=>obtain⟨k1,k2⟩:=hkp _ _ rfl i b ⟨rows,v,hi,(ho.cell _).trans h1,h.bT⟩;exact .bi (h.mono hs k1) k2 hK|kU h=>exact .kU (h.mono hs hr)
def Io(w0 w:World):Prop:=w.os=w0.os/\w.output=w0.output/\w.tape=w0.tape/\w0.drawn<=w.drawn
theorem Io.trans{a b c:World}(h:Io a b)(h2:Io b c):Io a c:=⟨h2.1.trans h.1,h2.2.1.trans h.2.1,h2.2.2.1.trans h.2.2.1,e9 h.2.2.2 h2.2.2.2⟩
theorem Io.refl(w:World):Io w w:=⟨rfl,rfl,rfl,am _⟩
structure FS(K:Nat->Prop)(w0 w:World):Prop where
 Ed:∀b,K b->b<w0.heap.size
 md:∀b,K b->w.heap[b]?=w0.heap[b]?
 sx:w0.heap.size<=w.heap.size
 Ad:∀a,a.block<w0.heap.size->w.frozen? a=w0.frozen? a
 bi:∀b aF,nL w0 b aF->∃arr',nL w b arr'/\arr'.size=aF.size
 io:Io w0 w
def Bx(S:Nat->Prop)(w:World):Prop:=∀g d,Ps g=some d->RD S w d (.pointer (some ⟨g,0,none⟩))
theorem Bx.mono{S S':Nat->Prop}{w w':World}(h:Bx S w)(hs:fX S w S' w'):Bx S' w':=fun g d hg=>(h g d hg).mono hs
def S9(w:World)(φ:Nat->gi)(hf:Nat->Option Ob):Prop:=∀i sz sl k x,hf i=some (.nst sz sl)->qH w (φ i) sl k x->
 (∀j b,hf j=some b->cn b=true->(φ j).bT≠x)/\∀j sz' sl' k',hf j=some (.nst sz' sl')->qH w (φ j) sl' k' x->j=i/\k'=k
structure Inv(S K:Nat->Prop)(w0:World)(Kn:Nat->Prop)(φ:Nat->gi)(hf:Nat->Option Ob)(w:World):Prop where
 sJ:∀b,S b->b<w.heap.size
 sk:∀b,S b->¬K b
 nh:FS K w0 w
 gF:∀id o,hf id=some o->Kn id/\RO S K w Kn φ (φ id) o
 nm:∀i j a b,hf i=some a->hf j=some b->cn a=true->cn b=true->i≠j->(φ i).bT≠(φ j).bT
 A5:Bx S w
 uJ:S9 w φ hf
def aZ(u:eg)(hf:Nat->Option Ob)(id:Nat):Option Ob:=match bQ u id with|some o=>o|none=>hf id
theorem gG{α:Type}(a b:List (Nat×α))(k:Nat):bQ (a++b) k=match bQ a k with|some x=>some x|none=>bQ b k:=by induction a with|nil=>rfl|cons p r ih=>obtain⟨i,x⟩:=p;simp only[List.cons_append,bQ];cases h:(i==k)<;>simp[ih]
theorem fz(u:eg)(h:bh):ao (u++h)=aZ u (ao h):=by funext id;simp only[ao,aZ,gG];cases bQ u id<;>simp
theorem eE(hf:Nat->Option Ob):aZ [] hf=hf:=rfl
theorem bD(i:Nat)(o:Option Ob)(u:eg)(hf:Nat->Option Ob)(id:Nat):aZ ((i,o)::u) hf id=if i=id then o else aZ u hf id:=by
 simp only[aZ,bQ];by_cases h:i=id
 .simp [h]
 .have e:(i==id)=false:=by simpa using h
  simp[h,e]
theorem dL(u v:eg)(hf:Nat->Option Ob):aZ (u++v) hf=aZ u (aZ v hf):=by funext id;simp only[aZ,gG];cases bQ u id<;>simp
theorem Inv.u6{S S' K:Nat->Prop}{w0 w w':World}{Kn Kn':Nat->Prop}{φ φ':Nat->gi}{hf hf':Nat->Option Ob}(h:Inv S K w0 Kn φ hf w)
  (hs:fX S w S' w') (hr:ry Kn φ Kn' φ') (hslt:∀b,S' b->b<w'.heap.size) (hsk:∀b,S' b->¬K b) (hfrm:FS K w0 w')
  (hobj:∀id o,hf' id=some o->(hf id=some o/\(cn o=true->w'.heap[(φ id).bT]?=w.heap[(φ id).bT]?/\¬S' (φ id).bT)/\N4 S' w w' (φ id) o)\/(Kn' id/\RO S' K w' Kn' φ' (φ' id) o))
  (hdist:∀i j a b,hf' i=some a->hf' j=some b->cn a=true->cn b=true->i≠j->(φ' i).bT≠(φ' j).bT) (hprv:S9 w' φ' hf'):
  Inv S' K w0 Kn' φ' hf' w' where
 sJ:=hslt
 sk:=hsk
 nh:=hfrm
 nm:=hdist
 A5:=h.A5.mono hs
 uJ:=hprv
 gF id o ho:=by
  rcases hobj id o ho with⟨h1,h2,h3⟩|h1
  .obtain ⟨hk,hro⟩:=h.gF id o h1;refine⟨hr.sub _ hk,?_⟩;rw[hr.dW _ hk];exact hro.mono hs hr h2 h3
  .exact h1
theorem qH.dW{w w':World}{l:gi}{sl:List ko}{k x:Nat}(h:w'.heap[l.bT]?=w.heap[l.bT]?):qH w' l sl k x<->qH w l sl k x:=by unfold qH;rw[show∀i,w'.cell? ⟨l.bT,i,none⟩=w.cell? ⟨l.bT,i,none⟩from fun i=>mh h i]
theorem RO.DV{S K:Nat->Prop}{w:World}{Kn:Nat->Prop}{φ:Nat->gi}{l:gi}{sz:Nat}{sl:List ko}{k x:Nat}(h:RO S K w Kn φ l (.nst sz sl))(hp:qH w l sl k x):
  ¬S x/\¬K x/\x<w.heap.size/\∃rows v,sl[k]?=some (.bi rows)/\w.cell? ⟨l.bT,l.aK+k,none⟩=some v/\FQ S w sz rows v x:=by
 cases h with
 |nst hsz hl hS hK ho hext hfit hr hv=>
  obtain⟨rows,v,h1,h2,h3⟩:=hp;obtain⟨v',h4,h5⟩:=hr k _ h1;obtain rfl:v'=v:=by rw[ho.cell,h4]at h2;exact aa h2
  cases h5 with
  |@bi _ _ b h6 hS hK=>
   obtain rfl:b=x:=by rw[h6.bT]at h3;exact aa h3
   obtain⟨aF,h7⟩:=h6.bi;exact⟨hS,hK,h7.lt,rows,v',h1,h2,h6⟩
theorem Inv.DV{S K:Nat->Prop}{w0 w:World}{Kn:Nat->Prop}{φ:Nat->gi}{hf:Nat->Option Ob}(h:Inv S K w0 Kn φ hf w){i sz k x:Nat}{sl:List ko}(hi:hf i=some (.nst sz sl))(hp:qH w (φ i) sl k x):
  ¬S x/\¬K x/\x<w.heap.size/\∃rows v,sl[k]?=some (.bi rows)/\w.cell? ⟨(φ i).bT,(φ i).aK+k,none⟩=some v/\FQ S w sz rows v x:=(h.gF i _ hi).2.DV hp
def N3(S':Nat->Prop)(w w':World)(φ φ':Nat->gi)(hf hf':Nat->Option Ob):Prop:=∀id sz sl,hf' id=some (.nst sz sl)->hf id=some (.nst sz sl)/\w'.heap[(φ id).bT]?=w.heap[(φ id).bT]?/\
 ∀k x,qH w (φ id) sl k x->w'.heap[x]?=w.heap[x]?/\¬S' x/\∀j b,hf' j=some b->cn b=true->(φ' j).bT≠x
theorem Inv.oV{S S' K:Nat->Prop}{w0 w w':World}{Kn Kn':Nat->Prop}{φ φ':Nat->gi}{hf hf':Nat->Option Ob}(h:Inv S K w0 Kn φ hf w)
  (hs:fX S w S' w') (hr:ry Kn φ Kn' φ') (hslt:∀b,S' b->b<w'.heap.size) (hsk:∀b,S' b->¬K b) (hfrm:FS K w0 w')
  (hobj:∀id o,hf' id=some o->(hf id=some o/\(cn o=true->w'.heap[(φ id).bT]?=w.heap[(φ id).bT]?/\¬S' (φ id).bT))\/(Kn' id/\RO S' K w' Kn' φ' (φ' id) o))
  (hdist:∀i j a b,hf' i=some a->hf' j=some b->cn a=true->cn b=true->i≠j->(φ' i).bT≠(φ' j).bT) (hrest:N3 S' w w' φ φ' hf hf'):
  Inv S' K w0 Kn' φ' hf' w':=by
 have e:∀id sz sl,hf' id=some (.nst sz sl)->φ' id=φ id:=fun id sz sl hi=>hr.dW _ (h.gF id _ (hrest id sz sl hi).1).1;have hpat:∀id sz sl k x,hf' id=some (.nst sz sl)->qH w' (φ' id) sl k x->qH w (φ id) sl k x:=fun id sz sl k x hi hp=>by rw[e id sz sl hi]at hp;exact(qH.dW (hrest id sz sl hi).2.1).1 hp
 refine h.u6 hs hr hslt hsk hfrm (fun id o ho=>?_) hdist fun i sz sl k x hi hp=>?_
 .rcases hobj id o ho with⟨h1,h2⟩|h1
  .exact .inl ⟨h1,h2,fun sz sl eo k x hp=>by subst eo;obtain⟨a,b,_⟩:=(hrest id sz sl ho).2.2 k x hp;exact⟨a,b⟩⟩
  .exact .inr h1
 .have hp':=hpat i sz sl k x hi hp;refine⟨((hrest i sz sl hi).2.2 k x hp').2.2,fun j sz' sl' k' hj hpj=>?_⟩;exact(h.uJ i sz sl k x (hrest i sz sl hi).1 hp').2 j sz' sl' k' (hrest j sz' sl' hj).1 (hpat j sz' sl' k' x hj hpj)
theorem gm{w:World}{o:Obj}{b:Nat}(h:b<w.heap.size):({w with heap:=w.heap.push o}:World).heap[b]?=w.heap[b]?:=by simp[Array.getElem?_push,Nat.ne_of_lt h]
theorem qW(w:World)(aF:Array Value)(t:TypeId):nL {w with heap:=w.heap.push (.cells aF t)} w.heap.size aF:=⟨t,by simp⟩
theorem CI(w:World)(aF:Array Value)(t:TypeId)(a:Addr):({w with heap:=w.heap.push (.cells aF t)}:World).frozen? a=w.frozen? a:=by
 unfold World.frozen?;rcases Nat.lt_trichotomy a.block w.heap.size with h|h|h
 .rw [gm h]
 .simp [h]
 .rw [gk (by simp;omega),gk (by omega)]
theorem FS.push{K:Nat->Prop}{w0 w:World}(h:FS K w0 w)(aF:Array Value)(t:TypeId):FS K w0 {w with heap:=w.heap.push (.cells aF t)}where
 Ed:=h.Ed
 md b hb:=(gm (dY (h.Ed b hb) h.sx)).trans (h.md b hb)
 sx:=by have:=h.sx;simp;omega
 Ad a ha:=(CI w aF t a).trans (h.Ad a ha)
 bi b a ha:=let⟨a',h1,h2⟩:=h.bi b a ha;⟨a',h1.mO (gm h1.lt),h2⟩
 io:=h.io
theorem FS.yh{K:Nat->Prop}{w0 w w':World}(h:FS K w0 w){c:Nat}(hother:∀b,b≠c->w'.heap[b]?=w.heap[b]?)
  (hsz:∀aF,nL w c aF->∃arr',nL w' c arr'/\arr'.size=aF.size) (b:Nat) (aF:Array Value) (ho:nL w0 b aF):∃arr',nL w' b arr'/\arr'.size=aF.size:=by
 obtain⟨a,h1,h2⟩:=h.bi b aF ho;by_cases e:b=c
 .subst e;obtain⟨a',h3,h4⟩:=hsz a h1;exact⟨a',h3,h4.trans h2⟩
 .exact ⟨a,h1.mO (hother b e),h2⟩
theorem FS.rj{K:Nat->Prop}{w0 w:World}(h:FS K w0 w)(n:Nat)(hn:w.drawn<=n):FS K w0 {w with drawn:=n}:=⟨h.Ed,h.md,h.sx,h.Ad,h.bi,h.io.1,h.io.2.1,h.io.2.2.1,e9 h.io.2.2.2 hn⟩
theorem fX.push{S:Nat->Prop}{w:World}(hs:∀b,S b->b<w.heap.size)(o:Obj):fX S w S {w with heap:=w.heap.push o}:=⟨fun _ h=>h,fun b h=>gm (hs b h)⟩
theorem fX.rj(S:Nat->Prop)(w:World)(n:Nat):fX S w S {w with drawn:=n}:=⟨fun _ h=>h,fun _ _=>rfl⟩
theorem Inv.x_{S K:Nat->Prop}{w0 w w':World}{Kn Kn':Nat->Prop}{φ φ':Nat->gi}{hf:Nat->Option Ob}(h:Inv S K w0 Kn φ hf w)(hr:ry Kn φ Kn' φ')(hs:∀b,b<w.heap.size->w'.heap[b]?=w.heap[b]?):N3 S w w' φ φ' hf hf:=fun id sz sl hi=>by
 obtain⟨_,h1⟩:=h.gF id _ hi;have hlt:(φ id).bT<w.heap.size:=by cases h1 with|nst _ _ _ _ ho=>exact ho.lt
 refine⟨hi,hs _ hlt,fun k x hp=>?_⟩;obtain⟨h2,_,h3,_⟩:=h.DV hi hp;refine⟨hs x h3,h2,fun j b hj hb=>?_⟩;rw[hr.dW j (h.gF j b hj).1];exact(h.uJ id sz sl k x hi hp).1 j b hj hb
theorem Inv.zW{S K:Nat->Prop}{w0 w w':World}{Kn:Nat->Prop}{φ:Nat->gi}{hf:Nat->Option Ob}(h:Inv S K w0 Kn φ hf w)(hs:∀b,b<w.heap.size->w'.heap[b]?=w.heap[b]?):N3 S w w' φ φ hf hf:=h.x_ (ry.refl _ _) hs
theorem Inv.rj{S K:Nat->Prop}{w0 w:World}{Kn:Nat->Prop}{φ:Nat->gi}{hf:Nat->Option Ob}(h:Inv S K w0 Kn φ hf w)(n:Nat)(hn:w.drawn<=n):
  Inv S K w0 Kn φ hf {w with drawn:=n}:=
 h.oV (fX.rj S w n) (ry.refl _ _) h.sJ h.sk (h.nh.rj n hn) (fun id o ho=>.inl ⟨ho,fun hown=>⟨rfl,by obtain⟨_,hro⟩:=h.gF id o ho;cases hro<;>simp_all[cn]⟩⟩) h.nm (h.zW fun _ _=>rfl)
theorem RO.bi{S K:Nat->Prop}{w:World}{Kn:Nat->Prop}{φ:Nat->gi}{l:gi}{o:Ob}(h:RO S K w Kn φ l o)(ho:cn o=true):
  ¬S l.bT/\¬K l.bT/\l.bT<w.heap.size:=by
 cases h with|aF hsz hl hS hK hown=>exact⟨hS,hK,hown.lt⟩|box hb hS hK hown=>exact⟨hS,hK,hown.lt⟩|map hS hK hmp=>exact⟨hS,hK,(aY.1 hmp).1⟩|cap hsz hl hS hK hown=>exact⟨hS,hK,hown.lt⟩|nst hsz hl hS hK hown=>exact⟨hS,hK,hown.lt⟩|_=>simp[cn]at ho
def ext(φ:Nat->gi)(i:Nat)(l:gi):Nat->gi:=fun j=>if j=i then l else φ j
theorem ga{Kn:Nat->Prop}{φ:Nat->gi}{i:Nat}(l:gi)(hi:¬Kn i):ry Kn φ (fun j=>Kn j\/j=i) (ext φ i l):=⟨fun _ h=>.inl h,fun j h=>by simp only[ext];rw[if_neg];rintro rfl;exact hi h⟩
abbrev FR(o:Ob):Prop:=∀sz sl(k:Nat)rows,o=.nst sz sl->sl[k]?≠some (ko.bi rows)
theorem Inv.Fo{S K:Nat->Prop}{w0 w w':World}{Kn:Nat->Prop}{φ:Nat->gi}{hf:Nat->Option Ob}(h:Inv S K w0 Kn φ hf w){i:Nat}{l:gi}{o:Ob}(hno:FR o)
  (hsame:∀b,b<w.heap.size->w'.heap[b]?=w.heap[b]?) (hl:cn o=true->∀id sz sl k x,hf id=some (.nst sz sl)->qH w (φ id) sl k x->l.bT≠x):S9 w' (ext φ i l) (aZ [(i,some o)] hf):=by
 have key:∀a sz sl k x,aZ [(i,some o)] hf a=some (.nst sz sl)->qH w' (ext φ i l a) sl k x->hf a=some (.nst sz sl)/\qH w (φ a) sl k x:=by
  intro a sz sl k x ha hp;rw[bD]at ha;by_cases e:i=a
  .rw [if_pos e]at ha;obtain rfl:=aa ha;obtain⟨rows,v,h1,_⟩:=hp;exact absurd h1 (hno _ _ _ _ rfl)
  .rw [if_neg e,eE]at ha;refine⟨ha,?_⟩;have e1:ext φ i l a=φ a:=by simp only[ext];rw[if_neg (fun q=>e q.symm)]
   rw[e1]at hp;obtain⟨_,h1⟩:=h.gF a _ ha;exact(qH.dW (hsame _ (by cases h1 with|nst _ _ _ _ ho=>exact ho.lt))).1 hp
 intro a sz sl k x ha hp;obtain⟨h1,h2⟩:=key a sz sl k x ha hp;obtain⟨p1,p2⟩:=h.uJ a sz sl k x h1 h2;refine⟨fun j b hj hown=>?_,fun j sz' sl' k' hj hpj=>?_⟩
 .rw [bD]at hj;by_cases e:i=j
  .rw [if_pos e]at hj;obtain rfl:=aa hj;simp only[ext];rw[if_pos e.symm];exact hl hown a sz sl k x h1 h2
  .rw [if_neg e,eE]at hj;simp only[ext];rw[if_neg (fun q=>e q.symm)];exact p1 j b hj hown
 .obtain ⟨h3,h4⟩:=key j sz' sl' k' x hj hpj;exact p2 j sz' sl' k' h3 h4
theorem Inv.Cy{S K:Nat->Prop}{w0 w w':World}{Kn:Nat->Prop}{φ:Nat->gi}{hf:Nat->Option Ob}(h:Inv S K w0 Kn φ hf w){id:Nat}{o:Ob}(ho:hf id=some o)(hsame:∀b,b<w.heap.size->w'.heap[b]?=w.heap[b]?):N4 S w w' (φ id) o:=by intro sz sl e k x hp;subst e;obtain⟨h1,_,h2,_⟩:=h.DV ho hp;exact⟨hsame x h2,h1⟩
theorem Inv.alloc{S K:Nat->Prop}{w0 w:World}{Kn:Nat->Prop}{φ:Nat->gi}{hf:Nat->Option Ob}(h:Inv S K w0 Kn φ hf w){i:Nat}(hi:¬Kn i)
  (aF:Array Value) (t:TypeId) (sz c:Nat) (o:Ob)
  (hro:RO S K {w with heap:=w.heap.push (.cells aF t)} (fun j=>Kn j\/j=i) (ext φ i ⟨w.heap.size,0,sz,aF.size,c⟩) ⟨w.heap.size,0,sz,aF.size,c⟩ o) (hno:FR o:=by intro _ _ _ _ e;cases e):
  Inv S K w0 (fun j=>Kn j\/j=i) (ext φ i ⟨w.heap.size,0,sz,aF.size,c⟩) (aZ [(i,some o)] hf) {w with heap:=w.heap.push (.cells aF t)}:=by
 refine h.u6 (fX.push h.sJ _) (ga _ hi) (fun b hb=>by have:=h.sJ b hb;simp;omega) h.sk (h.nh.push aF t) ?_ ?_ (h.Fo hno (fun b hb=>gm hb) fun _ id sz sl k x ha hp e=>by have:=(h.DV ha hp).2.2.1;simp only at e;omega)
 .intro id o' ho;rw[bD]at ho;by_cases e:i=id
  .subst e;rw[if_pos rfl]at ho;obtain rfl:o=o':=by simpa using ho
   refine .inr ⟨.inr rfl,?_⟩;simpa[ext]using hro
  .rw [if_neg e,eE]at ho;refine .inl ⟨ho,fun hown=>?_,h.Cy ho fun b hb=>gm hb⟩;obtain⟨_,h2⟩:=h.gF id o' ho;obtain⟨a,b,c⟩:=h2.bi hown;exact⟨gm c,a⟩
 .have key:∀j b,j≠i->hf j=some b->cn b=true->(ext φ i ⟨w.heap.size,0,sz,aF.size,c⟩ j).bT<w.heap.size:=by intro j b hj hb hown;obtain⟨_,h2⟩:=h.gF j b hb;simpa[ext,hj]using(h2.bi hown).2.2
  intro a b oa ob ha hb hoa hob hne;rw[bD]at ha hb;by_cases ea:i=a
  .by_cases eb:i=b
   .exact absurd (ea.symm.trans eb) hne
   .rw [if_neg eb,eE]at hb;have:=key b ob (fun e=>eb e.symm) hb hob;have e1:(ext φ i ⟨w.heap.size,0,sz,aF.size,c⟩ a).bT=w.heap.size:=by simp[ext,ea]
    omega
  .rw [if_neg ea,eE]at ha;have h1:=key a oa (fun e=>ea e.symm) ha hoa;by_cases eb:i=b
   .have e1:(ext φ i ⟨w.heap.size,0,sz,aF.size,c⟩ b).bT=w.heap.size:=by simp[ext,eb]
    omega
   .rw [if_neg eb,eE]at hb;have:=h.nm a b oa ob ha hb hoa hob hne;have e1:¬a=i:=fun e=>ea e.symm;have e2:¬b=i:=fun e=>eb e.symm;simpa[ext,e1,e2]using this
theorem A9{w:World}{o:Obj}(ho:∀c t r,o≠.cells c t r)(a:Addr):({w with heap:=w.heap.push o}:World).frozen? a=w.frozen? a:=by
 unfold World.frozen?;rcases Nat.lt_trichotomy a.block w.heap.size with h|h|h
 .rw [gm h]
 .rw [h];simp only[Array.getElem?_push_size,gk (am _)];cases o with|cells c t r=>exact absurd rfl (ho c t r)|_=>rfl
 .rw [gk (by simp;omega),gk (by omega)]
theorem Inv.NY{S K:Nat->Prop}{w0 w:World}{Kn:Nat->Prop}{φ:Nat->gi}{hf:Nat->Option Ob}(h:Inv S K w0 Kn φ hf w){i:Nat}(hi:¬Kn i)
  {ob:Obj} (hob:∀c t r,ob≠.cells c t r) (l:gi) (hl:l.bT=w.heap.size) (o:Ob)
  (hro:RO S K {w with heap:=w.heap.push ob} (fun j=>Kn j\/j=i) (ext φ i l) l o) (hno:FR o:=by intro _ _ _ _ e;cases e):
  Inv S K w0 (fun j=>Kn j\/j=i) (ext φ i l) (aZ [(i,some o)] hf) {w with heap:=w.heap.push ob}:=by
 have hfrm:FS K w0 {w with heap:=w.heap.push ob}:=
  ⟨h.nh.Ed,fun b hb=>(gm (dY (h.nh.Ed b hb) h.nh.sx)).trans (h.nh.md b hb),by have:=h.nh.sx;simp;omega,fun a ha=>(A9 hob a).trans (h.nh.Ad a ha),
   fun b a ha=>let⟨a',h1,h2⟩:=h.nh.bi b a ha;⟨a',h1.mO (gm h1.lt),h2⟩,h.nh.io⟩
 refine h.u6 (fX.push h.sJ _) (ga _ hi) (fun b hb=>by have:=h.sJ b hb;simp;omega) h.sk hfrm ?_ ?_ (h.Fo hno (fun b hb=>gm hb) fun _ id sz sl k x ha hp e=>by have:=(h.DV ha hp).2.2.1;omega)
 .intro id o' ho;rw[bD]at ho;by_cases e:i=id
  .subst e;rw[if_pos rfl]at ho;obtain rfl:o=o':=by simpa using ho
   refine .inr ⟨.inr rfl,?_⟩;simpa[ext]using hro
  .rw [if_neg e,eE]at ho;refine .inl ⟨ho,fun hown=>?_,h.Cy ho fun b hb=>gm hb⟩;obtain⟨_,h2⟩:=h.gF id o' ho;obtain⟨a,b,c⟩:=h2.bi hown;exact⟨gm c,a⟩
 .have key:∀j b,j≠i->hf j=some b->cn b=true->(ext φ i l j).bT<w.heap.size:=by intro j b hj hb hown;obtain⟨_,h2⟩:=h.gF j b hb;simpa[ext,hj]using(h2.bi hown).2.2
  intro a b oa ob ha hb hoa hob hne;rw[bD]at ha hb;by_cases ea:i=a
  .by_cases eb:i=b
   .exact absurd (ea.symm.trans eb) hne
   .rw [if_neg eb,eE]at hb;have:=key b ob (fun e=>eb e.symm) hb hob;have e1:(ext φ i l a).bT=w.heap.size:=by simp[ext,ea,hl]
    omega
  .rw [if_neg ea,eE]at ha;have h1:=key a oa (fun e=>ea e.symm) ha hoa;by_cases eb:i=b
   .have e1:(ext φ i l b).bT=w.heap.size:=by simp[ext,eb,hl]
    omega
   .rw [if_neg eb,eE]at hb;have:=h.nm a b oa ob ha hb hoa hob hne;have e1:¬a=i:=fun e=>ea e.symm;have e2:¬b=i:=fun e=>eb e.symm;simpa[ext,e1,e2]using this
theorem Inv.ll{S K:Nat->Prop}{w0 w:World}{Kn:Nat->Prop}{φ:Nat->gi}{hf hf':Nat->Option Ob}(h:Inv S K w0 Kn φ hf w)(hsub:∀id o,hf' id=some o->hf id=some o):
  Inv S K w0 Kn φ hf' w:=
 ⟨h.sJ,h.sk,h.nh,fun id o ho=>h.gF id o (hsub id o ho),fun i j a b ha hb=>h.nm i j a b (hsub _ _ ha) (hsub _ _ hb),h.A5,
  fun i sz sl k x hi hp=>let⟨a,b⟩:=h.uJ i sz sl k x (hsub _ _ hi) hp;⟨fun j b hj=>a j b (hsub _ _ hj),fun j sz' sl' k' hj=>b j sz' sl' k' (hsub _ _ hj)⟩⟩
theorem Inv.set{S K:Nat->Prop}{w0 w w':World}{Kn:Nat->Prop}{φ:Nat->gi}{hf:Nat->Option Ob}(h:Inv S K w0 Kn φ hf w){id:Nat}{o o':Ob}
  (ho:hf id=some o) (hown:cn o=true) (hother:∀b,b≠(φ id).bT->w'.heap[b]?=w.heap[b]?) (hsize:w'.heap.size=w.heap.size)
  (hfrz:∀a,w'.frozen? a=w.frozen? a) (hsz:∀aF,nL w (φ id).bT aF->∃arr',nL w' (φ id).bT arr'/\arr'.size=aF.size) (hio:Io w w') (hro:fX S w S w'->RO S K w' Kn φ (φ id) o') (hn:∀sz sl,o'≠.nst sz sl:=by intro _ _ e;cases e):
  fX S w S w'/\Inv S K w0 Kn φ (aZ [(id,some o')] hf) w':=by
 obtain⟨hk,h0⟩:=h.gF id o ho;obtain⟨hS,hK,hlt⟩:=h0.bi hown;have hs:fX S w S w':=⟨fun _ h=>h,fun b hb=>hother b (fun e=>hS (e▸hb))⟩
 have fix:∀i a,aZ [(id,some o')] hf i=some a->cn a=true->∃a',hf i=some a'/\cn a'=true:=by
  intro i a ha hoa;rw[bD]at ha;by_cases e:id=i
  .subst e;exact⟨o,ho,hown⟩
  .rw [if_neg e,eE]at ha;exact⟨a,ha,hoa⟩
 refine⟨hs,h.oV hs (ry.refl _ _) (fun b hb=>hsize▸h.sJ b hb) h.sk ?_ ?_ ?_ ?_⟩
 .exact ⟨h.nh.Ed,fun b hb=>(hother b (fun e=>hK (e▸hb))).trans (h.nh.md b hb),hsize▸h.nh.sx,fun a ha=>(hfrz a).trans (h.nh.Ad a ha),h.nh.yh hother hsz,h.nh.io.trans hio⟩
 .intro i x hx;rw[bD]at hx;by_cases e:id=i
  .subst e;rw[if_pos rfl]at hx;obtain rfl:o'=x:=by simpa using hx
   exact .inr ⟨hk,hro hs⟩
  .rw [if_neg e,eE]at hx;refine .inl ⟨hx,fun hox=>⟨hother _ ?_,((h.gF i x hx).2.bi hox).1⟩⟩;exact(h.nm i id x o hx ho hox hown (fun e'=>e e'.symm))
 .intro i j a b ha hb hoa hob hne;obtain⟨a',ha',hoa'⟩:=fix i a ha hoa;obtain⟨b',hb',hob'⟩:=fix j b hb hob;exact h.nm i j a' b' ha' hb' hoa' hob' hne
 .intro a sz sl ha;rw[bD]at ha;by_cases e:id=a
  .rw [if_pos e]at ha;exact absurd (aa ha) (hn _ _)
  .rw [if_neg e,eE]at ha;refine⟨ha,hother _ (h.nm a id _ o ha ho rfl hown fun q=>e q.symm),fun k x hp=>?_⟩;obtain⟨p1,_⟩:=h.uJ a sz sl k x ha hp;refine⟨hother x fun q=>p1 id o ho hown q.symm,(h.DV ha hp).1,fun j b hj hb=>?_⟩;obtain⟨b',hb',hob'⟩:=fix j b hj hb;exact p1 j b' hb' hob'
variable{P:Program}
def eM(P:Program)(t:TypeId):Option Nat:=(P.info? t).map (·.size)
def fA(P:Program)(t:TypeId):Option Bool:=(P.underlying t).map fun|.struct _|.array _ _=>true|_=>false
def gC(P:Program)(t:TypeId):Option (List Value):=match(P.info? t).bind (·.zero)with|some z=>if z.cells.toList.all eR then some z.cells.toList else none|none=>none
theorem lM(b off n:Nat):(⟨b,off,none⟩:Addr).add n=⟨b,off+n,none⟩:=by unfold Addr.add;split<;>simp_all
theorem fE{t:TypeId}{n:Nat}(h:eM P t=some n)(w:World):(sizeOf t).run P w=.ok n w:=by simp only[eM,aM]at h;obtain⟨i,hi,rfl⟩:=h;simp[sizeOf,typeInfo,hi]
theorem bv{t:TypeId}{d:TypeDesc}(h:P.underlying t=some d)(w:World):(underlying t).run P w=.ok d w:=by simp[underlying,h]
theorem tN{t:TypeId}{g:Bool}(h:fA P t=some g)(w:World):(isAgg t).run P w=.ok g w:=by simp only[fA,aM]at h;obtain⟨d,hd,rfl⟩:=h;simp only[isAgg,Sem.run_bind,bv hd,Result.andThen_ok];cases d<;>rfl
theorem kT{t:TypeId}{z:List Value}(h:gC P t=some z)(w:World):
  ∃v,(zeroValue t).run P w=.ok v w/\v.cells.toList=z/\∀x∈z,eR x=true:=by
 simp only[gC]at h;split at h
 .rename_i v hv;split at h
  .rename_i hp;obtain rfl:=aa h;obtain⟨i,hi,hz⟩:=fc.1 hv;exact⟨v,by simp[zeroValue,typeInfo,hi,hz],rfl,fun x hx=>aV.1 hp x hx⟩
  .simp at h
 .simp at h
section
variable{S K:Nat->Prop}{w0 w:World}{Kn:Nat->Prop}{φ:Nat->gi}{hf:Nat->Option Ob}
theorem Ec(agg:Bool)(n:Nat)(cells:List D):L_ agg n cells=Cu agg n (cells.map .d):=by
 unfold L_ Cu;cases agg
 .cases cells<;>rfl
 .simp [List.map_take]
theorem vY{t:TypeId}{agg:Bool}{n:Nat}(ha:fA P t=some agg)(hn:eM P t=some n){cells:List C}{b o:Nat}{v:TV}
  (hc:∀(j:Nat)(x:C),cells[j]?=some x->∃u,w.cell? ⟨b,o+j,none⟩=some u/\RC S w Kn φ x u) (h:Cu agg n cells=some v):
  ∃val,(loadVar t ⟨b,o,none⟩).run P w=.ok val w/\e_ S w Kn φ v val:=by
 unfold Cu at h;cases agg
 .simp only[aE,if_false]at h;cases cells with
  |nil=>simp at h
  |cons x r=>
   obtain rfl:TV.c x=v:=by simpa using h
   obtain⟨u,hu,hr⟩:=hc 0 x rfl;refine⟨u,?_,.c hr⟩;simp only[loadVar,Sem.run_bind,tN ha,Result.andThen_ok,aE,if_false,run_load];simp only[cY]at hu;simp[hu]
 .simp only[if_true]at h;split at h
  .rename_i hle;obtain rfl:=aa h
   have hcell:∀j,j<n->w.cell? ((⟨b,o,none⟩:Addr).add j)=some ((w.cell? ⟨b,o+j,none⟩).getD undef):=by
    intro j hj;have hj':j<cells.length:=by omega
    obtain⟨u,hu,_⟩:=hc j cells[j] (by simp[hj']);rw[lM,hu];rfl
   refine⟨.agg ((eJ n).map fun j=>(w.cell? ⟨b,o+j,none⟩).getD undef).toArray,?_,.agg (by simp;omega) ?_⟩
   .simp only[loadVar,Sem.run_bind,tN ha,Result.andThen_ok,if_true,fE hn,run_loadCells w _ n _ hcell,Sem.run_pure]
   .intro i x hi;rw[eK]at hi;split at hi
    .rename_i hin;obtain⟨u,hu,hr⟩:=hc i x hi;have:((eJ n).map fun j=>(w.cell? ⟨b,o+j,none⟩).getD undef).toArray.getD i undef=u:=by simp[kg,hin,hu]
     rw[this];exact hr
    .simp at hi
  .simp at h
theorem Bi{id eU:Nat}{sz:Nat}{rows:List (List D)}(hI:Inv S K w0 Kn φ hf w)(ho:hf id=some (.aF sz rows)\/hf id=some (.pD sz rows)){r:List D}(hr:rows[eU]?=some r)(off:Nat):
  (φ id).sz=sz/\r.length=sz/\∀(j:Nat)(x:C),((r.drop off).map C.d)[j]?=some x->∃u,w.cell? ⟨(φ id).bT,(φ id).aK+eU*(φ id).sz+off+j,none⟩=some u/\RC S w Kn φ x u:=by
 rcases ho with ho|ho
 .obtain ⟨hk,h0⟩:=hI.gF _ _ ho;cases h0 with|aF hsz hl hS hK hown hext hfit hrr=>refine⟨hl,hrr.1 _ _ hr,fun j x hj=>?_⟩;rw[aL,bL]at hj;obtain⟨d,hd,rfl⟩:=aM.1 hj;obtain⟨u,hu,hrd⟩:=hrr.2 eU r hr (off+j) d hd;refine⟨u,?_,.d hrd⟩;rw[hown.cell,hl,<-hu];show _=_;congr 1;omega
 .obtain ⟨hk,h0⟩:=hI.gF _ _ ho;cases h0 with|pD hsz hl hS hrr=>refine⟨hl,hrr.1 _ _ hr,fun j x hj=>?_⟩;rw[aL,bL]at hj;obtain⟨d,hd,rfl⟩:=aM.1 hj;obtain⟨u,hu,hrd⟩:=hrr.2 eU r hr (off+j) d hd;refine⟨u,?_,.d hrd⟩;rw[hl,<-hu];simp only[cS]
theorem xZ{t:TypeId}{agg:Bool}{n:Nat}(ha:fA P t=some agg)(hn:eM P t=some n){p:C}{H:bh}{v:TV}{au:List Nat}{pv:Value}
  (hI:Inv S K w0 Kn φ (ao H) w) (hp:RC S w Kn φ p pv) (h:gT agg n p H=some (v,au)):
  ∃val,(Instr.loadAt t pv).run P w=.ok val w/\e_ S w Kn φ v val:=by
 unfold gT at h;split at h
 .rename_i cells;split at h
  .rename_i v' hv;obtain⟨rfl,rfl⟩:v'=v/\[]=au:=by simpa using h
   rw[Ec]at hv;cases hp with
   |d hd=>cases hd with|pt f hb hcell hrd=>obtain⟨val,h1,h2⟩:=vY (Kn:=Kn) (φ:=φ) (S:=S) ha hn (cells:=cells.map .d) (fun j x hj=>by rw[aL]at hj;obtain⟨d,hd,rfl⟩:=aM.1 hj;exact⟨_,hcell j d hd,.d (hrd j d hd)⟩) hv;exact⟨val,by simp[Instr.loadAt,Instr.sureAddr,h1],h2⟩
  .simp at h
 .rename_i id eU off
  have key:∀sz rows,(ao H id=some (.aF sz rows)\/ao H id=some (.pD sz rows))->
    (match rows[eU]?with|some r=>(match L_ agg n (r.drop off)with|some v=>some (v,[id])|none=>none)|none=>none)=some (v,au)->
    ∃val,(Instr.loadAt t pv).run P w=.ok val w/\e_ S w Kn φ v val:=by
   intro sz rows ho h;split at h
   .rename_i r hr;split at h
    .rename_i v' hv;obtain⟨rfl,rfl⟩:v'=v/\[id]=au:=by simpa using h
     rw[Ec]at hv;obtain⟨hl,hrl,hc⟩:=Bi hI ho hr off;cases hp with|ep hk=>obtain⟨val,h1,h2⟩:=vY ha hn hc hv;exact⟨val,by simp[Instr.loadAt,Instr.sureAddr,h1],h2⟩
    .simp at h
   .simp at h
  split at h
  .rename_i sz rows ho;exact key sz rows (.inl ho) h
  .rename_i sz rows ho;exact key sz rows (.inr ho) h
  .simp at h
 .rename_i id off;split at h
  .rename_i cells ho;split at h
   .rename_i v' hv;obtain⟨rfl,rfl⟩:v'=v/\[id]=au:=by simpa using h
    obtain⟨hk,h0⟩:=hI.gF _ _ ho;cases h0 with
    |box hb hS hK hown hlen hrr=>cases hp with|op hk=>obtain⟨val,h1,h2⟩:=vY (S:=S) (Kn:=Kn) (φ:=φ) ha hn (cells:=cells.drop off) (b:=(φ id).bT) (o:=(φ id).aK+off) (fun j x hj=>by rw[bL]at hj;have hlt:=(aj.1 hj).1;rw[hlen]at hlt;refine⟨_,?_,hrr _ _ hj⟩;rw[hown.cell,hb];simp[kg,hlt]) hv;exact⟨val,by simp[Instr.loadAt,Instr.sureAddr,h1],h2⟩
   .simp at h
  .rename_i cells ho;split at h
   .rename_i v' hv;obtain⟨rfl,rfl⟩:v'=v/\[id]=au:=by simpa using h
    rw[Ec]at hv;obtain⟨hk,h0⟩:=hI.gF _ _ ho;cases h0 with
    |nZ hb hS hrr=>cases hp with|op hk=>obtain⟨val,h1,h2⟩:=vY (S:=S) (Kn:=Kn) (φ:=φ) ha hn (cells:=(cells.drop off).map .d) (b:=(φ id).bT) (o:=(φ id).aK+off) (fun j x hj=>by rw[aL,bL]at hj;obtain⟨d,hd,rfl⟩:=aM.1 hj;obtain⟨u,hu,hr⟩:=hrr _ _ hd;exact⟨u,by rw[hb,<-hu];simp,.d hr⟩) hv;exact⟨val,by simp[Instr.loadAt,Instr.sureAddr,h1],h2⟩
   .simp at h
  .simp at h
 .simp at h
theorem zB{w:World}{b:Nat}{old aF:Array Value}(h:nL w b old)(a:Addr):(w.setRow b aF).frozen? a=w.frozen? a:=by
 obtain⟨t,h⟩:=h;unfold World.frozen?;by_cases e:a.block=b
 .rw [e,setRow_heap w b old aF t _ h,h]
 .rw [setRow_other w b _ _ e]
theorem yi{w:World}{b:Nat}{old aF:Array Value}(h:nL w b old):nL (w.setRow b aF) b aF:=by obtain⟨t,h⟩:=h;exact⟨t,setRow_heap w b old aF t _ h⟩
theorem nH(v:Value):v.oneCell'=one v:=by cases v<;>rfl
theorem e_.cells{S:Nat->Prop}{w:World}{Kn:Nat->Prop}{φ:Nat->gi}{v:TV}{val:Value}{cs:List C}(h:e_ S w Kn φ v val)(hc:cellsOf v=some cs):
  cs.length=val.cells.size/\(∀(i:Nat)(x:C),cs[i]?=some x->RC S w Kn φ x (val.cells.getD i undef))/\∀x∈val.cells.toList,one x=true:=by
 cases h with
 |@c x v h=>
  obtain rfl:[x]=cs:=by simpa[cellsOf]using hc
  have e:=rW h.one;refine⟨by rw[e];rfl,fun i y hi=>?_,fun y hy=>?_⟩
  .cases i with
   |zero=>
    rw[e];obtain rfl:x=y:=by simpa using hi
    exact h
   |succ i=>simp at hi
  .rw [e]at hy;obtain rfl:y=val:=by simpa using hy
   exact h.one
 |@agg cs' aF hlen h=>
  obtain rfl:cs'=cs:=by simpa[cellsOf]using hc
  refine⟨hlen,h,fun y hy=>?_⟩;obtain⟨i,hi,rfl⟩:=ij hy;have hi':i<aF.size:=by simpa[Value.cells]using hi
  have:=(h i (cs'[i]'(by omega)) (by simp[hlen,hi'])).one;simpa[kg,hi',Value.cells]using this
 |gB hlen h=>simp[cellsOf]at hc
theorem Kp{t:TypeId}{n:Nat}(hn:eM P t=some n){b o:Nat}{aF:Array Value}{val:Value}(ho:nL w b aF)(hlen:val.cells.size=n)(hfit:o+n<=aF.size)
  (hone:∀x∈val.cells.toList,one x=true):
  (storeVar t ⟨b,o,none⟩ val).run P w=.ok () (w.setRow b (aF.toList.take o++val.cells.toList++aF.toList.drop (o+n)).toArray):=by
 obtain⟨ty,hb⟩:=ho;have:=run_storeCells_at P b o ty val.cells.toList 0 aF w hb (by simp;omega) (fun v hv=>by rw[nH];exact hone v hv);have e:val.cells.toList.length=n:=by simpa using hlen
 rw[e]at this;simp only[cY]at this;simp only[storeVar,Sem.run_bind,fE hn,Result.andThen_ok,hlen,ne_eq,not_true_eq_false,if_false];exact this
theorem jt{α:Type}(l:List α)(off:Nat)(p:List α)(hfit:off+p.length<=l.length)(i:Nat):
  (aU l off p)[i]?=if i<off then l[i]?else if i<off+p.length then p[i-off]?else l[i]?:=by
 unfold aU;by_cases h1:i<off
 .rw [List.append_assoc,bg (by simp;omega)];simp[h1]
 .by_cases h2:i<off+p.length
  .rw [bg (by simp;omega),bl (by simp;omega)];simp only[gM,h1,h2,if_true,if_false];congr 1;omega
  .rw [bl (by simp;omega)];simp only[List.length_append,gM,bL,h1,h2,if_false];congr 1;omega
theorem eA{α:Type}(l:List α)(off:Nat)(p:List α)(hfit:off+p.length<=l.length):(aU l off p).length=l.length:=by unfold aU;simp;omega
theorem MF{aF:Array Value}{vs:List Value}{o n:Nat}(hn:vs.length=n):aF.toList.take o++vs++aF.toList.drop (o+n)=aU aF.toList o vs:=by rw[<-hn];rfl
end
section
variable{S K:Nat->Prop}{w0 w:World}{Kn:Nat->Prop}{φ:Nat->gi}{hf:Nat->Option Ob}
theorem RD.zS{sz:Nat}{rows:List (List D)}{b off len cap:Nat}(hb:S b)(hsz:0<sz)(hlen:rows.length=len)(hcap:len<=cap)
  (h:cK S w sz (fun i=>w.cell? ⟨b,i,none⟩) off rows):RD S w (.sl sz rows) (.slice (some ⟨b,off,none⟩) len cap):=by
 subst hlen;refine .sl (fun i j=>(w.cell? ⟨b,off+i*sz+j,none⟩).getD undef) hb hsz hcap h.1 (fun i r hi j x hj=>?_) (fun i r hi j x hj=>?_)
 .obtain ⟨v,hv,_⟩:=h.2 i r hi j x hj;simp only at hv;rw[hv];rfl
 .obtain ⟨v,hv,hr⟩:=h.2 i r hi j x hj;simp only at hv;rw[hv];exact hr
theorem RD.ye{cells:List D}{b off:Nat}(hb:S b)(h:∀(j:Nat)(x:D),cells[j]?=some x->∃v,w.cell? ⟨b,off+j,none⟩=some v/\RD S w x v):
  RD S w (.pt cells) (.pointer (some ⟨b,off,none⟩)):=by
 refine .pt (fun j=>(w.cell? ⟨b,off+j,none⟩).getD undef) hb (fun j x hj=>?_) (fun j x hj=>?_)
 .obtain ⟨v,hv,_⟩:=h j x hj;rw[hv];rfl
 .obtain ⟨v,hv,hr⟩:=h j x hj;rw[hv];exact hr
def rI(w:World)(l:gi):List ko->Nat->List Nat
 |[],_=>[]
 |.bi _::r,k=>(match(w.cell? ⟨l.bT,l.aK+k,none⟩).bind xh with|some b=>b::rI w l r (k+1)|none=>rI w l r (k+1))
 |_::r,k=>rI w l r (k+1)
def gJ(w:World)(φ:Nat->gi)(hf:Nat->Option Ob)(i:Nat):List Nat:=(φ i).bT::(match hf i with|some (.nst _ sl)=>rI w (φ i) sl 0|_=>[])
theorem B1{l:gi}{x:Nat}:∀{sl:List ko}{k0:Nat},x∈rI w l sl k0<->∃k rows v,sl[k]?=some (.bi rows)/\w.cell? ⟨l.bT,l.aK+(k0+k),none⟩=some v/\xh v=some x:=by
 intro sl;induction sl with
 |nil=>intro k0;simp[rI]
 |cons s sl ih=>
  intro k0;have tl:(∃k rows v,sl[k]?=some (.bi rows)/\w.cell? ⟨l.bT,l.aK+(k0+1+k),none⟩=some v/\xh v=some x)->∃k rows v,(s::sl)[k]?=some (.bi rows)/\w.cell? ⟨l.bT,l.aK+(k0+k),none⟩=some v/\xh v=some x:=by rintro⟨k,rows,v,h1,h2,h3⟩;exact⟨k+1,rows,v,by simpa using h1,by rw[<-h2,show k0+(k+1)=k0+1+k by omega],h3⟩
  have key:(∀rows,s≠.bi rows)->((∃k rows v,(s::sl)[k]?=some (.bi rows)/\w.cell? ⟨l.bT,l.aK+(k0+k),none⟩=some v/\xh v=some x)->∃k rows v,sl[k]?=some (.bi rows)/\w.cell? ⟨l.bT,l.aK+(k0+1+k),none⟩=some v/\xh v=some x):=by rintro hs ⟨k,rows,v,h1,h2,h3⟩;cases k with|zero=>exact absurd (by simpa using h1) (hs rows)|succ k=>exact⟨k,rows,v,by simpa using h1,by rw[<-h2,show k0+(k+1)=k0+1+k by omega],h3⟩
  cases s with
  |nil=>exact ih.trans ⟨tl,key fun _ e=>by cases e⟩
  |kU id len=>exact ih.trans ⟨tl,key fun _ e=>by cases e⟩
  |bi rows0=>
   simp only[rI];constructor
   .intro hx;split at hx
    .rename_i b hb;rcases aJ.1 hx with rfl|hx
     .obtain ⟨v,h1,h2⟩:=fc.1 hb;exact⟨0,rows0,v,rfl,h1,h2⟩
     .exact tl (ih.1 hx)
    .exact tl (ih.1 hx)
   .rintro ⟨k,rows,v,h1,h2,h3⟩;cases k with
    |zero=>
     have e:(w.cell? ⟨l.bT,l.aK+k0,none⟩).bind xh=some x:=by rw[show l.aK+k0=l.aK+(k0+0)from rfl,h2];exact h3
     rw[e];simp
    |succ k=>
     have hm:=ih.2 ⟨k,rows,v,by simpa using h1,by rw[<-h2,show k0+(k+1)=k0+1+k by omega],h3⟩;split
     .exact aC _ hm
     .exact hm
theorem Fc{l:gi}{x:Nat}{sl:List ko}:x∈rI w l sl 0<->∃k,qH w l sl k x:=by rw[B1];simp only[bk];exact Iff.rfl
theorem DR{l:gi}:∀{sl:List ko}{k0:Nat},(∀k k' x rows rows' v v',sl[k]?=some (.bi rows)->w.cell? ⟨l.bT,l.aK+(k0+k),none⟩=some v->xh v=some x->sl[k']?=some (.bi rows')->w.cell? ⟨l.bT,l.aK+(k0+k'),none⟩=some v'->xh v'=some x->k=k')->(rI w l sl k0).Nodup:=by
 intro sl;induction sl with
 |nil=>intro k0 _;exact nf
 |cons s sl ih=>
  intro k0 h;have h':(rI w l sl (k0+1)).Nodup:=ih fun k k' x rows rows' v v' h1 h2 h3 h4 h5 h6=>by have:=h (k+1) (k'+1) x rows rows' v v' (by simpa using h1) (by rw[<-h2,show k0+(k+1)=k0+1+k by omega]) h3 (by simpa using h4) (by rw[<-h5,show k0+(k'+1)=k0+1+k' by omega]) h6;omega
  cases s with
  |nil=>exact h'
  |kU id len=>exact h'
  |bi rows0=>
   simp only[rI];split
   .rename_i b hb;refine hP.2 ⟨fun hm=>?_,h'⟩;obtain⟨v0,h1,h2⟩:=fc.1 hb;obtain⟨k,rows,v,h3,h4,h5⟩:=B1.1 hm;have:=h 0 (k+1) b rows0 rows v0 v rfl h1 h2 (by simpa using h3) (by rw[<-h4,show k0+(k+1)=k0+1+k by omega]) h5;omega
   .exact h'
theorem dP{i x:Nat}:x∈gJ w φ hf i<->x=(φ i).bT\/∃sz sl k,hf i=some (.nst sz sl)/\qH w (φ i) sl k x:=by
 unfold gJ;rw[aJ];refine or_congr_right ?_;split
 .rename_i sz sl h;rw[Fc];exact⟨fun⟨k,hk⟩=>⟨sz,sl,k,h,hk⟩,fun⟨_,_,k,h1,hk⟩=>by rw[h]at h1;cases h1;exact⟨k,hk⟩⟩
 .rename_i h;exact⟨fun hx=>by simp at hx,fun⟨sz,sl,k,h1,_⟩=>(h sz sl h1).elim⟩
theorem og(hI:Inv S K w0 Kn φ hf w){i:Nat}{o:Ob}(ho:hf i=some o)(hown:cn o=true){x:Nat}(hx:x∈gJ w φ hf i):¬S x/\¬K x/\x<w.heap.size:=by
 rcases dP.1 hx with rfl|⟨sz,sl,k,h1,h2⟩
 .exact (hI.gF i o ho).2.bi hown
 .obtain ⟨a,b,c,_⟩:=hI.DV h1 h2;exact⟨a,b,c⟩
theorem mj(hI:Inv S K w0 Kn φ hf w){i j:Nat}{a b:Ob}(hi:hf i=some a)(hj:hf j=some b)(ha:cn a=true)(hb:cn b=true)(hne:i≠j){x:Nat}(hx:x∈gJ w φ hf i):x∉gJ w φ hf j:=by
 intro hy;rcases dP.1 hx with rfl|⟨sz,sl,k,h1,h2⟩<;>rcases dP.1 hy with e|⟨sz',sl',k',h3,h4⟩
 .exact hI.nm i j a b hi hj ha hb hne e
 .exact (hI.uJ j sz' sl' k' _ h3 h4).1 i a hi ha rfl
 .subst e;exact(hI.uJ i sz sl k _ h1 h2).1 j b hj hb rfl
 .exact hne (((hI.uJ i sz sl k x h1 h2).2 j sz' sl' k' h3 h4).1).symm
theorem EM(hI:Inv S K w0 Kn φ hf w){i:Nat}{o:Ob}(ho:hf i=some o)(hown:cn o=true):(gJ w φ hf i).Nodup:=by
 unfold gJ;refine hP.2 ⟨fun hm=>?_,?_⟩
 .split at hm
  .rename_i sz sl h;obtain⟨k,hk⟩:=Fc.1 hm;exact(hI.uJ i sz sl k _ h hk).1 i o ho hown rfl
  .simp at hm
 .split
  .rename_i sz sl h;refine DR fun k k' x rows rows' v v' h1 h2 h3 h4 h5 h6=>?_;rw[bk]at h2 h5;exact(((hI.uJ i sz sl k x h ⟨rows,v,h1,h2,h3⟩).2 i sz sl k' h ⟨rows',v',h4,h5,h6⟩).2).symm
  .exact nf
theorem j9(i:Nat):(φ i).bT∈gJ w φ hf i:=dP.2 (.inl rfl)
def SB(S:Nat->Prop)(w:World)(φ:Nat->gi)(hf:Nat->Option Ob)(au:List Nat)(b:Nat):Prop:=S b\/∃i∈au,b∈gJ w φ hf i
theorem SB.zO(a b:List Nat)(h:∀i∈a,i∈b):fX (SB S w φ hf a) w (SB S w φ hf b) w:=⟨fun _ hb=>hb.imp id fun⟨i,hi,e⟩=>⟨i,h i hi,e⟩,fun _ _=>rfl⟩
theorem SB.sH(b:List Nat):fX S w (SB S w φ hf b) w:=⟨fun _ hb=>.inl hb,fun _ _=>rfl⟩
theorem FQ.rd{sz b:Nat}{rows:List (List D)}{v:Value}(h:FQ S w sz rows v b){T:Nat->Prop}(hT:fX S w T w)(hb:T b):RD T w (.sl sz rows) v:=by obtain⟨addr,cap,aF,rfl,h2,h3,h4,_,h6⟩:=h;exact .zS hb h2 rfl h4 ⟨h6.1,fun i r hi j x hj=>let⟨v,hv,hr⟩:=h6.2 i r hi j x hj;⟨v,(h3.cell _).trans hv,hr.mono hT⟩⟩
theorem Cj{l:gi}{szi:Nat}{slots:List ko}(h:RO S K w Kn φ l (.nst szi slots)){rows:List (List D)}(hd:qu szi slots=some rows){T:Nat->Prop}(hT:fX S w T w)(hp:∀k x,qH w l slots k x->T x):
  rows.length=slots.length/\cK T w 1 (fun i=>w.cell? ⟨l.bT,i,none⟩) l.aK rows:=by
 have key:∀(slots:List ko)(rows:List (List D)),qu szi slots=some rows->rows.length=slots.length/\∀(i:Nat)(r:List D),rows[i]?=some r->∃s x,slots[i]?=some s/\HN szi s=some x/\r=[x]:=by
  intro slots;induction slots with
  |nil=>intro rows h;obtain rfl:=aa h;exact⟨rfl,fun i r hi=>by simp at hi⟩
  |cons s slots ih=>
   intro rows h;simp only[qu]at h;split at h
   .rename_i x l hx hl;obtain rfl:=aa h;obtain⟨h1,h2⟩:=ih l hl;refine⟨by simp[h1],fun i r hi=>?_⟩;cases i with|zero=>exact⟨s,x,rfl,hx,(by simpa using hi:[x]=r).symm⟩|succ i=>obtain⟨s',x',e1,e2,e3⟩:=h2 i r (by simpa using hi);exact⟨s',x',by simpa using e1,e2,e3⟩
   .simp at h
 obtain⟨k1,k2⟩:=key slots rows hd;cases h with
 |nst hsz hl hS hK ho hext hfit hr hv=>
  refine⟨k1,fun i r hi=>by obtain⟨_,_,_,_,rfl⟩:=k2 i r hi;rfl,fun i r hi j x hj=>?_⟩;obtain⟨s,y,e1,e2,rfl⟩:=k2 i r hi;cases j with
  |succ j=>simp at hj
  |zero=>
   obtain rfl:y=x:=by simpa using hj
   obtain⟨v,h1,h2⟩:=hr i s e1;refine⟨v,by rw[ld,cY];exact(ho.cell _).trans h1,?_⟩;cases h2 with|nil=>obtain rfl:=aa e2;exact .lit rfl|@bi rows' _ b h3 _ _=>obtain rfl:=aa e2;exact h3.rd hT (hp i b ⟨rows',v,e1,(ho.cell _).trans h1,h3.bT⟩)|kU _=>simp[HN]at e2
theorem nE{id sz:Nat}{rows:List (List D)}(hI:Inv S K w0 Kn φ hf w)(ho:hf id=some (.aF sz rows)\/hf id=some (.pD sz rows)):
  0<sz/\(φ id).sz=sz/\cK S w sz (fun i=>w.cell? ⟨(φ id).bT,i,none⟩) (φ id).aK rows:=by
 rcases ho with ho|ho
 .obtain ⟨_,h0⟩:=hI.gF _ _ ho;cases h0 with|aF hsz hl hS hK hown hext hfit hrr=>exact⟨hsz,hl,hrr.1,fun i r hi j x hj=>let⟨v,hv,hr⟩:=hrr.2 i r hi j x hj;⟨v,(hown.cell _).trans hv,hr⟩⟩
 .obtain ⟨_,h0⟩:=hI.gF _ _ ho;cases h0 with|pD hsz hl hS hrr=>exact⟨hsz,hl,hrr⟩
theorem cK.sub{sz aK:Nat}{get:Nat->Option Value}{rows:List (List D)}(h:cK S w sz get aK rows)(off len:Nat):
  cK S w sz get (aK+off*sz) ((rows.drop off).take len):=by
 have key:∀i(r:List D),((rows.drop off).take len)[i]?=some r->rows[off+i]?=some r:=by
  intro i r hi;rw[eK]at hi;split at hi
  .rwa [bL]at hi
  .simp at hi
 refine⟨fun i r hi=>h.1 _ _ (key i r hi),fun i r hi j x hj=>?_⟩;obtain⟨v,hv,hr⟩:=h.2 _ _ (key i r hi) j x hj;refine⟨v,?_,hr⟩;rw[<-hv];congr 1;rw[Nat.add_mul];omega
theorem cK.w8{sz aK addr:Nat}{get:Nat->Option Value}{rows:List (List D)}(h:cK S w sz get aK rows)(off len:Nat)(ha:0<len->addr=aK+off*sz):
  cK S w sz get addr ((rows.drop off).take len):=by
 cases len with|zero=>exact⟨fun i r hi=>by simp at hi,fun i r hi=>by simp at hi⟩|succ n=>rw[ha (Nat.succ_pos _)];exact h.sub off _
theorem BD{sz id off len:Nat}{rows:List (List D)}{v:Value}{szo:Nat}(hI:Inv S K w0 Kn φ hf w)(hc:RC S w Kn φ (.bP sz id off len) v)
  (ho:hf id=some (.aF szo rows)\/hf id=some (.pD szo rows)) (hle:off+len<=rows.length) {T:Nat->Prop} (hT:fX S w T w) (hb:T (φ id).bT):
  RD T w (.sl sz ((rows.drop off).take len)) v:=by
 obtain⟨hsz,hl,hr⟩:=nE hI ho;subst hl;cases hc with|bP hk hcap haddr hext=>exact .zS hb hsz (by simp;omega) hcap ((hr.w8 off len fun h=>haddr (by omega)).mono hT)
theorem Ke{id eU off sz:Nat}{rows:List (List D)}{r:List D}{v:Value}(hI:Inv S K w0 Kn φ hf w)(hc:RC S w Kn φ (.ep id eU off) v)
  (ho:hf id=some (.aF sz rows)\/hf id=some (.pD sz rows)) (hr:rows[eU]?=some r) {T:Nat->Prop} (hT:fX S w T w) (hb:T (φ id).bT):
  RD T w (.pt (r.drop off)) v:=by
 obtain⟨hsz,hl,hrr⟩:=nE hI ho;cases hc with|ep hk=>refine .ye hb fun j x hj=>?_;rw[bL]at hj;obtain⟨u,hu,hd⟩:=hrr.2 eU r hr (off+j) x hj;refine⟨u,?_,hd.mono hT⟩;rw[<-hu,hl];simp only[cS]
theorem zL{H:bh}(hI:Inv S K w0 Kn φ (ao H) w)(n:Nat)(c:C)(x:D)(au:List Nat)(v:Value)(hleaf:match c with|.op _ _|.oL _ _=>False|_=>True)
  (h:eu H n c=some (x,au)) (hc:RC S w Kn φ c v):RD (SB S w φ (ao H) au) w x v:=by
 cases c with
 |d y=>simp only[eu,bS,Prod.mk.injEq]at h;obtain⟨rfl,rfl⟩:=h;cases hc with|d hd=>exact hd.mono (SB.sH _)
 |bP sz id off len=>
  simp only[eu]at h
  have key:∀szo rows,(ao H id=some (.aF szo rows)\/ao H id=some (.pD szo rows))->(if off+len<=rows.length then some (D.sl sz ((rows.drop off).take len),[id])else none)=some (x,au)->RD (SB S w φ (ao H) au) w x v:=by
   intro szo rows ho h;split at h
   .rename_i hle;obtain⟨rfl,rfl⟩:=ad (aa h);exact BD hI hc ho hle (SB.sH _) (.inr ⟨_,by simp,j9 _⟩)
   .simp at h
  split at h
  .exact key _ _ (.inl (by assumption)) h
  .exact key _ _ (.inr (by assumption)) h
  .rename_i szi slots ho;split at h
   .rename_i he;obtain⟨rfl,rfl⟩:=he;split at h
    .rename_i rows hd;obtain⟨rfl,rfl⟩:=ad (aa h);obtain⟨_,hro⟩:=hI.gF _ _ ho;obtain⟨h1,h2⟩:=Cj hro hd (SB.sH (hf:=ao H) (φ:=φ) [id]) fun k x hp=>.inr ⟨id,by simp,dP.2 (.inr ⟨szi,slots,k,ho,hp⟩)⟩;cases hro with
     |nst hsz hl=>
      cases hc with
      |bP hk hcap haddr hext=>rw[hl];refine .zS (.inr ⟨id,by simp,j9 id⟩) Nat.one_pos h1 hcap ?_;cases hs:slots with|nil=>have:rows=[]:=List.length_eq_zero_iff.1 (by rw[h1,hs];rfl);rw[this];exact⟨fun i r hi=>by simp at hi,fun i r hi=>by simp at hi⟩|cons s r=>rw[hs]at hcap;have:=haddr (by simp at hcap;omega);rw[this,hl,gP,cY];exact h2
    .simp at h
   .simp at h
  .simp at h
 |ep id eU off=>
  simp only[eu]at h
  have key:∀szo rows,(ao H id=some (.aF szo rows)\/ao H id=some (.pD szo rows))->
    (match rows[eU]?with|some r=>if off<=r.length then some (D.pt (r.drop off),[id])else none|none=>none)=some (x,au)->RD (SB S w φ (ao H) au) w x v:=by
   intro szo rows ho h;split at h
   .rename_i r hr;split at h
    .obtain ⟨rfl,rfl⟩:=ad (aa h);exact Ke hI hc ho hr (SB.sH _) (.inr ⟨_,by simp,j9 _⟩)
    .simp at h
   .simp at h
  split at h
  .exact key _ _ (.inl (by assumption)) h
  .exact key _ _ (.inr (by assumption)) h
  .simp at h
 |op id off=>exact hleaf.elim
 |oL f caps=>exact hleaf.elim
 |om id=>cases n<;>simp[eu]at h
theorem uw{H:bh}(hI:Inv S K w0 Kn φ (ao H) w):∀n,
  (∀c x au v,eu H n c=some (x,au)->RC S w Kn φ c v->RD (SB S w φ (ao H) au) w x v)/\
  (∀cs xs au,fN H n cs=some (xs,au)->∀(get:Nat->Option Value),(∀(i:Nat)(c:C),cs[i]?=some c->∃v,get i=some v/\RC S w Kn φ c v)->
   xs.length=cs.length/\∀(i:Nat)(x:D),xs[i]?=some x->∃v,get i=some v/\RD (SB S w φ (ao H) au) w x v):=by
 intro n;induction n with
 |zero=>
  refine⟨fun c x au v h hc=>?_,fun cs xs au h get hg=>?_⟩
  .cases c with|op id off=>simp[eu]at h|oL f caps=>simp[eu]at h|_=>exact zL hI 0 _ x au v trivial h hc
  .cases cs with
   |nil=>
    obtain⟨rfl,rfl⟩:[]=xs/\[]=au:=by simpa[fN]using h
    exact⟨rfl,fun i x hi=>by simp at hi⟩
   |cons c cs=>simp[fN]at h
 |succ n ih=>
  obtain⟨ihc,ihl⟩:=ih;refine⟨fun c x au v h hc=>?_,fun cs xs au h get hg=>?_⟩
  .cases c with
   |op id off=>
    simp only[eu]at h;split at h
    .rename_i cells ho;split at h
     .obtain ⟨rfl,rfl⟩:=ad (aa h);obtain⟨_,h0⟩:=hI.gF _ _ ho;cases h0 with
      |nZ hb hS hr=>cases hc with|op hk=>refine .ye (.inl hS) fun j x hj=>?_;rw[bL]at hj;obtain⟨u,hu,hd⟩:=hr _ _ hj;exact⟨u,by rw[<-hu,hb,bk],hd.mono (SB.sH _)⟩
     .simp at h
    .rename_i cells ho;split at h
     .rename_i ds ids' hv;split at h
      .obtain ⟨rfl,rfl⟩:=ad (aa h);obtain⟨_,h0⟩:=hI.gF _ _ ho;cases h0 with
       |@box _ aF hb hS hK hown hlen hr=>cases hc with|op hk=>obtain⟨h1,h2⟩:=ihl cells ds ids' hv (fun i=>w.cell? ⟨(φ id).bT,i,none⟩) (fun i c hi=>by have hlt:=(aj.1 hi).1;rw[hlen]at hlt;exact⟨aF.getD i undef,by rw[hown.cell];simp[kg,hlt],hr i c hi⟩);refine .ye (.inr ⟨id,by simp,j9 _⟩) fun j x hj=>?_;rw[bL]at hj;obtain⟨u,hu,hd⟩:=h2 _ _ hj;exact⟨u,by rw[<-hu,hb,bk],hd.mono (SB.zO _ _ fun i hi=>by simp[hi])⟩
      .simp at h
     .simp at h
    .simp at h
   |oL f caps=>
    simp only[eu]at h;split at h
    .rename_i ds ids' hv;obtain⟨rfl,rfl⟩:=ad (aa h);cases hc with
     |@oL _ _ vs hlen hr=>
      obtain⟨h1,h2⟩:=ihl caps ds ids' hv (fun i=>vs[i]?) (fun i c hi=>by have hlt:=(aj.1 hi).1;rw[hlen]at hlt;exact⟨vs.getD i undef,by simp[kg,hlt],hr i c hi⟩);refine .fn (h1.trans hlen) fun j x hj=>?_;obtain⟨u,hu,hd⟩:=h2 j x hj;have hu':vs[j]?=some u:=hu;have:vs.getD j undef=u:=by simp[hu']
      rw[this];exact hd
    .simp at h
   |_=>exact zL hI (n+1) _ x au v trivial h hc
  .cases cs with
   |nil=>
    obtain⟨rfl,rfl⟩:[]=xs/\[]=au:=by simpa[fN]using h
    exact⟨rfl,fun i x hi=>by simp at hi⟩
   |cons c cs=>
    simp only[fN]at h;split at h
    .rename_i x0 a xs0 b hx hxs;obtain⟨rfl,rfl⟩:=ad (aa h);obtain⟨v0,hv0,hc0⟩:=hg 0 c rfl;have h0:=ihc c x0 a v0 hx hc0;obtain⟨h1,h2⟩:=ihl cs xs0 b hxs (fun i=>get (i+1)) (fun i c hi=>hg (i+1) c (by simpa using hi));refine⟨by simp[h1],fun i x hi=>?_⟩;cases i with
     |zero=>
      obtain rfl:x0=x:=by simpa using hi
      exact⟨v0,hv0,h0.mono (SB.zO _ _ fun i hi=>by simp[hi])⟩
     |succ i=>obtain⟨u,hu,hd⟩:=h2 i x (by simpa using hi);exact⟨u,hu,hd.mono (SB.zO _ _ fun i hi=>by simp[hi])⟩
    .simp at h
theorem oR{H:bh}(hI:Inv S K w0 Kn φ (ao H) w):∀cs xs au,dC H cs=some (xs,au)->∀(get:Nat->Option Value),(∀(i:Nat)(c:C),cs[i]?=some c->∃v,get i=some v/\RC S w Kn φ c v)->
   xs.length=cs.length/\∀(i:Nat)(x:D),xs[i]?=some x->∃v,get i=some v/\RD (SB S w φ (ao H) au) w x v:=by
 intro cs;induction cs with
 |nil=>
  intro xs au h get hg;obtain⟨rfl,rfl⟩:[]=xs/\[]=au:=by simpa[dC]using h
  exact⟨rfl,fun i x hi=>by simp at hi⟩
 |cons c cs ih=>
  intro xs au h get hg;simp only[dC]at h;split at h
  .rename_i x0 a xs0 b hx hxs;obtain⟨rfl,rfl⟩:=ad (aa h);obtain⟨v0,hv0,hc0⟩:=hg 0 c rfl;have h0:=(uw hI 300).1 c x0 a v0 hx hc0;obtain⟨h1,h2⟩:=ih xs0 b hxs (fun i=>get (i+1)) (fun i c hi=>hg (i+1) c (by simpa using hi));refine⟨by simp[h1],fun i x hi=>?_⟩;cases i with
   |zero=>
    obtain rfl:x0=x:=by simpa using hi
    exact⟨v0,hv0,h0.mono (SB.zO _ _ fun i hi=>by simp[hi])⟩
   |succ i=>obtain⟨u,hu,hd⟩:=h2 i x (by simpa using hi);exact⟨u,hu,hd.mono (SB.zO _ _ fun i hi=>by simp[hi])⟩
  .simp at h
theorem j7{H:bh}{all:List Nat}:∀(l:List Nat)(u:eg),dh H all l=some u->
  ∀id,(id∈l->∃o,jN H all id=some o/\bQ u id=some (some o))/\(id∉l->bQ u id=none):=by
 intro l;induction l with
 |nil=>
  intro u h id;obtain rfl:[]=u:=by simpa[dh]using h
  exact⟨fun h=>by simp at h,fun _=>rfl⟩
 |cons a l ih=>
  intro u h id;simp only[dh]at h;split at h
  .rename_i o u' ho hu;obtain rfl:=aa h;by_cases e:a=id
   .subst e;exact⟨fun _=>⟨o,ho,by simp[bQ]⟩,fun hn=>absurd (List.mem_cons_self ..) hn⟩
   .obtain ⟨h1,h2⟩:=ih u' hu id;have e':(a==id)=false:=by simpa using e
    refine⟨fun hm=>?_,fun hn=>?_⟩
    .obtain ⟨o',ho',hf'⟩:=h1 ((aJ.1 hm).resolve_left (fun e2=>e e2.symm));exact⟨o',ho',by simp[bQ,e',hf']⟩
    .simp only[bQ,e',cond_false];exact h2 (fun hm=>hn (aC _ hm))
  .simp at h
theorem Ae{H:bh}{all:List Nat}{id:Nat}{o:Ob}(hI:Inv S K w0 Kn φ (ao H) w)(hmem:id∈all)(h:jN H all id=some o):
  cn o=false/\(∃o0,ao H id=some o0)/\RO (SB S w φ (ao H) all) K w Kn φ (φ id) o:=by
 unfold jN at h;have hb:SB S w φ (ao H) all (φ id).bT:=.inr ⟨id,hmem,j9 _⟩;split at h
 .rename_i sz rows ho;obtain rfl:=aa h;obtain⟨hsz,hl,hr⟩:=nE hI (.inl ho);exact⟨rfl,⟨_,ho⟩,.pD hsz hl hb (hr.mono (SB.sH _))⟩
 .rename_i sz rows ho;obtain rfl:=aa h;obtain⟨hsz,hl,hr⟩:=nE hI (.inr ho);exact⟨rfl,⟨_,ho⟩,.pD hsz hl hb (hr.mono (SB.sH _))⟩
 .rename_i cells ho;obtain rfl:=aa h;obtain⟨_,h0⟩:=hI.gF _ _ ho;cases h0 with|nZ hbase hS hr=>exact⟨rfl,⟨_,ho⟩,.nZ hbase hb fun i x hi=>let⟨v,hv,hd⟩:=hr i x hi;⟨v,hv,hd.mono (SB.sH _)⟩⟩
 .rename_i cells ho;split at h
  .rename_i ds au hv;split at h
   .rename_i hall;obtain rfl:=aa h;obtain⟨_,h0⟩:=hI.gF _ _ ho;cases h0 with|@box _ aF hbase hS hK hown hlen hr=>obtain⟨h1,h2⟩:=(uw hI 300).2 cells ds au hv (fun i=>w.cell? ⟨(φ id).bT,i,none⟩) (fun i c hi=>by have hlt:=(aj.1 hi).1;rw[hlen]at hlt;exact⟨aF.getD i undef,by rw[hown.cell];simp[kg,hlt],hr i c hi⟩);refine⟨rfl,⟨_,ho⟩,.nZ hbase hb fun i x hi=>?_⟩;obtain⟨u,hu,hd⟩:=h2 i x hi;exact⟨u,hu,hd.mono (SB.zO _ _ fun i hi=>by simpa using aV.1 hall i hi)⟩
   .simp at h
  .simp at h
 .simp at h
 .simp at h
 .rename_i szi slots ho;split at h
  .rename_i rows hd;obtain rfl:=aa h;obtain⟨_,hro⟩:=hI.gF _ _ ho;obtain⟨_,h2⟩:=Cj hro hd (SB.sH (hf:=ao H) (φ:=φ) all) fun k x hp=>.inr ⟨id,hmem,dP.2 (.inr ⟨szi,slots,k,ho,hp⟩)⟩;cases hro with|nst hsz hl=>exact⟨rfl,⟨_,ho⟩,.pD Nat.one_pos hl hb h2⟩
  .simp at h
 .simp at h
theorem Inv.A_{H:bh}{au:List Nat}{u:eg}(hI:Inv S K w0 Kn φ (ao H) w)(h:dh H au au=some u):
  Inv (SB S w φ (ao H) au) K w0 Kn φ (aZ u (ao H)) w:=by
 have hfr:∀id∈au,∃o,bQ u id=some (some o)/\cn o=false/\(∃o0,ao H id=some o0)/\RO (SB S w φ (ao H) au) K w Kn φ (φ id) o:=by
  intro id hid;obtain⟨o,ho,hfn⟩:=((j7 au u h id).1 hid)
  exact⟨o,hfn,Ae hI hid ho⟩
 have hold:∀id o,aZ u (ao H) id=some o->cn o=true->id∉au/\ao H id=some o:=by
  intro id o ho hown;by_cases hm:id∈au
  .obtain ⟨o',hfn,hno,_⟩:=hfr id hm;simp only[aZ,hfn]at ho;obtain rfl:=aa ho;rw[hno]at hown;simp at hown
  .refine ⟨hm,?_⟩;simpa only[aZ,(j7 au u h id).2 hm]using ho
 have hnb:∀id o,ao H id=some o->cn o=true->id∉au->∀x∈gJ w φ (ao H) id,¬SB S w φ (ao H) au x:=by
  intro id o ho hown hm x hx hb;have hx1:=(og hI ho hown hx).1;rcases hb with hb|⟨i,hi,e⟩
  .exact hx1 hb
  .obtain ⟨_,_,_,⟨o0,ho0⟩,_⟩:=hfr i hi;by_cases hoi:cn o0=true
   .exact mj hI ho ho0 hown hoi (fun e'=>hm (e'▸hi)) hx e
   .obtain ⟨_,h1⟩:=hI.gF i o0 ho0;rcases dP.1 e with rfl|⟨sz,sl,k,h2,_⟩
    .exact hx1 (by
      cases h1 with
      |pD hsz hl hS _=>exact hS
      |nZ hb hS _=>exact hS
      |_=>simp[cn]at hoi)
    .rw [ho0]at h2;obtain rfl:=aa h2;simp[cn]at hoi
 refine hI.oV (SB.sH _) (ry.refl _ _) ?_ ?_ hI.nh ?_ ?_ ?_
 .intro b hb;rcases hb with hb|⟨i,hi,hb⟩
  .exact hI.sJ b hb
  .obtain ⟨_,_,_,⟨o0,ho0⟩,_⟩:=hfr i hi;by_cases hoi:cn o0=true
   .exact (og hI ho0 hoi hb).2.2
   .obtain ⟨_,h1⟩:=hI.gF i o0 ho0;rcases dP.1 hb with rfl|⟨sz,sl,k,h2,h3⟩
    .cases h1 with|pD hsz hl hS=>exact hI.sJ _ hS|nZ hb hS=>exact hI.sJ _ hS|_=>simp[cn]at hoi
    .exact (hI.DV h2 h3).2.2.1
 .intro b hb;rcases hb with hb|⟨i,hi,hb⟩
  .exact hI.sk b hb
  .obtain ⟨_,_,_,⟨o0,ho0⟩,_⟩:=hfr i hi;by_cases hoi:cn o0=true
   .exact (og hI ho0 hoi hb).2.1
   .obtain ⟨_,h1⟩:=hI.gF i o0 ho0;rcases dP.1 hb with rfl|⟨sz,sl,k,h2,h3⟩
    .cases h1 with|pD hsz hl hS=>exact hI.sk _ hS|nZ hb hS=>exact hI.sk _ hS|_=>simp[cn]at hoi
    .exact (hI.DV h2 h3).2.1
 .intro id o ho;by_cases hm:id∈au
  .obtain ⟨o',hfn,hno,⟨o0,ho0⟩,hro⟩:=hfr id hm;simp only[aZ,hfn]at ho;obtain rfl:=aa ho;exact .inr ⟨(hI.gF id o0 ho0).1,hro⟩
  .have ho':ao H id=some o:=by simpa only[aZ,(j7 au u h id).2 hm]using ho
   exact .inl ⟨ho',fun hown=>⟨rfl,hnb id o ho' hown hm _ (j9 _)⟩⟩
 .intro i j a b ha hb hoa hob hne;exact hI.nm i j a b (hold i a ha hoa).2 (hold j b hb hob).2 hoa hob hne
 .intro id sz sl hi;obtain⟨h1,h2⟩:=hold id _ hi rfl;refine⟨h2,rfl,fun k x hp=>⟨rfl,hnb id _ h2 rfl h1 x (dP.2 (.inr ⟨sz,sl,k,h2,hp⟩)),fun j b hj hb=>?_⟩⟩;exact(hI.uJ id sz sl k x h2 hp).1 j b (hold j b hj hb).2 hb
end
def Bu(S:Nat->Prop)(w:World)(sz:Nat):Option (List (List D))->Value->List Nat->Prop
 |none,v,fp=>v=.slice none 0 0/\fp=[]
 |some rows,v,fp=>∃b,fp=[b]/\FQ S w sz rows v b
inductive RT(S:Nat->Prop)(w:World):T->Value->List Nat->Prop
 |d {x:D} {v:Value} (h:RD S w x v):RT S w (.d x) v []
 |sl {sz:Nat} {rows:List (List D)} {b off len cap:Nat} {aF:Array Value} (hsz:0<sz) (ho:nL w b aF) (hlen:rows.length=len) (hcap:len<=cap)
   (hext:off+cap*sz<=aF.size) (hr:cK S w sz (fun i=>aF[i]?) off rows):RT S w (.sl sz rows) (.slice (some ⟨b,off,none⟩) len cap) [b]
 |pt {ts:List T} {b:Nat} {aF:Array Value} {fps:List (List Nat)} (ho:nL w b aF) (hlen:ts.length=aF.size) (hfl:fps.length=ts.length)
   (h:∀(i:Nat)(t:T)(fp:List Nat),ts[i]?=some t->fps[i]?=some fp->RT S w t (aF.getD i undef) fp):
   RT S w (.pt ts) (.pointer (some ⟨b,0,none⟩)) (b::fps.flatten)
 |zh {sz:Nat} {rows:List (Option (List (List D)))} {b off cap:Nat} {aF:Array Value} {fps:List (List Nat)} (hsz:0<sz) (ho:nL w b aF) (hcap:rows.length<=cap) (hext:off+cap<=aF.size) (hfl:fps.length=rows.length)
   (h:∀(i:Nat)(r:Option (List (List D)))(fp:List Nat),rows[i]?=some r->fps[i]?=some fp->∃v,aF[off+i]?=some v/\Bu S w sz r v fp):
   RT S w (.zh sz rows) (.slice (some ⟨b,off,none⟩) rows.length cap) (b::fps.flatten)
 |mp {ka va:Bool} {es:List (List Value×List D×Nat)} {bN b:Nat} {ms:Array MapEntry} (ho:w.heap[b]?=some (.map ms bN)) (hlen:es.length=ms.size)
   (hr:∀(i:Nat)(e:List Value×List D×Nat)(m:MapEntry),es[i]?=some e->ms[i]?=some m->Bw ka e.1 m.key/\se S w va e.2.1 m.val/\m.born=e.2.2):RT S w (.mp ka va es bN) (.map (some b)) [b]
theorem Bu.mono{S S':Nat->Prop}{w w':World}(hs:fX S w S' w'){sz:Nat}{r:Option (List (List D))}{v:Value}{fp:List Nat}(h:Bu S w sz r v fp)(hb:∀b∈fp,w'.heap[b]?=w.heap[b]?):Bu S' w' sz r v fp:=by cases r with|none=>exact h|some rows=>obtain⟨b,rfl,h⟩:=h;exact⟨b,rfl,h.mono hs (hb b (by simp))⟩
theorem Bu.lt{S:Nat->Prop}{w:World}{sz:Nat}{r:Option (List (List D))}{v:Value}{fp:List Nat}(h:Bu S w sz r v fp):∀b∈fp,b<w.heap.size:=by cases r with|none=>obtain⟨_,rfl⟩:=h;intro b hb;simp at hb|some rows=>obtain⟨b,rfl,h⟩:=h;intro b' hb;obtain rfl:=aq.1 hb;obtain⟨aF,h⟩:=h.bi;exact h.lt
theorem RT.mono{S S':Nat->Prop}{w w':World}(hs:fX S w S' w'){t:T}{v:Value}{fp:List Nat}(h:RT S w t v fp)(hb:∀b∈fp,w'.heap[b]?=w.heap[b]?):RT S' w' t v fp:=by induction h with|d h=>exact .d (h.mono hs)|sl hsz ho hlen hcap hext hr=>exact .sl hsz (ho.mO (hb _ (by simp))) hlen hcap hext (hr.mono hs)|pt ho hlen hfl h ih=>refine .pt (ho.mO (hb _ (by simp))) hlen hfl fun i t fp hi hf=>ih i t fp hi hf fun b hbm=>hb b ?_;exact aC _ (ez.2 ⟨fp,bd hf,hbm⟩)|zh hsz ho hcap hext hfl h=>refine .zh hsz (ho.mO (hb _ (by simp))) hcap hext hfl fun i r fp hi hf=>?_;obtain⟨v,h1,h2⟩:=h i r fp hi hf;exact⟨v,h1,h2.mono hs fun b hbm=>hb b (aC _ (ez.2 ⟨fp,bd hf,hbm⟩))⟩|mp ho hlen hr=>exact .mp ((hb _ (by simp)).trans ho) hlen fun i e m hi hm=>let⟨h1,h2,h3⟩:=hr i e m hi hm;⟨h1,h2.mono hs,h3⟩
theorem RT.lt{S:Nat->Prop}{w:World}{t:T}{v:Value}{fp:List Nat}(h:RT S w t v fp):∀b∈fp,b<w.heap.size:=by
 induction h with
 |d h=>intro b hb;simp at hb
 |sl hsz ho=>intro b hb;obtain rfl:=aq.1 hb;exact ho.lt
 |pt ho hlen hfl h ih=>
  intro b hb;rcases aJ.1 hb with rfl|hb
  .exact ho.lt
  .obtain ⟨fp,hfp,hbf⟩:=ez.1 hb;obtain⟨i,hi,rfl⟩:=ij hfp;exact ih i _ _ (az (by omega:i<_)) (az hi) b hbf
 |zh hsz ho hcap hext hfl h=>
  intro b hb;rcases aJ.1 hb with rfl|hb
  .exact ho.lt
  .obtain ⟨fp,hfp,hbf⟩:=ez.1 hb;obtain⟨i,hi,rfl⟩:=ij hfp;obtain⟨v,_,h2⟩:=h i _ _ (az (by omega:i<_)) (az hi);exact h2.lt b hbf
 |mp ho=>intro b hb;obtain rfl:=aq.1 hb;exact(aY.1 ho).1
section
variable{S K:Nat->Prop}{w0 w:World}{Kn:Nat->Prop}{φ:Nat->gi}{hf:Nat->Option Ob}
theorem m6{id:Nat}(h:∀sz sl,hf id≠some (.nst sz sl)):gJ w φ hf id=[(φ id).bT]:=by
 unfold gJ;split
 .rename_i sz sl e;exact absurd e (h sz sl)
 .rfl
theorem F3{l:gi}{sz:Nat}{get:Nat->Option Value}(hget:∀i,w.cell? ⟨l.bT,i,none⟩=get i):∀(slots:List ko)(k0:Nat)(rows:List (Option (List (List D)))),(∀(i:Nat)(s:ko),slots[i]?=some s->∃v,get (l.aK+(k0+i))=some v/\ze S K w Kn φ sz s v)->uE slots=some rows->
  rows.length=slots.length/\∃fps:List (List Nat),fps.length=rows.length/\fps.flatten=rI w l slots k0/\∀(i:Nat)(r:Option (List (List D)))(fp:List Nat),rows[i]?=some r->fps[i]?=some fp->∃v,get (l.aK+(k0+i))=some v/\Bu S w sz r v fp:=by
 intro slots;induction slots with
 |nil=>intro k0 rows _ h;obtain rfl:=aa h;exact⟨rfl,[],rfl,rfl,fun i r fp hi=>by simp at hi⟩
 |cons s slots ih=>
  intro k0 rows hr h;simp only[uE]at h;split at h
  .rename_i x rs hx hrs;obtain rfl:=aa h;obtain⟨h1,fps,h2,h3,h4⟩:=ih (k0+1) rs (fun i s hi=>by obtain⟨v,e1,e2⟩:=hr (i+1) s (by simpa using hi);exact⟨v,by rw[<-e1,show k0+(i+1)=k0+1+i by omega],e2⟩) hrs;obtain⟨v,e1,e2⟩:=hr 0 s rfl
   have fin:∀fp0,Bu S w sz x v fp0->fp0++rI w l slots (k0+1)=rI w l (s::slots) k0->(x::rs).length=(s::slots).length/\∃fps:List (List Nat),fps.length=(x::rs).length/\fps.flatten=rI w l (s::slots) k0/\∀(i:Nat)(r:Option (List (List D)))(fp:List Nat),(x::rs)[i]?=some r->fps[i]?=some fp->∃v,get (l.aK+(k0+i))=some v/\Bu S w sz r v fp:=by
    intro fp0 h5 h6;refine⟨by simp[h1],fp0::fps,by simp[h2],by rw[eC,h3,h6],fun i r fp hi hf=>?_⟩;cases i with
    |zero=>
     obtain rfl:x=r:=by simpa using hi
     obtain rfl:fp0=fp:=by simpa using hf
     exact⟨v,e1,h5⟩
    |succ i=>obtain⟨v',q1,q2⟩:=h4 i r fp (by simpa using hi) (by simpa using hf);exact⟨v',by rw[<-q1,show k0+(i+1)=k0+1+i by omega],q2⟩
   cases e2 with|nil=>obtain rfl:=aa hx;exact fin [] ⟨rfl,rfl⟩ rfl|@bi rows0 _ b q1 _ _=>obtain rfl:=aa hx;refine fin [b] ⟨b,rfl,q1⟩ ?_;simp only[rI];rw[show l.aK+k0=l.aK+(k0+0)from rfl,hget,e1];simp only[Option.bind_some,q1.bT,List.singleton_append]|kU _=>simp[L2]at hx
  .simp at h
theorem B3{H:bh}{sz id off len:Nat}{t:T}{bi rd:List Nat}{v:Value}(hI:Inv S K w0 Kn φ (ao H) w)(hc:RC S w Kn φ (.bP sz id off len) v)
  (h:(match ao H id with
  |some (.aF _ rows)=>if off+len<=rows.length then some (T.sl sz ((rows.drop off).take len),[id],[id])else none
  |some (.pD _ rows)=>if off+len<=rows.length then some (.d (.sl sz ((rows.drop off).take len)),[],[id])else none
  |some (.nst szi slots)=>if off=0/\len=slots.length then(match uE slots with|some rows=>some (.zh szi rows,[id],[id])|none=>none)else none
  |_=>none)=some (t,bi,rd)):
  RT S w t v (bi.flatMap (gJ w φ (ao H)))/\∀i∈bi,∃o,ao H i=some o/\cn o=true:=by
 split at h
 .rename_i szo rows ho;split at h
  .rename_i hle;obtain⟨rfl,rfl,rfl⟩:T.sl sz ((rows.drop off).take len)=t/\[id]=bi/\[id]=rd:=by simpa using h
   obtain⟨hk,h0⟩:=hI.gF _ _ ho;cases h0 with
   |aF hsz hl hS hK hown hext hfit hr=>
    subst hl;cases hc with
    |bP hk hcap haddr hx=>
     rw[br,List.flatMap_nil,bo,m6 fun _ _ e=>by rw[ho]at e;cases e];refine⟨.sl hsz hown (by simp;omega) hcap (by omega) (hr.w8 off len fun h=>haddr (by omega)),fun i hi=>?_⟩
     .obtain rfl:=aq.1 hi;exact⟨_,ho,rfl⟩
  .simp at h
 .rename_i szo rows ho;split at h
  .rename_i hle;obtain⟨rfl,rfl,rfl⟩:T.d (.sl sz ((rows.drop off).take len))=t/\[]=bi/\[id]=rd:=by simpa using h
   obtain⟨hk,h0⟩:=hI.gF _ _ ho;have hS:S (φ id).bT:=by cases h0 with|pD hsz hl hS _=>exact hS
   exact⟨.d (BD hI hc (.inr ho) hle (fX.refl _ _) hS),fun i hi=>by simp at hi⟩
  .simp at h
 .rename_i szi slots ho;split at h
  .rename_i he;obtain⟨rfl,rfl⟩:=he;split at h
   .rename_i rows hrows;obtain⟨rfl,rfl,rfl⟩:T.zh szi rows=t/\[id]=bi/\[id]=rd:=by simpa using h
    obtain⟨hk,h0⟩:=hI.gF _ _ ho;cases h0 with
    |@nst _ _ aF hsz hl hS hK hown hext hfit hr hv=>
     obtain⟨h1,fps,h2,h3,h4⟩:=F3 (get:=fun i=>aF[i]?) hown.cell slots 0 rows (fun i s hi=>by rw[bk];exact hr i s hi) hrows;cases hc with
     |@bP _ _ _ cap addr hk hcap haddr hx hcc=>
      rw[br,List.flatMap_nil,bo];have e:gJ w φ (ao H) id=(φ id).bT::fps.flatten:=by unfold gJ;rw[ho,h3]
      rw[e,<-h1];refine⟨.zh (sz:=szi) (rows:=rows) hsz hown (by omega) (by rw[hl,ld]at hx;omega) h2 fun i r fp hi hf=>?_,fun i hi=>?_⟩
      .obtain ⟨v,q1,q2⟩:=h4 i r fp hi hf;have hlt:=(aj.1 hi).1;rw[bk]at q1;exact⟨v,by rw[haddr (by omega),gP,cY];exact q1,q2⟩
      .obtain rfl:=aq.1 hi;exact⟨_,ho,rfl⟩
   .simp at h
  .simp at h
 .simp at h
theorem Fe{H:bh}{id:Nat}{t:T}{bi rd:List Nat}{v:Value}(hI:Inv S K w0 Kn φ (ao H) w)(hc:RC S w Kn φ (.om id) v)
  (h:(match ao H id with
  |some (.map ka va es bN)=>some (T.mp ka va es bN,[id],[id])
  |_=>none)=some (t,bi,rd)):
  RT S w t v (bi.flatMap (gJ w φ (ao H)))/\∀i∈bi,∃o,ao H i=some o/\cn o=true:=by
 split at h
 .rename_i ka va es bN ho;obtain⟨rfl,rfl,rfl⟩:T.mp ka va es bN=t/\[id]=bi/\[id]=rd:=by simpa using h
  obtain⟨_,h0⟩:=hI.gF _ _ ho;cases h0 with
  |map hS hK hm hlen hr=>cases hc with|om hk=>rw[br,List.flatMap_nil,bo,m6 fun _ _ e=>by rw[ho]at e;cases e];exact⟨.mp hm hlen hr,fun i hi=>by obtain rfl:=aq.1 hi;exact⟨_,ho,rfl⟩⟩
 .simp at h
theorem rJ{H:bh}(hI:Inv S K w0 Kn φ (ao H) w):∀n,
  (∀c t bi rd v,dn H n c=some (t,bi,rd)->RC S w Kn φ c v->RT S w t v (bi.flatMap (gJ w φ (ao H)))/\∀i∈bi,∃o,ao H i=some o/\cn o=true)/\
  (∀cs ts bi rd,iB H n cs=some (ts,bi,rd)->∀(get:Nat->Value),(∀(i:Nat)(c:C),cs[i]?=some c->RC S w Kn φ c (get i))->
   ts.length=cs.length/\(∃fps:List (List Nat),fps.length=ts.length/\fps.flatten=bi.flatMap (gJ w φ (ao H))/\
    ∀(i:Nat)(t:T)(fp:List Nat),ts[i]?=some t->fps[i]?=some fp->RT S w t (get i) fp)/\∀i∈bi,∃o,ao H i=some o/\cn o=true):=by
 intro n;induction n with
 |zero=>
  refine⟨fun c t bi rd v h hc=>?_,fun cs ts bi rd h get hg=>?_⟩
  .cases c with
   |d x=>
    obtain⟨rfl,rfl,rfl⟩:T.d x=t/\[]=bi/\[]=rd:=by simpa[dn]using h
    cases hc with|d hd=>exact⟨.d hd,fun i hi=>by simp at hi⟩
   |bP sz id off len=>simp only[dn]at h;exact B3 hI hc h
   |om id=>simp only[dn]at h;exact Fe hI hc h
   |_=>simp[dn]at h
  .cases cs with
   |nil=>
    obtain⟨rfl,rfl,rfl⟩:[]=ts/\[]=bi/\[]=rd:=by simpa[iB]using h
    exact⟨rfl,⟨[],rfl,rfl,fun i t fp hi=>by simp at hi⟩,fun i hi=>by simp at hi⟩
   |cons c cs=>simp[iB]at h
 |succ n ih=>
  obtain⟨ihc,ihl⟩:=ih;refine⟨fun c t bi rd v h hc=>?_,fun cs ts bi rd h get hg=>?_⟩
  .cases c with
   |d x=>
    obtain⟨rfl,rfl,rfl⟩:T.d x=t/\[]=bi/\[]=rd:=by simpa[dn]using h
    cases hc with|d hd=>exact⟨.d hd,fun i hi=>by simp at hi⟩
   |bP sz id off len=>simp only[dn]at h;exact B3 hI hc h
   |op id off=>
    cases off with
    |succ off=>simp[dn]at h
    |zero=>
     simp only[dn]at h;split at h
     .rename_i cells ho;split at h
      .rename_i ts own' rd' hp;obtain⟨rfl,rfl,rfl⟩:T.pt ts=t/\id::own'=bi/\id::rd'=rd:=by simpa using h
       obtain⟨hk,h0⟩:=hI.gF _ _ ho;cases h0 with
       |@box _ aF hb hS hK hown hlen hr=>
        obtain⟨h1,⟨fps,h2,h3,h4⟩,h5⟩:=ihl cells ts own' rd' hp (fun i=>aF.getD i undef) hr;cases hc with
        |op hk=>
         rw[hb];refine⟨?_,fun i hi=>?_⟩
         .rw [br,<-h3,m6 fun _ _ e=>by rw[ho]at e;cases e];exact .pt hown (h1.trans hlen) h2 h4
         .rcases aJ.1 hi with rfl|hi
          .exact ⟨_,ho,rfl⟩
          .exact h5 i hi
      .simp at h
     .rename_i cells ho;obtain⟨rfl,rfl,rfl⟩:T.d (.pt cells)=t/\[]=bi/\[id]=rd:=by simpa using h
      obtain⟨hk,h0⟩:=hI.gF _ _ ho;cases h0 with
      |nZ hb hS hr=>cases hc with|op hk=>exact⟨.d (.ye hS fun j x hj=>by obtain⟨u,hu,hd⟩:=hr j x hj;exact⟨u,by rw[<-hu,hb];simp,hd⟩),fun i hi=>by simp at hi⟩
     .simp at h
   |ep id eU off=>simp[dn]at h
   |oL f caps=>simp[dn]at h
   |om id=>simp only[dn]at h;exact Fe hI hc h
  .cases cs with
   |nil=>
    obtain⟨rfl,rfl,rfl⟩:[]=ts/\[]=bi/\[]=rd:=by simpa[iB]using h
    exact⟨rfl,⟨[],rfl,rfl,fun i t fp hi=>by simp at hi⟩,fun i hi=>by simp at hi⟩
   |cons c cs=>
    simp only[iB]at h;split at h
    .rename_i t0 a i0 ts0 b j0 hx hxs;obtain⟨rfl,rfl,rfl⟩:t0::ts0=ts/\a++b=bi/\i0++j0=rd:=by simpa using h
     obtain⟨p1,p2⟩:=ihc c t0 a i0 (get 0) hx (hg 0 c rfl);obtain⟨h1,⟨fps,h2,h3,h4⟩,h5⟩:=ihl cs ts0 b j0 hxs (fun i=>get (i+1)) (fun i c hi=>hg (i+1) c (by simpa using hi));refine⟨by simp[h1],⟨(a.flatMap (gJ w φ (ao H)))::fps,by simp[h2],by simp[h3],fun i t fp hi hfp=>?_⟩,fun i hi=>?_⟩
     .cases i with
      |zero=>
       obtain rfl:t0=t:=by simpa using hi
       obtain rfl:(a.flatMap (gJ w φ (ao H)))=fp:=by simpa using hfp
       exact p1
      |succ i=>exact h4 i t fp (by simpa using hi) (by simpa using hfp)
     .rcases ak.1 hi with hi|hi
      .exact p2 i hi
      .exact h5 i hi
    .simp at h
theorem Aw{bi:List Nat}(hI:Inv S K w0 Kn φ hf w)(hn:bi.Nodup)(ho:∀i∈bi,∃o,hf i=some o/\cn o=true):(bi.flatMap (gJ w φ hf)).Nodup:=by induction bi with|nil=>exact nf|cons a l ih=>rw[hP]at hn;obtain⟨o1,h1,h2⟩:=ho a (by simp);rw[br,dj];refine⟨EM hI h1 h2,ih hn.2 fun i hi=>ho i (aC _ hi),fun x hx y hy e=>?_⟩;subst e;obtain⟨i,hi,hy⟩:=List.mem_flatMap.1 hy;obtain⟨o2,h3,h4⟩:=ho i (aC _ hi);exact mj hI h1 h3 h2 h4 (fun e'=>hn.1 (e'▸hi)) hx hy
def nz(Kn:Nat->Prop)(a b:Nat)(j:Nat):Prop:=Kn j\/(a<=j/\j<b)
theorem Inv.name(h:Inv S K w0 Kn φ hf w){i:Nat}(hi:¬Kn i)(l:gi)(o:Ob)(hfree:cn o=true->∀j b,hf j=some b->cn b=true->l.bT∉gJ w φ hf j)
  (hro:RO S K w (fun j=>Kn j\/j=i) (ext φ i l) l o)
  (hp:∀sz sl k x,o=.nst sz sl->qH w l sl k x->x≠l.bT/\(∀j b,hf j=some b->cn b=true->x∉gJ w φ hf j)/\∀k',qH w l sl k' x->k'=k:=by intro _ _ _ _ e;cases e):
  Inv S K w0 (fun j=>Kn j\/j=i) (ext φ i l) (aZ [(i,some o)] hf) w:=by
 have hold:∀j b,aZ [(i,some o)] hf j=some b->(j=i/\b=o/\ext φ i l j=l)\/(j≠i/\hf j=some b/\ext φ i l j=φ j):=by
  intro j b hj;rw[bD]at hj;by_cases e:i=j
  .rw [if_pos e]at hj;exact .inl ⟨e.symm,(aa hj).symm,by simp[ext,e]⟩
  .rw [if_neg e,eE]at hj;have e1:¬j=i:=fun q=>e q.symm;exact .inr ⟨e1,hj,by simp[ext,e1]⟩
 refine h.u6 (fX.refl _ _) (ga _ hi) h.sJ h.sk h.nh ?_ ?_ ?_
 .intro id o' ho;rcases hold id o' ho with⟨rfl,rfl,e⟩|⟨_,ho,_⟩
  .exact .inr ⟨.inr rfl,by rw[e];exact hro⟩
  .exact .inl ⟨ho,fun hown=>⟨rfl,((h.gF id o' ho).2.bi hown).1⟩,h.Cy ho fun _ _=>rfl⟩
 .intro a b oa ob ha hb hoa hob hne;rcases hold a oa ha with⟨h1,h2,e1⟩|⟨_,ha',e1⟩<;>rcases hold b ob hb with⟨h3,h4,e2⟩|⟨_,hb',e2⟩
  .exact absurd (h1.trans h3.symm) hne
  .rw [e1,e2];exact fun e=>hfree (h2▸hoa) b ob hb' hob (dP.2 (.inl e))
  .rw [e1,e2];exact fun e=>hfree (h4▸hob) a oa ha' hoa (dP.2 (.inl e.symm))
  .rw [e1,e2];exact h.nm a b oa ob ha' hb' hoa hob hne
 .intro a sz sl k x ha hpa;rcases hold a _ ha with⟨ea,eo,e1⟩|⟨hne,ha',e1⟩<;>rw[e1]at hpa
  .obtain ⟨p1,p2,p3⟩:=hp sz sl k x eo.symm hpa;refine⟨fun j b hj hown=>?_,fun j sz' sl' k' hj hpj=>?_⟩
   .rcases hold j b hj with⟨_,_,e2⟩|⟨_,hj',e2⟩<;>rw[e2]
    .exact fun e=>p1 e.symm
    .exact fun e=>p2 j b hj' hown (dP.2 (.inl e.symm))
   .rcases hold j _ hj with⟨ej,eo2,e2⟩|⟨_,hj',e2⟩<;>rw[e2]at hpj
    .rw [<-eo]at eo2;cases eo2;exact⟨ej.trans ea.symm,p3 k' hpj⟩
    .exact absurd (dP.2 (.inr ⟨sz',sl',k',hj',hpj⟩)) (p2 j _ hj' rfl)
  .obtain ⟨p1,p2⟩:=h.uJ a sz sl k x ha' hpa;refine⟨fun j b hj hown=>?_,fun j sz' sl' k' hj hpj=>?_⟩
   .rcases hold j b hj with⟨_,eo,e2⟩|⟨_,hj',e2⟩<;>rw[e2]
    .exact fun e=>hfree (eo▸hown) a _ ha' rfl (dP.2 (.inr ⟨sz,sl,k,ha',e▸hpa⟩))
    .exact p1 j b hj' hown
   .rcases hold j _ hj with⟨_,eo,e2⟩|⟨_,hj',e2⟩<;>rw[e2]at hpj
    .exact absurd (dP.2 (.inr ⟨sz,sl,k,ha',hpa⟩)) ((hp sz' sl' k' x eo.symm hpj).2.1 a _ ha' rfl)
    .exact p2 j sz' sl' k' hj' hpj
theorem Inv.kn{Kn':Nat->Prop}(h:Inv S K w0 Kn φ hf w)(hs:∀i,Kn i->Kn' i):Inv S K w0 Kn' φ hf w:=h.oV (fX.refl _ _) ⟨hs,fun _ _=>rfl⟩ h.sJ h.sk h.nh (fun id o ho=>.inl ⟨ho,fun hown=>⟨rfl,((h.gF id o ho).2.bi hown).1⟩⟩) h.nm (h.zW fun _ _=>rfl)
structure sg(S K:Nat->Prop)(w0 w:World)(Kn:Nat->Prop)(φ:Nat->gi)(hf:Nat->Option Ob)(fp:List Nat)(nxt m:Nat)(u:eg)(φ':Nat->gi):Prop where
 le:nxt<=m
 sM:ry Kn φ (nz Kn nxt m) φ'
 inv:Inv S K w0 (nz Kn nxt m) φ' (aZ u hf) w
 fP:∀p∈u,nxt<=p.1/\p.1<m
 bT:∀p∈u,∀x∈gJ w φ' (aZ u hf) p.1,x∈fp
theorem p9(a b:Nat):ry Kn φ (nz Kn a b) φ:=⟨fun _ h=>.inl h,fun _ _=>rfl⟩
theorem sg.nil(h:Inv S K w0 Kn φ hf w)(fp:List Nat)(n:Nat):sg S K w0 w Kn φ hf fp n n [] φ:=⟨am _,p9 _ _,h.kn fun _ hi=>.inl hi,fun p hp=>by simp at hp,fun p hp=>by simp at hp⟩
theorem sg.skip(h:Inv S K w0 Kn φ hf w)(fp:List Nat)(n:Nat):sg S K w0 w Kn φ hf fp n (n+1) [] φ:=⟨a_ _,p9 _ _,h.kn fun _ hi=>.inl hi,fun p hp=>by simp at hp,fun p hp=>by simp at hp⟩
theorem kX{α:Type}{u:List (Nat×α)}{id:Nat}(h:∀p∈u,p.1≠id):bQ u id=none:=by
 induction u with
 |nil=>rfl
 |cons p r ih=>
  obtain⟨i,x⟩:=p;have e:(i==id)=false:=by simpa using h (i,x) (by simp)
  simp only[bQ,e,cond_false];exact ih fun q hq=>h q (by simp[hq])
def ug(w:World)(φ:Nat->gi)(hf:Nat->Option Ob)(fp:List Nat):Prop:=∀j b,hf j=some b->cn b=true->∀x∈gJ w φ hf j,x∉fp
theorem rL{a b c:Nat}(h1:a<=b)(h2:b<=c)(j:Nat):nz (nz Kn a b) b c j<->nz Kn a c j:=by
 unfold nz;constructor
 .rintro ((h|h)|h)
  .exact .inl h
  .exact .inr (by omega)
  .exact .inr (by omega)
 .rintro (h|h)
  .exact .inl (.inl h)
  .by_cases e:j<b
   .exact .inl (.inr (by omega))
   .exact .inr (by omega)
theorem Inv.sv{Kn':Nat->Prop}(h:Inv S K w0 Kn φ hf w)(hs:∀i,Kn i<->Kn' i):Inv S K w0 Kn' φ hf w:=h.kn fun i hi=>(hs i).1 hi
theorem RC.kn{Kn':Nat->Prop}{c:C}{v:Value}(h:RC S w Kn φ c v)(hs:∀i,Kn i->Kn' i):RC S w Kn' φ c v:=h.mono (fX.refl _ _) ⟨hs,fun _ _=>rfl⟩
theorem fR{φ':Nat->gi}{hf':Nat->Option Ob}{i:Nat}(h1:φ i=φ' i)(h2:hf i=hf' i):gJ w φ hf i=gJ w φ' hf' i:=by unfold gJ;rw[h1,h2]
theorem sg.pP{fa fb:List Nat}{n m k:Nat}{u v:eg}{φ1 φ2:Nat->gi}(a:sg S K w0 w Kn φ hf fa n m u φ1)(b:sg S K w0 w (nz Kn n m) φ1 (aZ u hf) fb m k v φ2):
  sg S K w0 w Kn φ hf (fa++fb) n k (v++u) φ2 where
 le:=e9 a.le b.le
 sM:=⟨fun i h=>.inl h,fun i h=>(b.sM.dW i (.inl h)).trans (a.sM.dW i h)⟩
 inv:=by rw[dL];exact b.inv.sv fun i=>rL a.le b.le i
 fP p hp:=by
  have:=a.le;have:=b.le;rcases ak.1 hp with h|h
  .have:=b.fP p h;omega
  .have:=a.fP p h;omega
 bT p hp:=by
  intro x hx;rcases ak.1 hp with h|h
  .rw [dL]at hx;exact List.mem_append_right _ (b.bT p h x hx)
  .have hn:bQ v p.1=none:=kX fun q hq e=>by have:=a.fP p h;have:=b.fP q hq;omega
   have e:aZ (v++u) hf p.1=aZ u hf p.1:=by simp only[aZ,gG,hn]
   have e2:=fR (w:=w) (b.sM.dW p.1 (.inr (a.fP p h))) e;rw[e2]at hx;exact List.mem_append_left _ (a.bT p h x hx)
theorem mq{u v:eg}(h:∀p∈u,∀q∈v,p.1≠q.1):aZ (u++v) hf=aZ (v++u) hf:=by
 funext id;simp only[aZ,gG];cases hu:bQ u id with
 |none=>cases bQ v id<;>simp
 |some x=>
  have:bQ v id=none:=by
   refine kX fun q hq e=>?_
   have hm:∃p∈u,p.1=id:=by
    clear h;induction u with
    |nil=>simp[bQ]at hu
    |cons p r ih=>
     obtain⟨i,y⟩:=p;by_cases e':i=id
     .exact ⟨(i,y),by simp,e'⟩
     .have e2:(i==id)=false:=by simpa using e'
      simp only[bQ,e2,cond_false]at hu;obtain⟨p,hp,hpe⟩:=ih hu;exact⟨p,by simp[hp],hpe⟩
   obtain⟨p,hp,hpe⟩:=hm;exact h p hp q hq (hpe.trans e.symm)
  simp[this]
theorem qn(nxt:Nat)(ts:List T):kh nxt (.pt ts)=(.op nxt 0,(nxt,some (.box (il (nxt+1) ts).1))::(il (nxt+1) ts).2.1,(il (nxt+1) ts).2.2):=rfl
theorem qO(nxt:Nat)(t:T)(ts:List T):il nxt (t::ts)=((kh nxt t).1::(il (kh nxt t).2.2 ts).1,(kh nxt t).2.1++(il (kh nxt t).2.2 ts).2.1,(il (kh nxt t).2.2 ts).2.2):=rfl
theorem CO{x:Nat}:∀{fps:List (List Nat)}{k k':Nat},fps.flatten.Nodup->fps[k]?=some [x]->fps[k']?=some [x]->k=k':=by
 intro fps;induction fps with
 |nil=>intro k k' _ h;simp at h
 |cons fp fps ih=>
  intro k k' hn h1 h2;rw[eC,dj]at hn;have hm:∀k,fps[k]?=some [x]->x∈fps.flatten:=fun k h=>ez.2 ⟨[x],bd h,by simp⟩;cases k with
  |zero=>
   obtain rfl:fp=[x]:=by simpa using h1
   cases k' with|zero=>rfl|succ k'=>exact absurd rfl (hn.2.2 x (by simp) x (hm k' (by simpa using h2)))
  |succ k=>
   cases k' with
   |zero=>
    obtain rfl:fp=[x]:=by simpa using h2
    exact absurd rfl (hn.2.2 x (by simp) x (hm k (by simpa using h1)))
   |succ k'=>exact congrArg Nat.succ (ih hn.2.1 (by simpa using h1) (by simpa using h2))
mutual
theorem HD(t:T):∀nxt,nxt<=(kh nxt t).2.2:=by intro nxt;cases t with|d x=>exact a_ _|j6=>exact a_ _|sl sz rows=>exact a_ _|zh sz rows=>exact a_ _|mp ka va es bN=>exact a_ _|pt ts=>rw[qn];exact Nat.le_of_succ_le (vM ts (nxt+1))
theorem vM(ts:List T):∀nxt,nxt<=(il nxt ts).2.2:=by intro nxt;cases ts with|nil=>exact am _|cons t ts=>rw[qO];exact e9 (HD t nxt) (vM ts _)
end
mutual
theorem vN(t:T):∀{Kn:Nat->Prop}{φ:Nat->gi}{hf:Nat->Option Ob}(nxt:Nat)(v:Value)(fp:List Nat),Inv S K w0 Kn φ hf w->(∀j,nxt<=j->j<(kh nxt t).2.2->¬Kn j)->
  RT S w t v fp->fp.Nodup->(∀b∈fp,¬S b/\¬K b)->ug w φ hf fp->
  ∃φ',sg S K w0 w Kn φ hf fp nxt (kh nxt t).2.2 (kh nxt t).2.1 φ'/\RC S w (nz Kn nxt (kh nxt t).2.2) φ' (kh nxt t).1 v:=by
 intro Kn φ hf nxt v fp hI hfr hr hnd hSK haw;cases t with
 |j6=>cases hr
 |d x=>cases hr with|d hd=>exact⟨φ,sg.skip hI _ _,.d hd⟩
 |sl sz rows=>
  cases hr with
  |@sl _ _ b off len cap aF hsz ho hlen hcap hext hrr=>
   have hnx:¬Kn nxt:=hfr nxt (am _) (aQ _);refine⟨ext φ nxt ⟨b,off,sz,aF.size,cap⟩,?_,?_⟩
   .have hin:=hI.name (hnx) ⟨b,off,sz,aF.size,cap⟩ (.aF sz rows) (fun _ j o hj hown hm=>haw j o hj hown _ hm (by simp))
     (.aF hsz rfl (hSK b (by simp)).1 (hSK b (by simp)).2 ho rfl (by have:rows.length*sz<=cap*sz:=aI _ (by omega);simp only;omega) hrr (by simp only;omega))
    refine⟨a_ _,⟨fun i h=>.inl h,(ga _ (hnx)).dW⟩,hin.sv fun i=>?_,fun p hp=>?_,fun p hp=>?_⟩
    .simp only[nz,kh];constructor
     .rintro (h|rfl)
      .exact .inl h
      .exact .inr (by omega)
     .rintro (h|h)
      .exact .inl h
      .exact .inr (by omega)
    .obtain rfl:p=_:=by simpa[kh]using hp
     simp[kh]
    .obtain rfl:p=_:=by simpa[kh]using hp
     rw[m6 fun _ _ e=>by simp[kh,aZ,bQ]at e];simp[ext]
   .have e:(ext φ nxt ⟨b,off,sz,aF.size,cap⟩) nxt=⟨b,off,sz,aF.size,cap⟩:=by simp[ext]
    have:=RC.bP (S:=S) (w:=w) (Kn:=nz Kn nxt (nxt+1)) (φ:=ext φ nxt ⟨b,off,sz,aF.size,cap⟩) (id:=nxt) (off:=0) (len:=rows.length) (cap:=cap) (addr:=off) (.inr (by omega)) (by omega) (by rw[e];simp) (by rw[e];simpa using hext) (by rw[e];simp);rw[e]at this;simpa[kh,hlen]using this
 |zh sz rows=>
  cases hr with
  |@zh _ _ b off cap aF fps hsz ho hcap hext hfl hrr=>
   have hnx:¬Kn nxt:=hfr nxt (am _) (aQ _);rw[hP]at hnd;have hget:∀i,w.cell? ⟨b,i,none⟩=aF[i]?:=ho.cell;have hpat:∀k x,qH w ⟨b,off,1,aF.size,cap⟩ (rows.map mL) k x->∃fp,fps[k]?=some fp/\fp=[x]:=by rintro k x ⟨rs,v,h1,h2,h3⟩;rw[aL]at h1;obtain⟨r,hr1,hr2⟩:=aM.1 h1;have hlt:=(aj.1 hr1).1;have hf:fps[k]?=some fps[k]:=az (by omega);obtain⟨v',q1,q2⟩:=hrr k r fps[k] hr1 hf;simp only[hget,q1,bS]at h2;subst h2;cases r with|none=>cases hr2|some rows'=>obtain⟨b',q3,q4⟩:=q2;rw[q4.bT]at h3;obtain rfl:=aa h3;exact⟨_,hf,q3⟩
   have hmem:∀k x,qH w ⟨b,off,1,aF.size,cap⟩ (rows.map mL) k x->x∈fps.flatten:=fun k x hp=>by obtain⟨fp,h1,rfl⟩:=hpat k x hp;exact ez.2 ⟨[x],bd h1,by simp⟩
   have hin:=hI.name (hnx) ⟨b,off,1,aF.size,cap⟩ (.nst sz (rows.map mL)) (fun _ j o hj hown hm=>haw j o hj hown _ hm (by simp))
    (.nst hsz rfl (hSK b (by simp)).1 (hSK b (by simp)).2 ho rfl (by simp only[aR];omega) (fun i s hi=>by
     rw[aL]at hi;obtain⟨r,hr1,rfl⟩:=aM.1 hi;have hlt:=(aj.1 hr1).1;have hf:fps[i]?=some fps[i]:=az (by omega);obtain⟨v,q1,q2⟩:=hrr i r fps[i] hr1 hf;refine⟨v,q1,?_⟩;cases r with
     |none=>obtain⟨rfl,_⟩:=q2;exact .nil
     |some rows'=>obtain⟨b',q3,q4⟩:=q2;have hm:b'∈fps.flatten:=ez.2 ⟨fps[i],List.getElem_mem _,by rw[q3];simp⟩;exact .bi q4 (hSK b' (aC _ hm)).1 (hSK b' (aC _ hm)).2) (by simp only[aR];omega))
    (fun sz' sl' k x eo hp=>by cases eo;have hm:=hmem k x hp;refine⟨fun e=>hnd.1 (by have e:x=b:=e;rw[<-e];exact hm),fun j b' hj hown hx=>haw j b' hj hown x hx (aC _ hm),fun k' hp'=>?_⟩;obtain⟨fp,h1,rfl⟩:=hpat k x hp;obtain⟨fp',h2,rfl⟩:=hpat k' x hp';exact CO hnd.2 h2 h1)
   refine⟨ext φ nxt ⟨b,off,1,aF.size,cap⟩,?_,?_⟩
   .refine ⟨a_ _,⟨fun i h=>.inl h,(ga _ (hnx)).dW⟩,hin.sv fun i=>?_,fun p hp=>?_,fun p hp x hx=>?_⟩
    .simp only[nz,kh];constructor
     .rintro (h|rfl)
      .exact .inl h
      .exact .inr (by omega)
     .rintro (h|h)
      .exact .inl h
      .exact .inr (by omega)
    .obtain rfl:p=_:=by simpa[kh]using hp
     simp[kh]
    .obtain rfl:p=_:=by simpa[kh]using hp
     have e:aZ (kh nxt (T.zh sz rows)).2.1 hf nxt=some (.nst sz (rows.map mL)):=by simp[kh,aZ,bQ]
     rcases dP.1 hx with rfl|⟨sz',sl',k,h1,h2⟩
     .simp [ext]
     .rw [e]at h1;cases h1;simp only[ext,if_true]at h2;exact aC _ (hmem k x h2)
   .have e:(ext φ nxt ⟨b,off,1,aF.size,cap⟩) nxt=⟨b,off,1,aF.size,cap⟩:=by simp[ext]
    have:=RC.bP (S:=S) (w:=w) (Kn:=nz Kn nxt (nxt+1)) (φ:=ext φ nxt ⟨b,off,1,aF.size,cap⟩) (id:=nxt) (off:=0) (len:=rows.length) (cap:=cap) (addr:=off) (.inr (by omega)) (by omega) (by rw[e];simp) (by rw[e];simpa using hext) (by rw[e];simp);rw[e]at this;simpa[kh]using this
 |mp ka va es bN=>
  cases hr with
  |@mp _ _ _ _ b ms ho hlen hr=>
   have hnx:¬Kn nxt:=hfr nxt (am _) (aQ _);have hin:=hI.name (hnx) ⟨b,0,1,0,0⟩ (.map ka va es bN) (fun _ j o hj hown hm=>haw j o hj hown _ hm (by simp)) (.map (hSK b (by simp)).1 (hSK b (by simp)).2 ho hlen hr);refine⟨ext φ nxt ⟨b,0,1,0,0⟩,⟨a_ _,⟨fun i h=>.inl h,(ga _ (hnx)).dW⟩,hin.sv fun i=>?_,fun p hp=>?_,fun p hp=>?_⟩,?_⟩
   .simp only[nz,kh];constructor
    .rintro (h|rfl)
     .exact .inl h
     .exact .inr (by omega)
    .rintro (h|h)
     .exact .inl h
     .exact .inr (by omega)
   .obtain rfl:p=_:=by simpa[kh]using hp
    simp[kh]
   .obtain rfl:p=_:=by simpa[kh]using hp
    rw[m6 fun _ _ e=>by simp[kh,aZ,bQ]at e];simp[ext]
   .have:=RC.om (S:=S) (w:=w) (Kn:=nz Kn nxt (nxt+1)) (φ:=ext φ nxt ⟨b,0,1,0,0⟩) (id:=nxt) (.inr (by omega));simpa[ext,kh]using this
 |pt ts=>
  cases hr with
  |@pt _ b aF fps ho hlen hfl h=>
   rw[hP]at hnd;have hnx:¬Kn nxt:=hfr nxt (am _) (by rw[qn];exact vM ts (nxt+1))
   obtain⟨φ1,hL,hrc⟩:=tF ts (Kn:=Kn) (φ:=φ) (hf:=hf) (nxt+1) (fun i=>aF.getD i undef) fps hI (fun j hj hj2=>hfr j (by omega) (by rw[qn];exact hj2)) hfl h hnd.2
    (fun b' hb'=>hSK b' (by simp[hb'])) (fun j o hj hown x hx hm=>haw j o hj hown x hx (aC _ hm))
   have hm:=hL.le
   have hnk:¬nz Kn (nxt+1) (il (nxt+1) ts).2.2 nxt:=by
    rintro(h|h)
    .exact hnx h
    .omega
   refine⟨ext φ1 nxt ⟨b,0,1,aF.size,0⟩,?_,?_⟩
   .have hin:=hL.inv.name hnk ⟨b,0,1,aF.size,0⟩ (.box (il (nxt+1) ts).1) (fun _ j o hj hown hm=>by
      by_cases hu:∃p∈(il (nxt+1) ts).2.1,p.1=j
      .obtain ⟨p,hp,rfl⟩:=hu;exact hnd.1 (hL.bT p hp _ hm)
      .have hfn:bQ (il (nxt+1) ts).2.1 j=none:=kX fun p hp e=>hu ⟨p,hp,e⟩;have hj':=hj;simp only[aZ,hfn]at hj';have hk:=(hI.gF j o hj').1;rw[fR (hL.sM.dW j hk) (hj.trans hj'.symm)]at hm;exact haw j o hj' hown _ hm (by simp))
     (.box rfl (hSK b (by simp)).1 (hSK b (by simp)).2 ho (hrc.1.trans hlen) fun i c hi=>(hrc.2 i c hi).mono (fX.refl _ _) (ga _ hnk))
    refine⟨?_,⟨fun i h=>.inl h,fun i hi=>?_⟩,?_,fun p hp=>?_,fun p hp=>?_⟩
    .simp only[qn];exact Nat.le_of_succ_le hm
    .have:i≠nxt:=fun e=>hnx (e▸hi);simp only[ext,this,if_false];exact hL.sM.dW i hi
    .have e:aZ (kh nxt (.pt ts)).2.1 hf=aZ [(nxt,some (.box (il (nxt+1) ts).1))] (aZ (il (nxt+1) ts).2.1 hf):=by rw[<-dL];rfl
     rw[e];refine hin.sv fun i=>?_;simp only[nz,qn];constructor
     .rintro ((h|h)|rfl)
      .exact .inl h
      .exact .inr (by omega)
      .exact .inr (by omega)
     .rintro (h|h)
      .exact .inl (.inl h)
      .by_cases e:i=nxt
       .exact .inr e
       .exact .inl (.inr (by omega))
    .simp only[qn]at hp|-;rcases aJ.1 hp with rfl|hp
     .simp only;omega
     .have:=hL.fP p hp;omega
    .simp only[qn]at hp;rcases aJ.1 hp with rfl|hp
     .rw [m6 fun _ _ e=>by simp[qn,aZ,bQ]at e];simp[ext]
     .have hne:¬p.1=nxt:=by have:=hL.fP p hp;omega
      have hne':(nxt==p.1)=false:=by simpa using fun e=>hne e.symm
      intro x hx;rw[fR (φ':=φ1) (hf':=aZ (il (nxt+1) ts).2.1 hf) (by simp only[ext,hne,if_false]) (by simp only[qn,aZ,bQ,hne',cond_false])]at hx;exact aC _ (hL.bT p hp x hx)
   .have:=RC.op (S:=S) (w:=w) (Kn:=nz Kn nxt (il (nxt+1) ts).2.2) (φ:=ext φ1 nxt ⟨b,0,1,aF.size,0⟩) (id:=nxt) (off:=0) (.inr (by omega));simpa[qn,ext]using this
theorem tF(ts:List T):∀{Kn:Nat->Prop}{φ:Nat->gi}{hf:Nat->Option Ob}(nxt:Nat)(get:Nat->Value)(fps:List (List Nat)),Inv S K w0 Kn φ hf w->(∀j,nxt<=j->j<(il nxt ts).2.2->¬Kn j)->
  fps.length=ts.length->(∀(i:Nat)(t:T)(fp:List Nat),ts[i]?=some t->fps[i]?=some fp->RT S w t (get i) fp)->fps.flatten.Nodup->(∀b∈fps.flatten,¬S b/\¬K b)->ug w φ hf fps.flatten->
  ∃φ',sg S K w0 w Kn φ hf fps.flatten nxt (il nxt ts).2.2 (il nxt ts).2.1 φ'/\(il nxt ts).1.length=ts.length/\
   ∀(i:Nat)(c:C),(il nxt ts).1[i]?=some c->RC S w (nz Kn nxt (il nxt ts).2.2) φ' c (get i):=by
 intro Kn φ hf nxt get fps hI hfr hfl hr hnd hSK haw;cases ts with
 |nil=>exact⟨φ,sg.nil hI _ _,rfl,fun i c hi=>by simp[il]at hi⟩
 |cons t ts=>
  cases fps with
  |nil=>simp at hfl
  |cons fp fps=>
   rw[eC,dj]at hnd;obtain⟨hn1,hn2,hn3⟩:=hnd;simp only[eC,ak]at hSK
   obtain⟨φ1,hL1,hc1⟩:=vN t (Kn:=Kn) (φ:=φ) (hf:=hf) nxt (get 0) fp hI (fun j hj hj2=>hfr j hj (by rw[qO];exact dY hj2 (vM ts _))) (hr 0 t fp rfl rfl) hn1 (fun b hb=>hSK b (.inl hb))
    (fun j o hj hown x hx hm=>haw j o hj hown x hx (by simp[hm]))
   obtain⟨φ2,hL2,hlen,hc2⟩:=tF ts (Kn:=nz Kn nxt (kh nxt t).2.2) (φ:=φ1) (hf:=aZ (kh nxt t).2.1 hf) (kh nxt t).2.2 (fun i=>get (i+1)) fps hL1.inv
    (fun j hj hj2 hk=>by
     rcases hk with hk|hk
     .have:=hL1.le;exact hfr j (by omega) (by rw[qO];exact hj2) hk
     .omega) (by simpa using hfl) (fun i t fp hi hfp=>hr (i+1) t fp (by simpa using hi) (by simpa using hfp)) hn2 (fun b hb=>hSK b (.inr hb))
    (fun j o hj hown x hx hm=>by
     by_cases hu:∃p∈(kh nxt t).2.1,p.1=j
     .obtain ⟨p,hp,rfl⟩:=hu;exact hn3 _ (hL1.bT p hp x hx) _ hm rfl
     .have hfn:bQ (kh nxt t).2.1 j=none:=kX fun p hp e=>hu ⟨p,hp,e⟩;have hj':=hj;simp only[aZ,hfn]at hj';have hk:=(hI.gF j o hj').1;rw[fR (hL1.sM.dW j hk) (hj.trans hj'.symm)]at hx;exact haw j o hj' hown x hx (by simp[hm]))
   have hcomp:=hL1.pP hL2;have hcm:aZ ((il (kh nxt t).2.2 ts).2.1++(kh nxt t).2.1) hf=aZ ((kh nxt t).2.1++(il (kh nxt t).2.2 ts).2.1) hf:=mq fun p hp q hq e=>by have h1:=hL2.fP p hp;have h2:=hL1.fP q hq;omega
   refine⟨φ2,?_,by simp[qO,hlen],fun i c hi=>?_⟩
   .simp only[qO,eC];have hsw:∀{p:Nat×Option Ob}{a b:eg},p∈a++b->p∈b++a:=fun hp=>ak.2 (ak.1 hp).symm;exact⟨hcomp.le,hcomp.sM,hcm▸hcomp.inv,fun p hp=>hcomp.fP p (hsw hp),fun p hp x hx=>hcomp.bT p (hsw hp) x (hcm.symm▸hx)⟩
   .have hsub:∀i,nz (nz Kn nxt (kh nxt t).2.2) (kh nxt t).2.2 (il (kh nxt t).2.2 ts).2.2 i->nz Kn nxt (il (kh nxt t).2.2 ts).2.2 i:=fun i=>(rL hL1.le hL2.le i).1;cases i with
    |zero=>
     obtain rfl:(kh nxt t).1=c:=by simpa[il]using hi
     exact(hc1.mono (fX.refl _ _) hL2.sM).kn hsub
    |succ i=>exact(hc2 i c (by simpa[qO]using hi)).kn hsub
end
theorem tM{α:Type}{l:List α}{k i:Nat}{x y:α}(h:(l.set k x)[i]?=some y):(k=i/\y=x/\i<l.length)\/(k≠i/\l[i]?=some y):=by
 rw[List.getElem?_set]at h;split at h
 .rename_i e;split at h
  .rename_i hlt;exact .inl ⟨e,(aa h).symm,e▸hlt⟩
  .simp at h
 .rename_i e;exact .inr ⟨e,h⟩
theorem Inv.PW(h:Inv S K w0 Kn φ hf w){id:Nat}{o o':Ob}(ho:hf id=some o)(hown:cn o=true)(hno:FR o')(hro:RO S K w Kn φ (φ id) o'):Inv S K w0 Kn φ (aZ [(id,some o')] hf) w:=by
 have hold:∀j b,aZ [(id,some o')] hf j=some b->(j=id/\b=o')\/(j≠id/\hf j=some b):=by
  intro j b hj;rw[bD]at hj;by_cases e:id=j
  .rw [if_pos e]at hj;exact .inl ⟨e.symm,(aa hj).symm⟩
  .rw [if_neg e,eE]at hj;exact .inr ⟨fun q=>e q.symm,hj⟩
 have was:∀j b,aZ [(id,some o')] hf j=some b->cn b=true->∃b',hf j=some b'/\cn b'=true:=by
  intro j b hj hb;rcases hold j b hj with⟨rfl,rfl⟩|⟨_,hj'⟩
  .exact ⟨o,ho,hown⟩
  .exact ⟨b,hj',hb⟩
 refine h.u6 (fX.refl _ _) (ry.refl _ _) h.sJ h.sk h.nh ?_ ?_ ?_
 .intro i x hx;rcases hold i x hx with⟨rfl,rfl⟩|⟨_,hx'⟩
  .exact .inr ⟨(h.gF i o ho).1,hro⟩
  .exact .inl ⟨hx',fun hown=>⟨rfl,((h.gF i x hx').2.bi hown).1⟩,h.Cy hx' fun _ _=>rfl⟩
 .intro i j a b ha hb hoa hob hne;obtain⟨a',h1,h2⟩:=was i a ha hoa;obtain⟨b',h3,h4⟩:=was j b hb hob;exact h.nm i j a' b' h1 h3 h2 h4 hne
 .intro i sz sl k x hi hp;rcases hold i _ hi with⟨rfl,e⟩|⟨_,hi'⟩
  .obtain ⟨rows,v,h1,_⟩:=hp;exact absurd h1 (hno sz sl k rows e.symm)
  .obtain ⟨p1,p2⟩:=h.uJ i sz sl k x hi' hp;refine⟨fun j b hj hb=>?_,fun j sz' sl' k' hj hpj=>?_⟩
   .obtain ⟨b',h1,h2⟩:=was j b hj hb;exact p1 j b' h1 h2
   .rcases hold j _ hj with⟨rfl,e⟩|⟨_,hj'⟩
    .obtain ⟨rows,v,h1,_⟩:=hpj;exact absurd h1 (hno sz' sl' k' rows e.symm)
    .exact p2 j sz' sl' k' hj' hpj
theorem Inv.split(h:Inv S K w0 Kn φ hf w){id nxt sz eU:Nat}{slots:List ko}{rows:List (List D)}(ho:hf id=some (.nst sz slots))(hs:slots[eU]?=some (.bi rows))(hn:¬Kn nxt):
  ∃l v,w.cell? ⟨(φ id).bT,(φ id).aK+eU,none⟩=some v/\RC S w (fun j=>Kn j\/j=nxt) (ext φ nxt l) (.bP sz nxt 0 rows.length) v/\
   Inv S K w0 (fun j=>Kn j\/j=nxt) (ext φ nxt l) (aZ [(nxt,some (.aF sz rows)),(id,some (.nst sz (slots.set eU (.kU nxt rows.length))))] hf) w:=by
 obtain⟨hk,hro⟩:=h.gF id _ ho;have hne:id≠nxt:=fun e=>hn (e▸hk);cases hro with
 |@nst _ _ aF hsz hl hS hK hown hext hfit hr hv=>
  obtain⟨v,h1,h2⟩:=hr eU _ hs;cases h2 with
  |@bi _ _ b hrw hbS hbK=>
   obtain⟨addr,cap,ba,rfl,_,hbo,hcap,hfx,hrr⟩:=hrw;have hcell:w.cell? ⟨(φ id).bT,(φ id).aK+eU,none⟩=some (.slice (some ⟨b,addr,none⟩) rows.length cap):=(hown.cell _).trans h1;have hpat:qH w (φ id) slots eU b:=⟨rows,_,hs,hcell,rfl⟩
   obtain⟨p1,p2⟩:=h.uJ id sz slots eU b ho hpat;have he:ext φ nxt ⟨b,addr,sz,ba.size,cap⟩ nxt=⟨b,addr,sz,ba.size,cap⟩:=by simp[ext]
   have heo:∀j,j≠nxt->ext φ nxt ⟨b,addr,sz,ba.size,cap⟩ j=φ j:=fun j hj=>by simp[ext,hj]
   have hren:=ga (φ:=φ) (⟨b,addr,sz,ba.size,cap⟩:gi) hn;have hrc:RC S w (fun j=>Kn j\/j=nxt) (ext φ nxt ⟨b,addr,sz,ba.size,cap⟩) (.bP sz nxt 0 rows.length) (.slice (some ⟨b,addr,none⟩) rows.length cap):=by have:=RC.bP (S:=S) (w:=w) (Kn:=fun j=>Kn j\/j=nxt) (φ:=ext φ nxt ⟨b,addr,sz,ba.size,cap⟩) (id:=nxt) (off:=0) (len:=rows.length) (cap:=cap) (addr:=addr) (.inr rfl) (by omega) (by rw[he];simp) (by rw[he];simpa using hfx) (by rw[he];simp);rw[he]at this;exact this
   refine⟨⟨b,addr,sz,ba.size,cap⟩,_,hcell,hrc,?_⟩
   have hold:∀j c,aZ [(nxt,some (.aF sz rows)),(id,some (.nst sz (slots.set eU (.kU nxt rows.length))))] hf j=some c->(j=nxt/\c=.aF sz rows)\/(j=id/\c=.nst sz (slots.set eU (.kU nxt rows.length)))\/(j≠nxt/\j≠id/\hf j=some c):=by
    intro j c hj;rw[bD]at hj;by_cases e:nxt=j
    .rw [if_pos e]at hj;exact .inl ⟨e.symm,(aa hj).symm⟩
    .rw [if_neg e,bD]at hj;by_cases e2:id=j
     .rw [if_pos e2]at hj;exact .inr (.inl ⟨e2.symm,(aa hj).symm⟩)
     .rw [if_neg e2,eE]at hj;exact .inr (.inr ⟨fun q=>e q.symm,fun q=>e2 q.symm,hj⟩)
   have hpat2:∀j sz' sl' k x,aZ [(nxt,some (.aF sz rows)),(id,some (.nst sz (slots.set eU (.kU nxt rows.length))))] hf j=some (.nst sz' sl')->qH w (ext φ nxt ⟨b,addr,sz,ba.size,cap⟩ j) sl' k x->∃tL,hf j=some (.nst sz' tL)/\qH w (φ j) tL k x/\x≠b:=by
    intro j sz' sl' k x hj hp;rcases hold j _ hj with⟨_,e⟩|⟨rfl,e⟩|⟨e1,e2,hj'⟩
    .cases e
    .cases e;rw[heo _ hne]at hp;obtain⟨rows',v',q1,q2,q3⟩:=hp;rcases tM q1 with⟨_,e,_⟩|⟨hk',q1'⟩
     .cases e
     .have hp':qH w (φ j) slots k x:=⟨rows',v',q1',q2,q3⟩
      exact⟨slots,ho,hp',fun e=>hk' (by rw[((p2 j sz slots k ho (e▸hp')).2)])⟩
    .rw [heo _ e1]at hp;exact⟨sl',hj',hp,fun e=>e2 ((p2 j sz' sl' k hj' (e▸hp)).1)⟩
   refine h.u6 (fX.refl _ _) hren h.sJ h.sk h.nh ?_ ?_ ?_
   .intro j c hj;rcases hold j c hj with⟨rfl,rfl⟩|⟨rfl,rfl⟩|⟨e1,_,hj'⟩
    .refine .inr ⟨.inr rfl,?_⟩;rw[he];exact .aF (by assumption) rfl hbS hbK hbo rfl (by have:=aI sz hcap;simp only;omega) hrr hcap
    .refine .inr ⟨.inl hk,?_⟩;rw[heo _ hne];refine .nst hsz hl hS hK hown hext (by rw[jf];exact hfit) (fun i s hi=>?_) (by rw[jf];exact hv);rcases tM hi with⟨rfl,rfl,_⟩|⟨_,hi'⟩
     .exact ⟨_,h1,.kU hrc⟩
     .obtain ⟨v',q1,q2⟩:=hr i s hi';refine⟨v',q1,?_⟩;cases q2 with|nil=>exact .nil|bi h hS hK=>exact .bi h hS hK|kU h=>exact .kU (h.mono (fX.refl _ _) hren)
    .exact .inl ⟨hj',fun hown=>⟨rfl,((h.gF j c hj').2.bi hown).1⟩,h.Cy hj' fun _ _=>rfl⟩
   .intro i j a c ha hc hoa hoc hij
    have key:∀j c,aZ [(nxt,some (.aF sz rows)),(id,some (.nst sz (slots.set eU (.kU nxt rows.length))))] hf j=some c->cn c=true->j≠nxt->(∃c',hf j=some c'/\cn c'=true)/\ext φ nxt ⟨b,addr,sz,ba.size,cap⟩ j=φ j:=by
     intro j c hj hc hjn;rcases hold j c hj with⟨e,_⟩|⟨rfl,rfl⟩|⟨_,_,hj'⟩
     .exact absurd e hjn
     .exact ⟨⟨_,ho,rfl⟩,heo _ hjn⟩
     .exact ⟨⟨c,hj',hc⟩,heo _ hjn⟩
    by_cases hi:i=nxt
    .subst hi;obtain⟨⟨c',q1,q2⟩,q3⟩:=key j c hc hoc fun e=>hij e.symm;rw[he,q3];exact fun e=>p1 j c' q1 q2 e.symm
    .obtain ⟨⟨a',q1,q2⟩,q3⟩:=key i a ha hoa hi;by_cases hj:j=nxt
     .subst hj;rw[he,q3];exact p1 i a' q1 q2
     .obtain ⟨⟨c',q4,q5⟩,q6⟩:=key j c hc hoc hj;rw[q3,q6];exact h.nm i j a' c' q1 q4 q2 q5 hij
   .intro j sz' sl' k x hj hp;obtain⟨tL,q1,q2,q3⟩:=hpat2 j sz' sl' k x hj hp;obtain⟨r1,r2⟩:=h.uJ j sz' tL k x q1 q2;refine⟨fun i c hi hc=>?_,fun i sz2 sl2 k' hi hpi=>?_⟩
    .rcases hold i c hi with⟨rfl,rfl⟩|⟨rfl,rfl⟩|⟨e1,_,hi'⟩
     .rw [he];exact fun e=>q3 e.symm
     .rw [heo _ hne];exact r1 i _ ho rfl
     .rw [heo _ e1];exact r1 i c hi' hc
    .obtain ⟨sl3,q4,q5,_⟩:=hpat2 i sz2 sl2 k' x hi hpi;exact r2 i sz2 sl3 k' q4 q5
theorem Inv.JT(h:Inv S K w0 Kn φ hf w){id id2 sz sz2 eU:Nat}{slots:List ko}{rows:List (List D)}(ho:hf id=some (.nst sz slots))(hs:slots[eU]?=some (.kU id2 rows.length))(h2:hf id2=some (.aF sz2 rows)):
  Inv S K w0 Kn φ (aZ [(id,some (.nst sz (slots.set eU (.bi rows)))),(id2,none)] hf) w:=by
 obtain⟨hk,hro⟩:=h.gF id _ ho;obtain⟨hk2,hro2⟩:=h.gF id2 _ h2;have hne:id2≠id:=fun e=>by rw[e,ho]at h2;cases h2
 have hold:∀j c,aZ [(id,some (.nst sz (slots.set eU (.bi rows)))),(id2,none)] hf j=some c->(j=id/\c=.nst sz (slots.set eU (.bi rows)))\/(j≠id/\j≠id2/\hf j=some c):=by
  intro j c hj;rw[bD]at hj;by_cases e:id=j
  .rw [if_pos e]at hj;exact .inl ⟨e.symm,(aa hj).symm⟩
  .rw [if_neg e,bD]at hj;by_cases e2:id2=j
   .rw [if_pos e2]at hj;cases hj
   .rw [if_neg e2,eE]at hj;exact .inr ⟨fun q=>e q.symm,fun q=>e2 q.symm,hj⟩
 have was:∀j c,aZ [(id,some (.nst sz (slots.set eU (.bi rows)))),(id2,none)] hf j=some c->cn c=true->j≠id2/\∃c',hf j=some c'/\cn c'=true:=by
  intro j c hj hc;rcases hold j c hj with⟨rfl,rfl⟩|⟨_,e,hj'⟩
  .exact ⟨hne.symm,_,ho,rfl⟩
  .exact ⟨e,c,hj',hc⟩
 cases hro with
 |@nst _ _ aF hsz hl hS hK hown hext hfit hr hv=>
  obtain⟨v,h1,hsl⟩:=hr eU _ hs;have hcell:w.cell? ⟨(φ id).bT,(φ id).aK+eU,none⟩=some v:=(hown.cell _).trans h1
  obtain⟨hvb,hrw⟩:xh v=some (φ id2).bT/\FQ S w sz rows v (φ id2).bT:=by
   cases hsl with
   |kU hrc=>
    cases hro2 with
    |@aF _ _ ba hsz2 hl2 hS2 hK2 hown2 hext2 hfit2 hr2 hv2=>cases hrc with|@bP _ _ _ cap addr hk' hcap haddr hx hcc=>refine⟨rfl,addr,cap,ba,rfl,by rw[hl2];exact hsz2,hown2,hcap,by omega,?_⟩;have:=hr2.w8 (addr:=addr) 0 rows.length (fun hlt=>by rw[haddr (by omega),hl2]);rw[hl2];simpa using this
  obtain⟨hS2,hK2,_⟩:=hro2.bi rfl
  have hpat2:∀j sz' sl' k x,aZ [(id,some (.nst sz (slots.set eU (.bi rows)))),(id2,none)] hf j=some (.nst sz' sl')->qH w (φ j) sl' k x->(j=id/\k=eU/\x=(φ id2).bT)\/∃tL,hf j=some (.nst sz' tL)/\qH w (φ j) tL k x:=by
   intro j sz' sl' k x hj hp;rcases hold j _ hj with⟨rfl,e⟩|⟨e1,e2,hj'⟩
   .cases e;obtain⟨rows',v',q1,q2,q3⟩:=hp;rcases tM q1 with⟨rfl,_,_⟩|⟨hk',q1'⟩
    .refine .inl ⟨rfl,rfl,?_⟩;rw[hcell]at q2;obtain rfl:=aa q2;rw[hvb]at q3;exact(aa q3).symm
    .exact .inr ⟨slots,ho,rows',v',q1',q2,q3⟩
   .exact .inr ⟨sl',hj',hp⟩
  refine h.u6 (fX.refl _ _) (ry.refl _ _) h.sJ h.sk h.nh ?_ ?_ ?_
  .intro j c hj;rcases hold j c hj with⟨rfl,rfl⟩|⟨_,_,hj'⟩
   .refine .inr ⟨hk,.nst hsz hl hS hK hown hext (by rw[jf];exact hfit) (fun i s hi=>?_) (by rw[jf];exact hv)⟩;rcases tM hi with⟨rfl,rfl,_⟩|⟨_,hi'⟩
    .exact ⟨v,h1,.bi hrw hS2 hK2⟩
    .exact hr i s hi'
   .exact .inl ⟨hj',fun hown=>⟨rfl,((h.gF j c hj').2.bi hown).1⟩,h.Cy hj' fun _ _=>rfl⟩
  .intro i j a c ha hc hoa hoc hij;obtain⟨_,a',q1,q2⟩:=was i a ha hoa;obtain⟨_,c',q3,q4⟩:=was j c hc hoc;exact h.nm i j a' c' q1 q3 q2 q4 hij
  .intro j sz' sl' k x hj hp;refine⟨fun i c hi hc=>?_,fun i sz3 sl3 k' hi hpi=>?_⟩
   .obtain ⟨hi2,c',q1,q2⟩:=was i c hi hc;rcases hpat2 j sz' sl' k x hj hp with⟨_,_,rfl⟩|⟨tL,q3,q4⟩
    .exact h.nm i id2 c' _ q1 h2 q2 rfl hi2
    .exact (h.uJ j sz' tL k x q3 q4).1 i c' q1 q2
   .rcases hpat2 j sz' sl' k x hj hp with⟨e1,e2,e3⟩|⟨tL,q3,q4⟩<;>rcases hpat2 i sz3 sl3 k' x hi hpi with⟨e4,e5,e6⟩|⟨sl4,q5,q6⟩
    .exact ⟨e4.trans e1.symm,e5.trans e2.symm⟩
    .exact absurd e3.symm ((h.uJ i sz3 sl4 k' x q5 q6).1 id2 _ h2 rfl)
    .exact absurd e6.symm ((h.uJ j sz' tL k x q3 q4).1 id2 _ h2 rfl)
    .exact (h.uJ j sz' tL k x q3 q4).2 i sz3 sl4 k' q5 q6
theorem Inv.Rp{w':World}(h:Inv S K w0 Kn φ hf w){id sz eU:Nat}{slots:List ko}{s':ko}{v:Value}{aF arr':Array Value}(ho:hf id=some (.nst sz slots))(hown:nL w (φ id).bT aF)(hown':nL w' (φ id).bT arr')(hsize':arr'.size=aF.size)
  (hother:∀b,b≠(φ id).bT->w'.heap[b]?=w.heap[b]?) (hsize:w'.heap.size=w.heap.size) (hfrz:∀a,w'.frozen? a=w.frozen? a) (hio:Io w w')
  (hget:∀i,i≠(φ id).aK+eU->arr'[i]?=aF[i]?) (hv:eU<slots.length->arr'[(φ id).aK+eU]?=some v) (hslot:fX S w S w'->ze S K w' Kn φ sz s' v) (hs':∀rows,s'≠.bi rows):
  fX S w S w'/\Inv S K w0 Kn φ (aZ [(id,some (.nst sz (slots.set eU s')))] hf) w':=by
 obtain⟨hk,h0⟩:=h.gF id _ ho;obtain⟨hS,hK,hlt⟩:=h0.bi rfl;have hs:fX S w S w':=⟨fun _ h=>h,fun b hb=>hother b (fun e=>hS (e▸hb))⟩
 have hold:∀j c,aZ [(id,some (.nst sz (slots.set eU s')))] hf j=some c->(j=id/\c=.nst sz (slots.set eU s'))\/(j≠id/\hf j=some c):=by
  intro j c hj;rw[bD]at hj;by_cases e:id=j
  .rw [if_pos e]at hj;exact .inl ⟨e.symm,(aa hj).symm⟩
  .rw [if_neg e,eE]at hj;exact .inr ⟨fun q=>e q.symm,hj⟩
 have was:∀j c,aZ [(id,some (.nst sz (slots.set eU s')))] hf j=some c->cn c=true->∃c',hf j=some c'/\cn c'=true:=by
  intro j c hj hc;rcases hold j c hj with⟨rfl,rfl⟩|⟨_,hj'⟩
  .exact ⟨_,ho,rfl⟩
  .exact ⟨c,hj',hc⟩
 have hpat2:∀j sz' sl' k x,aZ [(id,some (.nst sz (slots.set eU s')))] hf j=some (.nst sz' sl')->qH w' (φ j) sl' k x->∃tL,hf j=some (.nst sz' tL)/\qH w (φ j) tL k x:=by
  intro j sz' sl' k x hj hp;rcases hold j _ hj with⟨rfl,e⟩|⟨e1,hj'⟩
  .cases e;obtain⟨rows',v',q1,q2,q3⟩:=hp;rcases tM q1 with⟨_,e,_⟩|⟨hk',q1'⟩
   .exact absurd e.symm (hs' rows')
   .refine ⟨slots,ho,rows',v',q1',?_,q3⟩;rw[hown.cell,<-hget _ (by omega),<-hown'.cell];exact q2
  .exact ⟨sl',hj',(qH.dW (hother _ (h.nm j id _ _ hj' ho rfl rfl e1))).1 hp⟩
 have hkeep:∀j sz' sl' k x,hf j=some (.nst sz' sl')->qH w (φ j) sl' k x->w'.heap[x]?=w.heap[x]?/\¬S x:=fun j sz' sl' k x hj hp=>⟨hother x fun e=>(h.uJ j sz' sl' k x hj hp).1 id _ ho rfl e.symm,(h.DV hj hp).1⟩;refine⟨hs,h.u6 hs (ry.refl _ _) (fun b hb=>hsize▸h.sJ b hb) h.sk ?_ ?_ ?_ ?_⟩
 .exact ⟨h.nh.Ed,fun b hb=>(hother b (fun e=>hK (e▸hb))).trans (h.nh.md b hb),hsize▸h.nh.sx,fun a ha=>(hfrz a).trans (h.nh.Ad a ha),h.nh.yh hother (fun a ha=>⟨arr',hown',by obtain⟨t1,e1⟩:=ha;obtain⟨t2,e2⟩:=hown;rw[e1]at e2;rw[hsize'];cases e2;rfl⟩),h.nh.io.trans hio⟩
 .intro j c hj;rcases hold j c hj with⟨rfl,rfl⟩|⟨e1,hj'⟩
  .refine .inr ⟨hk,?_⟩;cases h0 with
   |@nst _ _ arr0 hsz hl hS hK hown0 hext hfit hr hv0=>
    have ea:arr0=aF:=by obtain⟨t1,e1⟩:=hown0;obtain⟨t2,e2⟩:=hown;rw[e1]at e2;cases e2;rfl
    subst ea;refine .nst hsz hl hS hK hown' (hsize'.trans hext) (by rw[jf];exact hfit) (fun i s hi=>?_) (by rw[jf];exact hv0);rcases tM hi with⟨rfl,rfl,hlt⟩|⟨hne,hi'⟩
    .exact ⟨v,hv hlt,hslot hs⟩
    .obtain ⟨v',q1,q2⟩:=hr i s hi';refine⟨v',(hget _ (by omega)).trans q1,?_⟩;cases q2 with|nil=>exact .nil|@bi rows _ b q3 q4 q5=>exact .bi (q3.mono hs (hkeep j sz slots i b ho ⟨rows,v',hi',(hown.cell _).trans q1,q3.bT⟩).1) q4 q5|kU q3=>exact .kU (q3.mono hs (ry.refl _ _))
  .exact .inl ⟨hj',fun hox=>⟨hother _ (h.nm j id c _ hj' ho hox rfl e1),((h.gF j c hj').2.bi hox).1⟩,fun sz' sl' eo k x hp=>by subst eo;exact hkeep j sz' sl' k x hj' hp⟩
 .intro i j a c ha hc hoa hoc hij;obtain⟨a',q1,q2⟩:=was i a ha hoa;obtain⟨c',q3,q4⟩:=was j c hc hoc;exact h.nm i j a' c' q1 q3 q2 q4 hij
 .intro j sz' sl' k x hj hp;obtain⟨tL,q1,q2⟩:=hpat2 j sz' sl' k x hj hp;obtain⟨r1,r2⟩:=h.uJ j sz' tL k x q1 q2;refine⟨fun i c hi hc=>?_,fun i sz3 sl3 k' hi hpi=>?_⟩
  .obtain ⟨c',q3,q4⟩:=was i c hi hc;exact r1 i c' q3 q4
  .obtain ⟨sl4,q5,q6⟩:=hpat2 i sz3 sl3 k' x hi hpi;exact r2 i sz3 sl4 k' q5 q6
end
end Go.Ev
