/- The abstract machine: deep data, cells, owned objects, operations and code, and their evaluation. Conditions: none, these are definitions. -/
import Derived.Orders
import Derived.Laws.CopyRow
open Array renaming getD->gr,getElem?_eq_none->dX,getElem?_eq_some_iff->aT
open BitVec renaming ofInt->bN
open Bool renaming false_eq_true->aG
open List renaming all_eq_true->aL,append_nil->eI,flatMap_cons->aZ,flatten_cons->cE,getElem?_append_left->bm,getElem?_append_right->bw,getElem?_drop->bi,getElem?_eq_getElem->ap,getElem?_eq_some_iff->af,getElem?_map->aC,getElem?_take->cN,getElem_of_mem->eV,length_map->aH,length_set->fE,length_take->eu,map->hZ,mem_append->ah,mem_cons->aE,mem_cons_of_mem->aq,mem_flatten->ce,mem_of_getElem?->aS,mem_singleton->ao,nodup_append->bR,nodup_cons->eQ,nodup_nil->gR,range->dJ,replicate->au
open Nat renaming add_assoc->bK,add_zero->ci,le_refl->ai,le_succ->a_,le_trans->cZ,lt_of_lt_of_le->ct,lt_succ_self->aN,mul_le_mul_right->aw,mul_one->gQ,zero_add->bl,zero_mul->eC
open Option renaming bind_eq_some_iff->dM,map_eq_some_iff->aA
open Option.some renaming inj->aa,injEq->bp
open Prod.mk renaming inj->ad
namespace Go.Ev
inductive D where
 |lit (v:Value)
 |sl (sz:Nat) (rows:List (List D))
 |pt (cells:List D)
 |fn (f:FuncId) (caps:List D)
 deriving Inhabited
inductive C where
 |d (x:D)
 |da (sz id off len:Nat)
 |ep (id cU off:Nat)
 |op (id off:Nat)
 |jy (f:FuncId) (caps:List C)
 |om (id:Nat)
 deriving Inhabited
inductive TV where
 |c (x:C)
 |agg (cells:List C)
 |fm (xs:List TV)
 deriving Inhabited
inductive gH where
 |nil
 |aW (rows:List (List D))
 |ku (id len:Nat)
 deriving Inhabited
inductive Ob where
 |aB (sz:Nat) (rows:List (List D))
 |ML (sz:Nat) (rows:List (List D))
 |box (cells:List C)
 |ji (cells:List D)
 |map (ka va:Bool) (es:List (List Value×List D×Nat)) (dg:Nat)
 |cap (sz:Nat) (rows:List (List D)) (cp:Nat)
 |nst (sz:Nat) (slots:List gH)
 deriving Inhabited
inductive T where
 |d (x:D)
 |sl (sz:Nat) (rows:List (List D))
 |pt (cells:List T)
 |rK (sz:Nat) (rows:List (Option (List (List D))))
 |Nl
 deriving Inhabited
inductive A where
 |d (x:D)
 |agg (cells:List D)
 |mt (t:T)
 deriving Inhabited
inductive R where
 |c (t:T)
 |agg (cells:List T)
 deriving Inhabited
def cO:Value->Bool
 |.bool _|.int _ _|.float _ _|.string _|.pointer none|.slice none 0 0|.map none|.nilFunc|.nilIface=>true
 |_=>false
def vO:Nat:=2147483648
def bv{α:Type}:List (Nat×α)->Nat->Option α
 |[],_=>none
 |(a,x)::r,k=>bif a==k then some x else bv r k
abbrev fN:=List (Nat×TV)
abbrev aY:=List (Nat×Option Ob)
abbrev de:=List (Nat×Option Ob)
def ak(h:aY)(id:Nat):Option Ob:=(bv h id).join
inductive Kd where
 |b
 |i (k:IntKind)
 |s
 deriving Inhabited,DecidableEq
inductive K where
 |mv
 |pick
 |alloc (zero:List Value)
 |box
 |build (zero:List Value) (places:List (Nat×Nat))
 |buildSlice (sz len:Nat) (zero:List Value) (places:List Nat)
 |load (agg:Bool) (n:Nat)
 |store (n:Nat)
 |nilCheck
 |rB (op:BinOp)
 |nA (neg:Bool)
 |lc (kind:Nat) (neg:Bool)
 |rh (neg:Bool) (ks:List Kd)
 |un (op:UnOp)
 |oe (k:IntKind)
 |wn (k:FloatKind)
 |mn
 |AG (f:FuncId)
 |makeSlice (zero:List Value)
 |slice (str:Bool) (sz:Nat) (lo hi:Bool)
 |fieldAddr (off n:Nat)
 |field (agg:Bool) (off n:Nat)
 |indexAddr (aB:Option Nat) (sz:Nat)
 |jZ
 |index (agg:Bool) (len sz:Nat)
 |extract (i:Nat)
 |len (str:Bool)
 |lE (isMax:Bool)
 |append (sz:Nat)
 |copy (sz:Nat)
 |clear (zero:List Value)
 |tD (sz:Nat)
 |DA
 |IP (zero:List Value)
 |Ii
 |call (ro:Bool) (ga:List Bool)
 |makeMap (ka va:Bool)
 |lookup (ka:Bool) (ks:List Kd) (va:Bool) (zero:List Value) (ok:Bool)
 |mapEntry (ka:Bool) (ks:List Kd) (va:Bool) (zero:List Value)
 |entryStore (va:Bool) (m:Nat)
 |sM (szi:Nat)
 |m7
 |dL
 deriving Inhabited
structure iX where
 dst:Option Nat
 k:K
 args:List Operand
 guard:Option (Nat×Bool)
 deriving Inhabited
inductive CC where
 |skip
 |region (ops:List iX) (ik:List Nat)
 |drawn (ops:List iX) (dyn:List (Nat×Nat)) (ik:List Nat)
 |seq (a b:CC)
 |cond (c:Operand) (a b:CC)
 |block (id:Nat) (a:CC)
 |loop (ik:List Nat) (a:CC)
 |exit (id:Nat)
 |ret
 |dL
 deriving Inhabited
structure St where
 bS:fN
 heap:aY
 next:Nat
 gh:List C
 deriving Inhabited
inductive kP where
 |normal
 |exit (id:Nat)
 |ret
 deriving Inhabited,DecidableEq
def It:Nat->Option D:=fun _ => none
def cv:Value->Option TV
 |.agg cs=>if cs.toList.all cO then some (.agg (cs.toList.map fun v=>.d (.lit v)))else none
 |v=>if cO v then some (.c (.d (.lit v)))else none
def L9(e:fN):Operand->Option TV
 |.tmp t=>bv e t
 |.const v=>cv v
 |.global g=>(It g).map fun d=>.c (.d d)
 |.func f=>some (.c (.d (.fn f [])))
def cellsOf:TV->Option (List C)
 |.c x=>some [x]
 |.agg cs=>some cs
 |.fm _=>none
def db:List Value->List C:=hZ fun v=>.d (.lit v)
def bO:List Value->List D:=hZ D.lit
def aM{α:Type}(l:List α)(off:Nat)(p:List α):List α:=l.take off++p++l.drop (off+p.length)
def iL(cells:List C):List ((Nat×Nat)×TV)->Option (List C)
 |[]=>some cells
 |((off,n),v)::r=>match cellsOf v with|some cs=>if cs.length=n/\off+n<=cells.length then iL (aM cells off cs) r else none|none=>none
def ip{α:Type}(sz:Nat):Nat->List α->List (List α)
 |0,_=>[]
 |n+1,l=>l.take sz::ip sz n (l.drop sz)
def BM(sz:Nat):gH->Option D
 |.nil=>some (.lit (.slice none 0 0))
 |.aW rows=>some (.sl sz rows)
 |.ku _ _=>none
def kH(sz:Nat):List gH->Option (List (List D))
 |[]=>some []
 |s::r=>match BM sz s,kH sz r with|some x,some l=>some ([x]::l)|_,_=>none
def FJ:gH->Option (Option (List (List D)))
 |.nil=>some none
 |.aW rows=>some (some rows)
 |.ku _ _=>none
def nq:List gH->Option (List (Option (List (List D))))
 |[]=>some []
 |s::r=>match FJ s,nq r with|some x,some l=>some (x::l)|_,_=>none
def iG:Option (List (List D))->gH
 |none=>.nil
 |some rows=>.aW rows
mutual
def cz(h:aY):Nat->C->Option (D×List Nat)
 |_,.d x=>some (x,[])
 |_,.da sz id off len=>match ak h id with|some (.aB _ rows)|some (.ML _ rows)=>if off+len<=rows.length then some (.sl sz ((rows.drop off).take len),[id])else none|some (.nst szi slots)=>if off=0/\len=slots.length then(match kH szi slots with|some rows=>some (.sl sz rows,[id])|none=>none)else none|_=>none
 |_,.ep id cU off=>
  match ak h id with
  |some (.aB _ rows)|some (.ML _ rows)=>match rows[cU]?with|some r=>if off<=r.length then some (.pt (r.drop off),[id])else none|none=>none
  |_=>none
 |0,_=>none
 |n+1,.op id off=>
  match ak h id with
  |some (.ji cells)=>if off<=cells.length then some (.pt (cells.drop off),[id])else none
  |some (.box cells)=>match dF h n cells with|some (ds,aj)=>if off<=ds.length then some (.pt (ds.drop off),id::aj)else none|none=>none
  |_=>none
 |n+1,.jy f caps=>match dF h n caps with|some (ds,aj)=>some (.fn f ds,aj)|none=>none
 |_+1,.om _=>none
def dF(h:aY):Nat->List C->Option (List D×List Nat)
 |_,[]=>some ([],[])
 |0,_=>none
 |n+1,c::cs=>match cz h n c,dF h n cs with|some (x,a),some (xs,b)=>some (x::xs,a++b)|_,_=>none
end
def fV(h:aY)(all:List Nat)(id:Nat):Option Ob:=
 match ak h id with
 |some (.aB sz rows)=>some (.ML sz rows)
 |some (.ML sz rows)=>some (.ML sz rows)
 |some (.ji cells)=>some (.ji cells)
 |some (.box cells)=>match dF h 300 cells with|some (ds,aj)=>if aj.all (fun i=>all.contains i)then some (.ji ds)else none|none=>none
 |some (.map _ _ _ _)=>none
 |some (.cap _ _ _)=>none
 |some (.nst szi slots)=>match kH szi slots with|some rows=>some (.ML 1 rows)|none=>none
 |none=>none
def b_(h:aY)(all:List Nat):List Nat->Option de
 |[]=>some []
 |id::r=>match fV h all id,b_ h all r with|some o,some u=>some ((id,some o)::u)|_,_=>none
def cm(h:aY):List C->Option (List D×List Nat)
 |[]=>some ([],[])
 |c::cs=>match cz h 300 c,cm h cs with|some (x,a),some (xs,b)=>some (x::xs,a++b)|_,_=>none
mutual
def cG(h:aY):Nat->C->Option (T×List Nat×List Nat)
 |_,.d x=>some (.d x,[],[])
 |_,.da sz id off len=>match ak h id with|some (.aB _ rows)=>if off+len<=rows.length then some (.sl sz ((rows.drop off).take len),[id],[id])else none|some (.ML _ rows)=>if off+len<=rows.length then some (.d (.sl sz ((rows.drop off).take len)),[],[id])else none|some (.nst szi slots)=>if off=0/\len=slots.length then(match nq slots with|some rows=>some (.rK szi rows,[id],[id])|none=>none)else none|_=>none
 |0,_=>none
 |n+1,.op id 0=>
  match ak h id with
  |some (.box cells)=>match eY h n cells with|some (ts,aW,aj)=>some (.pt ts,id::aW,id::aj)|none=>none
  |some (.ji cells)=>some (.d (.pt cells),[],[id])
  |_=>none
 |_+1,_=>none
def eY(h:aY):Nat->List C->Option (List T×List Nat×List Nat)
 |_,[]=>some ([],[],[])
 |0,_=>none
 |n+1,c::cs=>match cG h n c,eY h n cs with|some (x,a,i),some (xs,b,j)=>some (x::xs,a++b,i++j)|_,_=>none
end
mutual
def gJ(nxt:Nat):T->C×de×Nat
 |.d x=>(.d x,[],nxt+1)
 |.Nl=>(.d (.lit .nilFunc),[],nxt+1)
 |.sl sz rows=>(.da sz nxt 0 rows.length,[(nxt,some (.aB sz rows))],nxt+1)
 |.rK sz rows=>(.da 1 nxt 0 rows.length,[(nxt,some (.nst sz (rows.map iG)))],nxt+1)
 |.pt ts=>let(cs,u,m):=eW (nxt+1) ts;(.op nxt 0,(nxt,some (.box cs))::u,m)
def eW(nxt:Nat):List T->List C×de×Nat
 |[]=>([],[],nxt)
 |t::ts=>let(c,u,m):=gJ nxt t;let(cs,v,k):=eW m ts;(c::cs,u++v,k)
end
def pp(nxt:Nat):R->TV×de×Nat
 |.c t=>let(c,u,m):=gJ nxt t;(.c c,u,m)
 |.agg ts=>let(cs,u,m):=eW nxt ts;(.agg cs,u,m)
def J9(nxt:Nat):List R->List TV×de×Nat
 |[]=>([],[],nxt)
 |r::rs=>let(v,u,m):=pp nxt r;let(vs,w,k):=J9 m rs;(v::vs,u++w,k)
abbrev Call:=FuncId->List A->Option (List R×List T)
abbrev yO:=Option (TV×de×List Nat×Nat)
def lv(v:Value):TV:=.c (.d (.lit v))
def jr(op:BinOp):Value->Value->Option Value
 |.int k a,.int k' b=>
  match op with
  |.shl=>if b<0 then none else some (.int k (k.wrap (a*2^(min b.toNat k.bits))))
  |.shr=>if b<0 then none else some (.int k (a.fdiv (2^(min b.toNat k.bits))))
  |op=>if k=k' then
   (match op with
   |.add=>some (.int k (k.wrap (a+b)))
   |.sub=>some (.int k (k.wrap (a-b)))
   |.mul=>some (.int k (k.wrap (a*b)))
   |.quo=>if b=0 then none else some (.int k (k.wrap (a.tdiv b)))
   |.rem=>if b=0 then none else some (.int k (a.tmod b))
   |.and=>some (.int k (k.wrap (bN k.bits a&&&bN k.bits b).toNat))
   |.or=>some (.int k (k.wrap (bN k.bits a|||bN k.bits b).toNat))
   |.xor=>some (.int k (k.wrap (bN k.bits a^^^bN k.bits b).toNat))
   |.andNot=>some (.int k (k.wrap (bN k.bits a&&&~~~bN k.bits b).toNat))
   |.eql=>some (.bool (a==b))
   |.neq=>some (.bool (a !=b))
   |.lss=>some (.bool (a<b))
   |.leq=>some (.bool (a<=b))
   |.gtr=>some (.bool (a>b))
   |.geq=>some (.bool (a>=b))
   |_=>none)else none
 |.float k a,.float k' b=>
  if k=k' then
   match op with|.add=>(k.format.add a b).map (.float k)|.sub=>(k.format.sub a b).map (.float k)|.mul=>(k.format.mul a b).map (.float k)|.quo=>(k.format.div a b).map (.float k)|.eql=>some (.bool (k.format.order a b==some .eq))|.neq=>some (.bool (k.format.order a b !=some .eq))|.lss=>some (.bool (k.format.order a b==some .lt))|.leq=>some (.bool (k.format.order a b==some .lt||k.format.order a b==some .eq))|.gtr=>some (.bool (k.format.order a b==some .gt))|.geq=>some (.bool (k.format.order a b==some .gt||k.format.order a b==some .eq))|_=>none
  else none
 |.string x,.string y=>match op with|.add=>if((x.size+y.size:Nat):Int)>IntKind.i64.max then none else some (.string (x++y))|.eql=>some (.bool (x.toList==y.toList))|.neq=>some (.bool !(x.toList==y.toList))|.lss=>some (.bool (Op.bytesLess x.toList y.toList))|.leq=>some (.bool (Op.bytesLess x.toList y.toList||x.toList==y.toList))|.gtr=>some (.bool !(Op.bytesLess x.toList y.toList||x.toList==y.toList))|.geq=>some (.bool !(Op.bytesLess x.toList y.toList))|_=>none
 |_,_=>none
def Sy(k:FloatKind):Nat:=match k with|.f32=>0x7fc00000|.f64=>0x7ff8000000000001
def tT(op:BinOp):Value->Value->Option Value
 |.float k a,.float k' b=>
  if k=k' then
   match op with|.add=>if k.format.add a b=none then some (.float k (Sy k))else none|.sub=>if k.format.sub a b=none then some (.float k (Sy k))else none|.mul=>if k.format.mul a b=none then some (.float k (Sy k))else none|.quo=>if k.format.div a b=none then some (.float k (Sy k))else none|_=>none
  else none
 |_,_=>none
def MB(op:BinOp)(x y:Value):Option Value:=match jr op x y with|some v=>some v|none=>tT op x y
def Gh(op:UnOp):Value->Option Value
 |.bool b=>match op with|.not=>some (.bool !b)|_=>none
 |.int k n=>match op with|.neg=>some (.int k (k.wrap (0-n)))|.xor=>some (.int k (k.wrap (bN k.bits (if k.signed then-1 else k.max)^^^bN k.bits n).toNat))|_=>none
 |.float k b=>match op with|.neg=>some (.float k (Op.negFloat k b))|_=>none
 |_=>none
def uF:Kd->Value->Value->Option Bool
 |.i q,.int k a,.int k' b=>if k=q/\k'=q then some (a==b)else none
 |.b,.bool a,.bool b=>some (a==b)
 |.s,.string a,.string b=>some (a==b)
 |_,_,_=>none
def QK:List Kd->List Value->List Value->Option Bool
 |[],[],[]=>some true
 |k::ks,x::xs,y::ys=>match uF k x y,QK ks xs ys with|some a,some b=>some (a&&b)|_,_=>none
 |_,_,_=>none
def gZ:List C->Option (List Value)
 |[]=>some []
 |.d (.lit v)::r=>match gZ r with|some l=>some (v::l)|none=>none
 |_=>none
def uD(isMax:Bool):Value->Value->Option Value
 |.int k x,.int k' y=>if k=k' then some (.int k (if isMax then(if y>x then y else x)else(if y<x then y else x)))else none
 |.float k x,.float k' y=>
  if k=k' then match k.format.order x y with|none=>some (.float k (Sy k))|some .lt=>some (.float k (if isMax then y else x))|some .gt=>some (.float k (if isMax then x else y))|some .eq=>some (.float k (if isMax then(if(k.decode x).neg then y else x)else(if(k.decode x).neg then x else y)))
  else none
 |_,_=>none
def Cp(isMax:Bool):Value->List (Option TV)->Option Value
 |x,[]=>some x
 |x,some (.c (.d (.lit y)))::r=>match uD isMax x y with|some z=>Cp isMax z r|none=>none
 |_,_=>none
def vQ(agg:Bool)(n:Nat)(cells:List C):Option TV:=if agg then(if n<=cells.length then some (.agg (cells.take n))else none)else match cells with|x::_=>some (.c x)|[]=>none
def FT(agg:Bool)(n:Nat)(cells:List D):Option TV:=if agg then(if n<=cells.length then some (.agg ((cells.take n).map .d))else none)else match cells with|x::_=>some (.c (.d x))|[]=>none
def eH(agg:Bool)(n:Nat)(p:C)(h:aY):Option (TV×List Nat):=
 match p with
 |.d (.pt cells)=>match FT agg n cells with|some v=>some (v,[])|none=>none
 |.ep id cU off=>
  match ak h id with
  |some (.aB _ rows)|some (.ML _ rows)=>
   match rows[cU]?with
   |some r=>match FT agg n (r.drop off)with|some v=>some (v,[id])|none=>none
   |none=>none
  |_=>none
 |.op id off=>
  match ak h id with
  |some (.box cells)=>match vQ agg n (cells.drop off)with|some v=>some (v,[id])|none=>none
  |some (.ji cells)=>match FT agg n (cells.drop off)with|some v=>some (v,[id])|none=>none
  |_=>none
 |_=>none
def lK(id cU sz:Nat)(slots:List gH)(cs:List C)(h:aY):Option (de×List Nat):=
 match cs with
 |[.d (.lit (.slice none 0 0))]=>some ([(id,some (.nst sz (slots.set cU .nil)))],[id])
 |[.da sz' id2 0 len]=>match ak h id2 with|some (.aB _ rows)=>if sz'=sz/\len=rows.length/\id2≠id then some ([(id,some (.nst sz (slots.set cU (.aW rows)))),(id2,none)],[id,id2])else none|_=>none
 |_=>none
def gU(agg:Bool)(n:Nat)(p:C)(h:aY)(nxt:Nat):yO:=
 match p with
 |.ep id cU 0=>
  match ak h id with
  |some (.nst sz slots)=>if agg=false/\n=1 then
   (match slots[cU]?with
   |some .nil=>some (.c (.d (.lit (.slice none 0 0))),[],[id],nxt)
   |some (.aW rows)=>some (.c (.da sz nxt 0 rows.length),[(nxt,some (.aB sz rows)),(id,some (.nst sz (slots.set cU (.ku nxt rows.length))))],[id],nxt+1)
   |_=>none)else none
  |_=>none
 |_=>none
def ia(n:Nat)(p:C)(v:TV)(h:aY):Option (de×List Nat):=
 match cellsOf v with
 |none=>none
 |some cs=>
  if cs.length=n then
   match p with
   |.ep id cU off=>
    match ak h id with
    |some (.aB sz rows)=>
     match rows[cU]?,cm h cs with
     |some r,some (ds,aj)=>match b_ h aj aj with|some u=>if off+n<=r.length/\aj.contains id=false then some ((id,some (.aB sz (rows.set cU (aM r off ds))))::u,id::aj)else none|none=>none
     |_,_=>none
    |some (.nst sz slots)=>if off=0/\n=1/\cU<slots.length then lK id cU sz slots cs h else none
    |_=>none
   |.op id off=>match ak h id with|some (.box cells)=>if off+n<=cells.length then some ([(id,some (.box (aM cells off cs)))],[id])else none|_=>none
   |_=>none
  else none
def bC:Option TV->Option Int
 |some (.c (.d (.lit (.int _ n))))=>some n
 |_=>none
def dq(str:Bool)(sz:Nat)(x:C)(lo hi:Option Int):Option C:=
 if str then match x with
 |.d (.lit (.string s))=>
  let h:=hi.getD s.size;let l:=lo.getD 0
  if 0<=l/\l<=h/\h<=s.size then some (.d (.lit (.string (s.extract l.toNat h.toNat))))else none
 |_=>none
 else match x with
 |.d (.lit (.slice none 0 0))=>if 0<=lo.getD 0/\lo.getD 0<=hi.getD 0/\hi.getD 0<=0 then some x else none
 |.da sz' id off len=>
  let h:=hi.getD len;let l:=lo.getD 0
  if sz'=sz/\0<=l/\l<=h/\h<=len then some (.da sz id (off+l.toNat) (h.toNat-l.toNat))else none
 |.d (.sl sz' rows)=>
  let h:=hi.getD rows.length;let l:=lo.getD 0
  if sz'=sz/\0<=l/\l<=h/\h<=rows.length then some (.d (.sl sz ((rows.drop l.toNat).take (h.toNat-l.toNat))))else none
 |_=>none
def Mz(str:Bool)(sz:Nat)(x:C)(l u:Int)(h:aY):Option (C×List Nat):=
 match str,x with
 |false,.da sz' id off _=>match ak h id with|some (.aB _ rows)=>if sz'=sz/\0<=l/\l<=u/\off+u.toNat<=rows.length then some (.da sz id (off+l.toNat) (u.toNat-l.toNat),[id])else none|some (.cap _ _ cp)=>if sz'=sz/\0<=l/\l<=u/\off+u.toNat<=cp then some (.da sz id (off+l.toNat) (u.toNat-l.toNat),[id])else none|_=>none
 |_,_=>none
def Dg(sz:Nat)(x:C)(l u m:Int)(nxt:Nat):Option C:=match x with|.da sz' _ _ len=>if sz'=sz/\0<=l/\l<=u/\u<=m/\m<=len then some (.da sz nxt 0 (u.toNat-l.toNat))else none|_=>none
def jG(zero:List Value)(x:C)(h:aY):Option (de×List Nat):=
 match x with
 |.da sz id off len=>match ak h id with|some (.aB _ rows)=>if sz=zero.length/\off+len<=rows.length then some ([(id,some (.aB sz (aM rows off (au len (bO zero)))))],[id])else none|_=>none
 |_=>none
def Xr(off n:Nat):C->Option C
 |.op id o=>some (.op id (o+off))
 |.ep id r o=>some (.ep id r (o+off))
 |.d (.pt cells)=>if off+n<=cells.length then some (.d (.pt ((cells.drop off).take n)))else none
 |_=>none
def eZ(aB:Option Nat)(sz:Nat)(x:C)(i:Int):Option C:=
 match aB with
 |none=>match x with|.da sz' id off len=>if 0<=i/\i<len/\sz'=sz then some (.ep id (off+i.toNat) 0)else none|.d (.sl sz' rows)=>if 0<=i/\sz'=sz then(match rows[i.toNat]?with|some r=>some (.d (.pt r))|none=>none)else none|_=>none
 |some n=>
  if 0<=i/\i<n then
   match x with|.op id o=>some (.op id (o+i.toNat*sz))|.ep id r o=>some (.ep id r (o+i.toNat*sz))|.d (.pt cells)=>if i.toNat*sz+sz<=cells.length then some (.d (.pt ((cells.drop (i.toNat*sz)).take sz)))else none|_=>none
  else none
def m_:Bool->C->Option Int
 |true,.d (.lit (.string s))=>some s.size
 |false,.d (.lit (.slice none 0 0))=>some 0
 |false,.da _ _ _ len=>some len
 |false,.d (.sl _ rows)=>some rows.length
 |_,_=>none
def fz(sz:Nat)(h:aY):C->Option (List (List D)×List Nat)
 |.d (.lit (.slice none 0 0))=>some ([],[])
 |.d (.sl sz' rows)=>if sz'=sz then some (rows,[])else none
 |.da sz' id off len=>match ak h id with|some (.aB _ rows)|some (.ML _ rows)=>if sz'=sz/\off+len<=rows.length then some ((rows.drop off).take len,[id])else none|_=>none
 |_=>none
def jj(sz:Nat)(s x:C)(h:aY)(nxt:Nat):yO:=
 match fz sz h x with
 |none=>none
 |some (new,aj)=>
  match s with
  |.d (.lit (.slice none 0 0))=>
   if new.length<=vO then
    match new with|[]=>some (.c s,[],aj,nxt)|new=>some (.c (.da sz nxt 0 new.length),[(nxt,some (.aB sz new))],aj,nxt+1)
   else none
  |.da sz' id off len=>
   match ak h id with
   |some (.aB _ rows)=>
    if sz'=sz/\off+len<=rows.length/\len+new.length<=vO then
     some (.c (.da sz nxt 0 (len+new.length)),[(id,none),(nxt,some (.aB sz ((rows.drop off).take len++new++rows.drop (off+len+new.length))))],id::aj,nxt+1)
    else none
   |_=>none
  |_=>none
def jF(sz:Nat)(dst src:C)(h:aY):Option (Int×de×List Nat):=
 match dst,src with
 |.da sz' id off len,.da sz2 id2 off2 len2=>
  match ak h id,ak h id2 with
  |some (.cap _ rows cp),some (.aB _ rows2)=>
   if sz'=sz/\sz2=sz/\off<=rows.length/\off2+min len2 len<=rows2.length then
    some ((min len2 len:Nat),[(id,some (.cap sz (aM rows off ((rows2.drop off2).take (min len2 len))) cp))],[id,id2])
   else none
  |some (.cap _ rows cp),some (.cap _ rows2 _)=>
   if sz'=sz/\sz2=sz/\off<=rows.length/\off2+min len2 len<=rows2.length then
    some ((min len2 len:Nat),[(id,some (.cap sz (aM rows off ((rows2.drop off2).take (min len2 len))) cp))],[id,id2])
   else none
  |_,_=>none
 |_,_=>none
def sU(zero:List Value)(x:C)(k:Int)(h:aY)(nxt:Nat):yO:=
 match x with
 |.da sz' id off len=>
  match ak h id with
  |some (.cap _ rows cp)=>
   if sz'=zero.length/\0<=k/\len+k.toNat<=vO/\off+len<=rows.length/\cp<off+len+k.toNat then
    some (.c (.da zero.length nxt 0 (len+k.toNat)),[(nxt,some (.aB zero.length ((rows.drop off).take len++au k.toNat (bO zero))))],[id],nxt+1)
   else none
  |_=>none
 |_=>none
def rg(x:C)(h:aY):Option (Nat×List Nat):=
 match x with
 |.da _ id off _=>match ak h id with|some (.cap _ _ cp)=>some (cp-off,[id])|_=>none
 |_=>none
def rf(x y:C)(h:aY):Option (List Nat):=
 match x,y with
 |.da _ a _ _,.da _ b _ _=>match ak h a,ak h b with|some (.aB _ _),some (.cap _ _ cp)=>if a≠b/\0<cp then some [a,b]else none|_,_=>none
 |_,_=>none
def il(sz:Nat)(dst src:C)(h:aY):Option (Int×de×List Nat):=
 match fz sz h src,dst with
 |some (_,aj),.d (.lit (.slice none 0 0))=>some (0,[],aj)
 |some (new,aj),.da sz' id off len=>
  match ak h id with
  |some (.aB _ rows)=>
   if sz'=sz/\off+len<=rows.length then
    some ((min new.length len:Nat),[(id,some (.aB sz (aM rows off (new.take len))))],id::aj)
   else none
  |_=>none
 |_,_=>none
def dQ(h:aY):List TV->List Bool->Option (List A×List Nat×List (C×List Nat×List Nat))
 |[],_=>some ([],[],[])
 |v::vs,ms=>
  match dQ h vs ms.tail with
  |none=>none
  |some (as,aj,lent)=>
   if ms.headD false then
    match v with
    |.c c=>match cG h 300 c with|some (t,aW,rd)=>some (.mt t::as,aj,(c,aW,rd)::lent)|none=>none
    |_=>none
   else match v with
    |.c c=>match cz h 300 c with|some (x,i)=>some (.d x::as,i++aj,lent)|none=>none
    |.agg cs=>match cm h cs with|some (xs,i)=>some (.agg xs::as,i++aj,lent)|none=>none
    |.fm _=>none
def cq(nxt:Nat):List (C×List Nat×List Nat)->List T->Option (de×Nat)
 |[],[]=>some ([],nxt)
 |(_,[],_)::r,.d _::ts=>cq nxt r ts
 |(.op id 0,aW,_)::r,.pt ts'::ts=>match cq (eW nxt ts').2.2 r ts with|some (w,k)=>if aW.contains id then some ((id,some (.box (eW nxt ts').1))::(eW nxt ts').2.1++aW.map (fun i=>(i,none))++w,k)else none|none=>none
 |(.da sz id 0 len,aW,_)::r,.sl sz' rows::ts=>
  if rows.length=len/\sz'=sz/\aW=[id]then
   match cq nxt r ts with|some (w,k)=>some ((id,some (.aB sz rows))::w,k)|none=>none
  else none
 |(.da sz id 0 len,aW,_)::r,.rK szi rows::ts=>
  if rows.length=len/\sz=1/\aW=[id]then
   match cq nxt r ts with|some (w,k)=>some ((id,some (.nst szi (rows.map iG)))::w,k)|none=>none
  else none
 |(_,aW,_)::r,.Nl::ts=>match cq nxt r ts with|some (w,k)=>some (aW.map (fun i=>(i,none))++w,k)|none=>none
 |_,_=>none
def oX:R->Bool
 |.c (.d (.lit _))=>true
 |.agg ts=>ts.all fun|.d (.lit _)=>true|_=>false
 |_=>false
def xE:T->Bool
 |.d (.lit _)=>true
 |.sl _ rows=>rows.all fun r=>r.all fun|.lit _=>true|_=>false
 |.Nl=>true
 |_=>false
def Sq:List TV->TV
 |[v]=>v
 |vs=>.fm vs
def cD{α:Type}:List (Option α)->Option (List α)
 |[]=>some []
 |some x::r=>match cD r with|some xs=>some (x::xs)|none=>none
 |none::_=>none
def cI(h:aY):List (C×List Nat×List Nat)->Bool
 |[]=>true
 |(.da _ id off len,_)::r=>(match ak h id with|some (.aB _ rows)=>off==0&&len==rows.length|some (.nst _ slots)=>off==0&&len==slots.length|_=>false)&&cI h r
 |_::r=>cI h r
def nz(call:Call)(ro:Bool)(ga:List Bool)(f:Option TV)(vs:List (Option TV))(h:aY)(nxt:Nat):yO:=
 match(match f with|some (.c (.d (.fn f caps)))=>some (f,caps.map C.d)|some (.c (.jy f caps))=>some (f,caps)|_=>none),cD vs with
 |some (f,caps),some vs=>
  match dQ h (vs++caps.map TV.c) ga with
  |none=>none
  |some (as,aj,lent)=>
   if cI h lent/\(lent.flatMap (·.2.1)).Nodup/\(lent.flatMap (·.2.1)).all (fun i=>!aj.contains i)then
    match call f as with
    |none=>none
    |some (rs,outs)=>
     if ro then
      if rs.all oX/\outs.all xE then
       match cq nxt lent outs with
       |none=>none
       |some (bu,m)=>
        let(vs,u,k):=J9 m rs
        some (Sq vs,u++bu,aj++lent.flatMap (·.2.2),k)
      else none
     else
      match b_ h aj aj with
      |none=>none
      |some fu=>
       match cq nxt lent outs with
       |none=>none
       |some (bu,m)=>
        let(vs,u,k):=J9 m rs
        some (Sq vs,u++bu++fu,aj++lent.flatMap (·.2.2),k)
   else none
 |_,_=>none
def kz:Nat->C->Option Bool
 |0,.d (.lit (.slice none 0 0))=>some true
 |0,.d (.sl _ _)|0,.da _ _ _ _=>some false
 |1,.d (.lit (.pointer none))=>some true
 |1,.d (.pt _)|1,.ep _ _ _|1,.op _ _=>some false
 |2,.d (.lit .nilFunc)=>some true
 |2,.d (.fn _ _)|2,.jy _ _=>some false
 |_,_=>none
def rl:List C->Option (List D)
 |[]=>some []
 |.d x::r=>match rl r with|some l=>some (x::l)|none=>none
 |_=>none
abbrev mx:=List Value×List D×Nat
def iK(ks:List Kd)(key:List Value):List mx->Nat->Option (Option Nat)
 |[],_=>some none
 |e::r,i=>match QK ks key e.1 with|some true=>some (some i)|some false=>iK ks key r (i+1)|none=>none
def jO(va:Bool)(ds:List D):Option TV:=if va then some (.agg (ds.map .d))else match ds with|[x]=>some (.c (.d x))|_=>none
def AM:Kd->Value->Bool
 |.i q,.int k _=>decide (k=q)
 |.b,.bool _=>true
 |.s,.string _=>true
 |_,_=>false
def pZ:List Kd->List Value->Bool
 |[],[]=>true
 |k::ks,x::xs=>AM k x&&pZ ks xs
 |_,_=>false
def jz(ka:Bool)(ks:List Kd):TV->Option (List Value)
 |.agg cs=>if ka=true/\cs.length=ks.length then(match gZ cs with|some l=>if pZ ks l=true then some l else none|none=>none)else none
 |.c x=>if ka=false/\ks.length=1 then(match gZ [x]with|some l=>if pZ ks l=true then some l else none|none=>none)else none
 |.fm _=>none
def LR(ka:Bool)(ks:List Kd)(va:Bool)(zero:List Value)(ok:Bool)(m:C)(k:TV)(h:aY):Option (TV×List Nat):=
 match m,jz ka ks k with
 |.d (.lit (.map none)),some _=>match jO va (bO zero)with|some v=>some (if ok then .fm [v,lv (.bool false)]else v,[])|none=>none
 |.om id,some key=>
  match ak h id with
  |some (.map ka' va' es _)=>
   if ka'=ka/\va'=va then
    match iK ks key es 0 with
    |some (some i)=>match jO va (es.getD i default).2.1 with|some v=>some (if ok then .fm [v,lv (.bool true)]else v,[id])|none=>none
    |some none=>match jO va (bO zero)with|some v=>some (if ok then .fm [v,lv (.bool false)]else v,[id])|none=>none
    |none=>none
   else none
  |_=>none
 |_,_=>none
def iN(ka:Bool)(ks:List Kd)(va:Bool)(zero:List Value)(m:C)(k:TV)(h:aY):Option (TV×de×List Nat):=
 match m,jz ka ks k with
 |.om id,some key=>
  match ak h id with
  |some (.map ka' va' es dg)=>
   if ka'=ka/\va'=va then
    match iK ks key es 0 with
    |some (some i)=>match jO va (es.getD i default).2.1 with|some v=>some (.fm [v,lv (.int .i64 (es.getD i default).2.2)],[(id,some (.map ka va es dg))],[id])|none=>none
    |some none=>match jO va (bO zero)with|some v=>some (.fm [v,lv (.int .i64 dg)],[(id,some (.map ka va (es++[(key,bO zero,dg)]) (dg+1)))],[id])|none=>none
    |none=>none
   else none
  |_=>none
 |_,_=>none
def p6:TV->Bool
 |.agg _=>true
 |_=>false
def iO(va:Bool)(n:Nat)(m:C)(st:Option TV)(x:TV)(h:aY):Option (de×List Nat):=
 match m,bC st,(cellsOf x).bind rl with
 |.om id,some s,some ds=>
  match ak h id with
  |some (.map ka va' es dg)=>
   if va'=va/\ds.length=n/\p6 x=va then
    match es.findIdx? (fun e=>decide ((e.2.2:Int)=s))with|some i=>some ([(id,some (.map ka va (es.set i ((es.getD i default).1,ds,(es.getD i default).2.2)) dg))],[id])|none=>none
   else none
  |_=>none
 |_,_,_=>none
def bD(call:Call)(k:K)(vs:List (Option TV))(h:aY)(nxt:Nat):yO:=
 match k,vs with
 |.mv,[some x]=>some (x,[],[],nxt)
 |.pick,[some (.c (.d (.lit (.bool c)))),a,b]=>match(if c then a else b)with|some v=>some (v,[],[],nxt)|none=>none
 |.alloc zero,[]=>some (.c (.op nxt 0),[(nxt,some (.box (db zero)))],[],nxt+1)
 |.box,[some x]=>match cellsOf x with|some cs=>some (.c (.op nxt 0),[(nxt,some (.box cs))],[],nxt+1)|none=>none
 |.build zero places,vs=>
  match cD vs with
  |some xs=>match iL (db zero) (places.zip xs)with|some cs=>some (.agg cs,[],[],nxt)|none=>none
  |none=>none
 |.buildSlice sz len zero places,vs=>
  match cD vs with
  |some xs=>
   match iL (db zero) ((places.map fun i=>(i*sz,sz)).zip xs)with
   |some cs=>
    match cm h cs with
    |some (ds,aj)=>match b_ h aj aj with|some u=>some (.c (.da sz nxt 0 len),(nxt,some (.aB sz (ip sz len ds)))::u,aj,nxt+1)|none=>none
    |none=>none
   |none=>none
  |none=>none
 |.load agg n,[some (.c p)]=>match eH agg n p h with|some (v,aj)=>some (v,[],aj,nxt)|none=>none
 |.m7,[some (.c p)]=>match eH false 1 p h with|some (v,aj)=>some (v,[],aj,nxt)|none=>gU false 1 p h nxt
 |.store n,[some (.c p),some v]=>match ia n p v h with|some (u,aj)=>some (.fm [],u,aj,nxt)|none=>none
 |.nilCheck,[some (.c x)]=>match x with|.d (.pt _)|.d (.fn _ _)|.ep _ _ _|.op _ _|.jy _ _=>some (.c x,[],[],nxt)|_=>none
 |.rB op,[some (.c (.d (.lit x))),some (.c (.d (.lit y)))]=>match MB op x y with|some v=>some (lv v,[],[],nxt)|none=>none
 |.nA neg,[some (.c (.d (.lit (.bool x)))),some (.c (.d (.lit (.bool y))))]=>some (lv (.bool (if neg then !(x==y)else x==y)),[],[],nxt)
 |.lc kind neg,[some (.c x)]=>match kz kind x with|some b=>some (lv (.bool (if neg then !b else b)),[],[],nxt)|none=>none
 |.rh neg ks,[some (.agg xs),some (.agg ys)]=>
  match gZ xs,gZ ys with
  |some xs,some ys=>match QK ks xs ys with|some b=>some (lv (.bool (if neg then !b else b)),[],[],nxt)|none=>none
  |_,_=>none
 |.un op,[some (.c (.d (.lit x)))]=>match Gh op x with|some v=>some (lv v,[],[],nxt)|none=>none
 |.oe k,[some (.c (.d (.lit (.int _ n))))]=>some (lv (.int k (k.wrap n)),[],[],nxt)
 |.wn k,[some (.c (.d (.lit (.int _ n))))]=>some (lv (.float k (k.nearest n)),[],[],nxt)
 |.mn,[some (.c (.d (.lit (.string s))))]=>some (lv (.string s),[],[],nxt)
 |.AG f,vs=>
  match cD vs with
  |some xs=>match cD (xs.map fun|.c c=>some c|_=>none)with|some cs=>some (.c (.jy f cs),[],[],nxt)|none=>none
  |none=>none
 |.makeSlice zero,[l,c]=>
  match bC l,bC c with
  |some l,some c=>
   if 0<=l/\l<=c/\c<=vO then
    some (.c (.da zero.length nxt 0 l.toNat),[(nxt,some (.aB zero.length (au l.toNat (bO zero))))],[],nxt+1)
   else none
  |_,_=>none
 |.sM szi,[l,c]=>match bC l,bC c with|some l,some c=>if 0<=l/\l<=c/\c<=vO then some (.c (.da 1 nxt 0 l.toNat),[(nxt,some (.nst szi (au l.toNat .nil)))],[],nxt+1)else none|_,_=>none
 |.slice str sz lo hi,some (.c x)::r=>
  match lo,hi,r with
  |false,false,[]=>match dq str sz x none none with|some y=>some (.c y,[],[],nxt)|none=>none
  |true,false,[l]=>match bC l with|some l=>(match dq str sz x (some l) none with|some y=>some (.c y,[],[],nxt)|none=>none)|none=>none
  |false,true,[u]=>match bC u with|some u=>(match dq str sz x none (some u)with|some y=>some (.c y,[],[],nxt)|none=>(match Mz str sz x 0 u h with|some (y,aj)=>some (.c y,[],aj,nxt)|none=>none))|none=>none
  |true,true,[l,u]=>
   match bC l,bC u with
   |some l,some u=>match dq str sz x (some l) (some u)with|some y=>some (.c y,[],[],nxt)|none=>(match Mz str sz x l u h with|some (y,aj)=>some (.c y,[],aj,nxt)|none=>none)
   |_,_=>none
  |_,_,_=>none
 |.tD sz,[some (.c x),l,u,m]=>
  match bC l,bC u,bC m with
  |some l,some u,some m=>match Dg sz x l u m nxt with|some y=>some (.c y,[],[],nxt+1)|none=>none
  |_,_,_=>none
 |.clear zero,[some (.c x)]=>match jG zero x h with|some (u,aj)=>some (.fm [],u,aj,nxt)|none=>none
 |.fieldAddr off n,[some (.c x)]=>match Xr off n x with|some y=>some (.c y,[],[],nxt)|none=>none
 |.field agg off n,[some (.agg cs)]=>match vQ agg n (cs.drop off)with|some v=>some (v,[],[],nxt)|none=>none
 |.indexAddr aB sz,[some (.c x),i]=>
  match bC i with
  |some i=>match eZ aB sz x i with|some y=>some (.c y,[],[],nxt)|none=>none
  |none=>none
 |.jZ,[some (.c (.d (.lit (.string s)))),i]=>
  match bC i with
  |some i=>match(if 0<=i then s[i.toNat]?else none)with|some b=>some (lv (.int .u8 b.toNat),[],[],nxt)|none=>none
  |none=>none
 |.index agg len sz,[some (.agg cs),i]=>
  match bC i with
  |some i=>if 0<=i/\i<len then match vQ agg sz (cs.drop (i.toNat*sz))with|some v=>some (v,[],[],nxt)|none=>none else none
  |none=>none
 |.extract i,[some (.fm xs)]=>match xs[i]?with|some v=>some (v,[],[],nxt)|none=>none
 |.len str,[some (.c x)]=>match m_ str x with|some n=>some (lv (.int .i64 n),[],[],nxt)|none=>none
 |.lE m,some (.c (.d (.lit x)))::r=>match Cp m x r with|some v=>some (lv v,[],[],nxt)|none=>none
 |.append sz,[some (.c s),some (.c x)]=>jj sz s x h nxt
 |.copy sz,[some (.c d),some (.c s)]=>match il sz d s h with|some (i,u,aj)=>some (lv (.int .i64 i),u,aj,nxt)|none=>(match jF sz d s h with|some (i,u,aj)=>some (lv (.int .i64 i),u,aj,nxt)|none=>none)
 |.DA,[some (.c x)]=>match rg x h with|some (n,aj)=>some (lv (.int .i64 n),[],aj,nxt)|none=>none
 |.IP zero,[some (.c x),some (.c (.d (.lit (.int _ k))))]=>sU zero x k h nxt
 |.Ii,[some (.c x),some (.c y)]=>match rf x y h with|some aj=>some (lv (.bool false),[],aj,nxt)|none=>none
 |.call ro ga,f::vs=>nz call ro ga f vs h nxt
 |.makeMap ka va,[]=>some (.c (.om nxt),[(nxt,some (.map ka va [] 0))],[],nxt+1)
 |.lookup ka ks va zero ok,[some (.c m),some k]=>match LR ka ks va zero ok m k h with|some (v,aj)=>some (v,[],aj,nxt)|none=>none
 |.mapEntry ka ks va zero,[some (.c m),some k]=>match iN ka ks va zero m k h with|some (v,u,aj)=>some (v,u,aj,nxt)|none=>none
 |.entryStore va n,[some (.c m),s,some x]=>match iO va n m s x h with|some (u,aj)=>some (.fm [],u,aj,nxt)|none=>none
 |_,_=>none
def gb(e:fN):Option (Nat×Bool)->Option Bool
 |none=>some true
 |some (t,b)=>match bv e t with|some (.c (.d (.lit (.bool x))))=>some (x==b)|some (.fm [])=>some false|_=>none
def put(e:fN)(dst:Option Nat)(v:TV):fN:=match dst with|some d=>(d,v)::e|none=>e
def drop(e:fN)(dst:Option Nat):fN:=put e dst (.fm [])
def v_(call:Call):List iX->St->Option St
 |[],s=>some s
 |o::r,s=>
  match gb s.bS o.guard with
  |some true=>match bD call o.k (o.args.map (L9 s.bS)) s.heap s.next with|some (v,u,_,n)=>v_ call r ⟨put s.bS o.dst v,u++s.heap,n,s.gh⟩|none=>none
  |some false=>v_ call r ⟨drop s.bS o.dst,s.heap,s.next,s.gh⟩
  |none=>none
def e9:Nat:=1000000
def ic(calls:Nat->Call)(aF:Nat):List iX->Nat->fN->aY->Option (fN×aY×List (List Nat×List Nat))
 |[],_,e,h=>some (e,h,[])
 |o::r,i,e,h=>
  match gb e o.guard with
  |some true=>
   match bD (calls i) o.k (o.args.map (L9 e)) h (aF+e9*i)with
   |some (v,u,aj,n)=>
    if n<=aF+e9*(i+1)then
     match ic calls aF r (i+1) (put e o.dst v) (u++h)with|some (e,h,tr)=>some (e,h,(aj,u.map (·.1))::tr)|none=>none
    else none
   |none=>none
  |some false=>match ic calls aF r (i+1) (drop e o.dst) h with|some (e,h,tr)=>some (e,h,([],[])::tr)|none=>none
  |none=>none
def Mh(a b:List Nat×List Nat):Bool:=a.2.all (fun i=>!b.1.contains i&&!b.2.contains i)&&b.2.all (fun i=>!a.1.contains i)
def xe(tr:List (List Nat×List Nat))(i j:Nat):Bool:=
 match tr[i]?,tr[j]?with
 |some a,some b=>Mh a b||(match a with|([id],[])=>((tr.take j).drop (i+1)).all (fun x=>!x.2.contains id)|_=>false)
 |_,_=>true
def rk(tr:List (List Nat×List Nat))(dyn:List (Nat×Nat)):Bool:=dyn.all fun(i,j)=>if 1000<=j then xe tr i (j-1000)else match tr[i]?,tr[j]?with|some a,some b=>Mh a b|_,_=>true
def cR:C->List Nat
 |.d _=>[]
 |.da _ id _ _|.ep id _ _|.op id _|.om id=>[id]
 |.jy _ caps=>iB caps
where iB:List C->List Nat
 |[]=>[]
 |c::r=>cR c++iB r
def Rz:TV->List Nat
 |.c x=>cR x
 |.agg cs=>cR.iB cs
 |.fm xs=>rW xs
where rW:List TV->List Nat
 |[]=>[]
 |x::r=>Rz x++rW r
inductive RV where
 |tmp (t:Nat)
 |cell (t:Nat) (agg:Bool) (n:Nat)
 deriving Inhabited
def enter:List A->Nat->Nat->fN×aY×Nat×List C
 |[],_,n=>([],[],n,[])
 |.d x::r,i,n=>let(e,h,m,l):=enter r (i+1) n;((i,.c (.d x))::e,h,m,l)
 |.agg xs::r,i,n=>let(e,h,m,l):=enter r (i+1) n;((i,.agg (xs.map .d))::e,h,m,l)
 |.mt t::r,i,n=>let(c,u,k):=gJ n t;let(e,h,m,l):=enter r (i+1) k;((i,.c c)::e,u++h,m,c::l)
def nQ(s:St):RV->Option TV
 |.tmp t=>bv s.bS t
 |.cell t agg n=>match bv s.bS t with|some (.c p)=>(match eH agg n p s.heap with|some (v,_)=>some v|none=>none)|_=>none
def lO(h:aY):TV->Option (R×List Nat)
 |.c c=>match cG h 300 c with|some (t,aj,_)=>some (.c t,aj)|none=>none
 |.agg cs=>match eY h 300 cs with|some (ts,aj,_)=>some (.agg ts,aj)|none=>none
 |.fm _=>none
def ma(h:aY):List TV->Option (List R×List Nat)
 |[]=>some ([],[])
 |v::vs=>match lO h v,ma h vs with|some (r,a),some (rs,b)=>some (r::rs,a++b)|_,_=>none
def qD(h:aY):List C->Option (List T×List Nat)
 |[]=>some ([],[])
 |c::cs=>match cG h 300 c,qD h cs with|some (r,a,_),some (rs,b)=>some (r::rs,a++b)|_,_=>none
def CG(gu:List RV)(s:St):Option (List R×List T):=
 match cD (gu.map (nQ s))with
 |none=>none
 |some vs=>match ma s.heap vs,qD s.heap s.gh with|some (rs,a),some (ts,b)=>if(a++b).Nodup then some (rs,ts)else none|_,_=>none
structure Fn where
 np:Nat
 ntmps:Nat
 gu:List RV
 body:CC
 deriving Inhabited
def nH(k:FloatKind)(n:Nat):Prop:=(k.format.read n).isNaN=true
inductive RD(S:Nat->Prop)(w:World):D->Value->Prop
 |lit {v:Value} (h:cO v=true):RD S w (.lit v) v
 |nan {k:FloatKind} {n m:Nat} (hn:nH k n) (hm:nH k m):RD S w (.lit (.float k n)) (.float k m)
 |ex {k:FloatKind} {n:Nat}:RD S w (.lit (.complex k n 0)) (.float k n)
 |sl {sz:Nat} {rows:List (List D)} {b off cap:Nat} (f:Nat->Nat->Value) (hb:S b) (hsz:0<sz) (hcap:rows.length<=cap)
   (hrow:∀(i:Nat)(r:List D),rows[i]?=some r->r.length=sz)
   (hcell:∀(i:Nat)(r:List D),rows[i]?=some r->∀(j:Nat)(x:D),r[j]?=some x->w.cell? ⟨b,off+i*sz+j,none⟩=some (f i j))
   (hrd:∀(i:Nat)(r:List D),rows[i]?=some r->∀(j:Nat)(x:D),r[j]?=some x->RD S w x (f i j)):
   RD S w (.sl sz rows) (.slice (some ⟨b,off,none⟩) rows.length cap)
 |mD {sz:Nat} {a:Addr} (hsz:0<sz):RD S w (.sl sz []) (.slice (some a) 0 0)
 |pt {cells:List D} {b off:Nat} (f:Nat->Value) (hb:S b)
   (hcell:∀(j:Nat)(x:D),cells[j]?=some x->w.cell? ⟨b,off+j,none⟩=some (f j))
   (hrd:∀(j:Nat)(x:D),cells[j]?=some x->RD S w x (f j)):
   RD S w (.pt cells) (.pointer (some ⟨b,off,none⟩))
 |fn {g:FuncId} {caps:List D} {vs:Array Value} (hlen:caps.length=vs.size)
   (hrd:∀(j:Nat)(x:D),caps[j]?=some x->RD S w x (vs.getD j undef)):
   RD S w (.fn g caps) (.func (.func g) #[] vs)
structure WJ(S:Nat->Prop)(w:World)(S':Nat->Prop)(w':World):Prop where
 sub:∀b,S b->S' b
 cK:∀b,S b->w'.heap[b]?=w.heap[b]?
theorem WJ.refl(S:Nat->Prop)(w:World):WJ S w S w:=⟨fun _ h=>h,fun _ _=>rfl⟩
theorem WJ.trans{S S' S'':Nat->Prop}{w w' w'':World}(a:WJ S w S' w')(b:WJ S' w' S'' w''):WJ S w S'' w'':=⟨fun x h=>b.sub x (a.sub x h),fun x h=>(b.cK x (a.sub x h)).trans (a.cK x h)⟩
theorem iq{w w':World}{b:Nat}(h:w'.heap[b]?=w.heap[b]?)(off:Nat):w'.cell? ⟨b,off,none⟩=w.cell? ⟨b,off,none⟩:=by simp[World.cell?,h]
theorem RD.mono{S S':Nat->Prop}{w w':World}(hs:WJ S w S' w'){x:D}{v:Value}(h:RD S w x v):RD S' w' x v:=by induction h with|lit h=>exact .lit h|nan hn hm=>exact .nan hn hm|ex=>exact .ex|sl f hb hsz hcap hrow hcell hrd ih=>exact .sl f (hs.sub _ hb) hsz hcap hrow (fun i r hi j x hj=>(iq (hs.cK _ hb) _).trans (hcell i r hi j x hj)) ih|mD h=>exact .mD h|pt f hb hcell hrd ih=>exact .pt f (hs.sub _ hb) (fun j x hj=>(iq (hs.cK _ hb) _).trans (hcell j x hj)) ih|fn hlen hrd ih=>exact .fn hlen ih
structure d_ where
 bH:Nat
 aF:Nat
 sz:Nat
 ext:Nat
 cap:Nat
 deriving Inhabited
inductive RC(S:Nat->Prop)(w:World)(Kn:Nat->Prop)(φ:Nat->d_):C->Value->Prop
 |d {x:D} {v:Value} (h:RD S w x v):RC S w Kn φ (.d x) v
 |da {id off len cap addr:Nat} (hk:Kn id) (hcap:len<=cap) (haddr:0<cap->addr=(φ id).aF+off*(φ id).sz) (hext:addr+cap*(φ id).sz<=(φ id).ext) (hc:off+cap=(φ id).cap):
   RC S w Kn φ (.da (φ id).sz id off len) (.slice (some ⟨(φ id).bH,addr,none⟩) len cap)
 |ep {id cU off:Nat} (hk:Kn id):RC S w Kn φ (.ep id cU off) (.pointer (some ⟨(φ id).bH,(φ id).aF+cU*(φ id).sz+off,none⟩))
 |op {id off:Nat} (hk:Kn id):RC S w Kn φ (.op id off) (.pointer (some ⟨(φ id).bH,(φ id).aF+off,none⟩))
 |jy {g:FuncId} {caps:List C} {vs:Array Value} (hlen:caps.length=vs.size)
   (hrc:∀(j:Nat)(x:C),caps[j]?=some x->RC S w Kn φ x (vs.getD j undef)):
   RC S w Kn φ (.jy g caps) (.func (.func g) #[] vs)
 |om {id:Nat} (hk:Kn id):RC S w Kn φ (.om id) (.map (some (φ id).bH))
structure mS(Kn:Nat->Prop)(φ:Nat->d_)(Kn':Nat->Prop)(φ':Nat->d_):Prop where
 sub:∀i,Kn i->Kn' i
 cK:∀i,Kn i->φ' i=φ i
theorem mS.refl(Kn:Nat->Prop)(φ:Nat->d_):mS Kn φ Kn φ:=⟨fun _ h=>h,fun _ _=>rfl⟩
theorem RC.mono{S S':Nat->Prop}{w w':World}{Kn Kn':Nat->Prop}{φ φ':Nat->d_}(hs:WJ S w S' w')(hr:mS Kn φ Kn' φ'){x:C}{v:Value}
  (h:RC S w Kn φ x v):RC S' w' Kn' φ' x v:=by
 induction h with|d h=>exact .d (h.mono hs)|da hk hcap haddr hext hc=>rw[<-hr.cK _ hk]at hext haddr hc|-;exact .da (hr.sub _ hk) hcap haddr hext hc|ep hk=>rw[<-hr.cK _ hk];exact .ep (hr.sub _ hk)|op hk=>rw[<-hr.cK _ hk];exact .op (hr.sub _ hk)|jy hlen hrc ih=>exact .jy hlen ih|om hk=>rw[<-hr.cK _ hk];exact .om (hr.sub _ hk)
inductive dH(S:Nat->Prop)(w:World)(Kn:Nat->Prop)(φ:Nat->d_):TV->Value->Prop
 |c {x:C} {v:Value} (h:RC S w Kn φ x v):dH S w Kn φ (.c x) v
 |agg {cs:List C} {aB:Array Value} (hlen:cs.length=aB.size) (h:∀(i:Nat)(x:C),cs[i]?=some x->RC S w Kn φ x (aB.getD i undef)):dH S w Kn φ (.agg cs) (.agg aB)
 |fm {xs:List TV} {aB:Array Value} (hlen:xs.length=aB.size) (h:∀(i:Nat)(x:TV),xs[i]?=some x->dH S w Kn φ x (aB.getD i undef)):dH S w Kn φ (.fm xs) (.tuple aB)
theorem dH.mono{S S':Nat->Prop}{w w':World}{Kn Kn':Nat->Prop}{φ φ':Nat->d_}(hs:WJ S w S' w')(hr:mS Kn φ Kn' φ'){x:TV}{v:Value}
  (h:dH S w Kn φ x v):dH S' w' Kn' φ' x v:=by
 induction h with|c h=>exact .c (h.mono hs hr)|agg hlen h=>exact .agg hlen fun i x hi=>(h i x hi).mono hs hr|fm hlen h ih=>exact .fm hlen ih
def one:Value->Bool
 |.agg _|.tuple _=>false
 |_=>true
theorem nZ{v:Value}(h:cO v=true):one v=true:=by cases v<;>simp_all[cO,one]
theorem RD.one{S:Nat->Prop}{w:World}{x:D}{v:Value}(h:RD S w x v):one v=true:=by cases h with|lit h=>exact nZ h|_=>rfl
theorem RC.one{S:Nat->Prop}{w:World}{Kn:Nat->Prop}{φ:Nat->d_}{x:C}{v:Value}(h:RC S w Kn φ x v):one v=true:=by cases h with|d h=>exact h.one|_=>rfl
theorem og{v:Value}(h:one v=true):v.cells= #[v]:=by cases v<;>simp_all[Ev.one,Value.cells]
def ju(w:World)(b:Nat)(aB:Array Value):Prop:=∃t,w.heap[b]?=some (.cells aB t (0,0))
theorem ju.cell{w:World}{b:Nat}{aB:Array Value}(h:ju w b aB)(i:Nat):w.cell? ⟨b,i,none⟩=aB[i]?:=by obtain⟨t,h⟩:=h;simp[World.cell?,h]
theorem ju.lt{w:World}{b:Nat}{aB:Array Value}(h:ju w b aB):b<w.heap.size:=by obtain⟨t,h⟩:=h;exact(aT.1 h).1
theorem ju.iI{w w':World}{b:Nat}{aB:Array Value}(h:ju w b aB)(hs:w'.heap[b]?=w.heap[b]?):ju w' b aB:=by obtain⟨t,h⟩:=h;exact⟨t,hs.trans h⟩
def bG(S:Nat->Prop)(w:World)(sz:Nat)(get:Nat->Option Value)(aF:Nat)(rows:List (List D)):Prop:=
 (∀(i:Nat)(r:List D),rows[i]?=some r->r.length=sz)/\
 ∀(i:Nat)(r:List D),rows[i]?=some r->∀(j:Nat)(x:D),r[j]?=some x->∃v,get (aF+i*sz+j)=some v/\RD S w x v
def bF:Ob->Bool
 |.aB _ _|.box _|.map _ _ _ _|.cap _ _ _|.nst _ _=>true
 |_=>false
def zP(S:Nat->Prop)(w:World)(sz:Nat)(rows:List (List D))(v:Value)(b:Nat):Prop:=∃(addr cap:Nat)(aB:Array Value),v=.slice (some ⟨b,addr,none⟩) rows.length cap/\0<sz/\ju w b aB/\rows.length<=cap/\addr+cap*sz<=aB.size/\bG S w sz (fun i=>aB[i]?) addr rows
inductive rH(S K:Nat->Prop)(w:World)(Kn:Nat->Prop)(φ:Nat->d_)(sz:Nat):gH->Value->Prop
 |nil:rH S K w Kn φ sz .nil (.slice none 0 0)
 |aW {rows:List (List D)} {v:Value} {b:Nat} (h:zP S w sz rows v b) (hS:¬S b) (hK:¬K b):rH S K w Kn φ sz (.aW rows) v
 |ku {id len:Nat} {v:Value} (h:RC S w Kn φ (.da sz id 0 len) v):rH S K w Kn φ sz (.ku id len) v
def pP:Value->Option Nat
 |.slice (some a) _ _=>some a.block
 |_=>none
def lR(w:World)(l:d_)(slots:List gH)(k x:Nat):Prop:=∃rows v,slots[k]?=some (.aW rows)/\w.cell? ⟨l.bH,l.aF+k,none⟩=some v/\pP v=some x
def Z9(ka:Bool)(k:List Value)(v:Value):Prop:=(∀x∈k,cO x=true)/\if ka then v=.agg k.toArray else k=[v]
def pn(S:Nat->Prop)(w:World)(va:Bool)(ds:List D)(v:Value):Prop:=if va then∃aB:Array Value,v=.agg aB/\ds.length=aB.size/\∀(i:Nat)(x:D),ds[i]?=some x->RD S w x (aB.getD i undef)else∃x,ds=[x]/\RD S w x v
theorem pn.mono{S S':Nat->Prop}{w w':World}(hs:WJ S w S' w'){va:Bool}{ds:List D}{v:Value}(h:pn S w va ds v):pn S' w' va ds v:=by
 unfold pn at h|-;split
 .rename_i hv;rw[if_pos hv]at h;obtain⟨aB,h1,h2,h3⟩:=h;exact⟨aB,h1,h2,fun i x hi=>(h3 i x hi).mono hs⟩
 .rename_i hv;rw[if_neg hv]at h;obtain⟨x,h1,h2⟩:=h;exact⟨x,h1,h2.mono hs⟩
inductive RO(S:Nat->Prop)(K:Nat->Prop)(w:World)(Kn:Nat->Prop)(φ:Nat->d_)(l:d_):Ob->Prop
 |aB {sz:Nat} {rows:List (List D)} {aB:Array Value} (hsz:0<sz) (hl:l.sz=sz) (hS:¬S l.bH) (hK:¬K l.bH) (ho:ju w l.bH aB) (hext:aB.size=l.ext)
   (hfit:l.aF+rows.length*sz<=l.ext) (hr:bG S w sz (fun i=>aB[i]?) l.aF rows) (hv:rows.length<=l.cap):RO S K w Kn φ l (.aB sz rows)
 |ML {sz:Nat} {rows:List (List D)} (hsz:0<sz) (hl:l.sz=sz) (hS:S l.bH)
   (hr:bG S w sz (fun i=>w.cell? ⟨l.bH,i,none⟩) l.aF rows):RO S K w Kn φ l (.ML sz rows)
 |box {cells:List C} {aB:Array Value} (hb:l.aF=0) (hS:¬S l.bH) (hK:¬K l.bH) (ho:ju w l.bH aB) (hlen:cells.length=aB.size)
   (hr:∀(i:Nat)(x:C),cells[i]?=some x->RC S w Kn φ x (aB.getD i undef)):RO S K w Kn φ l (.box cells)
 |ji {cells:List D} (hb:l.aF=0) (hS:S l.bH)
   (hr:∀(i:Nat)(x:D),cells[i]?=some x->∃v,w.cell? ⟨l.bH,i,none⟩=some v/\RD S w x v):RO S K w Kn φ l (.ji cells)
 |map {ka va:Bool} {es:List (List Value×List D×Nat)} {dg:Nat} {ms:Array MapEntry} (hS:¬S l.bH) (hK:¬K l.bH) (ho:w.heap[l.bH]?=some (.map ms dg)) (hlen:es.length=ms.size)
   (hr:∀(i:Nat)(e:List Value×List D×Nat)(m:MapEntry),es[i]?=some e->ms[i]?=some m->Z9 ka e.1 m.key/\pn S w va e.2.1 m.val/\m.born=e.2.2):RO S K w Kn φ l (.map ka va es dg)
 |cap {sz:Nat} {rows:List (List D)} {cp:Nat} {aB:Array Value} (hsz:0<sz) (hl:l.sz=sz) (hS:¬S l.bH) (hK:¬K l.bH) (ho:ju w l.bH aB) (hext:aB.size=l.ext)
   (hfit:l.aF+cp*sz<=l.ext) (hr:bG S w sz (fun i=>aB[i]?) l.aF rows) (hv:rows.length<=cp) (hc:l.cap=cp):RO S K w Kn φ l (.cap sz rows cp)
 |nst {sz:Nat} {slots:List gH} {aB:Array Value} (hsz:0<sz) (hl:l.sz=1) (hS:¬S l.bH) (hK:¬K l.bH) (ho:ju w l.bH aB) (hext:aB.size=l.ext)
   (hfit:l.aF+slots.length<=l.ext) (hr:∀(i:Nat)(s:gH),slots[i]?=some s->∃v,aB[l.aF+i]?=some v/\rH S K w Kn φ sz s v) (hv:slots.length<=l.cap):RO S K w Kn φ l (.nst sz slots)
theorem bG.mono{S S':Nat->Prop}{w w':World}(hs:WJ S w S' w'){sz aF:Nat}{get:Nat->Option Value}{rows:List (List D)}(h:bG S w sz get aF rows):
  bG S' w' sz get aF rows:=
 ⟨h.1,fun i r hi j x hj=>let⟨v,hg,hr⟩:=h.2 i r hi j x hj;⟨v,hg,hr.mono hs⟩⟩
def HS(S':Nat->Prop)(w w':World)(l:d_)(o:Ob):Prop:=∀sz slots,o=.nst sz slots->∀k x,lR w l slots k x->w'.heap[x]?=w.heap[x]?/\¬S' x
theorem zP.mono{S S':Nat->Prop}{w w':World}(hs:WJ S w S' w'){sz b:Nat}{rows:List (List D)}{v:Value}(hb:w'.heap[b]?=w.heap[b]?)(h:zP S w sz rows v b):zP S' w' sz rows v b:=by obtain⟨a,c,aB,h1,h2,h3,h4,h5,h6⟩:=h;exact⟨a,c,aB,h1,h2,h3.iI hb,h4,h5,h6.mono hs⟩
theorem zP.bH{S:Nat->Prop}{w:World}{sz b:Nat}{rows:List (List D)}{v:Value}(h:zP S w sz rows v b):pP v=some b:=by obtain⟨a,c,aB,rfl,_⟩:=h;rfl
theorem zP.aW{S:Nat->Prop}{w:World}{sz b:Nat}{rows:List (List D)}{v:Value}(h:zP S w sz rows v b):∃aB,ju w b aB:=by obtain⟨a,c,aB,_,_,h,_⟩:=h;exact⟨aB,h⟩
theorem RO.mono{S S' K:Nat->Prop}{w w':World}{Kn Kn':Nat->Prop}{φ φ':Nat->d_}{l:d_}(hs:WJ S w S' w')(hr:mS Kn φ Kn' φ'){o:Ob}
  (hsame:bF o=true->w'.heap[l.bH]?=w.heap[l.bH]?/\¬S' l.bH) (hkp:HS S' w w' l o) (h:RO S K w Kn φ l o):RO S' K w' Kn' φ' l o:=by
 cases h with
 |aB hsz hl hS hK ho hext hfit hrr hv=>exact .aB hsz hl (hsame rfl).2 hK (ho.iI (hsame rfl).1) hext hfit (hrr.mono hs) hv
 |ML hsz hl hS hrr=>refine .ML hsz hl (hs.sub _ hS) ⟨hrr.1,fun i r hi j x hj=>?_⟩;obtain⟨v,hg,h⟩:=hrr.2 i r hi j x hj;exact⟨v,(iq (hs.cK _ hS) _).trans hg,h.mono hs⟩
 |box hb hS hK ho hlen hrr=>exact .box hb (hsame rfl).2 hK (ho.iI (hsame rfl).1) hlen fun i x hi=>(hrr i x hi).mono hs hr
 |ji hb hS hrr=>refine .ji hb (hs.sub _ hS) fun i x hi=>?_;obtain⟨v,hg,h⟩:=hrr i x hi;exact⟨v,(iq (hs.cK _ hS) _).trans hg,h.mono hs⟩
 |map hS hK ho hlen hrr=>exact .map (hsame rfl).2 hK ((hsame rfl).1.trans ho) hlen fun i e m hi hm=>let⟨h1,h2,h3⟩:=hrr i e m hi hm;⟨h1,h2.mono hs,h3⟩
 |cap hsz hl hS hK ho hext hfit hrr hv hc=>exact .cap hsz hl (hsame rfl).2 hK (ho.iI (hsame rfl).1) hext hfit (hrr.mono hs) hv hc
 |nst hsz hl hS hK ho hext hfit hrr hv=>refine .nst hsz hl (hsame rfl).2 hK (ho.iI (hsame rfl).1) hext hfit (fun i s hi=>?_) hv;obtain⟨v,h1,h2⟩:=hrr i s hi;refine⟨v,h1,?_⟩;cases h2 with|nil=>exact .nil|@aW rows _ b h hS hK=>obtain⟨k1,k2⟩:=hkp _ _ rfl i b ⟨rows,v,hi,(ho.cell _).trans h1,h.bH⟩;exact .aW (h.mono hs k1) k2 hK|ku h=>exact .ku (h.mono hs hr)
def Io(w0 w:World):Prop:=w.os=w0.os/\w.output=w0.output/\w.tape=w0.tape/\w0.drawn<=w.drawn
theorem Io.trans{a b c:World}(h:Io a b)(h2:Io b c):Io a c:=⟨h2.1.trans h.1,h2.2.1.trans h.2.1,h2.2.2.1.trans h.2.2.1,cZ h.2.2.2 h2.2.2.2⟩
theorem Io.refl(w:World):Io w w:=⟨rfl,rfl,rfl,ai _⟩
structure zR(K:Nat->Prop)(w0 w:World):Prop where
 xX:∀b,K b->b<w0.heap.size
 ik:∀b,K b->w.heap[b]?=w0.heap[b]?
 grow:w0.heap.size<=w.heap.size
 sO:∀a,a.block<w0.heap.size->w.frozen? a=w0.frozen? a
 aW:∀b aB,ju w0 b aB->∃arr',ju w b arr'/\arr'.size=aB.size
 io:Io w0 w
def uz(S:Nat->Prop)(w:World):Prop:=∀g d,It g=some d->RD S w d (.pointer (some ⟨g,0,none⟩))
theorem uz.mono{S S':Nat->Prop}{w w':World}(h:uz S w)(hs:WJ S w S' w'):uz S' w':=fun g d hg=>(h g d hg).mono hs
def JE(w:World)(φ:Nat->d_)(hf:Nat->Option Ob):Prop:=∀i sz sl k x,hf i=some (.nst sz sl)->lR w (φ i) sl k x->
 (∀j b,hf j=some b->bF b=true->(φ j).bH≠x)/\∀j sz' sl' k',hf j=some (.nst sz' sl')->lR w (φ j) sl' k' x->j=i/\k'=k
structure Inv(S K:Nat->Prop)(w0:World)(Kn:Nat->Prop)(φ:Nat->d_)(hf:Nat->Option Ob)(w:World):Prop where
 nM:∀b,S b->b<w.heap.size
 sk:∀b,S b->¬K b
 iT:zR K w0 w
 fh:∀id o,hf id=some o->Kn id/\RO S K w Kn φ (φ id) o
 jq:∀i j a b,hf i=some a->hf j=some b->bF a=true->bF b=true->i≠j->(φ i).bH≠(φ j).bH
 t7:uz S w
 pw:JE w φ hf
def aU(u:de)(hf:Nat->Option Ob)(id:Nat):Option Ob:=match bv u id with|some o=>o|none=>hf id
theorem eh{α:Type}(a b:List (Nat×α))(k:Nat):bv (a++b) k=match bv a k with|some x=>some x|none=>bv b k:=by induction a with|nil=>rfl|cons p r ih=>obtain⟨i,x⟩:=p;simp only[List.cons_append,bv];cases h:(i==k)<;>simp[ih]
theorem dZ(u:de)(h:aY):ak (u++h)=aU u (ak h):=by funext id;simp only[ak,aU,eh];cases bv u id<;>simp
theorem dl(hf:Nat->Option Ob):aU [] hf=hf:=rfl
theorem bk(i:Nat)(o:Option Ob)(u:de)(hf:Nat->Option Ob)(id:Nat):aU ((i,o)::u) hf id=if i=id then o else aU u hf id:=by
 simp only[aU,bv];by_cases h:i=id
 .simp [h]
 .have e:(i==id)=false:=by simpa using h
  simp[h,e]
theorem cF(u v:de)(hf:Nat->Option Ob):aU (u++v) hf=aU u (aU v hf):=by funext id;simp only[aU,eh];cases bv u id<;>simp
theorem Inv.nL{S S' K:Nat->Prop}{w0 w w':World}{Kn Kn':Nat->Prop}{φ φ':Nat->d_}{hf hf':Nat->Option Ob}(h:Inv S K w0 Kn φ hf w)
  (hs:WJ S w S' w') (hr:mS Kn φ Kn' φ') (hslt:∀b,S' b->b<w'.heap.size) (hsk:∀b,S' b->¬K b) (hfrm:zR K w0 w')
  (hobj:∀id o,hf' id=some o->(hf id=some o/\(bF o=true->w'.heap[(φ id).bH]?=w.heap[(φ id).bH]?/\¬S' (φ id).bH)/\HS S' w w' (φ id) o)\/(Kn' id/\RO S' K w' Kn' φ' (φ' id) o))
  (hdist:∀i j a b,hf' i=some a->hf' j=some b->bF a=true->bF b=true->i≠j->(φ' i).bH≠(φ' j).bH) (hprv:JE w' φ' hf'):
  Inv S' K w0 Kn' φ' hf' w' where
 nM:=hslt
 sk:=hsk
 iT:=hfrm
 jq:=hdist
 t7:=h.t7.mono hs
 pw:=hprv
 fh id o ho:=by
  rcases hobj id o ho with⟨h1,h2,h3⟩|h1
  .obtain ⟨hk,hro⟩:=h.fh id o h1;refine⟨hr.sub _ hk,?_⟩;rw[hr.cK _ hk];exact hro.mono hs hr h2 h3
  .exact h1
theorem lR.cK{w w':World}{l:d_}{sl:List gH}{k x:Nat}(h:w'.heap[l.bH]?=w.heap[l.bH]?):lR w' l sl k x<->lR w l sl k x:=by unfold lR;rw[show∀i,w'.cell? ⟨l.bH,i,none⟩=w.cell? ⟨l.bH,i,none⟩from fun i=>iq h i]
theorem RO.Ai{S K:Nat->Prop}{w:World}{Kn:Nat->Prop}{φ:Nat->d_}{l:d_}{sz:Nat}{sl:List gH}{k x:Nat}(h:RO S K w Kn φ l (.nst sz sl))(hp:lR w l sl k x):
  ¬S x/\¬K x/\x<w.heap.size/\∃rows v,sl[k]?=some (.aW rows)/\w.cell? ⟨l.bH,l.aF+k,none⟩=some v/\zP S w sz rows v x:=by
 cases h with
 |nst hsz hl hS hK ho hext hfit hr hv=>
  obtain⟨rows,v,h1,h2,h3⟩:=hp;obtain⟨v',h4,h5⟩:=hr k _ h1;obtain rfl:v'=v:=by rw[ho.cell,h4]at h2;exact aa h2
  cases h5 with
  |@aW _ _ b h6 hS hK=>
   obtain rfl:b=x:=by rw[h6.bH]at h3;exact aa h3
   obtain⟨aB,h7⟩:=h6.aW;exact⟨hS,hK,h7.lt,rows,v',h1,h2,h6⟩
theorem Inv.Ai{S K:Nat->Prop}{w0 w:World}{Kn:Nat->Prop}{φ:Nat->d_}{hf:Nat->Option Ob}(h:Inv S K w0 Kn φ hf w){i sz k x:Nat}{sl:List gH}(hi:hf i=some (.nst sz sl))(hp:lR w (φ i) sl k x):
  ¬S x/\¬K x/\x<w.heap.size/\∃rows v,sl[k]?=some (.aW rows)/\w.cell? ⟨(φ i).bH,(φ i).aF+k,none⟩=some v/\zP S w sz rows v x:=(h.fh i _ hi).2.Ai hp
def HQ(S':Nat->Prop)(w w':World)(φ φ':Nat->d_)(hf hf':Nat->Option Ob):Prop:=∀id sz sl,hf' id=some (.nst sz sl)->hf id=some (.nst sz sl)/\w'.heap[(φ id).bH]?=w.heap[(φ id).bH]?/\
 ∀k x,lR w (φ id) sl k x->w'.heap[x]?=w.heap[x]?/\¬S' x/\∀j b,hf' j=some b->bF b=true->(φ' j).bH≠x
theorem Inv.jQ{S S' K:Nat->Prop}{w0 w w':World}{Kn Kn':Nat->Prop}{φ φ':Nat->d_}{hf hf':Nat->Option Ob}(h:Inv S K w0 Kn φ hf w)
  (hs:WJ S w S' w') (hr:mS Kn φ Kn' φ') (hslt:∀b,S' b->b<w'.heap.size) (hsk:∀b,S' b->¬K b) (hfrm:zR K w0 w')
  (hobj:∀id o,hf' id=some o->(hf id=some o/\(bF o=true->w'.heap[(φ id).bH]?=w.heap[(φ id).bH]?/\¬S' (φ id).bH))\/(Kn' id/\RO S' K w' Kn' φ' (φ' id) o))
  (hdist:∀i j a b,hf' i=some a->hf' j=some b->bF a=true->bF b=true->i≠j->(φ' i).bH≠(φ' j).bH) (hrest:HQ S' w w' φ φ' hf hf'):
  Inv S' K w0 Kn' φ' hf' w':=by
 have e:∀id sz sl,hf' id=some (.nst sz sl)->φ' id=φ id:=fun id sz sl hi=>hr.cK _ (h.fh id _ (hrest id sz sl hi).1).1;have hpat:∀id sz sl k x,hf' id=some (.nst sz sl)->lR w' (φ' id) sl k x->lR w (φ id) sl k x:=fun id sz sl k x hi hp=>by rw[e id sz sl hi]at hp;exact(lR.cK (hrest id sz sl hi).2.1).1 hp
 refine h.nL hs hr hslt hsk hfrm (fun id o ho=>?_) hdist fun i sz sl k x hi hp=>?_
 .rcases hobj id o ho with⟨h1,h2⟩|h1
  .exact .inl ⟨h1,h2,fun sz sl eo k x hp=>by subst eo;obtain⟨a,b,_⟩:=(hrest id sz sl ho).2.2 k x hp;exact⟨a,b⟩⟩
  .exact .inr h1
 .have hp':=hpat i sz sl k x hi hp;refine⟨((hrest i sz sl hi).2.2 k x hp').2.2,fun j sz' sl' k' hj hpj=>?_⟩;exact(h.pw i sz sl k x (hrest i sz sl hi).1 hp').2 j sz' sl' k' (hrest j sz' sl' hj).1 (hpat j sz' sl' k' x hj hpj)
theorem e_{w:World}{o:Obj}{b:Nat}(h:b<w.heap.size):({w with heap:=w.heap.push o}:World).heap[b]?=w.heap[b]?:=by simp[Array.getElem?_push,Nat.ne_of_lt h]
theorem vk(w:World)(aB:Array Value)(t:TypeId):ju {w with heap:=w.heap.push (.cells aB t)} w.heap.size aB:=⟨t,by simp⟩
theorem vZ(w:World)(aB:Array Value)(t:TypeId)(a:Addr):({w with heap:=w.heap.push (.cells aB t)}:World).frozen? a=w.frozen? a:=by
 unfold World.frozen?;rcases Nat.lt_trichotomy a.block w.heap.size with h|h|h
 .rw [e_ h]
 .simp [h]
 .rw [dX (by simp;omega),dX (by omega)]
theorem zR.push{K:Nat->Prop}{w0 w:World}(h:zR K w0 w)(aB:Array Value)(t:TypeId):zR K w0 {w with heap:=w.heap.push (.cells aB t)}where
 xX:=h.xX
 ik b hb:=(e_ (ct (h.xX b hb) h.grow)).trans (h.ik b hb)
 grow:=by have:=h.grow;simp;omega
 sO a ha:=(vZ w aB t a).trans (h.sO a ha)
 aW b a ha:=let⟨a',h1,h2⟩:=h.aW b a ha;⟨a',h1.iI (e_ h1.lt),h2⟩
 io:=h.io
theorem zR.qE{K:Nat->Prop}{w0 w w':World}(h:zR K w0 w){c:Nat}(hother:∀b,b≠c->w'.heap[b]?=w.heap[b]?)
  (hsz:∀aB,ju w c aB->∃arr',ju w' c arr'/\arr'.size=aB.size) (b:Nat) (aB:Array Value) (ho:ju w0 b aB):∃arr',ju w' b arr'/\arr'.size=aB.size:=by
 obtain⟨a,h1,h2⟩:=h.aW b aB ho;by_cases e:b=c
 .subst e;obtain⟨a',h3,h4⟩:=hsz a h1;exact⟨a',h3,h4.trans h2⟩
 .exact ⟨a,h1.iI (hother b e),h2⟩
theorem zR.mX{K:Nat->Prop}{w0 w:World}(h:zR K w0 w)(n:Nat)(hn:w.drawn<=n):zR K w0 {w with drawn:=n}:=⟨h.xX,h.ik,h.grow,h.sO,h.aW,h.io.1,h.io.2.1,h.io.2.2.1,cZ h.io.2.2.2 hn⟩
theorem WJ.push{S:Nat->Prop}{w:World}(hs:∀b,S b->b<w.heap.size)(o:Obj):WJ S w S {w with heap:=w.heap.push o}:=⟨fun _ h=>h,fun b h=>e_ (hs b h)⟩
theorem WJ.mX(S:Nat->Prop)(w:World)(n:Nat):WJ S w S {w with drawn:=n}:=⟨fun _ h=>h,fun _ _=>rfl⟩
theorem Inv.u_{S K:Nat->Prop}{w0 w w':World}{Kn Kn':Nat->Prop}{φ φ':Nat->d_}{hf:Nat->Option Ob}(h:Inv S K w0 Kn φ hf w)(hr:mS Kn φ Kn' φ')(hs:∀b,b<w.heap.size->w'.heap[b]?=w.heap[b]?):HQ S w w' φ φ' hf hf:=fun id sz sl hi=>by
 obtain⟨_,h1⟩:=h.fh id _ hi;have hlt:(φ id).bH<w.heap.size:=by cases h1 with|nst _ _ _ _ ho=>exact ho.lt
 refine⟨hi,hs _ hlt,fun k x hp=>?_⟩;obtain⟨h2,_,h3,_⟩:=h.Ai hi hp;refine⟨hs x h3,h2,fun j b hj hb=>?_⟩;rw[hr.cK j (h.fh j b hj).1];exact(h.pw id sz sl k x hi hp).1 j b hj hb
theorem Inv.NS{S K:Nat->Prop}{w0 w w':World}{Kn:Nat->Prop}{φ:Nat->d_}{hf:Nat->Option Ob}(h:Inv S K w0 Kn φ hf w)(hs:∀b,b<w.heap.size->w'.heap[b]?=w.heap[b]?):HQ S w w' φ φ hf hf:=h.u_ (mS.refl _ _) hs
theorem Inv.mX{S K:Nat->Prop}{w0 w:World}{Kn:Nat->Prop}{φ:Nat->d_}{hf:Nat->Option Ob}(h:Inv S K w0 Kn φ hf w)(n:Nat)(hn:w.drawn<=n):
  Inv S K w0 Kn φ hf {w with drawn:=n}:=
 h.jQ (WJ.mX S w n) (mS.refl _ _) h.nM h.sk (h.iT.mX n hn) (fun id o ho=>.inl ⟨ho,fun hown=>⟨rfl,by obtain⟨_,hro⟩:=h.fh id o ho;cases hro<;>simp_all[bF]⟩⟩) h.jq (h.NS fun _ _=>rfl)
theorem RO.aW{S K:Nat->Prop}{w:World}{Kn:Nat->Prop}{φ:Nat->d_}{l:d_}{o:Ob}(h:RO S K w Kn φ l o)(ho:bF o=true):
  ¬S l.bH/\¬K l.bH/\l.bH<w.heap.size:=by
 cases h with|aB hsz hl hS hK hown=>exact⟨hS,hK,hown.lt⟩|box hb hS hK hown=>exact⟨hS,hK,hown.lt⟩|map hS hK hmp=>exact⟨hS,hK,(aT.1 hmp).1⟩|cap hsz hl hS hK hown=>exact⟨hS,hK,hown.lt⟩|nst hsz hl hS hK hown=>exact⟨hS,hK,hown.lt⟩|_=>simp[bF]at ho
def ext(φ:Nat->d_)(i:Nat)(l:d_):Nat->d_:=fun j=>if j=i then l else φ j
theorem fP{Kn:Nat->Prop}{φ:Nat->d_}{i:Nat}(l:d_)(hi:¬Kn i):mS Kn φ (fun j=>Kn j\/j=i) (ext φ i l):=⟨fun _ h=>.inl h,fun j h=>by simp only[ext];rw[if_neg];rintro rfl;exact hi h⟩
abbrev zQ(o:Ob):Prop:=∀sz sl(k:Nat)rows,o=.nst sz sl->sl[k]?≠some (gH.aW rows)
theorem Inv.zm{S K:Nat->Prop}{w0 w w':World}{Kn:Nat->Prop}{φ:Nat->d_}{hf:Nat->Option Ob}(h:Inv S K w0 Kn φ hf w){i:Nat}{l:d_}{o:Ob}(hno:zQ o)
  (hsame:∀b,b<w.heap.size->w'.heap[b]?=w.heap[b]?) (hl:bF o=true->∀id sz sl k x,hf id=some (.nst sz sl)->lR w (φ id) sl k x->l.bH≠x):JE w' (ext φ i l) (aU [(i,some o)] hf):=by
 have key:∀a sz sl k x,aU [(i,some o)] hf a=some (.nst sz sl)->lR w' (ext φ i l a) sl k x->hf a=some (.nst sz sl)/\lR w (φ a) sl k x:=by
  intro a sz sl k x ha hp;rw[bk]at ha;by_cases e:i=a
  .rw [if_pos e]at ha;obtain rfl:=aa ha;obtain⟨rows,v,h1,_⟩:=hp;exact absurd h1 (hno _ _ _ _ rfl)
  .rw [if_neg e,dl]at ha;refine⟨ha,?_⟩;have e1:ext φ i l a=φ a:=by simp only[ext];rw[if_neg (fun q=>e q.symm)]
   rw[e1]at hp;obtain⟨_,h1⟩:=h.fh a _ ha;exact(lR.cK (hsame _ (by cases h1 with|nst _ _ _ _ ho=>exact ho.lt))).1 hp
 intro a sz sl k x ha hp;obtain⟨h1,h2⟩:=key a sz sl k x ha hp;obtain⟨p1,p2⟩:=h.pw a sz sl k x h1 h2;refine⟨fun j b hj hown=>?_,fun j sz' sl' k' hj hpj=>?_⟩
 .rw [bk]at hj;by_cases e:i=j
  .rw [if_pos e]at hj;obtain rfl:=aa hj;simp only[ext];rw[if_pos e.symm];exact hl hown a sz sl k x h1 h2
  .rw [if_neg e,dl]at hj;simp only[ext];rw[if_neg (fun q=>e q.symm)];exact p1 j b hj hown
 .obtain ⟨h3,h4⟩:=key j sz' sl' k' x hj hpj;exact p2 j sz' sl' k' h3 h4
theorem Inv.vT{S K:Nat->Prop}{w0 w w':World}{Kn:Nat->Prop}{φ:Nat->d_}{hf:Nat->Option Ob}(h:Inv S K w0 Kn φ hf w){id:Nat}{o:Ob}(ho:hf id=some o)(hsame:∀b,b<w.heap.size->w'.heap[b]?=w.heap[b]?):HS S w w' (φ id) o:=by intro sz sl e k x hp;subst e;obtain⟨h1,_,h2,_⟩:=h.Ai ho hp;exact⟨hsame x h2,h1⟩
theorem Inv.alloc{S K:Nat->Prop}{w0 w:World}{Kn:Nat->Prop}{φ:Nat->d_}{hf:Nat->Option Ob}(h:Inv S K w0 Kn φ hf w){i:Nat}(hi:¬Kn i)
  (aB:Array Value) (t:TypeId) (sz c:Nat) (o:Ob)
  (hro:RO S K {w with heap:=w.heap.push (.cells aB t)} (fun j=>Kn j\/j=i) (ext φ i ⟨w.heap.size,0,sz,aB.size,c⟩) ⟨w.heap.size,0,sz,aB.size,c⟩ o) (hno:zQ o:=by intro _ _ _ _ e;cases e):
  Inv S K w0 (fun j=>Kn j\/j=i) (ext φ i ⟨w.heap.size,0,sz,aB.size,c⟩) (aU [(i,some o)] hf) {w with heap:=w.heap.push (.cells aB t)}:=by
 refine h.nL (WJ.push h.nM _) (fP _ hi) (fun b hb=>by have:=h.nM b hb;simp;omega) h.sk (h.iT.push aB t) ?_ ?_ (h.zm hno (fun b hb=>e_ hb) fun _ id sz sl k x ha hp e=>by have:=(h.Ai ha hp).2.2.1;simp only at e;omega)
 .intro id o' ho;rw[bk]at ho;by_cases e:i=id
  .subst e;rw[if_pos rfl]at ho;obtain rfl:o=o':=by simpa using ho
   refine .inr ⟨.inr rfl,?_⟩;simpa[ext]using hro
  .rw [if_neg e,dl]at ho;refine .inl ⟨ho,fun hown=>?_,h.vT ho fun b hb=>e_ hb⟩;obtain⟨_,h2⟩:=h.fh id o' ho;obtain⟨a,b,c⟩:=h2.aW hown;exact⟨e_ c,a⟩
 .have key:∀j b,j≠i->hf j=some b->bF b=true->(ext φ i ⟨w.heap.size,0,sz,aB.size,c⟩ j).bH<w.heap.size:=by intro j b hj hb hown;obtain⟨_,h2⟩:=h.fh j b hb;simpa[ext,hj]using(h2.aW hown).2.2
  intro a b oa ob ha hb hoa hob hne;rw[bk]at ha hb;by_cases ea:i=a
  .by_cases eb:i=b
   .exact absurd (ea.symm.trans eb) hne
   .rw [if_neg eb,dl]at hb;have:=key b ob (fun e=>eb e.symm) hb hob;have e1:(ext φ i ⟨w.heap.size,0,sz,aB.size,c⟩ a).bH=w.heap.size:=by simp[ext,ea]
    omega
  .rw [if_neg ea,dl]at ha;have h1:=key a oa (fun e=>ea e.symm) ha hoa;by_cases eb:i=b
   .have e1:(ext φ i ⟨w.heap.size,0,sz,aB.size,c⟩ b).bH=w.heap.size:=by simp[ext,eb]
    omega
   .rw [if_neg eb,dl]at hb;have:=h.jq a b oa ob ha hb hoa hob hne;have e1:¬a=i:=fun e=>ea e.symm;have e2:¬b=i:=fun e=>eb e.symm;simpa[ext,e1,e2]using this
theorem ua{w:World}{o:Obj}(ho:∀c t r,o≠.cells c t r)(a:Addr):({w with heap:=w.heap.push o}:World).frozen? a=w.frozen? a:=by
 unfold World.frozen?;rcases Nat.lt_trichotomy a.block w.heap.size with h|h|h
 .rw [e_ h]
 .rw [h];simp only[Array.getElem?_push_size,dX (ai _)];cases o with|cells c t r=>exact absurd rfl (ho c t r)|_=>rfl
 .rw [dX (by simp;omega),dX (by omega)]
theorem Inv.HL{S K:Nat->Prop}{w0 w:World}{Kn:Nat->Prop}{φ:Nat->d_}{hf:Nat->Option Ob}(h:Inv S K w0 Kn φ hf w){i:Nat}(hi:¬Kn i)
  {ob:Obj} (hob:∀c t r,ob≠.cells c t r) (l:d_) (hl:l.bH=w.heap.size) (o:Ob)
  (hro:RO S K {w with heap:=w.heap.push ob} (fun j=>Kn j\/j=i) (ext φ i l) l o) (hno:zQ o:=by intro _ _ _ _ e;cases e):
  Inv S K w0 (fun j=>Kn j\/j=i) (ext φ i l) (aU [(i,some o)] hf) {w with heap:=w.heap.push ob}:=by
 have hfrm:zR K w0 {w with heap:=w.heap.push ob}:=
  ⟨h.iT.xX,fun b hb=>(e_ (ct (h.iT.xX b hb) h.iT.grow)).trans (h.iT.ik b hb),by have:=h.iT.grow;simp;omega,fun a ha=>(ua hob a).trans (h.iT.sO a ha),
   fun b a ha=>let⟨a',h1,h2⟩:=h.iT.aW b a ha;⟨a',h1.iI (e_ h1.lt),h2⟩,h.iT.io⟩
 refine h.nL (WJ.push h.nM _) (fP _ hi) (fun b hb=>by have:=h.nM b hb;simp;omega) h.sk hfrm ?_ ?_ (h.zm hno (fun b hb=>e_ hb) fun _ id sz sl k x ha hp e=>by have:=(h.Ai ha hp).2.2.1;omega)
 .intro id o' ho;rw[bk]at ho;by_cases e:i=id
  .subst e;rw[if_pos rfl]at ho;obtain rfl:o=o':=by simpa using ho
   refine .inr ⟨.inr rfl,?_⟩;simpa[ext]using hro
  .rw [if_neg e,dl]at ho;refine .inl ⟨ho,fun hown=>?_,h.vT ho fun b hb=>e_ hb⟩;obtain⟨_,h2⟩:=h.fh id o' ho;obtain⟨a,b,c⟩:=h2.aW hown;exact⟨e_ c,a⟩
 .have key:∀j b,j≠i->hf j=some b->bF b=true->(ext φ i l j).bH<w.heap.size:=by intro j b hj hb hown;obtain⟨_,h2⟩:=h.fh j b hb;simpa[ext,hj]using(h2.aW hown).2.2
  intro a b oa ob ha hb hoa hob hne;rw[bk]at ha hb;by_cases ea:i=a
  .by_cases eb:i=b
   .exact absurd (ea.symm.trans eb) hne
   .rw [if_neg eb,dl]at hb;have:=key b ob (fun e=>eb e.symm) hb hob;have e1:(ext φ i l a).bH=w.heap.size:=by simp[ext,ea,hl]
    omega
  .rw [if_neg ea,dl]at ha;have h1:=key a oa (fun e=>ea e.symm) ha hoa;by_cases eb:i=b
   .have e1:(ext φ i l b).bH=w.heap.size:=by simp[ext,eb,hl]
    omega
   .rw [if_neg eb,dl]at hb;have:=h.jq a b oa ob ha hb hoa hob hne;have e1:¬a=i:=fun e=>ea e.symm;have e2:¬b=i:=fun e=>eb e.symm;simpa[ext,e1,e2]using this
theorem Inv.Mg{S K:Nat->Prop}{w0 w:World}{Kn:Nat->Prop}{φ:Nat->d_}{hf hf':Nat->Option Ob}(h:Inv S K w0 Kn φ hf w)(hsub:∀id o,hf' id=some o->hf id=some o):
  Inv S K w0 Kn φ hf' w:=
 ⟨h.nM,h.sk,h.iT,fun id o ho=>h.fh id o (hsub id o ho),fun i j a b ha hb=>h.jq i j a b (hsub _ _ ha) (hsub _ _ hb),h.t7,
  fun i sz sl k x hi hp=>let⟨a,b⟩:=h.pw i sz sl k x (hsub _ _ hi) hp;⟨fun j b hj=>a j b (hsub _ _ hj),fun j sz' sl' k' hj=>b j sz' sl' k' (hsub _ _ hj)⟩⟩
theorem Inv.set{S K:Nat->Prop}{w0 w w':World}{Kn:Nat->Prop}{φ:Nat->d_}{hf:Nat->Option Ob}(h:Inv S K w0 Kn φ hf w){id:Nat}{o o':Ob}
  (ho:hf id=some o) (hown:bF o=true) (hother:∀b,b≠(φ id).bH->w'.heap[b]?=w.heap[b]?) (hsize:w'.heap.size=w.heap.size)
  (hfrz:∀a,w'.frozen? a=w.frozen? a) (hsz:∀aB,ju w (φ id).bH aB->∃arr',ju w' (φ id).bH arr'/\arr'.size=aB.size) (hio:Io w w') (hro:WJ S w S w'->RO S K w' Kn φ (φ id) o') (hn:∀sz sl,o'≠.nst sz sl:=by intro _ _ e;cases e):
  WJ S w S w'/\Inv S K w0 Kn φ (aU [(id,some o')] hf) w':=by
 obtain⟨hk,h0⟩:=h.fh id o ho;obtain⟨hS,hK,hlt⟩:=h0.aW hown;have hs:WJ S w S w':=⟨fun _ h=>h,fun b hb=>hother b (fun e=>hS (e▸hb))⟩
 have fix:∀i a,aU [(id,some o')] hf i=some a->bF a=true->∃a',hf i=some a'/\bF a'=true:=by
  intro i a ha hoa;rw[bk]at ha;by_cases e:id=i
  .subst e;exact⟨o,ho,hown⟩
  .rw [if_neg e,dl]at ha;exact⟨a,ha,hoa⟩
 refine⟨hs,h.jQ hs (mS.refl _ _) (fun b hb=>hsize▸h.nM b hb) h.sk ?_ ?_ ?_ ?_⟩
 .exact ⟨h.iT.xX,fun b hb=>(hother b (fun e=>hK (e▸hb))).trans (h.iT.ik b hb),hsize▸h.iT.grow,fun a ha=>(hfrz a).trans (h.iT.sO a ha),h.iT.qE hother hsz,h.iT.io.trans hio⟩
 .intro i x hx;rw[bk]at hx;by_cases e:id=i
  .subst e;rw[if_pos rfl]at hx;obtain rfl:o'=x:=by simpa using hx
   exact .inr ⟨hk,hro hs⟩
  .rw [if_neg e,dl]at hx;refine .inl ⟨hx,fun hox=>⟨hother _ ?_,((h.fh i x hx).2.aW hox).1⟩⟩;exact(h.jq i id x o hx ho hox hown (fun e'=>e e'.symm))
 .intro i j a b ha hb hoa hob hne;obtain⟨a',ha',hoa'⟩:=fix i a ha hoa;obtain⟨b',hb',hob'⟩:=fix j b hb hob;exact h.jq i j a' b' ha' hb' hoa' hob' hne
 .intro a sz sl ha;rw[bk]at ha;by_cases e:id=a
  .rw [if_pos e]at ha;exact absurd (aa ha) (hn _ _)
  .rw [if_neg e,dl]at ha;refine⟨ha,hother _ (h.jq a id _ o ha ho rfl hown fun q=>e q.symm),fun k x hp=>?_⟩;obtain⟨p1,_⟩:=h.pw a sz sl k x ha hp;refine⟨hother x fun q=>p1 id o ho hown q.symm,(h.Ai ha hp).1,fun j b hj hb=>?_⟩;obtain⟨b',hb',hob'⟩:=fix j b hj hb;exact p1 j b' hb' hob'
variable{P:Program}
def dm(P:Program)(t:TypeId):Option Nat:=(P.info? t).map (·.size)
def du(P:Program)(t:TypeId):Option Bool:=(P.underlying t).map fun|.struct _|.array _ _=>true|_=>false
def fS(P:Program)(t:TypeId):Option (List Value):=match(P.info? t).bind (·.zero)with|some z=>if z.cells.toList.all cO then some z.cells.toList else none|none=>none
theorem kc(b off n:Nat):(⟨b,off,none⟩:Addr).add n=⟨b,off+n,none⟩:=by unfold Addr.add;split<;>simp_all
theorem eF{t:TypeId}{n:Nat}(h:dm P t=some n)(w:World):(sizeOf t).run P w=.ok n w:=by simp only[dm,aA]at h;obtain⟨i,hi,rfl⟩:=h;simp[sizeOf,typeInfo,hi]
theorem bo{t:TypeId}{d:TypeDesc}(h:P.underlying t=some d)(w:World):(underlying t).run P w=.ok d w:=by simp[underlying,h]
theorem mF{t:TypeId}{g:Bool}(h:du P t=some g)(w:World):(isAgg t).run P w=.ok g w:=by simp only[du,aA]at h;obtain⟨d,hd,rfl⟩:=h;simp only[isAgg,Sem.run_bind,bo hd,Result.andThen_ok];cases d<;>rfl
theorem jR{t:TypeId}{z:List Value}(h:fS P t=some z)(w:World):
  ∃v,(zeroValue t).run P w=.ok v w/\v.cells.toList=z/\∀x∈z,cO x=true:=by
 simp only[fS]at h;split at h
 .rename_i v hv;split at h
  .rename_i hp;obtain rfl:=aa h;obtain⟨i,hi,hz⟩:=dM.1 hv;exact⟨v,by simp[zeroValue,typeInfo,hi,hz],rfl,fun x hx=>aL.1 hp x hx⟩
  .simp at h
 .simp at h
section
variable{S K:Nat->Prop}{w0 w:World}{Kn:Nat->Prop}{φ:Nat->d_}{hf:Nat->Option Ob}
theorem xW(agg:Bool)(n:Nat)(cells:List D):FT agg n cells=vQ agg n (cells.map .d):=by
 unfold FT vQ;cases agg
 .cases cells<;>rfl
 .simp [List.map_take]
theorem oO{t:TypeId}{agg:Bool}{n:Nat}(ha:du P t=some agg)(hn:dm P t=some n){cells:List C}{b o:Nat}{v:TV}
  (hc:∀(j:Nat)(x:C),cells[j]?=some x->∃u,w.cell? ⟨b,o+j,none⟩=some u/\RC S w Kn φ x u) (h:vQ agg n cells=some v):
  ∃val,(loadVar t ⟨b,o,none⟩).run P w=.ok val w/\dH S w Kn φ v val:=by
 unfold vQ at h;cases agg
 .simp only[aG,if_false]at h;cases cells with
  |nil=>simp at h
  |cons x r=>
   obtain rfl:TV.c x=v:=by simpa using h
   obtain⟨u,hu,hr⟩:=hc 0 x rfl;refine⟨u,?_,.c hr⟩;simp only[loadVar,Sem.run_bind,mF ha,Result.andThen_ok,aG,if_false,run_load];simp only[ci]at hu;simp[hu]
 .simp only[if_true]at h;split at h
  .rename_i hle;obtain rfl:=aa h
   have hcell:∀j,j<n->w.cell? ((⟨b,o,none⟩:Addr).add j)=some ((w.cell? ⟨b,o+j,none⟩).getD undef):=by
    intro j hj;have hj':j<cells.length:=by omega
    obtain⟨u,hu,_⟩:=hc j cells[j] (by simp[hj']);rw[kc,hu];rfl
   refine⟨.agg ((dJ n).map fun j=>(w.cell? ⟨b,o+j,none⟩).getD undef).toArray,?_,.agg (by simp;omega) ?_⟩
   .simp only[loadVar,Sem.run_bind,mF ha,Result.andThen_ok,if_true,eF hn,run_loadCells w _ n _ hcell,Sem.run_pure]
   .intro i x hi;rw[cN]at hi;split at hi
    .rename_i hin;obtain⟨u,hu,hr⟩:=hc i x hi;have:((dJ n).map fun j=>(w.cell? ⟨b,o+j,none⟩).getD undef).toArray.getD i undef=u:=by simp[gr,hin,hu]
     rw[this];exact hr
    .simp at hi
  .simp at h
theorem uk{id cU:Nat}{sz:Nat}{rows:List (List D)}(hI:Inv S K w0 Kn φ hf w)(ho:hf id=some (.aB sz rows)\/hf id=some (.ML sz rows)){r:List D}(hr:rows[cU]?=some r)(off:Nat):
  (φ id).sz=sz/\r.length=sz/\∀(j:Nat)(x:C),((r.drop off).map C.d)[j]?=some x->∃u,w.cell? ⟨(φ id).bH,(φ id).aF+cU*(φ id).sz+off+j,none⟩=some u/\RC S w Kn φ x u:=by
 rcases ho with ho|ho
 .obtain ⟨hk,h0⟩:=hI.fh _ _ ho;cases h0 with|aB hsz hl hS hK hown hext hfit hrr=>refine⟨hl,hrr.1 _ _ hr,fun j x hj=>?_⟩;rw[aC,bi]at hj;obtain⟨d,hd,rfl⟩:=aA.1 hj;obtain⟨u,hu,hrd⟩:=hrr.2 cU r hr (off+j) d hd;refine⟨u,?_,.d hrd⟩;rw[hown.cell,hl,<-hu];show _=_;congr 1;omega
 .obtain ⟨hk,h0⟩:=hI.fh _ _ ho;cases h0 with|ML hsz hl hS hrr=>refine⟨hl,hrr.1 _ _ hr,fun j x hj=>?_⟩;rw[aC,bi]at hj;obtain⟨d,hd,rfl⟩:=aA.1 hj;obtain⟨u,hu,hrd⟩:=hrr.2 cU r hr (off+j) d hd;refine⟨u,?_,.d hrd⟩;rw[hl,<-hu];simp only[bK]
theorem qu{t:TypeId}{agg:Bool}{n:Nat}(ha:du P t=some agg)(hn:dm P t=some n){p:C}{H:aY}{v:TV}{aj:List Nat}{pv:Value}
  (hI:Inv S K w0 Kn φ (ak H) w) (hp:RC S w Kn φ p pv) (h:eH agg n p H=some (v,aj)):
  ∃val,(Instr.loadAt t pv).run P w=.ok val w/\dH S w Kn φ v val:=by
 unfold eH at h;split at h
 .rename_i cells;split at h
  .rename_i v' hv;obtain⟨rfl,rfl⟩:v'=v/\[]=aj:=by simpa using h
   rw[xW]at hv;cases hp with
   |d hd=>cases hd with|pt f hb hcell hrd=>obtain⟨val,h1,h2⟩:=oO (Kn:=Kn) (φ:=φ) (S:=S) ha hn (cells:=cells.map .d) (fun j x hj=>by rw[aC]at hj;obtain⟨d,hd,rfl⟩:=aA.1 hj;exact⟨_,hcell j d hd,.d (hrd j d hd)⟩) hv;exact⟨val,by simp[Instr.loadAt,Instr.sureAddr,h1],h2⟩
  .simp at h
 .rename_i id cU off
  have key:∀sz rows,(ak H id=some (.aB sz rows)\/ak H id=some (.ML sz rows))->
    (match rows[cU]?with|some r=>(match FT agg n (r.drop off)with|some v=>some (v,[id])|none=>none)|none=>none)=some (v,aj)->
    ∃val,(Instr.loadAt t pv).run P w=.ok val w/\dH S w Kn φ v val:=by
   intro sz rows ho h;split at h
   .rename_i r hr;split at h
    .rename_i v' hv;obtain⟨rfl,rfl⟩:v'=v/\[id]=aj:=by simpa using h
     rw[xW]at hv;obtain⟨hl,hrl,hc⟩:=uk hI ho hr off;cases hp with|ep hk=>obtain⟨val,h1,h2⟩:=oO ha hn hc hv;exact⟨val,by simp[Instr.loadAt,Instr.sureAddr,h1],h2⟩
    .simp at h
   .simp at h
  split at h
  .rename_i sz rows ho;exact key sz rows (.inl ho) h
  .rename_i sz rows ho;exact key sz rows (.inr ho) h
  .simp at h
 .rename_i id off;split at h
  .rename_i cells ho;split at h
   .rename_i v' hv;obtain⟨rfl,rfl⟩:v'=v/\[id]=aj:=by simpa using h
    obtain⟨hk,h0⟩:=hI.fh _ _ ho;cases h0 with
    |box hb hS hK hown hlen hrr=>cases hp with|op hk=>obtain⟨val,h1,h2⟩:=oO (S:=S) (Kn:=Kn) (φ:=φ) ha hn (cells:=cells.drop off) (b:=(φ id).bH) (o:=(φ id).aF+off) (fun j x hj=>by rw[bi]at hj;have hlt:=(af.1 hj).1;rw[hlen]at hlt;refine⟨_,?_,hrr _ _ hj⟩;rw[hown.cell,hb];simp[gr,hlt]) hv;exact⟨val,by simp[Instr.loadAt,Instr.sureAddr,h1],h2⟩
   .simp at h
  .rename_i cells ho;split at h
   .rename_i v' hv;obtain⟨rfl,rfl⟩:v'=v/\[id]=aj:=by simpa using h
    rw[xW]at hv;obtain⟨hk,h0⟩:=hI.fh _ _ ho;cases h0 with
    |ji hb hS hrr=>cases hp with|op hk=>obtain⟨val,h1,h2⟩:=oO (S:=S) (Kn:=Kn) (φ:=φ) ha hn (cells:=(cells.drop off).map .d) (b:=(φ id).bH) (o:=(φ id).aF+off) (fun j x hj=>by rw[aC,bi]at hj;obtain⟨d,hd,rfl⟩:=aA.1 hj;obtain⟨u,hu,hr⟩:=hrr _ _ hd;exact⟨u,by rw[hb,<-hu];simp,.d hr⟩) hv;exact⟨val,by simp[Instr.loadAt,Instr.sureAddr,h1],h2⟩
   .simp at h
  .simp at h
 .simp at h
theorem rY{w:World}{b:Nat}{old aB:Array Value}(h:ju w b old)(a:Addr):(w.setRow b aB).frozen? a=w.frozen? a:=by
 obtain⟨t,h⟩:=h;unfold World.frozen?;by_cases e:a.block=b
 .rw [e,setRow_heap w b old aB t _ h,h]
 .rw [setRow_other w b _ _ e]
theorem qF{w:World}{b:Nat}{old aB:Array Value}(h:ju w b old):ju (w.setRow b aB) b aB:=by obtain⟨t,h⟩:=h;exact⟨t,setRow_heap w b old aB t _ h⟩
theorem jU(v:Value):v.oneCell'=one v:=by cases v<;>rfl
theorem dH.cells{S:Nat->Prop}{w:World}{Kn:Nat->Prop}{φ:Nat->d_}{v:TV}{val:Value}{cs:List C}(h:dH S w Kn φ v val)(hc:cellsOf v=some cs):
  cs.length=val.cells.size/\(∀(i:Nat)(x:C),cs[i]?=some x->RC S w Kn φ x (val.cells.getD i undef))/\∀x∈val.cells.toList,one x=true:=by
 cases h with
 |@c x v h=>
  obtain rfl:[x]=cs:=by simpa[cellsOf]using hc
  have e:=og h.one;refine⟨by rw[e];rfl,fun i y hi=>?_,fun y hy=>?_⟩
  .cases i with
   |zero=>
    rw[e];obtain rfl:x=y:=by simpa using hi
    exact h
   |succ i=>simp at hi
  .rw [e]at hy;obtain rfl:y=val:=by simpa using hy
   exact h.one
 |@agg cs' aB hlen h=>
  obtain rfl:cs'=cs:=by simpa[cellsOf]using hc
  refine⟨hlen,h,fun y hy=>?_⟩;obtain⟨i,hi,rfl⟩:=eV hy;have hi':i<aB.size:=by simpa[Value.cells]using hi
  have:=(h i (cs'[i]'(by omega)) (by simp[hlen,hi'])).one;simpa[gr,hi',Value.cells]using this
 |fm hlen h=>simp[cellsOf]at hc
theorem Ei{t:TypeId}{n:Nat}(hn:dm P t=some n){b o:Nat}{aB:Array Value}{val:Value}(ho:ju w b aB)(hlen:val.cells.size=n)(hfit:o+n<=aB.size)
  (hone:∀x∈val.cells.toList,one x=true):
  (storeVar t ⟨b,o,none⟩ val).run P w=.ok () (w.setRow b (aB.toList.take o++val.cells.toList++aB.toList.drop (o+n)).toArray):=by
 obtain⟨ty,hb⟩:=ho;have:=run_storeCells_at P b o ty val.cells.toList 0 aB w hb (by simp;omega) (fun v hv=>by rw[jU];exact hone v hv);have e:val.cells.toList.length=n:=by simpa using hlen
 rw[e]at this;simp only[ci]at this;simp only[storeVar,Sem.run_bind,eF hn,Result.andThen_ok,hlen,ne_eq,not_true_eq_false,if_false];exact this
theorem fH{α:Type}(l:List α)(off:Nat)(p:List α)(hfit:off+p.length<=l.length)(i:Nat):
  (aM l off p)[i]?=if i<off then l[i]?else if i<off+p.length then p[i-off]?else l[i]?:=by
 unfold aM;by_cases h1:i<off
 .rw [List.append_assoc,bm (by simp;omega)];simp[h1]
 .by_cases h2:i<off+p.length
  .rw [bm (by simp;omega),bw (by simp;omega)];simp only[eu,h1,h2,if_true,if_false];congr 1;omega
  .rw [bw (by simp;omega)];simp only[List.length_append,eu,bi,h1,h2,if_false];congr 1;omega
theorem cQ{α:Type}(l:List α)(off:Nat)(p:List α)(hfit:off+p.length<=l.length):(aM l off p).length=l.length:=by unfold aM;simp;omega
theorem Gy{aB:Array Value}{vs:List Value}{o n:Nat}(hn:vs.length=n):aB.toList.take o++vs++aB.toList.drop (o+n)=aM aB.toList o vs:=by rw[<-hn];rfl
end
section
variable{S K:Nat->Prop}{w0 w:World}{Kn:Nat->Prop}{φ:Nat->d_}{hf:Nat->Option Ob}
theorem RD.Zl{sz:Nat}{rows:List (List D)}{b off len cap:Nat}(hb:S b)(hsz:0<sz)(hlen:rows.length=len)(hcap:len<=cap)
  (h:bG S w sz (fun i=>w.cell? ⟨b,i,none⟩) off rows):RD S w (.sl sz rows) (.slice (some ⟨b,off,none⟩) len cap):=by
 subst hlen;refine .sl (fun i j=>(w.cell? ⟨b,off+i*sz+j,none⟩).getD undef) hb hsz hcap h.1 (fun i r hi j x hj=>?_) (fun i r hi j x hj=>?_)
 .obtain ⟨v,hv,_⟩:=h.2 i r hi j x hj;simp only at hv;rw[hv];rfl
 .obtain ⟨v,hv,hr⟩:=h.2 i r hi j x hj;simp only at hv;rw[hv];exact hr
theorem RD.qA{cells:List D}{b off:Nat}(hb:S b)(h:∀(j:Nat)(x:D),cells[j]?=some x->∃v,w.cell? ⟨b,off+j,none⟩=some v/\RD S w x v):
  RD S w (.pt cells) (.pointer (some ⟨b,off,none⟩)):=by
 refine .pt (fun j=>(w.cell? ⟨b,off+j,none⟩).getD undef) hb (fun j x hj=>?_) (fun j x hj=>?_)
 .obtain ⟨v,hv,_⟩:=h j x hj;rw[hv];rfl
 .obtain ⟨v,hv,hr⟩:=h j x hj;rw[hv];exact hr
def lC(w:World)(l:d_):List gH->Nat->List Nat
 |[],_=>[]
 |.aW _::r,k=>(match(w.cell? ⟨l.bH,l.aF+k,none⟩).bind pP with|some b=>b::lC w l r (k+1)|none=>lC w l r (k+1))
 |_::r,k=>lC w l r (k+1)
def adh(w:World)(φ:Nat->d_)(hf:Nat->Option Ob)(i:Nat):List Nat:=(φ i).bH::(match hf i with|some (.nst _ sl)=>lC w (φ i) sl 0|_=>[])
theorem vd{l:d_}{x:Nat}:∀{sl:List gH}{k0:Nat},x∈lC w l sl k0<->∃k rows v,sl[k]?=some (.aW rows)/\w.cell? ⟨l.bH,l.aF+(k0+k),none⟩=some v/\pP v=some x:=by
 intro sl;induction sl with
 |nil=>intro k0;simp[lC]
 |cons s sl ih=>
  intro k0;have tl:(∃k rows v,sl[k]?=some (.aW rows)/\w.cell? ⟨l.bH,l.aF+(k0+1+k),none⟩=some v/\pP v=some x)->∃k rows v,(s::sl)[k]?=some (.aW rows)/\w.cell? ⟨l.bH,l.aF+(k0+k),none⟩=some v/\pP v=some x:=by rintro⟨k,rows,v,h1,h2,h3⟩;exact⟨k+1,rows,v,by simpa using h1,by rw[<-h2,show k0+(k+1)=k0+1+k by omega],h3⟩
  have key:(∀rows,s≠.aW rows)->((∃k rows v,(s::sl)[k]?=some (.aW rows)/\w.cell? ⟨l.bH,l.aF+(k0+k),none⟩=some v/\pP v=some x)->∃k rows v,sl[k]?=some (.aW rows)/\w.cell? ⟨l.bH,l.aF+(k0+1+k),none⟩=some v/\pP v=some x):=by rintro hs ⟨k,rows,v,h1,h2,h3⟩;cases k with|zero=>exact absurd (by simpa using h1) (hs rows)|succ k=>exact⟨k,rows,v,by simpa using h1,by rw[<-h2,show k0+(k+1)=k0+1+k by omega],h3⟩
  cases s with
  |nil=>exact ih.trans ⟨tl,key fun _ e=>by cases e⟩
  |ku id len=>exact ih.trans ⟨tl,key fun _ e=>by cases e⟩
  |aW rows0=>
   simp only[lC];constructor
   .intro hx;split at hx
    .rename_i b hb;rcases aE.1 hx with rfl|hx
     .obtain ⟨v,h1,h2⟩:=dM.1 hb;exact⟨0,rows0,v,rfl,h1,h2⟩
     .exact tl (ih.1 hx)
    .exact tl (ih.1 hx)
   .rintro ⟨k,rows,v,h1,h2,h3⟩;cases k with
    |zero=>
     have e:(w.cell? ⟨l.bH,l.aF+k0,none⟩).bind pP=some x:=by rw[show l.aF+k0=l.aF+(k0+0)from rfl,h2];exact h3
     rw[e];simp
    |succ k=>
     have hm:=ih.2 ⟨k,rows,v,by simpa using h1,by rw[<-h2,show k0+(k+1)=k0+1+k by omega],h3⟩;split
     .exact aq _ hm
     .exact hm
theorem zd{l:d_}{x:Nat}{sl:List gH}:x∈lC w l sl 0<->∃k,lR w l sl k x:=by rw[vd];simp only[bl];exact Iff.rfl
theorem xC{l:d_}:∀{sl:List gH}{k0:Nat},(∀k k' x rows rows' v v',sl[k]?=some (.aW rows)->w.cell? ⟨l.bH,l.aF+(k0+k),none⟩=some v->pP v=some x->sl[k']?=some (.aW rows')->w.cell? ⟨l.bH,l.aF+(k0+k'),none⟩=some v'->pP v'=some x->k=k')->(lC w l sl k0).Nodup:=by
 intro sl;induction sl with
 |nil=>intro k0 _;exact gR
 |cons s sl ih=>
  intro k0 h;have h':(lC w l sl (k0+1)).Nodup:=ih fun k k' x rows rows' v v' h1 h2 h3 h4 h5 h6=>by have:=h (k+1) (k'+1) x rows rows' v v' (by simpa using h1) (by rw[<-h2,show k0+(k+1)=k0+1+k by omega]) h3 (by simpa using h4) (by rw[<-h5,show k0+(k'+1)=k0+1+k' by omega]) h6;omega
  cases s with
  |nil=>exact h'
  |ku id len=>exact h'
  |aW rows0=>
   simp only[lC];split
   .rename_i b hb;refine eQ.2 ⟨fun hm=>?_,h'⟩;obtain⟨v0,h1,h2⟩:=dM.1 hb;obtain⟨k,rows,v,h3,h4,h5⟩:=vd.1 hm;have:=h 0 (k+1) b rows0 rows v0 v rfl h1 h2 (by simpa using h3) (by rw[<-h4,show k0+(k+1)=k0+1+k by omega]) h5;omega
   .exact h'
theorem cu{i x:Nat}:x∈adh w φ hf i<->x=(φ i).bH\/∃sz sl k,hf i=some (.nst sz sl)/\lR w (φ i) sl k x:=by
 unfold adh;rw[aE];refine or_congr_right ?_;split
 .rename_i sz sl h;rw[zd];exact⟨fun⟨k,hk⟩=>⟨sz,sl,k,h,hk⟩,fun⟨_,_,k,h1,hk⟩=>by rw[h]at h1;cases h1;exact⟨k,hk⟩⟩
 .rename_i h;exact⟨fun hx=>by simp at hx,fun⟨sz,sl,k,h1,_⟩=>(h sz sl h1).elim⟩
theorem jl(hI:Inv S K w0 Kn φ hf w){i:Nat}{o:Ob}(ho:hf i=some o)(hown:bF o=true){x:Nat}(hx:x∈adh w φ hf i):¬S x/\¬K x/\x<w.heap.size:=by
 rcases cu.1 hx with rfl|⟨sz,sl,k,h1,h2⟩
 .exact (hI.fh i o ho).2.aW hown
 .obtain ⟨a,b,c,_⟩:=hI.Ai h1 h2;exact⟨a,b,c⟩
theorem MA(hI:Inv S K w0 Kn φ hf w){i j:Nat}{a b:Ob}(hi:hf i=some a)(hj:hf j=some b)(ha:bF a=true)(hb:bF b=true)(hne:i≠j){x:Nat}(hx:x∈adh w φ hf i):x∉adh w φ hf j:=by
 intro hy;rcases cu.1 hx with rfl|⟨sz,sl,k,h1,h2⟩<;>rcases cu.1 hy with e|⟨sz',sl',k',h3,h4⟩
 .exact hI.jq i j a b hi hj ha hb hne e
 .exact (hI.pw j sz' sl' k' _ h3 h4).1 i a hi ha rfl
 .subst e;exact(hI.pw i sz sl k _ h1 h2).1 j b hj hb rfl
 .exact hne (((hI.pw i sz sl k x h1 h2).2 j sz' sl' k' h3 h4).1).symm
theorem yG(hI:Inv S K w0 Kn φ hf w){i:Nat}{o:Ob}(ho:hf i=some o)(hown:bF o=true):(adh w φ hf i).Nodup:=by
 unfold adh;refine eQ.2 ⟨fun hm=>?_,?_⟩
 .split at hm
  .rename_i sz sl h;obtain⟨k,hk⟩:=zd.1 hm;exact(hI.pw i sz sl k _ h hk).1 i o ho hown rfl
  .simp at hm
 .split
  .rename_i sz sl h;refine xC fun k k' x rows rows' v v' h1 h2 h3 h4 h5 h6=>?_;rw[bl]at h2 h5;exact(((hI.pw i sz sl k x h ⟨rows,v,h1,h2,h3⟩).2 i sz sl k' h ⟨rows',v',h4,h5,h6⟩).2).symm
  .exact gR
theorem gE(i:Nat):(φ i).bH∈adh w φ hf i:=cu.2 (.inl rfl)
def SB(S:Nat->Prop)(w:World)(φ:Nat->d_)(hf:Nat->Option Ob)(aj:List Nat)(b:Nat):Prop:=S b\/∃i∈aj,b∈adh w φ hf i
theorem SB.uA(a b:List Nat)(h:∀i∈a,i∈b):WJ (SB S w φ hf a) w (SB S w φ hf b) w:=⟨fun _ hb=>hb.imp id fun⟨i,hi,e⟩=>⟨i,h i hi,e⟩,fun _ _=>rfl⟩
theorem SB.nk(b:List Nat):WJ S w (SB S w φ hf b) w:=⟨fun _ hb=>.inl hb,fun _ _=>rfl⟩
theorem zP.rd{sz b:Nat}{rows:List (List D)}{v:Value}(h:zP S w sz rows v b){T:Nat->Prop}(hT:WJ S w T w)(hb:T b):RD T w (.sl sz rows) v:=by obtain⟨addr,cap,aB,rfl,h2,h3,h4,_,h6⟩:=h;exact .Zl hb h2 rfl h4 ⟨h6.1,fun i r hi j x hj=>let⟨v,hv,hr⟩:=h6.2 i r hi j x hj;⟨v,(h3.cell _).trans hv,hr.mono hT⟩⟩
theorem vD{l:d_}{szi:Nat}{slots:List gH}(h:RO S K w Kn φ l (.nst szi slots)){rows:List (List D)}(hd:kH szi slots=some rows){T:Nat->Prop}(hT:WJ S w T w)(hp:∀k x,lR w l slots k x->T x):
  rows.length=slots.length/\bG T w 1 (fun i=>w.cell? ⟨l.bH,i,none⟩) l.aF rows:=by
 have key:∀(slots:List gH)(rows:List (List D)),kH szi slots=some rows->rows.length=slots.length/\∀(i:Nat)(r:List D),rows[i]?=some r->∃s x,slots[i]?=some s/\BM szi s=some x/\r=[x]:=by
  intro slots;induction slots with
  |nil=>intro rows h;obtain rfl:=aa h;exact⟨rfl,fun i r hi=>by simp at hi⟩
  |cons s slots ih=>
   intro rows h;simp only[kH]at h;split at h
   .rename_i x l hx hl;obtain rfl:=aa h;obtain⟨h1,h2⟩:=ih l hl;refine⟨by simp[h1],fun i r hi=>?_⟩;cases i with|zero=>exact⟨s,x,rfl,hx,(by simpa using hi:[x]=r).symm⟩|succ i=>obtain⟨s',x',e1,e2,e3⟩:=h2 i r (by simpa using hi);exact⟨s',x',by simpa using e1,e2,e3⟩
   .simp at h
 obtain⟨k1,k2⟩:=key slots rows hd;cases h with
 |nst hsz hl hS hK ho hext hfit hr hv=>
  refine⟨k1,fun i r hi=>by obtain⟨_,_,_,_,rfl⟩:=k2 i r hi;rfl,fun i r hi j x hj=>?_⟩;obtain⟨s,y,e1,e2,rfl⟩:=k2 i r hi;cases j with
  |succ j=>simp at hj
  |zero=>
   obtain rfl:y=x:=by simpa using hj
   obtain⟨v,h1,h2⟩:=hr i s e1;refine⟨v,by rw[gQ,ci];exact(ho.cell _).trans h1,?_⟩;cases h2 with|nil=>obtain rfl:=aa e2;exact .lit rfl|@aW rows' _ b h3 _ _=>obtain rfl:=aa e2;exact h3.rd hT (hp i b ⟨rows',v,e1,(ho.cell _).trans h1,h3.bH⟩)|ku _=>simp[BM]at e2
theorem iZ{id sz:Nat}{rows:List (List D)}(hI:Inv S K w0 Kn φ hf w)(ho:hf id=some (.aB sz rows)\/hf id=some (.ML sz rows)):
  0<sz/\(φ id).sz=sz/\bG S w sz (fun i=>w.cell? ⟨(φ id).bH,i,none⟩) (φ id).aF rows:=by
 rcases ho with ho|ho
 .obtain ⟨_,h0⟩:=hI.fh _ _ ho;cases h0 with|aB hsz hl hS hK hown hext hfit hrr=>exact⟨hsz,hl,hrr.1,fun i r hi j x hj=>let⟨v,hv,hr⟩:=hrr.2 i r hi j x hj;⟨v,(hown.cell _).trans hv,hr⟩⟩
 .obtain ⟨_,h0⟩:=hI.fh _ _ ho;cases h0 with|ML hsz hl hS hrr=>exact⟨hsz,hl,hrr⟩
theorem bG.sub{sz aF:Nat}{get:Nat->Option Value}{rows:List (List D)}(h:bG S w sz get aF rows)(off len:Nat):
  bG S w sz get (aF+off*sz) ((rows.drop off).take len):=by
 have key:∀i(r:List D),((rows.drop off).take len)[i]?=some r->rows[off+i]?=some r:=by
  intro i r hi;rw[cN]at hi;split at hi
  .rwa [bi]at hi
  .simp at hi
 refine⟨fun i r hi=>h.1 _ _ (key i r hi),fun i r hi j x hj=>?_⟩;obtain⟨v,hv,hr⟩:=h.2 _ _ (key i r hi) j x hj;refine⟨v,?_,hr⟩;rw[<-hv];congr 1;rw[Nat.add_mul];omega
theorem bG.pH{sz aF addr:Nat}{get:Nat->Option Value}{rows:List (List D)}(h:bG S w sz get aF rows)(off len:Nat)(ha:0<len->addr=aF+off*sz):
  bG S w sz get addr ((rows.drop off).take len):=by
 cases len with|zero=>exact⟨fun i r hi=>by simp at hi,fun i r hi=>by simp at hi⟩|succ n=>rw[ha (Nat.succ_pos _)];exact h.sub off _
theorem uH{sz id off len:Nat}{rows:List (List D)}{v:Value}{szo:Nat}(hI:Inv S K w0 Kn φ hf w)(hc:RC S w Kn φ (.da sz id off len) v)
  (ho:hf id=some (.aB szo rows)\/hf id=some (.ML szo rows)) (hle:off+len<=rows.length) {T:Nat->Prop} (hT:WJ S w T w) (hb:T (φ id).bH):
  RD T w (.sl sz ((rows.drop off).take len)) v:=by
 obtain⟨hsz,hl,hr⟩:=iZ hI ho;subst hl;cases hc with|da hk hcap haddr hext=>exact .Zl hb hsz (by simp;omega) hcap ((hr.pH off len fun h=>haddr (by omega)).mono hT)
theorem D9{id cU off sz:Nat}{rows:List (List D)}{r:List D}{v:Value}(hI:Inv S K w0 Kn φ hf w)(hc:RC S w Kn φ (.ep id cU off) v)
  (ho:hf id=some (.aB sz rows)\/hf id=some (.ML sz rows)) (hr:rows[cU]?=some r) {T:Nat->Prop} (hT:WJ S w T w) (hb:T (φ id).bH):
  RD T w (.pt (r.drop off)) v:=by
 obtain⟨hsz,hl,hrr⟩:=iZ hI ho;cases hc with|ep hk=>refine .qA hb fun j x hj=>?_;rw[bi]at hj;obtain⟨u,hu,hd⟩:=hrr.2 cU r hr (off+j) x hj;refine⟨u,?_,hd.mono hT⟩;rw[<-hu,hl];simp only[bK]
theorem VD{H:aY}(hI:Inv S K w0 Kn φ (ak H) w)(n:Nat)(c:C)(x:D)(aj:List Nat)(v:Value)(hleaf:match c with|.op _ _|.jy _ _=>False|_=>True)
  (h:cz H n c=some (x,aj)) (hc:RC S w Kn φ c v):RD (SB S w φ (ak H) aj) w x v:=by
 cases c with
 |d y=>simp only[cz,bp,Prod.mk.injEq]at h;obtain⟨rfl,rfl⟩:=h;cases hc with|d hd=>exact hd.mono (SB.nk _)
 |da sz id off len=>
  simp only[cz]at h
  have key:∀szo rows,(ak H id=some (.aB szo rows)\/ak H id=some (.ML szo rows))->(if off+len<=rows.length then some (D.sl sz ((rows.drop off).take len),[id])else none)=some (x,aj)->RD (SB S w φ (ak H) aj) w x v:=by
   intro szo rows ho h;split at h
   .rename_i hle;obtain⟨rfl,rfl⟩:=ad (aa h);exact uH hI hc ho hle (SB.nk _) (.inr ⟨_,by simp,gE _⟩)
   .simp at h
  split at h
  .exact key _ _ (.inl (by assumption)) h
  .exact key _ _ (.inr (by assumption)) h
  .rename_i szi slots ho;split at h
   .rename_i he;obtain⟨rfl,rfl⟩:=he;split at h
    .rename_i rows hd;obtain⟨rfl,rfl⟩:=ad (aa h);obtain⟨_,hro⟩:=hI.fh _ _ ho;obtain⟨h1,h2⟩:=vD hro hd (SB.nk (hf:=ak H) (φ:=φ) [id]) fun k x hp=>.inr ⟨id,by simp,cu.2 (.inr ⟨szi,slots,k,ho,hp⟩)⟩;cases hro with
     |nst hsz hl=>
      cases hc with
      |da hk hcap haddr hext=>rw[hl];refine .Zl (.inr ⟨id,by simp,gE id⟩) Nat.one_pos h1 hcap ?_;cases hs:slots with|nil=>have:rows=[]:=List.length_eq_zero_iff.1 (by rw[h1,hs];rfl);rw[this];exact⟨fun i r hi=>by simp at hi,fun i r hi=>by simp at hi⟩|cons s r=>rw[hs]at hcap;have:=haddr (by simp at hcap;omega);rw[this,hl,eC,ci];exact h2
    .simp at h
   .simp at h
  .simp at h
 |ep id cU off=>
  simp only[cz]at h
  have key:∀szo rows,(ak H id=some (.aB szo rows)\/ak H id=some (.ML szo rows))->
    (match rows[cU]?with|some r=>if off<=r.length then some (D.pt (r.drop off),[id])else none|none=>none)=some (x,aj)->RD (SB S w φ (ak H) aj) w x v:=by
   intro szo rows ho h;split at h
   .rename_i r hr;split at h
    .obtain ⟨rfl,rfl⟩:=ad (aa h);exact D9 hI hc ho hr (SB.nk _) (.inr ⟨_,by simp,gE _⟩)
    .simp at h
   .simp at h
  split at h
  .exact key _ _ (.inl (by assumption)) h
  .exact key _ _ (.inr (by assumption)) h
  .simp at h
 |op id off=>exact hleaf.elim
 |jy f caps=>exact hleaf.elim
 |om id=>cases n<;>simp[cz]at h
theorem nf{H:aY}(hI:Inv S K w0 Kn φ (ak H) w):∀n,
  (∀c x aj v,cz H n c=some (x,aj)->RC S w Kn φ c v->RD (SB S w φ (ak H) aj) w x v)/\
  (∀cs xs aj,dF H n cs=some (xs,aj)->∀(get:Nat->Option Value),(∀(i:Nat)(c:C),cs[i]?=some c->∃v,get i=some v/\RC S w Kn φ c v)->
   xs.length=cs.length/\∀(i:Nat)(x:D),xs[i]?=some x->∃v,get i=some v/\RD (SB S w φ (ak H) aj) w x v):=by
 intro n;induction n with
 |zero=>
  refine⟨fun c x aj v h hc=>?_,fun cs xs aj h get hg=>?_⟩
  .cases c with|op id off=>simp[cz]at h|jy f caps=>simp[cz]at h|_=>exact VD hI 0 _ x aj v trivial h hc
  .cases cs with
   |nil=>
    obtain⟨rfl,rfl⟩:[]=xs/\[]=aj:=by simpa[dF]using h
    exact⟨rfl,fun i x hi=>by simp at hi⟩
   |cons c cs=>simp[dF]at h
 |succ n ih=>
  obtain⟨ihc,ihl⟩:=ih;refine⟨fun c x aj v h hc=>?_,fun cs xs aj h get hg=>?_⟩
  .cases c with
   |op id off=>
    simp only[cz]at h;split at h
    .rename_i cells ho;split at h
     .obtain ⟨rfl,rfl⟩:=ad (aa h);obtain⟨_,h0⟩:=hI.fh _ _ ho;cases h0 with
      |ji hb hS hr=>cases hc with|op hk=>refine .qA (.inl hS) fun j x hj=>?_;rw[bi]at hj;obtain⟨u,hu,hd⟩:=hr _ _ hj;exact⟨u,by rw[<-hu,hb,bl],hd.mono (SB.nk _)⟩
     .simp at h
    .rename_i cells ho;split at h
     .rename_i ds ids' hv;split at h
      .obtain ⟨rfl,rfl⟩:=ad (aa h);obtain⟨_,h0⟩:=hI.fh _ _ ho;cases h0 with
       |@box _ aB hb hS hK hown hlen hr=>cases hc with|op hk=>obtain⟨h1,h2⟩:=ihl cells ds ids' hv (fun i=>w.cell? ⟨(φ id).bH,i,none⟩) (fun i c hi=>by have hlt:=(af.1 hi).1;rw[hlen]at hlt;exact⟨aB.getD i undef,by rw[hown.cell];simp[gr,hlt],hr i c hi⟩);refine .qA (.inr ⟨id,by simp,gE _⟩) fun j x hj=>?_;rw[bi]at hj;obtain⟨u,hu,hd⟩:=h2 _ _ hj;exact⟨u,by rw[<-hu,hb,bl],hd.mono (SB.uA _ _ fun i hi=>by simp[hi])⟩
      .simp at h
     .simp at h
    .simp at h
   |jy f caps=>
    simp only[cz]at h;split at h
    .rename_i ds ids' hv;obtain⟨rfl,rfl⟩:=ad (aa h);cases hc with
     |@jy _ _ vs hlen hr=>
      obtain⟨h1,h2⟩:=ihl caps ds ids' hv (fun i=>vs[i]?) (fun i c hi=>by have hlt:=(af.1 hi).1;rw[hlen]at hlt;exact⟨vs.getD i undef,by simp[gr,hlt],hr i c hi⟩);refine .fn (h1.trans hlen) fun j x hj=>?_;obtain⟨u,hu,hd⟩:=h2 j x hj;have hu':vs[j]?=some u:=hu;have:vs.getD j undef=u:=by simp[hu']
      rw[this];exact hd
    .simp at h
   |_=>exact VD hI (n+1) _ x aj v trivial h hc
  .cases cs with
   |nil=>
    obtain⟨rfl,rfl⟩:[]=xs/\[]=aj:=by simpa[dF]using h
    exact⟨rfl,fun i x hi=>by simp at hi⟩
   |cons c cs=>
    simp only[dF]at h;split at h
    .rename_i x0 a xs0 b hx hxs;obtain⟨rfl,rfl⟩:=ad (aa h);obtain⟨v0,hv0,hc0⟩:=hg 0 c rfl;have h0:=ihc c x0 a v0 hx hc0;obtain⟨h1,h2⟩:=ihl cs xs0 b hxs (fun i=>get (i+1)) (fun i c hi=>hg (i+1) c (by simpa using hi));refine⟨by simp[h1],fun i x hi=>?_⟩;cases i with
     |zero=>
      obtain rfl:x0=x:=by simpa using hi
      exact⟨v0,hv0,h0.mono (SB.uA _ _ fun i hi=>by simp[hi])⟩
     |succ i=>obtain⟨u,hu,hd⟩:=h2 i x (by simpa using hi);exact⟨u,hu,hd.mono (SB.uA _ _ fun i hi=>by simp[hi])⟩
    .simp at h
theorem lq{H:aY}(hI:Inv S K w0 Kn φ (ak H) w):∀cs xs aj,cm H cs=some (xs,aj)->∀(get:Nat->Option Value),(∀(i:Nat)(c:C),cs[i]?=some c->∃v,get i=some v/\RC S w Kn φ c v)->
   xs.length=cs.length/\∀(i:Nat)(x:D),xs[i]?=some x->∃v,get i=some v/\RD (SB S w φ (ak H) aj) w x v:=by
 intro cs;induction cs with
 |nil=>
  intro xs aj h get hg;obtain⟨rfl,rfl⟩:[]=xs/\[]=aj:=by simpa[cm]using h
  exact⟨rfl,fun i x hi=>by simp at hi⟩
 |cons c cs ih=>
  intro xs aj h get hg;simp only[cm]at h;split at h
  .rename_i x0 a xs0 b hx hxs;obtain⟨rfl,rfl⟩:=ad (aa h);obtain⟨v0,hv0,hc0⟩:=hg 0 c rfl;have h0:=(nf hI 300).1 c x0 a v0 hx hc0;obtain⟨h1,h2⟩:=ih xs0 b hxs (fun i=>get (i+1)) (fun i c hi=>hg (i+1) c (by simpa using hi));refine⟨by simp[h1],fun i x hi=>?_⟩;cases i with
   |zero=>
    obtain rfl:x0=x:=by simpa using hi
    exact⟨v0,hv0,h0.mono (SB.uA _ _ fun i hi=>by simp[hi])⟩
   |succ i=>obtain⟨u,hu,hd⟩:=h2 i x (by simpa using hi);exact⟨u,hu,hd.mono (SB.uA _ _ fun i hi=>by simp[hi])⟩
  .simp at h
theorem gO{H:aY}{all:List Nat}:∀(l:List Nat)(u:de),b_ H all l=some u->
  ∀id,(id∈l->∃o,fV H all id=some o/\bv u id=some (some o))/\(id∉l->bv u id=none):=by
 intro l;induction l with
 |nil=>
  intro u h id;obtain rfl:[]=u:=by simpa[b_]using h
  exact⟨fun h=>by simp at h,fun _=>rfl⟩
 |cons a l ih=>
  intro u h id;simp only[b_]at h;split at h
  .rename_i o u' ho hu;obtain rfl:=aa h;by_cases e:a=id
   .subst e;exact⟨fun _=>⟨o,ho,by simp[bv]⟩,fun hn=>absurd (List.mem_cons_self ..) hn⟩
   .obtain ⟨h1,h2⟩:=ih u' hu id;have e':(a==id)=false:=by simpa using e
    refine⟨fun hm=>?_,fun hn=>?_⟩
    .obtain ⟨o',ho',hf'⟩:=h1 ((aE.1 hm).resolve_left (fun e2=>e e2.symm));exact⟨o',ho',by simp[bv,e',hf']⟩
    .simp only[bv,e',cond_false];exact h2 (fun hm=>hn (aq _ hm))
  .simp at h
theorem sP{H:aY}{all:List Nat}{id:Nat}{o:Ob}(hI:Inv S K w0 Kn φ (ak H) w)(hmem:id∈all)(h:fV H all id=some o):
  bF o=false/\(∃o0,ak H id=some o0)/\RO (SB S w φ (ak H) all) K w Kn φ (φ id) o:=by
 unfold fV at h;have hb:SB S w φ (ak H) all (φ id).bH:=.inr ⟨id,hmem,gE _⟩;split at h
 .rename_i sz rows ho;obtain rfl:=aa h;obtain⟨hsz,hl,hr⟩:=iZ hI (.inl ho);exact⟨rfl,⟨_,ho⟩,.ML hsz hl hb (hr.mono (SB.nk _))⟩
 .rename_i sz rows ho;obtain rfl:=aa h;obtain⟨hsz,hl,hr⟩:=iZ hI (.inr ho);exact⟨rfl,⟨_,ho⟩,.ML hsz hl hb (hr.mono (SB.nk _))⟩
 .rename_i cells ho;obtain rfl:=aa h;obtain⟨_,h0⟩:=hI.fh _ _ ho;cases h0 with|ji hbase hS hr=>exact⟨rfl,⟨_,ho⟩,.ji hbase hb fun i x hi=>let⟨v,hv,hd⟩:=hr i x hi;⟨v,hv,hd.mono (SB.nk _)⟩⟩
 .rename_i cells ho;split at h
  .rename_i ds aj hv;split at h
   .rename_i hall;obtain rfl:=aa h;obtain⟨_,h0⟩:=hI.fh _ _ ho;cases h0 with|@box _ aB hbase hS hK hown hlen hr=>obtain⟨h1,h2⟩:=(nf hI 300).2 cells ds aj hv (fun i=>w.cell? ⟨(φ id).bH,i,none⟩) (fun i c hi=>by have hlt:=(af.1 hi).1;rw[hlen]at hlt;exact⟨aB.getD i undef,by rw[hown.cell];simp[gr,hlt],hr i c hi⟩);refine⟨rfl,⟨_,ho⟩,.ji hbase hb fun i x hi=>?_⟩;obtain⟨u,hu,hd⟩:=h2 i x hi;exact⟨u,hu,hd.mono (SB.uA _ _ fun i hi=>by simpa using aL.1 hall i hi)⟩
   .simp at h
  .simp at h
 .simp at h
 .simp at h
 .rename_i szi slots ho;split at h
  .rename_i rows hd;obtain rfl:=aa h;obtain⟨_,hro⟩:=hI.fh _ _ ho;obtain⟨_,h2⟩:=vD hro hd (SB.nk (hf:=ak H) (φ:=φ) all) fun k x hp=>.inr ⟨id,hmem,cu.2 (.inr ⟨szi,slots,k,ho,hp⟩)⟩;cases hro with|nst hsz hl=>exact⟨rfl,⟨_,ho⟩,.ML Nat.one_pos hl hb h2⟩
  .simp at h
 .simp at h
theorem Inv.x_{H:aY}{aj:List Nat}{u:de}(hI:Inv S K w0 Kn φ (ak H) w)(h:b_ H aj aj=some u):
  Inv (SB S w φ (ak H) aj) K w0 Kn φ (aU u (ak H)) w:=by
 have hfr:∀id∈aj,∃o,bv u id=some (some o)/\bF o=false/\(∃o0,ak H id=some o0)/\RO (SB S w φ (ak H) aj) K w Kn φ (φ id) o:=by
  intro id hid;obtain⟨o,ho,hfn⟩:=((gO aj u h id).1 hid)
  exact⟨o,hfn,sP hI hid ho⟩
 have hold:∀id o,aU u (ak H) id=some o->bF o=true->id∉aj/\ak H id=some o:=by
  intro id o ho hown;by_cases hm:id∈aj
  .obtain ⟨o',hfn,hno,_⟩:=hfr id hm;simp only[aU,hfn]at ho;obtain rfl:=aa ho;rw[hno]at hown;simp at hown
  .refine ⟨hm,?_⟩;simpa only[aU,(gO aj u h id).2 hm]using ho
 have hnb:∀id o,ak H id=some o->bF o=true->id∉aj->∀x∈adh w φ (ak H) id,¬SB S w φ (ak H) aj x:=by
  intro id o ho hown hm x hx hb;have hx1:=(jl hI ho hown hx).1;rcases hb with hb|⟨i,hi,e⟩
  .exact hx1 hb
  .obtain ⟨_,_,_,⟨o0,ho0⟩,_⟩:=hfr i hi;by_cases hoi:bF o0=true
   .exact MA hI ho ho0 hown hoi (fun e'=>hm (e'▸hi)) hx e
   .obtain ⟨_,h1⟩:=hI.fh i o0 ho0;rcases cu.1 e with rfl|⟨sz,sl,k,h2,_⟩
    .exact hx1 (by
      cases h1 with
      |ML hsz hl hS _=>exact hS
      |ji hb hS _=>exact hS
      |_=>simp[bF]at hoi)
    .rw [ho0]at h2;obtain rfl:=aa h2;simp[bF]at hoi
 refine hI.jQ (SB.nk _) (mS.refl _ _) ?_ ?_ hI.iT ?_ ?_ ?_
 .intro b hb;rcases hb with hb|⟨i,hi,hb⟩
  .exact hI.nM b hb
  .obtain ⟨_,_,_,⟨o0,ho0⟩,_⟩:=hfr i hi;by_cases hoi:bF o0=true
   .exact (jl hI ho0 hoi hb).2.2
   .obtain ⟨_,h1⟩:=hI.fh i o0 ho0;rcases cu.1 hb with rfl|⟨sz,sl,k,h2,h3⟩
    .cases h1 with|ML hsz hl hS=>exact hI.nM _ hS|ji hb hS=>exact hI.nM _ hS|_=>simp[bF]at hoi
    .exact (hI.Ai h2 h3).2.2.1
 .intro b hb;rcases hb with hb|⟨i,hi,hb⟩
  .exact hI.sk b hb
  .obtain ⟨_,_,_,⟨o0,ho0⟩,_⟩:=hfr i hi;by_cases hoi:bF o0=true
   .exact (jl hI ho0 hoi hb).2.1
   .obtain ⟨_,h1⟩:=hI.fh i o0 ho0;rcases cu.1 hb with rfl|⟨sz,sl,k,h2,h3⟩
    .cases h1 with|ML hsz hl hS=>exact hI.sk _ hS|ji hb hS=>exact hI.sk _ hS|_=>simp[bF]at hoi
    .exact (hI.Ai h2 h3).2.1
 .intro id o ho;by_cases hm:id∈aj
  .obtain ⟨o',hfn,hno,⟨o0,ho0⟩,hro⟩:=hfr id hm;simp only[aU,hfn]at ho;obtain rfl:=aa ho;exact .inr ⟨(hI.fh id o0 ho0).1,hro⟩
  .have ho':ak H id=some o:=by simpa only[aU,(gO aj u h id).2 hm]using ho
   exact .inl ⟨ho',fun hown=>⟨rfl,hnb id o ho' hown hm _ (gE _)⟩⟩
 .intro i j a b ha hb hoa hob hne;exact hI.jq i j a b (hold i a ha hoa).2 (hold j b hb hob).2 hoa hob hne
 .intro id sz sl hi;obtain⟨h1,h2⟩:=hold id _ hi rfl;refine⟨h2,rfl,fun k x hp=>⟨rfl,hnb id _ h2 rfl h1 x (cu.2 (.inr ⟨sz,sl,k,h2,hp⟩)),fun j b hj hb=>?_⟩⟩;exact(hI.pw id sz sl k x h2 hp).1 j b (hold j b hj hb).2 hb
end
def uy(S:Nat->Prop)(w:World)(sz:Nat):Option (List (List D))->Value->List Nat->Prop
 |none,v,fp=>v=.slice none 0 0/\fp=[]
 |some rows,v,fp=>∃b,fp=[b]/\zP S w sz rows v b
inductive RT(S:Nat->Prop)(w:World):T->Value->List Nat->Prop
 |d {x:D} {v:Value} (h:RD S w x v):RT S w (.d x) v []
 |sl {sz:Nat} {rows:List (List D)} {b off len cap:Nat} {aB:Array Value} (hsz:0<sz) (ho:ju w b aB) (hlen:rows.length=len) (hcap:len<=cap)
   (hext:off+cap*sz<=aB.size) (hr:bG S w sz (fun i=>aB[i]?) off rows):RT S w (.sl sz rows) (.slice (some ⟨b,off,none⟩) len cap) [b]
 |pt {ts:List T} {b:Nat} {aB:Array Value} {fps:List (List Nat)} (ho:ju w b aB) (hlen:ts.length=aB.size) (hfl:fps.length=ts.length)
   (h:∀(i:Nat)(t:T)(fp:List Nat),ts[i]?=some t->fps[i]?=some fp->RT S w t (aB.getD i undef) fp):
   RT S w (.pt ts) (.pointer (some ⟨b,0,none⟩)) (b::fps.flatten)
 |rK {sz:Nat} {rows:List (Option (List (List D)))} {b off cap:Nat} {aB:Array Value} {fps:List (List Nat)} (hsz:0<sz) (ho:ju w b aB) (hcap:rows.length<=cap) (hext:off+cap<=aB.size) (hfl:fps.length=rows.length)
   (h:∀(i:Nat)(r:Option (List (List D)))(fp:List Nat),rows[i]?=some r->fps[i]?=some fp->∃v,aB[off+i]?=some v/\uy S w sz r v fp):
   RT S w (.rK sz rows) (.slice (some ⟨b,off,none⟩) rows.length cap) (b::fps.flatten)
theorem uy.mono{S S':Nat->Prop}{w w':World}(hs:WJ S w S' w'){sz:Nat}{r:Option (List (List D))}{v:Value}{fp:List Nat}(h:uy S w sz r v fp)(hb:∀b∈fp,w'.heap[b]?=w.heap[b]?):uy S' w' sz r v fp:=by cases r with|none=>exact h|some rows=>obtain⟨b,rfl,h⟩:=h;exact⟨b,rfl,h.mono hs (hb b (by simp))⟩
theorem uy.lt{S:Nat->Prop}{w:World}{sz:Nat}{r:Option (List (List D))}{v:Value}{fp:List Nat}(h:uy S w sz r v fp):∀b∈fp,b<w.heap.size:=by cases r with|none=>obtain⟨_,rfl⟩:=h;intro b hb;simp at hb|some rows=>obtain⟨b,rfl,h⟩:=h;intro b' hb;obtain rfl:=ao.1 hb;obtain⟨aB,h⟩:=h.aW;exact h.lt
theorem RT.mono{S S':Nat->Prop}{w w':World}(hs:WJ S w S' w'){t:T}{v:Value}{fp:List Nat}(h:RT S w t v fp)(hb:∀b∈fp,w'.heap[b]?=w.heap[b]?):RT S' w' t v fp:=by induction h with|d h=>exact .d (h.mono hs)|sl hsz ho hlen hcap hext hr=>exact .sl hsz (ho.iI (hb _ (by simp))) hlen hcap hext (hr.mono hs)|pt ho hlen hfl h ih=>refine .pt (ho.iI (hb _ (by simp))) hlen hfl fun i t fp hi hf=>ih i t fp hi hf fun b hbm=>hb b ?_;exact aq _ (ce.2 ⟨fp,aS hf,hbm⟩)|rK hsz ho hcap hext hfl h=>refine .rK hsz (ho.iI (hb _ (by simp))) hcap hext hfl fun i r fp hi hf=>?_;obtain⟨v,h1,h2⟩:=h i r fp hi hf;exact⟨v,h1,h2.mono hs fun b hbm=>hb b (aq _ (ce.2 ⟨fp,aS hf,hbm⟩))⟩
theorem RT.lt{S:Nat->Prop}{w:World}{t:T}{v:Value}{fp:List Nat}(h:RT S w t v fp):∀b∈fp,b<w.heap.size:=by
 induction h with
 |d h=>intro b hb;simp at hb
 |sl hsz ho=>intro b hb;obtain rfl:=ao.1 hb;exact ho.lt
 |pt ho hlen hfl h ih=>
  intro b hb;rcases aE.1 hb with rfl|hb
  .exact ho.lt
  .obtain ⟨fp,hfp,hbf⟩:=ce.1 hb;obtain⟨i,hi,rfl⟩:=eV hfp;exact ih i _ _ (ap (by omega:i<_)) (ap hi) b hbf
 |rK hsz ho hcap hext hfl h=>
  intro b hb;rcases aE.1 hb with rfl|hb
  .exact ho.lt
  .obtain ⟨fp,hfp,hbf⟩:=ce.1 hb;obtain⟨i,hi,rfl⟩:=eV hfp;obtain⟨v,_,h2⟩:=h i _ _ (ap (by omega:i<_)) (ap hi);exact h2.lt b hbf
section
variable{S K:Nat->Prop}{w0 w:World}{Kn:Nat->Prop}{φ:Nat->d_}{hf:Nat->Option Ob}
theorem j_{id:Nat}(h:∀sz sl,hf id≠some (.nst sz sl)):adh w φ hf id=[(φ id).bH]:=by
 unfold adh;split
 .rename_i sz sl e;exact absurd e (h sz sl)
 .rfl
theorem z5{l:d_}{sz:Nat}{get:Nat->Option Value}(hget:∀i,w.cell? ⟨l.bH,i,none⟩=get i):∀(slots:List gH)(k0:Nat)(rows:List (Option (List (List D)))),(∀(i:Nat)(s:gH),slots[i]?=some s->∃v,get (l.aF+(k0+i))=some v/\rH S K w Kn φ sz s v)->nq slots=some rows->
  rows.length=slots.length/\∃fps:List (List Nat),fps.length=rows.length/\fps.flatten=lC w l slots k0/\∀(i:Nat)(r:Option (List (List D)))(fp:List Nat),rows[i]?=some r->fps[i]?=some fp->∃v,get (l.aF+(k0+i))=some v/\uy S w sz r v fp:=by
 intro slots;induction slots with
 |nil=>intro k0 rows _ h;obtain rfl:=aa h;exact⟨rfl,[],rfl,rfl,fun i r fp hi=>by simp at hi⟩
 |cons s slots ih=>
  intro k0 rows hr h;simp only[nq]at h;split at h
  .rename_i x rs hx hrs;obtain rfl:=aa h;obtain⟨h1,fps,h2,h3,h4⟩:=ih (k0+1) rs (fun i s hi=>by obtain⟨v,e1,e2⟩:=hr (i+1) s (by simpa using hi);exact⟨v,by rw[<-e1,show k0+(i+1)=k0+1+i by omega],e2⟩) hrs;obtain⟨v,e1,e2⟩:=hr 0 s rfl
   have fin:∀fp0,uy S w sz x v fp0->fp0++lC w l slots (k0+1)=lC w l (s::slots) k0->(x::rs).length=(s::slots).length/\∃fps:List (List Nat),fps.length=(x::rs).length/\fps.flatten=lC w l (s::slots) k0/\∀(i:Nat)(r:Option (List (List D)))(fp:List Nat),(x::rs)[i]?=some r->fps[i]?=some fp->∃v,get (l.aF+(k0+i))=some v/\uy S w sz r v fp:=by
    intro fp0 h5 h6;refine⟨by simp[h1],fp0::fps,by simp[h2],by rw[cE,h3,h6],fun i r fp hi hf=>?_⟩;cases i with
    |zero=>
     obtain rfl:x=r:=by simpa using hi
     obtain rfl:fp0=fp:=by simpa using hf
     exact⟨v,e1,h5⟩
    |succ i=>obtain⟨v',q1,q2⟩:=h4 i r fp (by simpa using hi) (by simpa using hf);exact⟨v',by rw[<-q1,show k0+(i+1)=k0+1+i by omega],q2⟩
   cases e2 with|nil=>obtain rfl:=aa hx;exact fin [] ⟨rfl,rfl⟩ rfl|@aW rows0 _ b q1 _ _=>obtain rfl:=aa hx;refine fin [b] ⟨b,rfl,q1⟩ ?_;simp only[lC];rw[show l.aF+k0=l.aF+(k0+0)from rfl,hget,e1];simp only[Option.bind_some,q1.bH,List.singleton_append]|ku _=>simp[FJ]at hx
  .simp at h
theorem vg{H:aY}{sz id off len:Nat}{t:T}{aW rd:List Nat}{v:Value}(hI:Inv S K w0 Kn φ (ak H) w)(hc:RC S w Kn φ (.da sz id off len) v)
  (h:(match ak H id with
  |some (.aB _ rows)=>if off+len<=rows.length then some (T.sl sz ((rows.drop off).take len),[id],[id])else none
  |some (.ML _ rows)=>if off+len<=rows.length then some (.d (.sl sz ((rows.drop off).take len)),[],[id])else none
  |some (.nst szi slots)=>if off=0/\len=slots.length then(match nq slots with|some rows=>some (.rK szi rows,[id],[id])|none=>none)else none
  |_=>none)=some (t,aW,rd)):
  RT S w t v (aW.flatMap (adh w φ (ak H)))/\∀i∈aW,∃o,ak H i=some o/\bF o=true:=by
 split at h
 .rename_i szo rows ho;split at h
  .rename_i hle;obtain⟨rfl,rfl,rfl⟩:T.sl sz ((rows.drop off).take len)=t/\[id]=aW/\[id]=rd:=by simpa using h
   obtain⟨hk,h0⟩:=hI.fh _ _ ho;cases h0 with
   |aB hsz hl hS hK hown hext hfit hr=>
    subst hl;cases hc with
    |da hk hcap haddr hx=>
     rw[aZ,List.flatMap_nil,eI,j_ fun _ _ e=>by rw[ho]at e;cases e];refine⟨.sl hsz hown (by simp;omega) hcap (by omega) (hr.pH off len fun h=>haddr (by omega)),fun i hi=>?_⟩
     .obtain rfl:=ao.1 hi;exact⟨_,ho,rfl⟩
  .simp at h
 .rename_i szo rows ho;split at h
  .rename_i hle;obtain⟨rfl,rfl,rfl⟩:T.d (.sl sz ((rows.drop off).take len))=t/\[]=aW/\[id]=rd:=by simpa using h
   obtain⟨hk,h0⟩:=hI.fh _ _ ho;have hS:S (φ id).bH:=by cases h0 with|ML hsz hl hS _=>exact hS
   exact⟨.d (uH hI hc (.inr ho) hle (WJ.refl _ _) hS),fun i hi=>by simp at hi⟩
  .simp at h
 .rename_i szi slots ho;split at h
  .rename_i he;obtain⟨rfl,rfl⟩:=he;split at h
   .rename_i rows hrows;obtain⟨rfl,rfl,rfl⟩:T.rK szi rows=t/\[id]=aW/\[id]=rd:=by simpa using h
    obtain⟨hk,h0⟩:=hI.fh _ _ ho;cases h0 with
    |@nst _ _ aB hsz hl hS hK hown hext hfit hr hv=>
     obtain⟨h1,fps,h2,h3,h4⟩:=z5 (get:=fun i=>aB[i]?) hown.cell slots 0 rows (fun i s hi=>by rw[bl];exact hr i s hi) hrows;cases hc with
     |@da _ _ _ cap addr hk hcap haddr hx hcc=>
      rw[aZ,List.flatMap_nil,eI];have e:adh w φ (ak H) id=(φ id).bH::fps.flatten:=by unfold adh;rw[ho,h3]
      rw[e,<-h1];refine⟨.rK (sz:=szi) (rows:=rows) hsz hown (by omega) (by rw[hl,gQ]at hx;omega) h2 fun i r fp hi hf=>?_,fun i hi=>?_⟩
      .obtain ⟨v,q1,q2⟩:=h4 i r fp hi hf;have hlt:=(af.1 hi).1;rw[bl]at q1;exact⟨v,by rw[haddr (by omega),eC,ci];exact q1,q2⟩
      .obtain rfl:=ao.1 hi;exact⟨_,ho,rfl⟩
   .simp at h
  .simp at h
 .simp at h
theorem MU{H:aY}(hI:Inv S K w0 Kn φ (ak H) w):∀n,
  (∀c t aW rd v,cG H n c=some (t,aW,rd)->RC S w Kn φ c v->RT S w t v (aW.flatMap (adh w φ (ak H)))/\∀i∈aW,∃o,ak H i=some o/\bF o=true)/\
  (∀cs ts aW rd,eY H n cs=some (ts,aW,rd)->∀(get:Nat->Value),(∀(i:Nat)(c:C),cs[i]?=some c->RC S w Kn φ c (get i))->
   ts.length=cs.length/\(∃fps:List (List Nat),fps.length=ts.length/\fps.flatten=aW.flatMap (adh w φ (ak H))/\
    ∀(i:Nat)(t:T)(fp:List Nat),ts[i]?=some t->fps[i]?=some fp->RT S w t (get i) fp)/\∀i∈aW,∃o,ak H i=some o/\bF o=true):=by
 intro n;induction n with
 |zero=>
  refine⟨fun c t aW rd v h hc=>?_,fun cs ts aW rd h get hg=>?_⟩
  .cases c with
   |d x=>
    obtain⟨rfl,rfl,rfl⟩:T.d x=t/\[]=aW/\[]=rd:=by simpa[cG]using h
    cases hc with|d hd=>exact⟨.d hd,fun i hi=>by simp at hi⟩
   |da sz id off len=>simp only[cG]at h;exact vg hI hc h
   |_=>simp[cG]at h
  .cases cs with
   |nil=>
    obtain⟨rfl,rfl,rfl⟩:[]=ts/\[]=aW/\[]=rd:=by simpa[eY]using h
    exact⟨rfl,⟨[],rfl,rfl,fun i t fp hi=>by simp at hi⟩,fun i hi=>by simp at hi⟩
   |cons c cs=>simp[eY]at h
 |succ n ih=>
  obtain⟨ihc,ihl⟩:=ih;refine⟨fun c t aW rd v h hc=>?_,fun cs ts aW rd h get hg=>?_⟩
  .cases c with
   |d x=>
    obtain⟨rfl,rfl,rfl⟩:T.d x=t/\[]=aW/\[]=rd:=by simpa[cG]using h
    cases hc with|d hd=>exact⟨.d hd,fun i hi=>by simp at hi⟩
   |da sz id off len=>simp only[cG]at h;exact vg hI hc h
   |op id off=>
    cases off with
    |succ off=>simp[cG]at h
    |zero=>
     simp only[cG]at h;split at h
     .rename_i cells ho;split at h
      .rename_i ts own' rd' hp;obtain⟨rfl,rfl,rfl⟩:T.pt ts=t/\id::own'=aW/\id::rd'=rd:=by simpa using h
       obtain⟨hk,h0⟩:=hI.fh _ _ ho;cases h0 with
       |@box _ aB hb hS hK hown hlen hr=>
        obtain⟨h1,⟨fps,h2,h3,h4⟩,h5⟩:=ihl cells ts own' rd' hp (fun i=>aB.getD i undef) hr;cases hc with
        |op hk=>
         rw[hb];refine⟨?_,fun i hi=>?_⟩
         .rw [aZ,<-h3,j_ fun _ _ e=>by rw[ho]at e;cases e];exact .pt hown (h1.trans hlen) h2 h4
         .rcases aE.1 hi with rfl|hi
          .exact ⟨_,ho,rfl⟩
          .exact h5 i hi
      .simp at h
     .rename_i cells ho;obtain⟨rfl,rfl,rfl⟩:T.d (.pt cells)=t/\[]=aW/\[id]=rd:=by simpa using h
      obtain⟨hk,h0⟩:=hI.fh _ _ ho;cases h0 with
      |ji hb hS hr=>cases hc with|op hk=>exact⟨.d (.qA hS fun j x hj=>by obtain⟨u,hu,hd⟩:=hr j x hj;exact⟨u,by rw[<-hu,hb];simp,hd⟩),fun i hi=>by simp at hi⟩
     .simp at h
   |ep id cU off=>simp[cG]at h
   |jy f caps=>simp[cG]at h
   |om id=>simp[cG]at h
  .cases cs with
   |nil=>
    obtain⟨rfl,rfl,rfl⟩:[]=ts/\[]=aW/\[]=rd:=by simpa[eY]using h
    exact⟨rfl,⟨[],rfl,rfl,fun i t fp hi=>by simp at hi⟩,fun i hi=>by simp at hi⟩
   |cons c cs=>
    simp only[eY]at h;split at h
    .rename_i t0 a i0 ts0 b j0 hx hxs;obtain⟨rfl,rfl,rfl⟩:t0::ts0=ts/\a++b=aW/\i0++j0=rd:=by simpa using h
     obtain⟨p1,p2⟩:=ihc c t0 a i0 (get 0) hx (hg 0 c rfl);obtain⟨h1,⟨fps,h2,h3,h4⟩,h5⟩:=ihl cs ts0 b j0 hxs (fun i=>get (i+1)) (fun i c hi=>hg (i+1) c (by simpa using hi));refine⟨by simp[h1],⟨(a.flatMap (adh w φ (ak H)))::fps,by simp[h2],by simp[h3],fun i t fp hi hfp=>?_⟩,fun i hi=>?_⟩
     .cases i with
      |zero=>
       obtain rfl:t0=t:=by simpa using hi
       obtain rfl:(a.flatMap (adh w φ (ak H)))=fp:=by simpa using hfp
       exact p1
      |succ i=>exact h4 i t fp (by simpa using hi) (by simpa using hfp)
     .rcases ah.1 hi with hi|hi
      .exact p2 i hi
      .exact h5 i hi
    .simp at h
theorem te{aW:List Nat}(hI:Inv S K w0 Kn φ hf w)(hn:aW.Nodup)(ho:∀i∈aW,∃o,hf i=some o/\bF o=true):(aW.flatMap (adh w φ hf)).Nodup:=by induction aW with|nil=>exact gR|cons a l ih=>rw[eQ]at hn;obtain⟨o1,h1,h2⟩:=ho a (by simp);rw[aZ,bR];refine⟨yG hI h1 h2,ih hn.2 fun i hi=>ho i (aq _ hi),fun x hx y hy e=>?_⟩;subst e;obtain⟨i,hi,hy⟩:=List.mem_flatMap.1 hy;obtain⟨o2,h3,h4⟩:=ho i (aq _ hi);exact MA hI h1 h3 h2 h4 (fun e'=>hn.1 (e'▸hi)) hx hy
def jI(Kn:Nat->Prop)(a b:Nat)(j:Nat):Prop:=Kn j\/(a<=j/\j<b)
theorem Inv.name(h:Inv S K w0 Kn φ hf w){i:Nat}(hi:¬Kn i)(l:d_)(o:Ob)(hfree:bF o=true->∀j b,hf j=some b->bF b=true->l.bH∉adh w φ hf j)
  (hro:RO S K w (fun j=>Kn j\/j=i) (ext φ i l) l o)
  (hp:∀sz sl k x,o=.nst sz sl->lR w l sl k x->x≠l.bH/\(∀j b,hf j=some b->bF b=true->x∉adh w φ hf j)/\∀k',lR w l sl k' x->k'=k:=by intro _ _ _ _ e;cases e):
  Inv S K w0 (fun j=>Kn j\/j=i) (ext φ i l) (aU [(i,some o)] hf) w:=by
 have hold:∀j b,aU [(i,some o)] hf j=some b->(j=i/\b=o/\ext φ i l j=l)\/(j≠i/\hf j=some b/\ext φ i l j=φ j):=by
  intro j b hj;rw[bk]at hj;by_cases e:i=j
  .rw [if_pos e]at hj;exact .inl ⟨e.symm,(aa hj).symm,by simp[ext,e]⟩
  .rw [if_neg e,dl]at hj;have e1:¬j=i:=fun q=>e q.symm;exact .inr ⟨e1,hj,by simp[ext,e1]⟩
 refine h.nL (WJ.refl _ _) (fP _ hi) h.nM h.sk h.iT ?_ ?_ ?_
 .intro id o' ho;rcases hold id o' ho with⟨rfl,rfl,e⟩|⟨_,ho,_⟩
  .exact .inr ⟨.inr rfl,by rw[e];exact hro⟩
  .exact .inl ⟨ho,fun hown=>⟨rfl,((h.fh id o' ho).2.aW hown).1⟩,h.vT ho fun _ _=>rfl⟩
 .intro a b oa ob ha hb hoa hob hne;rcases hold a oa ha with⟨h1,h2,e1⟩|⟨_,ha',e1⟩<;>rcases hold b ob hb with⟨h3,h4,e2⟩|⟨_,hb',e2⟩
  .exact absurd (h1.trans h3.symm) hne
  .rw [e1,e2];exact fun e=>hfree (h2▸hoa) b ob hb' hob (cu.2 (.inl e))
  .rw [e1,e2];exact fun e=>hfree (h4▸hob) a oa ha' hoa (cu.2 (.inl e.symm))
  .rw [e1,e2];exact h.jq a b oa ob ha' hb' hoa hob hne
 .intro a sz sl k x ha hpa;rcases hold a _ ha with⟨ea,eo,e1⟩|⟨hne,ha',e1⟩<;>rw[e1]at hpa
  .obtain ⟨p1,p2,p3⟩:=hp sz sl k x eo.symm hpa;refine⟨fun j b hj hown=>?_,fun j sz' sl' k' hj hpj=>?_⟩
   .rcases hold j b hj with⟨_,_,e2⟩|⟨_,hj',e2⟩<;>rw[e2]
    .exact fun e=>p1 e.symm
    .exact fun e=>p2 j b hj' hown (cu.2 (.inl e.symm))
   .rcases hold j _ hj with⟨ej,eo2,e2⟩|⟨_,hj',e2⟩<;>rw[e2]at hpj
    .rw [<-eo]at eo2;cases eo2;exact⟨ej.trans ea.symm,p3 k' hpj⟩
    .exact absurd (cu.2 (.inr ⟨sz',sl',k',hj',hpj⟩)) (p2 j _ hj' rfl)
  .obtain ⟨p1,p2⟩:=h.pw a sz sl k x ha' hpa;refine⟨fun j b hj hown=>?_,fun j sz' sl' k' hj hpj=>?_⟩
   .rcases hold j b hj with⟨_,eo,e2⟩|⟨_,hj',e2⟩<;>rw[e2]
    .exact fun e=>hfree (eo▸hown) a _ ha' rfl (cu.2 (.inr ⟨sz,sl,k,ha',e▸hpa⟩))
    .exact p1 j b hj' hown
   .rcases hold j _ hj with⟨_,eo,e2⟩|⟨_,hj',e2⟩<;>rw[e2]at hpj
    .exact absurd (cu.2 (.inr ⟨sz,sl,k,ha',hpa⟩)) ((hp sz' sl' k' x eo.symm hpj).2.1 a _ ha' rfl)
    .exact p2 j sz' sl' k' hj' hpj
theorem Inv.kn{Kn':Nat->Prop}(h:Inv S K w0 Kn φ hf w)(hs:∀i,Kn i->Kn' i):Inv S K w0 Kn' φ hf w:=h.jQ (WJ.refl _ _) ⟨hs,fun _ _=>rfl⟩ h.nM h.sk h.iT (fun id o ho=>.inl ⟨ho,fun hown=>⟨rfl,((h.fh id o ho).2.aW hown).1⟩⟩) h.jq (h.NS fun _ _=>rfl)
structure lM(S K:Nat->Prop)(w0 w:World)(Kn:Nat->Prop)(φ:Nat->d_)(hf:Nat->Option Ob)(fp:List Nat)(nxt m:Nat)(u:de)(φ':Nat->d_):Prop where
 le:nxt<=m
 MW:mS Kn φ (jI Kn nxt m) φ'
 inv:Inv S K w0 (jI Kn nxt m) φ' (aU u hf) w
 dP:∀p∈u,nxt<=p.1/\p.1<m
 bH:∀p∈u,∀x∈adh w φ' (aU u hf) p.1,x∈fp
theorem kq(a b:Nat):mS Kn φ (jI Kn a b) φ:=⟨fun _ h=>.inl h,fun _ _=>rfl⟩
theorem lM.nil(h:Inv S K w0 Kn φ hf w)(fp:List Nat)(n:Nat):lM S K w0 w Kn φ hf fp n n [] φ:=⟨ai _,kq _ _,h.kn fun _ hi=>.inl hi,fun p hp=>by simp at hp,fun p hp=>by simp at hp⟩
theorem lM.skip(h:Inv S K w0 Kn φ hf w)(fp:List Nat)(n:Nat):lM S K w0 w Kn φ hf fp n (n+1) [] φ:=⟨a_ _,kq _ _,h.kn fun _ hi=>.inl hi,fun p hp=>by simp at hp,fun p hp=>by simp at hp⟩
theorem gN{α:Type}{u:List (Nat×α)}{id:Nat}(h:∀p∈u,p.1≠id):bv u id=none:=by
 induction u with
 |nil=>rfl
 |cons p r ih=>
  obtain⟨i,x⟩:=p;have e:(i==id)=false:=by simpa using h (i,x) (by simp)
  simp only[bv,e,cond_false];exact ih fun q hq=>h q (by simp[hq])
def m6(w:World)(φ:Nat->d_)(hf:Nat->Option Ob)(fp:List Nat):Prop:=∀j b,hf j=some b->bF b=true->∀x∈adh w φ hf j,x∉fp
theorem lG{a b c:Nat}(h1:a<=b)(h2:b<=c)(j:Nat):jI (jI Kn a b) b c j<->jI Kn a c j:=by
 unfold jI;constructor
 .rintro ((h|h)|h)
  .exact .inl h
  .exact .inr (by omega)
  .exact .inr (by omega)
 .rintro (h|h)
  .exact .inl (.inl h)
  .by_cases e:j<b
   .exact .inl (.inr (by omega))
   .exact .inr (by omega)
theorem Inv.pJ{Kn':Nat->Prop}(h:Inv S K w0 Kn φ hf w)(hs:∀i,Kn i<->Kn' i):Inv S K w0 Kn' φ hf w:=h.kn fun i hi=>(hs i).1 hi
theorem RC.kn{Kn':Nat->Prop}{c:C}{v:Value}(h:RC S w Kn φ c v)(hs:∀i,Kn i->Kn' i):RC S w Kn' φ c v:=h.mono (WJ.refl _ _) ⟨hs,fun _ _=>rfl⟩
theorem dU{φ':Nat->d_}{hf':Nat->Option Ob}{i:Nat}(h1:φ i=φ' i)(h2:hf i=hf' i):adh w φ hf i=adh w φ' hf' i:=by unfold adh;rw[h1,h2]
theorem lM.kf{fa fb:List Nat}{n m k:Nat}{u v:de}{φ1 φ2:Nat->d_}(a:lM S K w0 w Kn φ hf fa n m u φ1)(b:lM S K w0 w (jI Kn n m) φ1 (aU u hf) fb m k v φ2):
  lM S K w0 w Kn φ hf (fa++fb) n k (v++u) φ2 where
 le:=cZ a.le b.le
 MW:=⟨fun i h=>.inl h,fun i h=>(b.MW.cK i (.inl h)).trans (a.MW.cK i h)⟩
 inv:=by rw[cF];exact b.inv.pJ fun i=>lG a.le b.le i
 dP p hp:=by
  have:=a.le;have:=b.le;rcases ah.1 hp with h|h
  .have:=b.dP p h;omega
  .have:=a.dP p h;omega
 bH p hp:=by
  intro x hx;rcases ah.1 hp with h|h
  .rw [cF]at hx;exact List.mem_append_right _ (b.bH p h x hx)
  .have hn:bv v p.1=none:=gN fun q hq e=>by have:=a.dP p h;have:=b.dP q hq;omega
   have e:aU (v++u) hf p.1=aU u hf p.1:=by simp only[aU,eh,hn]
   have e2:=dU (w:=w) (b.MW.cK p.1 (.inr (a.dP p h))) e;rw[e2]at hx;exact List.mem_append_left _ (a.bH p h x hx)
theorem iu{u v:de}(h:∀p∈u,∀q∈v,p.1≠q.1):aU (u++v) hf=aU (v++u) hf:=by
 funext id;simp only[aU,eh];cases hu:bv u id with
 |none=>cases bv v id<;>simp
 |some x=>
  have:bv v id=none:=by
   refine gN fun q hq e=>?_
   have hm:∃p∈u,p.1=id:=by
    clear h;induction u with
    |nil=>simp[bv]at hu
    |cons p r ih=>
     obtain⟨i,y⟩:=p;by_cases e':i=id
     .exact ⟨(i,y),by simp,e'⟩
     .have e2:(i==id)=false:=by simpa using e'
      simp only[bv,e2,cond_false]at hu;obtain⟨p,hp,hpe⟩:=ih hu;exact⟨p,by simp[hp],hpe⟩
   obtain⟨p,hp,hpe⟩:=hm;exact h p hp q hq (hpe.trans e.symm)
  simp[this]
theorem kE(nxt:Nat)(ts:List T):gJ nxt (.pt ts)=(.op nxt 0,(nxt,some (.box (eW (nxt+1) ts).1))::(eW (nxt+1) ts).2.1,(eW (nxt+1) ts).2.2):=rfl
theorem kR(nxt:Nat)(t:T)(ts:List T):eW nxt (t::ts)=((gJ nxt t).1::(eW (gJ nxt t).2.2 ts).1,(gJ nxt t).2.1++(eW (gJ nxt t).2.2 ts).2.1,(eW (gJ nxt t).2.2 ts).2.2):=rfl
theorem v9{x:Nat}:∀{fps:List (List Nat)}{k k':Nat},fps.flatten.Nodup->fps[k]?=some [x]->fps[k']?=some [x]->k=k':=by
 intro fps;induction fps with
 |nil=>intro k k' _ h;simp at h
 |cons fp fps ih=>
  intro k k' hn h1 h2;rw[cE,bR]at hn;have hm:∀k,fps[k]?=some [x]->x∈fps.flatten:=fun k h=>ce.2 ⟨[x],aS h,by simp⟩;cases k with
  |zero=>
   obtain rfl:fp=[x]:=by simpa using h1
   cases k' with|zero=>rfl|succ k'=>exact absurd rfl (hn.2.2 x (by simp) x (hm k' (by simpa using h2)))
  |succ k=>
   cases k' with
   |zero=>
    obtain rfl:fp=[x]:=by simpa using h2
    exact absurd rfl (hn.2.2 x (by simp) x (hm k (by simpa using h1)))
   |succ k'=>exact congrArg Nat.succ (ih hn.2.1 (by simpa using h1) (by simpa using h2))
mutual
theorem BB(t:T):∀nxt,nxt<=(gJ nxt t).2.2:=by intro nxt;cases t with|d x=>exact a_ _|Nl=>exact a_ _|sl sz rows=>exact a_ _|rK sz rows=>exact a_ _|pt ts=>rw[kE];exact Nat.le_of_succ_le (oC ts (nxt+1))
theorem oC(ts:List T):∀nxt,nxt<=(eW nxt ts).2.2:=by intro nxt;cases ts with|nil=>exact ai _|cons t ts=>rw[kR];exact cZ (BB t nxt) (oC ts _)
end
mutual
theorem oD(t:T):∀{Kn:Nat->Prop}{φ:Nat->d_}{hf:Nat->Option Ob}(nxt:Nat)(v:Value)(fp:List Nat),Inv S K w0 Kn φ hf w->(∀j,nxt<=j->j<(gJ nxt t).2.2->¬Kn j)->
  RT S w t v fp->fp.Nodup->(∀b∈fp,¬S b/\¬K b)->m6 w φ hf fp->
  ∃φ',lM S K w0 w Kn φ hf fp nxt (gJ nxt t).2.2 (gJ nxt t).2.1 φ'/\RC S w (jI Kn nxt (gJ nxt t).2.2) φ' (gJ nxt t).1 v:=by
 intro Kn φ hf nxt v fp hI hfr hr hnd hSK haw;cases t with
 |Nl=>cases hr
 |d x=>cases hr with|d hd=>exact⟨φ,lM.skip hI _ _,.d hd⟩
 |sl sz rows=>
  cases hr with
  |@sl _ _ b off len cap aB hsz ho hlen hcap hext hrr=>
   have hnx:¬Kn nxt:=hfr nxt (ai _) (aN _);refine⟨ext φ nxt ⟨b,off,sz,aB.size,cap⟩,?_,?_⟩
   .have hin:=hI.name (hnx) ⟨b,off,sz,aB.size,cap⟩ (.aB sz rows) (fun _ j o hj hown hm=>haw j o hj hown _ hm (by simp))
     (.aB hsz rfl (hSK b (by simp)).1 (hSK b (by simp)).2 ho rfl (by have:rows.length*sz<=cap*sz:=aw _ (by omega);simp only;omega) hrr (by simp only;omega))
    refine⟨a_ _,⟨fun i h=>.inl h,(fP _ (hnx)).cK⟩,hin.pJ fun i=>?_,fun p hp=>?_,fun p hp=>?_⟩
    .simp only[jI,gJ];constructor
     .rintro (h|rfl)
      .exact .inl h
      .exact .inr (by omega)
     .rintro (h|h)
      .exact .inl h
      .exact .inr (by omega)
    .obtain rfl:p=_:=by simpa[gJ]using hp
     simp[gJ]
    .obtain rfl:p=_:=by simpa[gJ]using hp
     rw[j_ fun _ _ e=>by simp[gJ,aU,bv]at e];simp[ext]
   .have e:(ext φ nxt ⟨b,off,sz,aB.size,cap⟩) nxt=⟨b,off,sz,aB.size,cap⟩:=by simp[ext]
    have:=RC.da (S:=S) (w:=w) (Kn:=jI Kn nxt (nxt+1)) (φ:=ext φ nxt ⟨b,off,sz,aB.size,cap⟩) (id:=nxt) (off:=0) (len:=rows.length) (cap:=cap) (addr:=off) (.inr (by omega)) (by omega) (by rw[e];simp) (by rw[e];simpa using hext) (by rw[e];simp);rw[e]at this;simpa[gJ,hlen]using this
 |rK sz rows=>
  cases hr with
  |@rK _ _ b off cap aB fps hsz ho hcap hext hfl hrr=>
   have hnx:¬Kn nxt:=hfr nxt (ai _) (aN _);rw[eQ]at hnd;have hget:∀i,w.cell? ⟨b,i,none⟩=aB[i]?:=ho.cell;have hpat:∀k x,lR w ⟨b,off,1,aB.size,cap⟩ (rows.map iG) k x->∃fp,fps[k]?=some fp/\fp=[x]:=by rintro k x ⟨rs,v,h1,h2,h3⟩;rw[aC]at h1;obtain⟨r,hr1,hr2⟩:=aA.1 h1;have hlt:=(af.1 hr1).1;have hf:fps[k]?=some fps[k]:=ap (by omega);obtain⟨v',q1,q2⟩:=hrr k r fps[k] hr1 hf;simp only[hget,q1,bp]at h2;subst h2;cases r with|none=>cases hr2|some rows'=>obtain⟨b',q3,q4⟩:=q2;rw[q4.bH]at h3;obtain rfl:=aa h3;exact⟨_,hf,q3⟩
   have hmem:∀k x,lR w ⟨b,off,1,aB.size,cap⟩ (rows.map iG) k x->x∈fps.flatten:=fun k x hp=>by obtain⟨fp,h1,rfl⟩:=hpat k x hp;exact ce.2 ⟨[x],aS h1,by simp⟩
   have hin:=hI.name (hnx) ⟨b,off,1,aB.size,cap⟩ (.nst sz (rows.map iG)) (fun _ j o hj hown hm=>haw j o hj hown _ hm (by simp))
    (.nst hsz rfl (hSK b (by simp)).1 (hSK b (by simp)).2 ho rfl (by simp only[aH];omega) (fun i s hi=>by
     rw[aC]at hi;obtain⟨r,hr1,rfl⟩:=aA.1 hi;have hlt:=(af.1 hr1).1;have hf:fps[i]?=some fps[i]:=ap (by omega);obtain⟨v,q1,q2⟩:=hrr i r fps[i] hr1 hf;refine⟨v,q1,?_⟩;cases r with
     |none=>obtain⟨rfl,_⟩:=q2;exact .nil
     |some rows'=>obtain⟨b',q3,q4⟩:=q2;have hm:b'∈fps.flatten:=ce.2 ⟨fps[i],List.getElem_mem _,by rw[q3];simp⟩;exact .aW q4 (hSK b' (aq _ hm)).1 (hSK b' (aq _ hm)).2) (by simp only[aH];omega))
    (fun sz' sl' k x eo hp=>by cases eo;have hm:=hmem k x hp;refine⟨fun e=>hnd.1 (by have e:x=b:=e;rw[<-e];exact hm),fun j b' hj hown hx=>haw j b' hj hown x hx (aq _ hm),fun k' hp'=>?_⟩;obtain⟨fp,h1,rfl⟩:=hpat k x hp;obtain⟨fp',h2,rfl⟩:=hpat k' x hp';exact v9 hnd.2 h2 h1)
   refine⟨ext φ nxt ⟨b,off,1,aB.size,cap⟩,?_,?_⟩
   .refine ⟨a_ _,⟨fun i h=>.inl h,(fP _ (hnx)).cK⟩,hin.pJ fun i=>?_,fun p hp=>?_,fun p hp x hx=>?_⟩
    .simp only[jI,gJ];constructor
     .rintro (h|rfl)
      .exact .inl h
      .exact .inr (by omega)
     .rintro (h|h)
      .exact .inl h
      .exact .inr (by omega)
    .obtain rfl:p=_:=by simpa[gJ]using hp
     simp[gJ]
    .obtain rfl:p=_:=by simpa[gJ]using hp
     have e:aU (gJ nxt (T.rK sz rows)).2.1 hf nxt=some (.nst sz (rows.map iG)):=by simp[gJ,aU,bv]
     rcases cu.1 hx with rfl|⟨sz',sl',k,h1,h2⟩
     .simp [ext]
     .rw [e]at h1;cases h1;simp only[ext,if_true]at h2;exact aq _ (hmem k x h2)
   .have e:(ext φ nxt ⟨b,off,1,aB.size,cap⟩) nxt=⟨b,off,1,aB.size,cap⟩:=by simp[ext]
    have:=RC.da (S:=S) (w:=w) (Kn:=jI Kn nxt (nxt+1)) (φ:=ext φ nxt ⟨b,off,1,aB.size,cap⟩) (id:=nxt) (off:=0) (len:=rows.length) (cap:=cap) (addr:=off) (.inr (by omega)) (by omega) (by rw[e];simp) (by rw[e];simpa using hext) (by rw[e];simp);rw[e]at this;simpa[gJ]using this
 |pt ts=>
  cases hr with
  |@pt _ b aB fps ho hlen hfl h=>
   rw[eQ]at hnd;have hnx:¬Kn nxt:=hfr nxt (ai _) (by rw[kE];exact oC ts (nxt+1))
   obtain⟨φ1,hL,hrc⟩:=mz ts (Kn:=Kn) (φ:=φ) (hf:=hf) (nxt+1) (fun i=>aB.getD i undef) fps hI (fun j hj hj2=>hfr j (by omega) (by rw[kE];exact hj2)) hfl h hnd.2
    (fun b' hb'=>hSK b' (by simp[hb'])) (fun j o hj hown x hx hm=>haw j o hj hown x hx (aq _ hm))
   have hm:=hL.le
   have hnk:¬jI Kn (nxt+1) (eW (nxt+1) ts).2.2 nxt:=by
    rintro(h|h)
    .exact hnx h
    .omega
   refine⟨ext φ1 nxt ⟨b,0,1,aB.size,0⟩,?_,?_⟩
   .have hin:=hL.inv.name hnk ⟨b,0,1,aB.size,0⟩ (.box (eW (nxt+1) ts).1) (fun _ j o hj hown hm=>by
      by_cases hu:∃p∈(eW (nxt+1) ts).2.1,p.1=j
      .obtain ⟨p,hp,rfl⟩:=hu;exact hnd.1 (hL.bH p hp _ hm)
      .have hfn:bv (eW (nxt+1) ts).2.1 j=none:=gN fun p hp e=>hu ⟨p,hp,e⟩;have hj':=hj;simp only[aU,hfn]at hj';have hk:=(hI.fh j o hj').1;rw[dU (hL.MW.cK j hk) (hj.trans hj'.symm)]at hm;exact haw j o hj' hown _ hm (by simp))
     (.box rfl (hSK b (by simp)).1 (hSK b (by simp)).2 ho (hrc.1.trans hlen) fun i c hi=>(hrc.2 i c hi).mono (WJ.refl _ _) (fP _ hnk))
    refine⟨?_,⟨fun i h=>.inl h,fun i hi=>?_⟩,?_,fun p hp=>?_,fun p hp=>?_⟩
    .simp only[kE];exact Nat.le_of_succ_le hm
    .have:i≠nxt:=fun e=>hnx (e▸hi);simp only[ext,this,if_false];exact hL.MW.cK i hi
    .have e:aU (gJ nxt (.pt ts)).2.1 hf=aU [(nxt,some (.box (eW (nxt+1) ts).1))] (aU (eW (nxt+1) ts).2.1 hf):=by rw[<-cF];rfl
     rw[e];refine hin.pJ fun i=>?_;simp only[jI,kE];constructor
     .rintro ((h|h)|rfl)
      .exact .inl h
      .exact .inr (by omega)
      .exact .inr (by omega)
     .rintro (h|h)
      .exact .inl (.inl h)
      .by_cases e:i=nxt
       .exact .inr e
       .exact .inl (.inr (by omega))
    .simp only[kE]at hp|-;rcases aE.1 hp with rfl|hp
     .simp only;omega
     .have:=hL.dP p hp;omega
    .simp only[kE]at hp;rcases aE.1 hp with rfl|hp
     .rw [j_ fun _ _ e=>by simp[kE,aU,bv]at e];simp[ext]
     .have hne:¬p.1=nxt:=by have:=hL.dP p hp;omega
      have hne':(nxt==p.1)=false:=by simpa using fun e=>hne e.symm
      intro x hx;rw[dU (φ':=φ1) (hf':=aU (eW (nxt+1) ts).2.1 hf) (by simp only[ext,hne,if_false]) (by simp only[kE,aU,bv,hne',cond_false])]at hx;exact aq _ (hL.bH p hp x hx)
   .have:=RC.op (S:=S) (w:=w) (Kn:=jI Kn nxt (eW (nxt+1) ts).2.2) (φ:=ext φ1 nxt ⟨b,0,1,aB.size,0⟩) (id:=nxt) (off:=0) (.inr (by omega));simpa[kE,ext]using this
theorem mz(ts:List T):∀{Kn:Nat->Prop}{φ:Nat->d_}{hf:Nat->Option Ob}(nxt:Nat)(get:Nat->Value)(fps:List (List Nat)),Inv S K w0 Kn φ hf w->(∀j,nxt<=j->j<(eW nxt ts).2.2->¬Kn j)->
  fps.length=ts.length->(∀(i:Nat)(t:T)(fp:List Nat),ts[i]?=some t->fps[i]?=some fp->RT S w t (get i) fp)->fps.flatten.Nodup->(∀b∈fps.flatten,¬S b/\¬K b)->m6 w φ hf fps.flatten->
  ∃φ',lM S K w0 w Kn φ hf fps.flatten nxt (eW nxt ts).2.2 (eW nxt ts).2.1 φ'/\(eW nxt ts).1.length=ts.length/\
   ∀(i:Nat)(c:C),(eW nxt ts).1[i]?=some c->RC S w (jI Kn nxt (eW nxt ts).2.2) φ' c (get i):=by
 intro Kn φ hf nxt get fps hI hfr hfl hr hnd hSK haw;cases ts with
 |nil=>exact⟨φ,lM.nil hI _ _,rfl,fun i c hi=>by simp[eW]at hi⟩
 |cons t ts=>
  cases fps with
  |nil=>simp at hfl
  |cons fp fps=>
   rw[cE,bR]at hnd;obtain⟨hn1,hn2,hn3⟩:=hnd;simp only[cE,ah]at hSK
   obtain⟨φ1,hL1,hc1⟩:=oD t (Kn:=Kn) (φ:=φ) (hf:=hf) nxt (get 0) fp hI (fun j hj hj2=>hfr j hj (by rw[kR];exact ct hj2 (oC ts _))) (hr 0 t fp rfl rfl) hn1 (fun b hb=>hSK b (.inl hb))
    (fun j o hj hown x hx hm=>haw j o hj hown x hx (by simp[hm]))
   obtain⟨φ2,hL2,hlen,hc2⟩:=mz ts (Kn:=jI Kn nxt (gJ nxt t).2.2) (φ:=φ1) (hf:=aU (gJ nxt t).2.1 hf) (gJ nxt t).2.2 (fun i=>get (i+1)) fps hL1.inv
    (fun j hj hj2 hk=>by
     rcases hk with hk|hk
     .have:=hL1.le;exact hfr j (by omega) (by rw[kR];exact hj2) hk
     .omega) (by simpa using hfl) (fun i t fp hi hfp=>hr (i+1) t fp (by simpa using hi) (by simpa using hfp)) hn2 (fun b hb=>hSK b (.inr hb))
    (fun j o hj hown x hx hm=>by
     by_cases hu:∃p∈(gJ nxt t).2.1,p.1=j
     .obtain ⟨p,hp,rfl⟩:=hu;exact hn3 _ (hL1.bH p hp x hx) _ hm rfl
     .have hfn:bv (gJ nxt t).2.1 j=none:=gN fun p hp e=>hu ⟨p,hp,e⟩;have hj':=hj;simp only[aU,hfn]at hj';have hk:=(hI.fh j o hj').1;rw[dU (hL1.MW.cK j hk) (hj.trans hj'.symm)]at hx;exact haw j o hj' hown x hx (by simp[hm]))
   have hcomp:=hL1.kf hL2;have hcm:aU ((eW (gJ nxt t).2.2 ts).2.1++(gJ nxt t).2.1) hf=aU ((gJ nxt t).2.1++(eW (gJ nxt t).2.2 ts).2.1) hf:=iu fun p hp q hq e=>by have h1:=hL2.dP p hp;have h2:=hL1.dP q hq;omega
   refine⟨φ2,?_,by simp[kR,hlen],fun i c hi=>?_⟩
   .simp only[kR,cE];have hsw:∀{p:Nat×Option Ob}{a b:de},p∈a++b->p∈b++a:=fun hp=>ah.2 (ah.1 hp).symm;exact⟨hcomp.le,hcomp.MW,hcm▸hcomp.inv,fun p hp=>hcomp.dP p (hsw hp),fun p hp x hx=>hcomp.bH p (hsw hp) x (hcm.symm▸hx)⟩
   .have hsub:∀i,jI (jI Kn nxt (gJ nxt t).2.2) (gJ nxt t).2.2 (eW (gJ nxt t).2.2 ts).2.2 i->jI Kn nxt (eW (gJ nxt t).2.2 ts).2.2 i:=fun i=>(lG hL1.le hL2.le i).1;cases i with
    |zero=>
     obtain rfl:(gJ nxt t).1=c:=by simpa[eW]using hi
     exact(hc1.mono (WJ.refl _ _) hL2.MW).kn hsub
    |succ i=>exact(hc2 i c (by simpa[kR]using hi)).kn hsub
end
theorem mE{α:Type}{l:List α}{k i:Nat}{x y:α}(h:(l.set k x)[i]?=some y):(k=i/\y=x/\i<l.length)\/(k≠i/\l[i]?=some y):=by
 rw[List.getElem?_set]at h;split at h
 .rename_i e;split at h
  .rename_i hlt;exact .inl ⟨e,(aa h).symm,e▸hlt⟩
  .simp at h
 .rename_i e;exact .inr ⟨e,h⟩
theorem Inv.IY(h:Inv S K w0 Kn φ hf w){id:Nat}{o o':Ob}(ho:hf id=some o)(hown:bF o=true)(hno:zQ o')(hro:RO S K w Kn φ (φ id) o'):Inv S K w0 Kn φ (aU [(id,some o')] hf) w:=by
 have hold:∀j b,aU [(id,some o')] hf j=some b->(j=id/\b=o')\/(j≠id/\hf j=some b):=by
  intro j b hj;rw[bk]at hj;by_cases e:id=j
  .rw [if_pos e]at hj;exact .inl ⟨e.symm,(aa hj).symm⟩
  .rw [if_neg e,dl]at hj;exact .inr ⟨fun q=>e q.symm,hj⟩
 have was:∀j b,aU [(id,some o')] hf j=some b->bF b=true->∃b',hf j=some b'/\bF b'=true:=by
  intro j b hj hb;rcases hold j b hj with⟨rfl,rfl⟩|⟨_,hj'⟩
  .exact ⟨o,ho,hown⟩
  .exact ⟨b,hj',hb⟩
 refine h.nL (WJ.refl _ _) (mS.refl _ _) h.nM h.sk h.iT ?_ ?_ ?_
 .intro i x hx;rcases hold i x hx with⟨rfl,rfl⟩|⟨_,hx'⟩
  .exact .inr ⟨(h.fh i o ho).1,hro⟩
  .exact .inl ⟨hx',fun hown=>⟨rfl,((h.fh i x hx').2.aW hown).1⟩,h.vT hx' fun _ _=>rfl⟩
 .intro i j a b ha hb hoa hob hne;obtain⟨a',h1,h2⟩:=was i a ha hoa;obtain⟨b',h3,h4⟩:=was j b hb hob;exact h.jq i j a' b' h1 h3 h2 h4 hne
 .intro i sz sl k x hi hp;rcases hold i _ hi with⟨rfl,e⟩|⟨_,hi'⟩
  .obtain ⟨rows,v,h1,_⟩:=hp;exact absurd h1 (hno sz sl k rows e.symm)
  .obtain ⟨p1,p2⟩:=h.pw i sz sl k x hi' hp;refine⟨fun j b hj hb=>?_,fun j sz' sl' k' hj hpj=>?_⟩
   .obtain ⟨b',h1,h2⟩:=was j b hj hb;exact p1 j b' h1 h2
   .rcases hold j _ hj with⟨rfl,e⟩|⟨_,hj'⟩
    .obtain ⟨rows,v,h1,_⟩:=hpj;exact absurd h1 (hno sz' sl' k' rows e.symm)
    .exact p2 j sz' sl' k' hj' hpj
theorem Inv.split(h:Inv S K w0 Kn φ hf w){id nxt sz cU:Nat}{slots:List gH}{rows:List (List D)}(ho:hf id=some (.nst sz slots))(hs:slots[cU]?=some (.aW rows))(hn:¬Kn nxt):
  ∃l v,w.cell? ⟨(φ id).bH,(φ id).aF+cU,none⟩=some v/\RC S w (fun j=>Kn j\/j=nxt) (ext φ nxt l) (.da sz nxt 0 rows.length) v/\
   Inv S K w0 (fun j=>Kn j\/j=nxt) (ext φ nxt l) (aU [(nxt,some (.aB sz rows)),(id,some (.nst sz (slots.set cU (.ku nxt rows.length))))] hf) w:=by
 obtain⟨hk,hro⟩:=h.fh id _ ho;have hne:id≠nxt:=fun e=>hn (e▸hk);cases hro with
 |@nst _ _ aB hsz hl hS hK hown hext hfit hr hv=>
  obtain⟨v,h1,h2⟩:=hr cU _ hs;cases h2 with
  |@aW _ _ b hrw hbS hbK=>
   obtain⟨addr,cap,ba,rfl,_,hbo,hcap,hfx,hrr⟩:=hrw;have hcell:w.cell? ⟨(φ id).bH,(φ id).aF+cU,none⟩=some (.slice (some ⟨b,addr,none⟩) rows.length cap):=(hown.cell _).trans h1;have hpat:lR w (φ id) slots cU b:=⟨rows,_,hs,hcell,rfl⟩
   obtain⟨p1,p2⟩:=h.pw id sz slots cU b ho hpat;have he:ext φ nxt ⟨b,addr,sz,ba.size,cap⟩ nxt=⟨b,addr,sz,ba.size,cap⟩:=by simp[ext]
   have heo:∀j,j≠nxt->ext φ nxt ⟨b,addr,sz,ba.size,cap⟩ j=φ j:=fun j hj=>by simp[ext,hj]
   have hren:=fP (φ:=φ) (⟨b,addr,sz,ba.size,cap⟩:d_) hn;have hrc:RC S w (fun j=>Kn j\/j=nxt) (ext φ nxt ⟨b,addr,sz,ba.size,cap⟩) (.da sz nxt 0 rows.length) (.slice (some ⟨b,addr,none⟩) rows.length cap):=by have:=RC.da (S:=S) (w:=w) (Kn:=fun j=>Kn j\/j=nxt) (φ:=ext φ nxt ⟨b,addr,sz,ba.size,cap⟩) (id:=nxt) (off:=0) (len:=rows.length) (cap:=cap) (addr:=addr) (.inr rfl) (by omega) (by rw[he];simp) (by rw[he];simpa using hfx) (by rw[he];simp);rw[he]at this;exact this
   refine⟨⟨b,addr,sz,ba.size,cap⟩,_,hcell,hrc,?_⟩
   have hold:∀j c,aU [(nxt,some (.aB sz rows)),(id,some (.nst sz (slots.set cU (.ku nxt rows.length))))] hf j=some c->(j=nxt/\c=.aB sz rows)\/(j=id/\c=.nst sz (slots.set cU (.ku nxt rows.length)))\/(j≠nxt/\j≠id/\hf j=some c):=by
    intro j c hj;rw[bk]at hj;by_cases e:nxt=j
    .rw [if_pos e]at hj;exact .inl ⟨e.symm,(aa hj).symm⟩
    .rw [if_neg e,bk]at hj;by_cases e2:id=j
     .rw [if_pos e2]at hj;exact .inr (.inl ⟨e2.symm,(aa hj).symm⟩)
     .rw [if_neg e2,dl]at hj;exact .inr (.inr ⟨fun q=>e q.symm,fun q=>e2 q.symm,hj⟩)
   have hpat2:∀j sz' sl' k x,aU [(nxt,some (.aB sz rows)),(id,some (.nst sz (slots.set cU (.ku nxt rows.length))))] hf j=some (.nst sz' sl')->lR w (ext φ nxt ⟨b,addr,sz,ba.size,cap⟩ j) sl' k x->∃mD,hf j=some (.nst sz' mD)/\lR w (φ j) mD k x/\x≠b:=by
    intro j sz' sl' k x hj hp;rcases hold j _ hj with⟨_,e⟩|⟨rfl,e⟩|⟨e1,e2,hj'⟩
    .cases e
    .cases e;rw[heo _ hne]at hp;obtain⟨rows',v',q1,q2,q3⟩:=hp;rcases mE q1 with⟨_,e,_⟩|⟨hk',q1'⟩
     .cases e
     .have hp':lR w (φ j) slots k x:=⟨rows',v',q1',q2,q3⟩
      exact⟨slots,ho,hp',fun e=>hk' (by rw[((p2 j sz slots k ho (e▸hp')).2)])⟩
    .rw [heo _ e1]at hp;exact⟨sl',hj',hp,fun e=>e2 ((p2 j sz' sl' k hj' (e▸hp)).1)⟩
   refine h.nL (WJ.refl _ _) hren h.nM h.sk h.iT ?_ ?_ ?_
   .intro j c hj;rcases hold j c hj with⟨rfl,rfl⟩|⟨rfl,rfl⟩|⟨e1,_,hj'⟩
    .refine .inr ⟨.inr rfl,?_⟩;rw[he];exact .aB (by assumption) rfl hbS hbK hbo rfl (by have:=aw sz hcap;simp only;omega) hrr hcap
    .refine .inr ⟨.inl hk,?_⟩;rw[heo _ hne];refine .nst hsz hl hS hK hown hext (by rw[fE];exact hfit) (fun i s hi=>?_) (by rw[fE];exact hv);rcases mE hi with⟨rfl,rfl,_⟩|⟨_,hi'⟩
     .exact ⟨_,h1,.ku hrc⟩
     .obtain ⟨v',q1,q2⟩:=hr i s hi';refine⟨v',q1,?_⟩;cases q2 with|nil=>exact .nil|aW h hS hK=>exact .aW h hS hK|ku h=>exact .ku (h.mono (WJ.refl _ _) hren)
    .exact .inl ⟨hj',fun hown=>⟨rfl,((h.fh j c hj').2.aW hown).1⟩,h.vT hj' fun _ _=>rfl⟩
   .intro i j a c ha hc hoa hoc hij
    have key:∀j c,aU [(nxt,some (.aB sz rows)),(id,some (.nst sz (slots.set cU (.ku nxt rows.length))))] hf j=some c->bF c=true->j≠nxt->(∃c',hf j=some c'/\bF c'=true)/\ext φ nxt ⟨b,addr,sz,ba.size,cap⟩ j=φ j:=by
     intro j c hj hc hjn;rcases hold j c hj with⟨e,_⟩|⟨rfl,rfl⟩|⟨_,_,hj'⟩
     .exact absurd e hjn
     .exact ⟨⟨_,ho,rfl⟩,heo _ hjn⟩
     .exact ⟨⟨c,hj',hc⟩,heo _ hjn⟩
    by_cases hi:i=nxt
    .subst hi;obtain⟨⟨c',q1,q2⟩,q3⟩:=key j c hc hoc fun e=>hij e.symm;rw[he,q3];exact fun e=>p1 j c' q1 q2 e.symm
    .obtain ⟨⟨a',q1,q2⟩,q3⟩:=key i a ha hoa hi;by_cases hj:j=nxt
     .subst hj;rw[he,q3];exact p1 i a' q1 q2
     .obtain ⟨⟨c',q4,q5⟩,q6⟩:=key j c hc hoc hj;rw[q3,q6];exact h.jq i j a' c' q1 q4 q2 q5 hij
   .intro j sz' sl' k x hj hp;obtain⟨mD,q1,q2,q3⟩:=hpat2 j sz' sl' k x hj hp;obtain⟨r1,r2⟩:=h.pw j sz' mD k x q1 q2;refine⟨fun i c hi hc=>?_,fun i sz2 sl2 k' hi hpi=>?_⟩
    .rcases hold i c hi with⟨rfl,rfl⟩|⟨rfl,rfl⟩|⟨e1,_,hi'⟩
     .rw [he];exact fun e=>q3 e.symm
     .rw [heo _ hne];exact r1 i _ ho rfl
     .rw [heo _ e1];exact r1 i c hi' hc
    .obtain ⟨sl3,q4,q5,_⟩:=hpat2 i sz2 sl2 k' x hi hpi;exact r2 i sz2 sl3 k' q4 q5
theorem Inv.DP(h:Inv S K w0 Kn φ hf w){id id2 sz sz2 cU:Nat}{slots:List gH}{rows:List (List D)}(ho:hf id=some (.nst sz slots))(hs:slots[cU]?=some (.ku id2 rows.length))(h2:hf id2=some (.aB sz2 rows)):
  Inv S K w0 Kn φ (aU [(id,some (.nst sz (slots.set cU (.aW rows)))),(id2,none)] hf) w:=by
 obtain⟨hk,hro⟩:=h.fh id _ ho;obtain⟨hk2,hro2⟩:=h.fh id2 _ h2;have hne:id2≠id:=fun e=>by rw[e,ho]at h2;cases h2
 have hold:∀j c,aU [(id,some (.nst sz (slots.set cU (.aW rows)))),(id2,none)] hf j=some c->(j=id/\c=.nst sz (slots.set cU (.aW rows)))\/(j≠id/\j≠id2/\hf j=some c):=by
  intro j c hj;rw[bk]at hj;by_cases e:id=j
  .rw [if_pos e]at hj;exact .inl ⟨e.symm,(aa hj).symm⟩
  .rw [if_neg e,bk]at hj;by_cases e2:id2=j
   .rw [if_pos e2]at hj;cases hj
   .rw [if_neg e2,dl]at hj;exact .inr ⟨fun q=>e q.symm,fun q=>e2 q.symm,hj⟩
 have was:∀j c,aU [(id,some (.nst sz (slots.set cU (.aW rows)))),(id2,none)] hf j=some c->bF c=true->j≠id2/\∃c',hf j=some c'/\bF c'=true:=by
  intro j c hj hc;rcases hold j c hj with⟨rfl,rfl⟩|⟨_,e,hj'⟩
  .exact ⟨hne.symm,_,ho,rfl⟩
  .exact ⟨e,c,hj',hc⟩
 cases hro with
 |@nst _ _ aB hsz hl hS hK hown hext hfit hr hv=>
  obtain⟨v,h1,hsl⟩:=hr cU _ hs;have hcell:w.cell? ⟨(φ id).bH,(φ id).aF+cU,none⟩=some v:=(hown.cell _).trans h1
  obtain⟨hvb,hrw⟩:pP v=some (φ id2).bH/\zP S w sz rows v (φ id2).bH:=by
   cases hsl with
   |ku hrc=>
    cases hro2 with
    |@aB _ _ ba hsz2 hl2 hS2 hK2 hown2 hext2 hfit2 hr2 hv2=>cases hrc with|@da _ _ _ cap addr hk' hcap haddr hx hcc=>refine⟨rfl,addr,cap,ba,rfl,by rw[hl2];exact hsz2,hown2,hcap,by omega,?_⟩;have:=hr2.pH (addr:=addr) 0 rows.length (fun hlt=>by rw[haddr (by omega),hl2]);rw[hl2];simpa using this
  obtain⟨hS2,hK2,_⟩:=hro2.aW rfl
  have hpat2:∀j sz' sl' k x,aU [(id,some (.nst sz (slots.set cU (.aW rows)))),(id2,none)] hf j=some (.nst sz' sl')->lR w (φ j) sl' k x->(j=id/\k=cU/\x=(φ id2).bH)\/∃mD,hf j=some (.nst sz' mD)/\lR w (φ j) mD k x:=by
   intro j sz' sl' k x hj hp;rcases hold j _ hj with⟨rfl,e⟩|⟨e1,e2,hj'⟩
   .cases e;obtain⟨rows',v',q1,q2,q3⟩:=hp;rcases mE q1 with⟨rfl,_,_⟩|⟨hk',q1'⟩
    .refine .inl ⟨rfl,rfl,?_⟩;rw[hcell]at q2;obtain rfl:=aa q2;rw[hvb]at q3;exact(aa q3).symm
    .exact .inr ⟨slots,ho,rows',v',q1',q2,q3⟩
   .exact .inr ⟨sl',hj',hp⟩
  refine h.nL (WJ.refl _ _) (mS.refl _ _) h.nM h.sk h.iT ?_ ?_ ?_
  .intro j c hj;rcases hold j c hj with⟨rfl,rfl⟩|⟨_,_,hj'⟩
   .refine .inr ⟨hk,.nst hsz hl hS hK hown hext (by rw[fE];exact hfit) (fun i s hi=>?_) (by rw[fE];exact hv)⟩;rcases mE hi with⟨rfl,rfl,_⟩|⟨_,hi'⟩
    .exact ⟨v,h1,.aW hrw hS2 hK2⟩
    .exact hr i s hi'
   .exact .inl ⟨hj',fun hown=>⟨rfl,((h.fh j c hj').2.aW hown).1⟩,h.vT hj' fun _ _=>rfl⟩
  .intro i j a c ha hc hoa hoc hij;obtain⟨_,a',q1,q2⟩:=was i a ha hoa;obtain⟨_,c',q3,q4⟩:=was j c hc hoc;exact h.jq i j a' c' q1 q3 q2 q4 hij
  .intro j sz' sl' k x hj hp;refine⟨fun i c hi hc=>?_,fun i sz3 sl3 k' hi hpi=>?_⟩
   .obtain ⟨hi2,c',q1,q2⟩:=was i c hi hc;rcases hpat2 j sz' sl' k x hj hp with⟨_,_,rfl⟩|⟨mD,q3,q4⟩
    .exact h.jq i id2 c' _ q1 h2 q2 rfl hi2
    .exact (h.pw j sz' mD k x q3 q4).1 i c' q1 q2
   .rcases hpat2 j sz' sl' k x hj hp with⟨e1,e2,e3⟩|⟨mD,q3,q4⟩<;>rcases hpat2 i sz3 sl3 k' x hi hpi with⟨e4,e5,e6⟩|⟨sl4,q5,q6⟩
    .exact ⟨e4.trans e1.symm,e5.trans e2.symm⟩
    .exact absurd e3.symm ((h.pw i sz3 sl4 k' x q5 q6).1 id2 _ h2 rfl)
    .exact absurd e6.symm ((h.pw j sz' mD k x q3 q4).1 id2 _ h2 rfl)
    .exact (h.pw j sz' mD k x q3 q4).2 i sz3 sl4 k' q5 q6
theorem Inv.Ja{w':World}(h:Inv S K w0 Kn φ hf w){id sz cU:Nat}{slots:List gH}{s':gH}{v:Value}{aB arr':Array Value}(ho:hf id=some (.nst sz slots))(hown:ju w (φ id).bH aB)(hown':ju w' (φ id).bH arr')(hsize':arr'.size=aB.size)
  (hother:∀b,b≠(φ id).bH->w'.heap[b]?=w.heap[b]?) (hsize:w'.heap.size=w.heap.size) (hfrz:∀a,w'.frozen? a=w.frozen? a) (hio:Io w w')
  (hget:∀i,i≠(φ id).aF+cU->arr'[i]?=aB[i]?) (hv:cU<slots.length->arr'[(φ id).aF+cU]?=some v) (hslot:WJ S w S w'->rH S K w' Kn φ sz s' v) (hs':∀rows,s'≠.aW rows):
  WJ S w S w'/\Inv S K w0 Kn φ (aU [(id,some (.nst sz (slots.set cU s')))] hf) w':=by
 obtain⟨hk,h0⟩:=h.fh id _ ho;obtain⟨hS,hK,hlt⟩:=h0.aW rfl;have hs:WJ S w S w':=⟨fun _ h=>h,fun b hb=>hother b (fun e=>hS (e▸hb))⟩
 have hold:∀j c,aU [(id,some (.nst sz (slots.set cU s')))] hf j=some c->(j=id/\c=.nst sz (slots.set cU s'))\/(j≠id/\hf j=some c):=by
  intro j c hj;rw[bk]at hj;by_cases e:id=j
  .rw [if_pos e]at hj;exact .inl ⟨e.symm,(aa hj).symm⟩
  .rw [if_neg e,dl]at hj;exact .inr ⟨fun q=>e q.symm,hj⟩
 have was:∀j c,aU [(id,some (.nst sz (slots.set cU s')))] hf j=some c->bF c=true->∃c',hf j=some c'/\bF c'=true:=by
  intro j c hj hc;rcases hold j c hj with⟨rfl,rfl⟩|⟨_,hj'⟩
  .exact ⟨_,ho,rfl⟩
  .exact ⟨c,hj',hc⟩
 have hpat2:∀j sz' sl' k x,aU [(id,some (.nst sz (slots.set cU s')))] hf j=some (.nst sz' sl')->lR w' (φ j) sl' k x->∃mD,hf j=some (.nst sz' mD)/\lR w (φ j) mD k x:=by
  intro j sz' sl' k x hj hp;rcases hold j _ hj with⟨rfl,e⟩|⟨e1,hj'⟩
  .cases e;obtain⟨rows',v',q1,q2,q3⟩:=hp;rcases mE q1 with⟨_,e,_⟩|⟨hk',q1'⟩
   .exact absurd e.symm (hs' rows')
   .refine ⟨slots,ho,rows',v',q1',?_,q3⟩;rw[hown.cell,<-hget _ (by omega),<-hown'.cell];exact q2
  .exact ⟨sl',hj',(lR.cK (hother _ (h.jq j id _ _ hj' ho rfl rfl e1))).1 hp⟩
 have hkeep:∀j sz' sl' k x,hf j=some (.nst sz' sl')->lR w (φ j) sl' k x->w'.heap[x]?=w.heap[x]?/\¬S x:=fun j sz' sl' k x hj hp=>⟨hother x fun e=>(h.pw j sz' sl' k x hj hp).1 id _ ho rfl e.symm,(h.Ai hj hp).1⟩;refine⟨hs,h.nL hs (mS.refl _ _) (fun b hb=>hsize▸h.nM b hb) h.sk ?_ ?_ ?_ ?_⟩
 .exact ⟨h.iT.xX,fun b hb=>(hother b (fun e=>hK (e▸hb))).trans (h.iT.ik b hb),hsize▸h.iT.grow,fun a ha=>(hfrz a).trans (h.iT.sO a ha),h.iT.qE hother (fun a ha=>⟨arr',hown',by obtain⟨t1,e1⟩:=ha;obtain⟨t2,e2⟩:=hown;rw[e1]at e2;rw[hsize'];cases e2;rfl⟩),h.iT.io.trans hio⟩
 .intro j c hj;rcases hold j c hj with⟨rfl,rfl⟩|⟨e1,hj'⟩
  .refine .inr ⟨hk,?_⟩;cases h0 with
   |@nst _ _ arr0 hsz hl hS hK hown0 hext hfit hr hv0=>
    have ea:arr0=aB:=by obtain⟨t1,e1⟩:=hown0;obtain⟨t2,e2⟩:=hown;rw[e1]at e2;cases e2;rfl
    subst ea;refine .nst hsz hl hS hK hown' (hsize'.trans hext) (by rw[fE];exact hfit) (fun i s hi=>?_) (by rw[fE];exact hv0);rcases mE hi with⟨rfl,rfl,hlt⟩|⟨hne,hi'⟩
    .exact ⟨v,hv hlt,hslot hs⟩
    .obtain ⟨v',q1,q2⟩:=hr i s hi';refine⟨v',(hget _ (by omega)).trans q1,?_⟩;cases q2 with|nil=>exact .nil|@aW rows _ b q3 q4 q5=>exact .aW (q3.mono hs (hkeep j sz slots i b ho ⟨rows,v',hi',(hown.cell _).trans q1,q3.bH⟩).1) q4 q5|ku q3=>exact .ku (q3.mono hs (mS.refl _ _))
  .exact .inl ⟨hj',fun hox=>⟨hother _ (h.jq j id c _ hj' ho hox rfl e1),((h.fh j c hj').2.aW hox).1⟩,fun sz' sl' eo k x hp=>by subst eo;exact hkeep j sz' sl' k x hj' hp⟩
 .intro i j a c ha hc hoa hoc hij;obtain⟨a',q1,q2⟩:=was i a ha hoa;obtain⟨c',q3,q4⟩:=was j c hc hoc;exact h.jq i j a' c' q1 q3 q2 q4 hij
 .intro j sz' sl' k x hj hp;obtain⟨mD,q1,q2⟩:=hpat2 j sz' sl' k x hj hp;obtain⟨r1,r2⟩:=h.pw j sz' mD k x q1 q2;refine⟨fun i c hi hc=>?_,fun i sz3 sl3 k' hi hpi=>?_⟩
  .obtain ⟨c',q3,q4⟩:=was i c hi hc;exact r1 i c' q3 q4
  .obtain ⟨sl4,q5,q6⟩:=hpat2 i sz3 sl3 k' x hi hpi;exact r2 i sz3 sl4 k' q5 q6
end
end Go.Ev
