/- The abstract machine: deep data, cells, owned objects, operations and code, and their evaluation. Conditions: none, these are definitions. -/
import Derived.Orders
import Derived.Laws.CopyRow
open Array renaming getD->jJ,getElem?_eq_none->fK,getElem?_eq_some_iff->bh
open BitVec renaming ofInt->bA
open Bool renaming false_eq_true->aS
open List renaming all_eq_true->bc,append_nil->bB,flatMap_cons->bi,flatten_cons->eh,getElem?_append_left->bN,getElem?_append_right->bR,getElem?_drop->bQ,getElem?_eq_getElem->aw,getElem?_eq_some_iff->ak,getElem?_map->aG,getElem?_take->eJ,getElem_of_mem->cu,length_map->aN,length_set->dL,length_take->b_,map->mh,mem_append->ap,mem_cons->aP,mem_cons_of_mem->aA,mem_flatten->dK,mem_of_getElem?->aX,mem_singleton->aq,nodup_append->bZ,nodup_cons->fY,nodup_nil->fX,range->aK,replicate->az
open Nat renaming add_assoc->cP,add_zero->dO,le_refl->au,le_succ->bO,le_trans->fc,lt_of_lt_of_le->cn,lt_succ_self->aZ,lt_trichotomy->nr,mul_le_mul_right->aI,mul_one->lw,zero_add->bK,zero_mul->jx
open Option renaming bind_eq_some_iff->fm,map_eq_some_iff->aE
open Option.some renaming inj->aa,injEq->bm
open Prod.mk renaming inj->ad
namespace Go.Ev
inductive D where
 |lit (v:Value)
 |sl (sz:Nat) (ao:List (List D))
 |pt (cells:List D)
 |fn (f:FuncId) (caps:List D)
 deriving Inhabited
inductive C where
 |d (x:D)
 |fq (sz id off len:Nat)
 |ep (id dj off:Nat)
 |op (id off:Nat)
 |oU (f:FuncId) (caps:List C)
 |om (id:Nat)
 deriving Inhabited
inductive TV where
 |c (x:C)
 |agg (cells:List C)
 |iS (xs:List TV)
 deriving Inhabited
inductive kZ where
 |nil
 |bv (ao:List (List D))
 |dY (id len:Nat)
 deriving Inhabited
inductive Ob where
 |aM (sz:Nat) (ao:List (List D))
 |qK (sz:Nat) (ao:List (List D))
 |box (cells:List C)
 |o8 (cells:List D)
 |map (ka va:Bool) (es:List (List Value×List D×Nat)) (fk:Nat)
 |cap (sz:Nat) (ao:List (List D)) (cp:Nat)
 |nst (sz:Nat) (slots:List kZ)
 deriving Inhabited
inductive T where
 |d (x:D)
 |sl (sz:Nat) (ao:List (List D))
 |pt (cells:List T)
 |zK (sz:Nat) (ao:List (Option (List (List D))))
 |uI
 deriving Inhabited
inductive A where
 |d (x:D)
 |agg (cells:List D)
 |mt (t:T)
 deriving Inhabited
inductive R where
 |c (t:T)
 |agg (cells:List T)
 deriving Inhabited
def ed:Value->Bool
 |.bool _|.int _ _|.float _ _|.string _|.pointer none|.slice none 0 0|.map none|.nilFunc|.nilIface=>true
 |_=>false
def DN:Nat:=2147483648
def cA{α:Type}:List (Nat×α)->Nat->Option α
 |[],_=>none
 |(a,x)::r,k=>bif a==k then some x else cA r k
abbrev jM:=List (Nat×TV)
abbrev bH:=List (Nat×Option Ob)
abbrev fL:=List (Nat×Option Ob)
def aC(h:bH)(id:Nat):Option Ob:=(cA h id).join
inductive Kd where
 |b
 |i (k:IntKind)
 |s
 deriving Inhabited,DecidableEq
inductive K where
 |mv
 |pick
 |alloc (zero:List Value)
 |box
 |build (zero:List Value) (places:List (Nat×Nat))
 |buildSlice (sz len:Nat) (zero:List Value) (places:List Nat)
 |load (agg:Bool) (n:Nat)
 |store (n:Nat)
 |nilCheck
 |Ao (op:BinOp)
 |uK (neg:Bool)
 |qQ (kind:Nat) (neg:Bool)
 |zk (neg:Bool) (ks:List Kd)
 |un (op:UnOp)
 |vA (k:IntKind)
 |sV
 |IY (f:FuncId)
 |makeSlice (zero:List Value)
 |slice (str:Bool) (sz:Nat) (lo hi:Bool)
 |fieldAddr (off n:Nat)
 |field (agg:Bool) (off n:Nat)
 |indexAddr (aM:Option Nat) (sz:Nat)
 |pD
 |index (agg:Bool) (len sz:Nat)
 |extract (i:Nat)
 |len (str:Bool)
 |uF (isMax:Bool)
 |append (sz:Nat)
 |copy (sz:Nat)
 |clear (zero:List Value)
 |BH (sz:Nat)
 |MP
 |SI (zero:List Value)
 |R1
 |call (ro:Bool) (ke:List Bool)
 |makeMap (ka va:Bool)
 |lookup (ka:Bool) (ks:List Kd) (va:Bool) (zero:List Value) (ok:Bool)
 |mapEntry (ka:Bool) (ks:List Kd) (va:Bool) (zero:List Value)
 |entryStore (va:Bool) (m:Nat)
 |AU (szi:Nat)
 |ua
 |gu
 deriving Inhabited
structure og where
 dst:Option Nat
 k:K
 args:List Operand
 guard:Option (Nat×Bool)
 deriving Inhabited
inductive CC where
 |skip
 |region (ops:List og) (m6:List Nat)
 |drawn (ops:List og) (dyn:List (Nat×Nat)) (m6:List Nat)
 |seq (a b:CC)
 |cond (c:Operand) (a b:CC)
 |block (id:Nat) (a:CC)
 |loop (m6:List Nat) (a:CC)
 |exit (id:Nat)
 |ret
 |gu
 deriving Inhabited
structure St where
 dT:jM
 heap:bH
 next:Nat
 gh:List C
 deriving Inhabited
inductive rZ where
 |normal
 |exit (id:Nat)
 |ret
 deriving Inhabited,DecidableEq
def QC:Nat->Option D:=fun g => if g = 0 then some (.pt ([0, 1, 28, 2, 29, 14, 24, 3, 30, 22, 20, 15, 25, 17, 4, 8, 31, 27, 13, 23, 21, 19, 16, 7, 26, 12, 18, 6, 11, 5, 10, 9].map fun (x : Int) => .lit (.int .u8 x))) else none
def cv:Value->Option TV
 |.agg cs=>if cs.toList.all ed then some (.agg (cs.toList.map fun v=>.d (.lit v)))else none
 |v=>if ed v then some (.c (.d (.lit v)))else none
def kR(e:jM):Operand->Option TV
 |.tmp t=>cA e t
 |.const v=>cv v
 |.global g=>(QC g).map fun d=>.c (.d d)
 |.func f=>some (.c (.d (.fn f [])))
def cellsOf:TV->Option (List C)
 |.c x=>some [x]
 |.agg cs=>some cs
 |.iS _=>none
def fB:List Value->List C:=mh fun v=>.d (.lit v)
def cF:List Value->List D:=mh D.lit
def aV{α:Type}(l:List α)(off:Nat)(p:List α):List α:=l.take off++p++l.drop (off+p.length)
def m_(cells:List C):List ((Nat×Nat)×TV)->Option (List C)
 |[]=>some cells
 |((off,n),v)::r=>match cellsOf v with|some cs=>if cs.length=n/\off+n<=cells.length then m_ (aV cells off cs) r else none|none=>none
def mz{α:Type}(sz:Nat):Nat->List α->List (List α)
 |0,_=>[]
 |n+1,l=>l.take sz::mz sz n (l.drop sz)
def Kp(sz:Nat):kZ->Option D
 |.nil=>some (.lit (.slice none 0 0))
 |.bv ao=>some (.sl sz ao)
 |.dY _ _=>none
def vV(sz:Nat):List kZ->Option (List (List D))
 |[]=>some []
 |s::r=>match Kp sz s,vV sz r with|some x,some l=>some ([x]::l)|_,_=>none
def Pa:kZ->Option (Option (List (List D)))
 |.nil=>some none
 |.bv ao=>some (some ao)
 |.dY _ _=>none
def uw:List kZ->Option (List (Option (List (List D))))
 |[]=>some []
 |s::r=>match Pa s,uw r with|some x,some l=>some (x::l)|_,_=>none
def mT:Option (List (List D))->kZ
 |none=>.nil
 |some ao=>.bv ao
mutual
def fg(h:bH):Nat->C->Option (D×List Nat)
 |_,.d x=>some (x,[])
 |_,.fq sz id off len=>match aC h id with|some (.aM _ ao)|some (.qK _ ao)=>if off+len<=ao.length then some (.sl sz ((ao.drop off).take len),[id])else none|some (.nst szi slots)=>if off=0/\len=slots.length then(match vV szi slots with|some ao=>some (.sl sz ao,[id])|none=>none)else none|_=>none
 |_,.ep id dj off=>
  match aC h id with
  |some (.aM _ ao)|some (.qK _ ao)=>match ao[dj]?with|some r=>if off<=r.length then some (.pt (r.drop off),[id])else none|none=>none
  |_=>none
 |0,_=>none
 |n+1,.op id off=>
  match aC h id with
  |some (.o8 cells)=>if off<=cells.length then some (.pt (cells.drop off),[id])else none
  |some (.box cells)=>match gw h n cells with|some (ds,aD)=>if off<=ds.length then some (.pt (ds.drop off),id::aD)else none|none=>none
  |_=>none
 |n+1,.oU f caps=>match gw h n caps with|some (ds,aD)=>some (.fn f ds,aD)|none=>none
 |_+1,.om _=>none
def gw(h:bH):Nat->List C->Option (List D×List Nat)
 |_,[]=>some ([],[])
 |0,_=>none
 |n+1,c::cs=>match fg h n c,gw h n cs with|some (x,a),some (xs,b)=>some (x::xs,a++b)|_,_=>none
end
def qN(h:bH)(all:List Nat)(id:Nat):Option Ob:=
 match aC h id with
 |some (.aM sz ao)=>some (.qK sz ao)
 |some (.qK sz ao)=>some (.qK sz ao)
 |some (.o8 cells)=>some (.o8 cells)
 |some (.box cells)=>match gw h 300 cells with|some (ds,aD)=>if aD.all (fun i=>all.contains i)then some (.o8 ds)else none|none=>none
 |some (.map _ _ _ _)=>none
 |some (.cap _ _ _)=>none
 |some (.nst szi slots)=>match vV szi slots with|some ao=>some (.qK 1 ao)|none=>none
 |none=>none
def fh(h:bH)(all:List Nat):List Nat->Option fL
 |[]=>some []
 |id::r=>match qN h all id,fh h all r with|some o,some u=>some ((id,some o)::u)|_,_=>none
def gp(h:bH):List C->Option (List D×List Nat)
 |[]=>some ([],[])
 |c::cs=>match fg h 300 c,gp h cs with|some (x,a),some (xs,b)=>some (x::xs,a++b)|_,_=>none
mutual
def eK(h:bH):Nat->C->Option (T×List Nat×List Nat)
 |_,.d x=>some (.d x,[],[])
 |_,.fq sz id off len=>match aC h id with|some (.aM _ ao)=>if off+len<=ao.length then some (.sl sz ((ao.drop off).take len),[id],[id])else none|some (.qK _ ao)=>if off+len<=ao.length then some (.d (.sl sz ((ao.drop off).take len)),[],[id])else none|some (.nst szi slots)=>if off=0/\len=slots.length then(match uw slots with|some ao=>some (.zK szi ao,[id],[id])|none=>none)else none|_=>none
 |0,_=>none
 |n+1,.op id 0=>
  match aC h id with
  |some (.box cells)=>match iJ h n cells with|some (ts,bv,aD)=>some (.pt ts,id::bv,id::aD)|none=>none
  |some (.o8 cells)=>some (.d (.pt cells),[],[id])
  |_=>none
 |_+1,_=>none
def iJ(h:bH):Nat->List C->Option (List T×List Nat×List Nat)
 |_,[]=>some ([],[],[])
 |0,_=>none
 |n+1,c::cs=>match eK h n c,iJ h n cs with|some (x,a,i),some (xs,b,j)=>some (x::xs,a++b,i++j)|_,_=>none
end
mutual
def k8(nxt:Nat):T->C×fL×Nat
 |.d x=>(.d x,[],nxt+1)
 |.uI=>(.d (.lit .nilFunc),[],nxt+1)
 |.sl sz ao=>(.fq sz nxt 0 ao.length,[(nxt,some (.aM sz ao))],nxt+1)
 |.zK sz ao=>(.fq 1 nxt 0 ao.length,[(nxt,some (.nst sz (ao.map mT)))],nxt+1)
 |.pt ts=>let(cs,u,m):=iE (nxt+1) ts;(.op nxt 0,(nxt,some (.box cs))::u,m)
def iE(nxt:Nat):List T->List C×fL×Nat
 |[]=>([],[],nxt)
 |t::ts=>let(c,u,m):=k8 nxt t;let(cs,v,k):=iE m ts;(c::cs,u++v,k)
end
def wT(nxt:Nat):R->TV×fL×Nat
 |.c t=>let(c,u,m):=k8 nxt t;(.c c,u,m)
 |.agg ts=>let(cs,u,m):=iE nxt ts;(.agg cs,u,m)
def iq(nxt:Nat):List R->List TV×fL×Nat
 |[]=>([],[],nxt)
 |r::rs=>let(v,u,m):=wT nxt r;let(vs,w,k):=iq m rs;(v::vs,u++w,k)
abbrev Call:=FuncId->List A->Option (List R×List T)
abbrev GK:=Option (TV×fL×List Nat×Nat)
def lv(v:Value):TV:=.c (.d (.lit v))
def sg(op:BinOp):Value->Value->Option Value
 |.int k a,.int k' b=>
  match op with
  |.shl=>if b<0 then none else some (.int k (k.wrap (a*2^(min b.toNat k.bits))))
  |.shr=>if b<0 then none else some (.int k (a.fdiv (2^(min b.toNat k.bits))))
  |op=>if k=k' then
   (match op with
   |.add=>some (.int k (k.wrap (a+b)))
   |.sub=>some (.int k (k.wrap (a-b)))
   |.mul=>some (.int k (k.wrap (a*b)))
   |.quo=>if b=0 then none else some (.int k (k.wrap (a.tdiv b)))
   |.rem=>if b=0 then none else some (.int k (a.tmod b))
   |.and=>some (.int k (k.wrap (bA k.bits a&&&bA k.bits b).toNat))
   |.or=>some (.int k (k.wrap (bA k.bits a|||bA k.bits b).toNat))
   |.xor=>some (.int k (k.wrap (bA k.bits a^^^bA k.bits b).toNat))
   |.andNot=>some (.int k (k.wrap (bA k.bits a&&&~~~bA k.bits b).toNat))
   |.eql=>some (.bool (a==b))
   |.neq=>some (.bool (a !=b))
   |.lss=>some (.bool (a<b))
   |.leq=>some (.bool (a<=b))
   |.gtr=>some (.bool (a>b))
   |.geq=>some (.bool (a>=b))
   |_=>none)else none
 |.float k a,.float k' b=>
  if k=k' then
   match op with|.add=>(k.format.add a b).map (.float k)|.sub=>(k.format.sub a b).map (.float k)|.mul=>(k.format.mul a b).map (.float k)|.quo=>(k.format.div a b).map (.float k)|.eql=>some (.bool (k.format.order a b==some .eq))|.neq=>some (.bool (k.format.order a b !=some .eq))|.lss=>some (.bool (k.format.order a b==some .lt))|.leq=>some (.bool (k.format.order a b==some .lt||k.format.order a b==some .eq))|.gtr=>some (.bool (k.format.order a b==some .gt))|.geq=>some (.bool (k.format.order a b==some .gt||k.format.order a b==some .eq))|_=>none
  else none
 |.string x,.string y=>match op with|.add=>if((x.size+y.size:Nat):Int)>IntKind.i64.max then none else some (.string (x++y))|.eql=>some (.bool (x.toList==y.toList))|.neq=>some (.bool !(x.toList==y.toList))|.lss=>some (.bool (Op.bytesLess x.toList y.toList))|.leq=>some (.bool (Op.bytesLess x.toList y.toList||x.toList==y.toList))|.gtr=>some (.bool !(Op.bytesLess x.toList y.toList||x.toList==y.toList))|.geq=>some (.bool !(Op.bytesLess x.toList y.toList))|_=>none
 |_,_=>none
def SN(op:UnOp):Value->Option Value
 |.bool b=>match op with|.not=>some (.bool !b)|_=>none
 |.int k n=>match op with|.neg=>some (.int k (k.wrap (0-n)))|.xor=>some (.int k (k.wrap (bA k.bits (if k.signed then-1 else k.max)^^^bA k.bits n).toNat))|_=>none
 |.float k b=>match op with|.neg=>some (.float k (Op.negFloat k b))|_=>none
 |_=>none
def EO:Kd->Value->Value->Option Bool
 |.i q,.int k a,.int k' b=>if k=q/\k'=q then some (a==b)else none
 |.b,.bool a,.bool b=>some (a==b)
 |.s,.string a,.string b=>some (a==b)
 |_,_,_=>none
def gJ:List Kd->List Value->List Value->Option Bool
 |[],[],[]=>some true
 |k::ks,x::xs,y::ys=>match EO k x y,gJ ks xs ys with|some a,some b=>some (a&&b)|_,_=>none
 |_,_,_=>none
def lP:List C->Option (List Value)
 |[]=>some []
 |.d (.lit v)::r=>match lP r with|some l=>some (v::l)|none=>none
 |_=>none
def SR(isMax:Bool):Value->Value->Option Value
 |.int k x,.int k' y=>if k=k' then some (.int k (if isMax then(if y>x then y else x)else(if y<x then y else x)))else none
 |.float k x,.float k' y=>
  if k=k' then match k.format.order x y with|none=>none|some .lt=>some (.float k (if isMax then y else x))|some .gt=>some (.float k (if isMax then x else y))|some .eq=>some (.float k (if isMax then(if(k.decode x).neg then y else x)else(if(k.decode x).neg then x else y)))
  else none
 |_,_=>none
def Ph(isMax:Bool):Value->List (Option TV)->Option Value
 |x,[]=>some x
 |x,some (.c (.d (.lit y)))::r=>match SR isMax x y with|some z=>Ph isMax z r|none=>none
 |_,_=>none
def DR(agg:Bool)(n:Nat)(cells:List C):Option TV:=if agg then(if n<=cells.length then some (.agg (cells.take n))else none)else match cells with|x::_=>some (.c x)|[]=>none
def Pm(agg:Bool)(n:Nat)(cells:List D):Option TV:=if agg then(if n<=cells.length then some (.agg ((cells.take n).map .d))else none)else match cells with|x::_=>some (.c (.d x))|[]=>none
def ie(agg:Bool)(n:Nat)(p:C)(h:bH):Option (TV×List Nat):=
 match p with
 |.d (.pt cells)=>match Pm agg n cells with|some v=>some (v,[])|none=>none
 |.ep id dj off=>
  match aC h id with
  |some (.aM _ ao)|some (.qK _ ao)=>
   match ao[dj]?with
   |some r=>match Pm agg n (r.drop off)with|some v=>some (v,[id])|none=>none
   |none=>none
  |_=>none
 |.op id off=>
  match aC h id with
  |some (.box cells)=>match DR agg n (cells.drop off)with|some v=>some (v,[id])|none=>none
  |some (.o8 cells)=>match Pm agg n (cells.drop off)with|some v=>some (v,[id])|none=>none
  |_=>none
 |_=>none
def rF(id dj sz:Nat)(slots:List kZ)(cs:List C)(h:bH):Option (fL×List Nat):=
 match cs with
 |[.d (.lit (.slice none 0 0))]=>some ([(id,some (.nst sz (slots.set dj .nil)))],[id])
 |[.fq sz' id2 0 len]=>match aC h id2 with|some (.aM _ ao)=>if sz'=sz/\len=ao.length/\id2≠id then some ([(id,some (.nst sz (slots.set dj (.bv ao)))),(id2,none)],[id,id2])else none|_=>none
 |_=>none
def lG(agg:Bool)(n:Nat)(p:C)(h:bH)(nxt:Nat):GK:=
 match p with
 |.ep id dj 0=>
  match aC h id with
  |some (.nst sz slots)=>if agg=false/\n=1 then
   (match slots[dj]?with
   |some .nil=>some (.c (.d (.lit (.slice none 0 0))),[],[id],nxt)
   |some (.bv ao)=>some (.c (.fq sz nxt 0 ao.length),[(nxt,some (.aM sz ao)),(id,some (.nst sz (slots.set dj (.dY nxt ao.length))))],[id],nxt+1)
   |_=>none)else none
  |_=>none
 |_=>none
def mn(n:Nat)(p:C)(v:TV)(h:bH):Option (fL×List Nat):=
 match cellsOf v with
 |none=>none
 |some cs=>
  if cs.length=n then
   match p with
   |.ep id dj off=>
    match aC h id with
    |some (.aM sz ao)=>
     match ao[dj]?,gp h cs with
     |some r,some (ds,aD)=>match fh h aD aD with|some u=>if off+n<=r.length/\aD.contains id=false then some ((id,some (.aM sz (ao.set dj (aV r off ds))))::u,id::aD)else none|none=>none
     |_,_=>none
    |some (.nst sz slots)=>if off=0/\n=1/\dj<slots.length then rF id dj sz slots cs h else none
    |_=>none
   |.op id off=>match aC h id with|some (.box cells)=>if off+n<=cells.length then some ([(id,some (.box (aV cells off cs)))],[id])else none|_=>none
   |_=>none
  else none
def cE:Option TV->Option Int
 |some (.c (.d (.lit (.int _ n))))=>some n
 |_=>none
def fU(str:Bool)(sz:Nat)(x:C)(lo hi:Option Int):Option C:=
 if str then match x with
 |.d (.lit (.string s))=>
  let h:=hi.getD s.size;let l:=lo.getD 0
  if 0<=l/\l<=h/\h<=s.size then some (.d (.lit (.string (s.extract l.toNat h.toNat))))else none
 |_=>none
 else match x with
 |.d (.lit (.slice none 0 0))=>if 0<=lo.getD 0/\lo.getD 0<=hi.getD 0/\hi.getD 0<=0 then some x else none
 |.fq sz' id off len=>
  let h:=hi.getD len;let l:=lo.getD 0
  if sz'=sz/\0<=l/\l<=h/\h<=len then some (.fq sz id (off+l.toNat) (h.toNat-l.toNat))else none
 |.d (.sl sz' ao)=>
  let h:=hi.getD ao.length;let l:=lo.getD 0
  if sz'=sz/\0<=l/\l<=h/\h<=ao.length then some (.d (.sl sz ((ao.drop l.toNat).take (h.toNat-l.toNat))))else none
 |_=>none
def nW(str:Bool)(sz:Nat)(x:C)(l u:Int)(h:bH):Option (C×List Nat):=
 match str,x with
 |false,.fq sz' id off _=>match aC h id with|some (.aM _ ao)=>if sz'=sz/\0<=l/\l<=u/\off+u.toNat<=ao.length then some (.fq sz id (off+l.toNat) (u.toNat-l.toNat),[id])else none|some (.cap _ _ cp)=>if sz'=sz/\0<=l/\l<=u/\off+u.toNat<=cp then some (.fq sz id (off+l.toNat) (u.toNat-l.toNat),[id])else none|_=>none
 |_,_=>none
def Mi(sz:Nat)(x:C)(l u m:Int)(nxt:Nat):Option C:=match x with|.fq sz' _ _ len=>if sz'=sz/\0<=l/\l<=u/\u<=m/\m<=len then some (.fq sz nxt 0 (u.toNat-l.toNat))else none|_=>none
def o_(zero:List Value)(x:C)(h:bH):Option (fL×List Nat):=
 match x with
 |.fq sz id off len=>match aC h id with|some (.aM _ ao)=>if sz=zero.length/\off+len<=ao.length then some ([(id,some (.aM sz (aV ao off (az len (cF zero)))))],[id])else none|_=>none
 |_=>none
def kg(off n:Nat):C->Option C
 |.op id o=>some (.op id (o+off))
 |.ep id r o=>some (.ep id r (o+off))
 |.d (.pt cells)=>if off+n<=cells.length then some (.d (.pt ((cells.drop off).take n)))else none
 |_=>none
def iL(aM:Option Nat)(sz:Nat)(x:C)(i:Int):Option C:=
 match aM with
 |none=>match x with|.fq sz' id off len=>if 0<=i/\i<len/\sz'=sz then some (.ep id (off+i.toNat) 0)else none|.d (.sl sz' ao)=>if 0<=i/\sz'=sz then(match ao[i.toNat]?with|some r=>some (.d (.pt r))|none=>none)else none|_=>none
 |some n=>
  if 0<=i/\i<n then
   match x with|.op id o=>some (.op id (o+i.toNat*sz))|.ep id r o=>some (.ep id r (o+i.toNat*sz))|.d (.pt cells)=>if i.toNat*sz+sz<=cells.length then some (.d (.pt ((cells.drop (i.toNat*sz)).take sz)))else none|_=>none
  else none
def ug:Bool->C->Option Int
 |true,.d (.lit (.string s))=>some s.size
 |false,.d (.lit (.slice none 0 0))=>some 0
 |false,.fq _ _ _ len=>some len
 |false,.d (.sl _ ao)=>some ao.length
 |_,_=>none
def jj(sz:Nat)(h:bH):C->Option (List (List D)×List Nat)
 |.d (.lit (.slice none 0 0))=>some ([],[])
 |.d (.sl sz' ao)=>if sz'=sz then some (ao,[])else none
 |.fq sz' id off len=>match aC h id with|some (.aM _ ao)|some (.qK _ ao)=>if sz'=sz/\off+len<=ao.length then some ((ao.drop off).take len,[id])else none|_=>none
 |_=>none
def oC(sz:Nat)(s x:C)(h:bH)(nxt:Nat):GK:=
 match jj sz h x with
 |none=>none
 |some (new,aD)=>
  match s with
  |.d (.lit (.slice none 0 0))=>
   if new.length<=DN then
    match new with|[]=>some (.c s,[],aD,nxt)|new=>some (.c (.fq sz nxt 0 new.length),[(nxt,some (.aM sz new))],aD,nxt+1)
   else none
  |.fq sz' id off len=>
   match aC h id with
   |some (.aM _ ao)=>
    if sz'=sz/\off+len<=ao.length/\len+new.length<=DN then
     some (.c (.fq sz nxt 0 (len+new.length)),[(id,none),(nxt,some (.aM sz ((ao.drop off).take len++new++ao.drop (off+len+new.length))))],id::aD,nxt+1)
    else none
   |_=>none
  |_=>none
def o9(sz:Nat)(dst src:C)(h:bH):Option (Int×fL×List Nat):=
 match dst,src with
 |.fq sz' id off len,.fq sz2 id2 off2 len2=>
  match aC h id,aC h id2 with
  |some (.cap _ ao cp),some (.aM _ rows2)=>
   if sz'=sz/\sz2=sz/\off<=ao.length/\off2+min len2 len<=rows2.length then
    some ((min len2 len:Nat),[(id,some (.cap sz (aV ao off ((rows2.drop off2).take (min len2 len))) cp))],[id,id2])
   else none
  |some (.cap _ ao cp),some (.cap _ rows2 _)=>
   if sz'=sz/\sz2=sz/\off<=ao.length/\off2+min len2 len<=rows2.length then
    some ((min len2 len:Nat),[(id,some (.cap sz (aV ao off ((rows2.drop off2).take (min len2 len))) cp))],[id,id2])
   else none
  |_,_=>none
 |_,_=>none
def Bb(zero:List Value)(x:C)(k:Int)(h:bH)(nxt:Nat):GK:=
 match x with
 |.fq sz' id off len=>
  match aC h id with
  |some (.cap _ ao cp)=>
   if sz'=zero.length/\0<=k/\len+k.toNat<=DN/\off+len<=ao.length/\cp<off+len+k.toNat then
    some (.c (.fq zero.length nxt 0 (len+k.toNat)),[(nxt,some (.aM zero.length ((ao.drop off).take len++az k.toNat (cF zero))))],[id],nxt+1)
   else none
  |_=>none
 |_=>none
def zj(x:C)(h:bH):Option (Nat×List Nat):=
 match x with
 |.fq _ id off _=>match aC h id with|some (.cap _ _ cp)=>some (cp-off,[id])|_=>none
 |_=>none
def zi(x y:C)(h:bH):Option (List Nat):=
 match x,y with
 |.fq _ a _ _,.fq _ b _ _=>match aC h a,aC h b with|some (.aM _ _),some (.cap _ _ cp)=>if a≠b/\0<cp then some [a,b]else none|_,_=>none
 |_,_=>none
def my(sz:Nat)(dst src:C)(h:bH):Option (Int×fL×List Nat):=
 match jj sz h src,dst with
 |some (_,aD),.d (.lit (.slice none 0 0))=>some (0,[],aD)
 |some (new,aD),.fq sz' id off len=>
  match aC h id with
  |some (.aM _ ao)=>
   if sz'=sz/\off+len<=ao.length then
    some ((min new.length len:Nat),[(id,some (.aM sz (aV ao off (new.take len))))],id::aD)
   else none
  |_=>none
 |_,_=>none
def gD(h:bH):List TV->List Bool->Option (List A×List Nat×List (C×List Nat×List Nat))
 |[],_=>some ([],[],[])
 |v::vs,ms=>
  match gD h vs ms.tail with
  |none=>none
  |some (as,aD,lent)=>
   if ms.headD false then
    match v with
    |.c c=>match eK h 300 c with|some (t,bv,rd)=>some (.mt t::as,aD,(c,bv,rd)::lent)|none=>none
    |_=>none
   else match v with
    |.c c=>match fg h 300 c with|some (x,i)=>some (.d x::as,i++aD,lent)|none=>none
    |.agg cs=>match gp h cs with|some (xs,i)=>some (.agg xs::as,i++aD,lent)|none=>none
    |.iS _=>none
def eW(nxt:Nat):List (C×List Nat×List Nat)->List T->Option (fL×Nat)
 |[],[]=>some ([],nxt)
 |(_,[],_)::r,.d _::ts=>eW nxt r ts
 |(.op id 0,bv,_)::r,.pt ts'::ts=>match eW (iE nxt ts').2.2 r ts with|some (w,k)=>if bv.contains id then some ((id,some (.box (iE nxt ts').1))::(iE nxt ts').2.1++bv.map (fun i=>(i,none))++w,k)else none|none=>none
 |(.fq sz id 0 len,bv,_)::r,.sl sz' ao::ts=>
  if ao.length=len/\sz'=sz/\bv=[id]then
   match eW nxt r ts with|some (w,k)=>some ((id,some (.aM sz ao))::w,k)|none=>none
  else none
 |(.fq sz id 0 len,bv,_)::r,.zK szi ao::ts=>
  if ao.length=len/\sz=1/\bv=[id]then
   match eW nxt r ts with|some (w,k)=>some ((id,some (.nst szi (ao.map mT)))::w,k)|none=>none
  else none
 |(_,bv,_)::r,.uI::ts=>match eW nxt r ts with|some (w,k)=>some (bv.map (fun i=>(i,none))++w,k)|none=>none
 |_,_=>none
def yP:R->Bool
 |.c (.d (.lit _))=>true
 |.agg ts=>ts.all fun|.d (.lit _)=>true|_=>false
 |_=>false
def tX:List TV->TV
 |[v]=>v
 |vs=>.iS vs
def eH{α:Type}:List (Option α)->Option (List α)
 |[]=>some []
 |some x::r=>match eH r with|some xs=>some (x::xs)|none=>none
 |none::_=>none
def eM(h:bH):List (C×List Nat×List Nat)->Bool
 |[]=>true
 |(.fq _ id off len,_)::r=>(match aC h id with|some (.aM _ ao)=>off==0&&len==ao.length|some (.nst _ slots)=>off==0&&len==slots.length|_=>false)&&eM h r
 |_::r=>eM h r
def uJ(call:Call)(ro:Bool)(ke:List Bool)(f:Option TV)(vs:List (Option TV))(h:bH)(nxt:Nat):GK:=
 match(match f with|some (.c (.d (.fn f caps)))=>some (f,caps.map C.d)|some (.c (.oU f caps))=>some (f,caps)|_=>none),eH vs with
 |some (f,caps),some vs=>
  match gD h (vs++caps.map TV.c) ke with
  |none=>none
  |some (as,aD,lent)=>
   if eM h lent/\(lent.flatMap (·.2.1)).Nodup/\(lent.flatMap (·.2.1)).all (fun i=>!aD.contains i)then
    match call f as with
    |none=>none
    |some (rs,outs)=>
     if ro then
      if rs.all yP/\lent.isEmpty/\outs.isEmpty then
       let(vs,u,m):=iq nxt rs
       some (tX vs,u,aD,m)
      else none
     else
      match fh h aD aD with
      |none=>none
      |some fu=>
       match eW nxt lent outs with
       |none=>none
       |some (bu,m)=>
        let(vs,u,k):=iq m rs
        some (tX vs,u++bu++fu,aD++lent.flatMap (·.2.2),k)
   else none
 |_,_=>none
def qc:Nat->C->Option Bool
 |0,.d (.lit (.slice none 0 0))=>some true
 |0,.d (.sl _ _)|0,.fq _ _ _ _=>some false
 |1,.d (.lit (.pointer none))=>some true
 |1,.d (.pt _)|1,.ep _ _ _|1,.op _ _=>some false
 |2,.d (.lit .nilFunc)=>some true
 |2,.d (.fn _ _)|2,.oU _ _=>some false
 |_,_=>none
def zo:List C->Option (List D)
 |[]=>some []
 |.d x::r=>match zo r with|some l=>some (x::l)|none=>none
 |_=>none
abbrev tg:=List Value×List D×Nat
def m9(ks:List Kd)(key:List Value):List tg->Nat->Option (Option Nat)
 |[],_=>some none
 |e::r,i=>match gJ ks key e.1 with|some true=>some (some i)|some false=>m9 ks key r (i+1)|none=>none
def pm(va:Bool)(ds:List D):Option TV:=if va then some (.agg (ds.map .d))else match ds with|[x]=>some (.c (.d x))|_=>none
def LA:Kd->Value->Bool
 |.i q,.int k _=>decide (k=q)
 |.b,.bool _=>true
 |.s,.string _=>true
 |_,_=>false
def zN:List Kd->List Value->Bool
 |[],[]=>true
 |k::ks,x::xs=>LA k x&&zN ks xs
 |_,_=>false
def oW(ka:Bool)(ks:List Kd):TV->Option (List Value)
 |.agg cs=>if ka=true/\cs.length=ks.length then(match lP cs with|some l=>if zN ks l=true then some l else none|none=>none)else none
 |.c x=>if ka=false/\ks.length=1 then(match lP [x]with|some l=>if zN ks l=true then some l else none|none=>none)else none
 |.iS _=>none
def iA(ka:Bool)(ks:List Kd)(va:Bool)(zero:List Value)(ok:Bool)(m:C)(k:TV)(h:bH):Option (TV×List Nat):=
 match m,oW ka ks k with
 |.d (.lit (.map none)),some _=>match pm va (cF zero)with|some v=>some (if ok then .iS [v,lv (.bool false)]else v,[])|none=>none
 |.om id,some key=>
  match aC h id with
  |some (.map ka' va' es _)=>
   if ka'=ka/\va'=va then
    match m9 ks key es 0 with
    |some (some i)=>match pm va (es.getD i default).2.1 with|some v=>some (if ok then .iS [v,lv (.bool true)]else v,[id])|none=>none
    |some none=>match pm va (cF zero)with|some v=>some (if ok then .iS [v,lv (.bool false)]else v,[id])|none=>none
    |none=>none
   else none
  |_=>none
 |_,_=>none
def nf(ka:Bool)(ks:List Kd)(va:Bool)(zero:List Value)(m:C)(k:TV)(h:bH):Option (TV×fL×List Nat):=
 match m,oW ka ks k with
 |.om id,some key=>
  match aC h id with
  |some (.map ka' va' es fk)=>
   if ka'=ka/\va'=va then
    match m9 ks key es 0 with
    |some (some i)=>match pm va (es.getD i default).2.1 with|some v=>some (.iS [v,lv (.int .i64 (es.getD i default).2.2)],[(id,some (.map ka va es fk))],[id])|none=>none
    |some none=>match pm va (cF zero)with|some v=>some (.iS [v,lv (.int .i64 fk)],[(id,some (.map ka va (es++[(key,cF zero,fk)]) (fk+1)))],[id])|none=>none
    |none=>none
   else none
  |_=>none
 |_,_=>none
def xJ:TV->Bool
 |.agg _=>true
 |_=>false
def ng(va:Bool)(n:Nat)(m:C)(st:Option TV)(x:TV)(h:bH):Option (fL×List Nat):=
 match m,cE st,(cellsOf x).bind zo with
 |.om id,some s,some ds=>
  match aC h id with
  |some (.map ka va' es fk)=>
   if va'=va/\ds.length=n/\xJ x=va then
    match es.findIdx? (fun e=>decide ((e.2.2:Int)=s))with|some i=>some ([(id,some (.map ka va (es.set i ((es.getD i default).1,ds,(es.getD i default).2.2)) fk))],[id])|none=>none
   else none
  |_=>none
 |_,_,_=>none
def cQ(call:Call)(k:K)(vs:List (Option TV))(h:bH)(nxt:Nat):GK:=
 match k,vs with
 |.mv,[some x]=>some (x,[],[],nxt)
 |.pick,[some (.c (.d (.lit (.bool c)))),a,b]=>match(if c then a else b)with|some v=>some (v,[],[],nxt)|none=>none
 |.alloc zero,[]=>some (.c (.op nxt 0),[(nxt,some (.box (fB zero)))],[],nxt+1)
 |.box,[some x]=>match cellsOf x with|some cs=>some (.c (.op nxt 0),[(nxt,some (.box cs))],[],nxt+1)|none=>none
 |.build zero places,vs=>
  match eH vs with
  |some xs=>match m_ (fB zero) (places.zip xs)with|some cs=>some (.agg cs,[],[],nxt)|none=>none
  |none=>none
 |.buildSlice sz len zero places,vs=>
  match eH vs with
  |some xs=>
   match m_ (fB zero) ((places.map fun i=>(i*sz,sz)).zip xs)with
   |some cs=>
    match gp h cs with
    |some (ds,aD)=>match fh h aD aD with|some u=>some (.c (.fq sz nxt 0 len),(nxt,some (.aM sz (mz sz len ds)))::u,aD,nxt+1)|none=>none
    |none=>none
   |none=>none
  |none=>none
 |.load agg n,[some (.c p)]=>match ie agg n p h with|some (v,aD)=>some (v,[],aD,nxt)|none=>none
 |.ua,[some (.c p)]=>match ie false 1 p h with|some (v,aD)=>some (v,[],aD,nxt)|none=>lG false 1 p h nxt
 |.store n,[some (.c p),some v]=>match mn n p v h with|some (u,aD)=>some (.iS [],u,aD,nxt)|none=>none
 |.nilCheck,[some (.c x)]=>match x with|.d (.pt _)|.d (.fn _ _)|.ep _ _ _|.op _ _|.oU _ _=>some (.c x,[],[],nxt)|_=>none
 |.Ao op,[some (.c (.d (.lit x))),some (.c (.d (.lit y)))]=>match sg op x y with|some v=>some (lv v,[],[],nxt)|none=>none
 |.uK neg,[some (.c (.d (.lit (.bool x)))),some (.c (.d (.lit (.bool y))))]=>some (lv (.bool (if neg then !(x==y)else x==y)),[],[],nxt)
 |.qQ kind neg,[some (.c x)]=>match qc kind x with|some b=>some (lv (.bool (if neg then !b else b)),[],[],nxt)|none=>none
 |.zk neg ks,[some (.agg xs),some (.agg ys)]=>
  match lP xs,lP ys with
  |some xs,some ys=>match gJ ks xs ys with|some b=>some (lv (.bool (if neg then !b else b)),[],[],nxt)|none=>none
  |_,_=>none
 |.un op,[some (.c (.d (.lit x)))]=>match SN op x with|some v=>some (lv v,[],[],nxt)|none=>none
 |.vA k,[some (.c (.d (.lit (.int _ n))))]=>some (lv (.int k (k.wrap n)),[],[],nxt)
 |.sV,[some (.c (.d (.lit (.string s))))]=>some (lv (.string s),[],[],nxt)
 |.IY f,vs=>
  match eH vs with
  |some xs=>match eH (xs.map fun|.c c=>some c|_=>none)with|some cs=>some (.c (.oU f cs),[],[],nxt)|none=>none
  |none=>none
 |.makeSlice zero,[l,c]=>
  match cE l,cE c with
  |some l,some c=>
   if 0<=l/\l<=c/\c<=DN then
    some (.c (.fq zero.length nxt 0 l.toNat),[(nxt,some (.aM zero.length (az l.toNat (cF zero))))],[],nxt+1)
   else none
  |_,_=>none
 |.AU szi,[l,c]=>match cE l,cE c with|some l,some c=>if 0<=l/\l<=c/\c<=DN then some (.c (.fq 1 nxt 0 l.toNat),[(nxt,some (.nst szi (az l.toNat .nil)))],[],nxt+1)else none|_,_=>none
 |.slice str sz lo hi,some (.c x)::r=>
  match lo,hi,r with
  |false,false,[]=>match fU str sz x none none with|some y=>some (.c y,[],[],nxt)|none=>none
  |true,false,[l]=>match cE l with|some l=>(match fU str sz x (some l) none with|some y=>some (.c y,[],[],nxt)|none=>none)|none=>none
  |false,true,[u]=>match cE u with|some u=>(match fU str sz x none (some u)with|some y=>some (.c y,[],[],nxt)|none=>(match nW str sz x 0 u h with|some (y,aD)=>some (.c y,[],aD,nxt)|none=>none))|none=>none
  |true,true,[l,u]=>
   match cE l,cE u with
   |some l,some u=>match fU str sz x (some l) (some u)with|some y=>some (.c y,[],[],nxt)|none=>(match nW str sz x l u h with|some (y,aD)=>some (.c y,[],aD,nxt)|none=>none)
   |_,_=>none
  |_,_,_=>none
 |.BH sz,[some (.c x),l,u,m]=>
  match cE l,cE u,cE m with
  |some l,some u,some m=>match Mi sz x l u m nxt with|some y=>some (.c y,[],[],nxt+1)|none=>none
  |_,_,_=>none
 |.clear zero,[some (.c x)]=>match o_ zero x h with|some (u,aD)=>some (.iS [],u,aD,nxt)|none=>none
 |.fieldAddr off n,[some (.c x)]=>match kg off n x with|some y=>some (.c y,[],[],nxt)|none=>none
 |.field agg off n,[some (.agg cs)]=>match DR agg n (cs.drop off)with|some v=>some (v,[],[],nxt)|none=>none
 |.indexAddr aM sz,[some (.c x),i]=>
  match cE i with
  |some i=>match iL aM sz x i with|some y=>some (.c y,[],[],nxt)|none=>none
  |none=>none
 |.pD,[some (.c (.d (.lit (.string s)))),i]=>
  match cE i with
  |some i=>match(if 0<=i then s[i.toNat]?else none)with|some b=>some (lv (.int .u8 b.toNat),[],[],nxt)|none=>none
  |none=>none
 |.index agg len sz,[some (.agg cs),i]=>
  match cE i with
  |some i=>if 0<=i/\i<len then match DR agg sz (cs.drop (i.toNat*sz))with|some v=>some (v,[],[],nxt)|none=>none else none
  |none=>none
 |.extract i,[some (.iS xs)]=>match xs[i]?with|some v=>some (v,[],[],nxt)|none=>none
 |.len str,[some (.c x)]=>match ug str x with|some n=>some (lv (.int .i64 n),[],[],nxt)|none=>none
 |.uF m,some (.c (.d (.lit x)))::r=>match Ph m x r with|some v=>some (lv v,[],[],nxt)|none=>none
 |.append sz,[some (.c s),some (.c x)]=>oC sz s x h nxt
 |.copy sz,[some (.c d),some (.c s)]=>match my sz d s h with|some (i,u,aD)=>some (lv (.int .i64 i),u,aD,nxt)|none=>(match o9 sz d s h with|some (i,u,aD)=>some (lv (.int .i64 i),u,aD,nxt)|none=>none)
 |.MP,[some (.c x)]=>match zj x h with|some (n,aD)=>some (lv (.int .i64 n),[],aD,nxt)|none=>none
 |.SI zero,[some (.c x),some (.c (.d (.lit (.int _ k))))]=>Bb zero x k h nxt
 |.R1,[some (.c x),some (.c y)]=>match zi x y h with|some aD=>some (lv (.bool false),[],aD,nxt)|none=>none
 |.call ro ke,f::vs=>uJ call ro ke f vs h nxt
 |.makeMap ka va,[]=>some (.c (.om nxt),[(nxt,some (.map ka va [] 0))],[],nxt+1)
 |.lookup ka ks va zero ok,[some (.c m),some k]=>match iA ka ks va zero ok m k h with|some (v,aD)=>some (v,[],aD,nxt)|none=>none
 |.mapEntry ka ks va zero,[some (.c m),some k]=>match nf ka ks va zero m k h with|some (v,u,aD)=>some (v,u,aD,nxt)|none=>none
 |.entryStore va n,[some (.c m),s,some x]=>match ng va n m s x h with|some (u,aD)=>some (.iS [],u,aD,nxt)|none=>none
 |_,_=>none
def kw(e:jM):Option (Nat×Bool)->Option Bool
 |none=>some true
 |some (t,b)=>match cA e t with|some (.c (.d (.lit (.bool x))))=>some (x==b)|some (.iS [])=>some false|_=>none
def put(e:jM)(dst:Option Nat)(v:TV):jM:=match dst with|some d=>(d,v)::e|none=>e
def drop(e:jM)(dst:Option Nat):jM:=put e dst (.iS [])
def iV:Nat:=1000000
def nh(calls:Nat->Call)(aR:Nat):List og->Nat->jM->bH->Option (jM×bH×List (List Nat×List Nat))
 |[],_,e,h=>some (e,h,[])
 |o::r,i,e,h=>
  match kw e o.guard with
  |some true=>
   match cQ (calls i) o.k (o.args.map (kR e)) h (aR+iV*i)with
   |some (v,u,aD,n)=>
    if n<=aR+iV*(i+1)then
     match nh calls aR r (i+1) (put e o.dst v) (u++h)with|some (e,h,tr)=>some (e,h,(aD,u.map (·.1))::tr)|none=>none
    else none
   |none=>none
  |some false=>match nh calls aR r (i+1) (drop e o.dst) h with|some (e,h,tr)=>some (e,h,([],[])::tr)|none=>none
  |none=>none
def me(a b:List Nat×List Nat):Bool:=a.2.all (fun i=>!b.1.contains i&&!b.2.contains i)&&b.2.all (fun i=>!a.1.contains i)
def E9(tr:List (List Nat×List Nat))(i j:Nat):Bool:=
 match tr[i]?,tr[j]?with
 |some a,some b=>me a b||(match a with|([id],[])=>((tr.take j).drop (i+1)).all (fun x=>!x.2.contains id)|_=>false)
 |_,_=>true
def Be(tr:List (List Nat×List Nat))(dyn:List (Nat×Nat)):Bool:=dyn.all fun(i,j)=>if 1000<=j then E9 tr i (j-1000)else match tr[i]?,tr[j]?with|some a,some b=>me a b|_,_=>true
def eQ:C->List Nat
 |.d _=>[]
 |.fq _ id _ _|.ep id _ _|.op id _|.om id=>[id]
 |.oU _ caps=>mO caps
where mO:List C->List Nat
 |[]=>[]
 |c::r=>eQ c++mO r
def l_:TV->List Nat
 |.c x=>eQ x
 |.agg cs=>eQ.mO cs
 |.iS xs=>Ae xs
where Ae:List TV->List Nat
 |[]=>[]
 |x::r=>l_ x++Ae r
inductive RV where
 |tmp (t:Nat)
 |cell (t:Nat) (agg:Bool) (n:Nat)
 deriving Inhabited
def enter:List A->Nat->Nat->jM×bH×Nat×List C
 |[],_,n=>([],[],n,[])
 |.d x::r,i,n=>let(e,h,m,l):=enter r (i+1) n;((i,.c (.d x))::e,h,m,l)
 |.agg xs::r,i,n=>let(e,h,m,l):=enter r (i+1) n;((i,.agg (xs.map .d))::e,h,m,l)
 |.mt t::r,i,n=>let(c,u,k):=k8 n t;let(e,h,m,l):=enter r (i+1) k;((i,.c c)::e,u++h,m,c::l)
def wZ(s:St):RV->Option TV
 |.tmp t=>cA s.dT t
 |.cell t agg n=>match cA s.dT t with|some (.c p)=>(match ie agg n p s.heap with|some (v,_)=>some v|none=>none)|_=>none
def rR(h:bH):TV->Option (R×List Nat)
 |.c c=>match eK h 300 c with|some (t,aD,_)=>some (.c t,aD)|none=>none
 |.agg cs=>match iJ h 300 cs with|some (ts,aD,_)=>some (.agg ts,aD)|none=>none
 |.iS _=>none
def uD(h:bH):List TV->Option (List R×List Nat)
 |[]=>some ([],[])
 |v::vs=>match rR h v,uD h vs with|some (r,a),some (rs,b)=>some (r::rs,a++b)|_,_=>none
structure Fn where
 np:Nat
 ntmps:Nat
 kJ:List RV
 body:CC
 deriving Inhabited
inductive RD(S:Nat->Prop)(w:World):D->Value->Prop
 |lit {v:Value} (h:ed v=true):RD S w (.lit v) v
 |sl {sz:Nat} {ao:List (List D)} {b off cap:Nat} (f:Nat->Nat->Value) (hb:S b) (hsz:0<sz) (hcap:ao.length<=cap)
   (hrow:∀(i:Nat)(r:List D),ao[i]?=some r->r.length=sz)
   (hcell:∀(i:Nat)(r:List D),ao[i]?=some r->∀(j:Nat)(x:D),r[j]?=some x->w.cell? ⟨b,off+i*sz+j,none⟩=some (f i j))
   (hrd:∀(i:Nat)(r:List D),ao[i]?=some r->∀(j:Nat)(x:D),r[j]?=some x->RD S w x (f i j)):
   RD S w (.sl sz ao) (.slice (some ⟨b,off,none⟩) ao.length cap)
 |tu {sz:Nat} {a:Addr} (hsz:0<sz):RD S w (.sl sz []) (.slice (some a) 0 0)
 |pt {cells:List D} {b off:Nat} (f:Nat->Value) (hb:S b)
   (hcell:∀(j:Nat)(x:D),cells[j]?=some x->w.cell? ⟨b,off+j,none⟩=some (f j))
   (hrd:∀(j:Nat)(x:D),cells[j]?=some x->RD S w x (f j)):
   RD S w (.pt cells) (.pointer (some ⟨b,off,none⟩))
 |fn {g:FuncId} {caps:List D} {vs:Array Value} (hlen:caps.length=vs.size)
   (hrd:∀(j:Nat)(x:D),caps[j]?=some x->RD S w x (vs.getD j undef)):
   RD S w (.fn g caps) (.func (.func g) #[] vs)
structure g_(S:Nat->Prop)(w:World)(S':Nat->Prop)(w':World):Prop where
 sub:∀b,S b->S' b
 eu:∀b,S b->w'.heap[b]?=w.heap[b]?
theorem g_.refl(S:Nat->Prop)(w:World):g_ S w S w:=⟨fun _ h=>h,fun _ _=>rfl⟩
theorem g_.trans{S S' S'':Nat->Prop}{w w' w'':World}(a:g_ S w S' w')(b:g_ S' w' S'' w''):g_ S w S'' w'':=⟨fun x h=>b.sub x (a.sub x h),fun x h=>(b.eu x (a.sub x h)).trans (a.eu x h)⟩
theorem mA{w w':World}{b:Nat}(h:w'.heap[b]?=w.heap[b]?)(off:Nat):w'.cell? ⟨b,off,none⟩=w.cell? ⟨b,off,none⟩:=by simp[World.cell?,h]
theorem RD.mono{S S':Nat->Prop}{w w':World}(hs:g_ S w S' w'){x:D}{v:Value}(h:RD S w x v):RD S' w' x v:=by induction h with|lit h=>exact .lit h|sl f hb hsz hcap hrow hcell hrd ih=>exact .sl f (hs.sub _ hb) hsz hcap hrow (fun i r hi j x hj=>(mA (hs.eu _ hb) _).trans (hcell i r hi j x hj)) ih|tu h=>exact .tu h|pt f hb hcell hrd ih=>exact .pt f (hs.sub _ hb) (fun j x hj=>(mA (hs.eu _ hb) _).trans (hcell j x hj)) ih|fn hlen hrd ih=>exact .fn hlen ih
structure gO where
 bY:Nat
 aR:Nat
 sz:Nat
 ext:Nat
 cap:Nat
 deriving Inhabited
inductive RC(S:Nat->Prop)(w:World)(Kn:Nat->Prop)(φ:Nat->gO):C->Value->Prop
 |d {x:D} {v:Value} (h:RD S w x v):RC S w Kn φ (.d x) v
 |fq {id off len cap addr:Nat} (hk:Kn id) (hcap:len<=cap) (haddr:0<cap->addr=(φ id).aR+off*(φ id).sz) (hext:addr+cap*(φ id).sz<=(φ id).ext) (hc:off+cap=(φ id).cap):
   RC S w Kn φ (.fq (φ id).sz id off len) (.slice (some ⟨(φ id).bY,addr,none⟩) len cap)
 |ep {id dj off:Nat} (hk:Kn id):RC S w Kn φ (.ep id dj off) (.pointer (some ⟨(φ id).bY,(φ id).aR+dj*(φ id).sz+off,none⟩))
 |op {id off:Nat} (hk:Kn id):RC S w Kn φ (.op id off) (.pointer (some ⟨(φ id).bY,(φ id).aR+off,none⟩))
 |oU {g:FuncId} {caps:List C} {vs:Array Value} (hlen:caps.length=vs.size)
   (hrc:∀(j:Nat)(x:C),caps[j]?=some x->RC S w Kn φ x (vs.getD j undef)):
   RC S w Kn φ (.oU g caps) (.func (.func g) #[] vs)
 |om {id:Nat} (hk:Kn id):RC S w Kn φ (.om id) (.map (some (φ id).bY))
structure Ren(Kn:Nat->Prop)(φ:Nat->gO)(Kn':Nat->Prop)(φ':Nat->gO):Prop where
 sub:∀i,Kn i->Kn' i
 eu:∀i,Kn i->φ' i=φ i
theorem Ren.refl(Kn:Nat->Prop)(φ:Nat->gO):Ren Kn φ Kn φ:=⟨fun _ h=>h,fun _ _=>rfl⟩
theorem RC.mono{S S':Nat->Prop}{w w':World}{Kn Kn':Nat->Prop}{φ φ':Nat->gO}(hs:g_ S w S' w')(hr:Ren Kn φ Kn' φ'){x:C}{v:Value}
  (h:RC S w Kn φ x v):RC S' w' Kn' φ' x v:=by
 induction h with|d h=>exact .d (h.mono hs)|fq hk hcap haddr hext hc=>rw[<-hr.eu _ hk]at hext haddr hc|-;exact .fq (hr.sub _ hk) hcap haddr hext hc|ep hk=>rw[<-hr.eu _ hk];exact .ep (hr.sub _ hk)|op hk=>rw[<-hr.eu _ hk];exact .op (hr.sub _ hk)|oU hlen hrc ih=>exact .oU hlen ih|om hk=>rw[<-hr.eu _ hk];exact .om (hr.sub _ hk)
inductive gm(S:Nat->Prop)(w:World)(Kn:Nat->Prop)(φ:Nat->gO):TV->Value->Prop
 |c {x:C} {v:Value} (h:RC S w Kn φ x v):gm S w Kn φ (.c x) v
 |agg {cs:List C} {aM:Array Value} (hlen:cs.length=aM.size) (h:∀(i:Nat)(x:C),cs[i]?=some x->RC S w Kn φ x (aM.getD i undef)):gm S w Kn φ (.agg cs) (.agg aM)
 |iS {xs:List TV} {aM:Array Value} (hlen:xs.length=aM.size) (h:∀(i:Nat)(x:TV),xs[i]?=some x->gm S w Kn φ x (aM.getD i undef)):gm S w Kn φ (.iS xs) (.tuple aM)
theorem gm.mono{S S':Nat->Prop}{w w':World}{Kn Kn':Nat->Prop}{φ φ':Nat->gO}(hs:g_ S w S' w')(hr:Ren Kn φ Kn' φ'){x:TV}{v:Value}
  (h:gm S w Kn φ x v):gm S' w' Kn' φ' x v:=by
 induction h with|c h=>exact .c (h.mono hs hr)|agg hlen h=>exact .agg hlen fun i x hi=>(h i x hi).mono hs hr|iS hlen h ih=>exact .iS hlen ih
def one:Value->Bool
 |.agg _|.tuple _=>false
 |_=>true
theorem vf{v:Value}(h:ed v=true):one v=true:=by cases v<;>simp_all[ed,one]
theorem RD.one{S:Nat->Prop}{w:World}{x:D}{v:Value}(h:RD S w x v):one v=true:=by cases h with|lit h=>exact vf h|_=>rfl
theorem RC.one{S:Nat->Prop}{w:World}{Kn:Nat->Prop}{φ:Nat->gO}{x:C}{v:Value}(h:RC S w Kn φ x v):one v=true:=by cases h with|d h=>exact h.one|_=>rfl
theorem vC{v:Value}(h:one v=true):v.cells= #[v]:=by cases v<;>simp_all[Ev.one,Value.cells]
def nn(w:World)(b:Nat)(aM:Array Value):Prop:=∃t,w.heap[b]?=some (.cells aM t (0,0))
theorem nn.cell{w:World}{b:Nat}{aM:Array Value}(h:nn w b aM)(i:Nat):w.cell? ⟨b,i,none⟩=aM[i]?:=by obtain⟨t,h⟩:=h;simp[World.cell?,h]
theorem nn.lt{w:World}{b:Nat}{aM:Array Value}(h:nn w b aM):b<w.heap.size:=by obtain⟨t,h⟩:=h;exact(bh.1 h).1
theorem nn.frozen{w:World}{b:Nat}{aM:Array Value}(h:nn w b aM)(i:Nat)(s:Option Nat):w.frozen? ⟨b,i,s⟩=false:=by obtain⟨t,h⟩:=h;simp[World.frozen?,h]
theorem nn.ml{w w':World}{b:Nat}{aM:Array Value}(h:nn w b aM)(hs:w'.heap[b]?=w.heap[b]?):nn w' b aM:=by obtain⟨t,h⟩:=h;exact⟨t,hs.trans h⟩
def cW(S:Nat->Prop)(w:World)(sz:Nat)(get:Nat->Option Value)(aR:Nat)(ao:List (List D)):Prop:=
 (∀(i:Nat)(r:List D),ao[i]?=some r->r.length=sz)/\
 ∀(i:Nat)(r:List D),ao[i]?=some r->∀(j:Nat)(x:D),r[j]?=some x->∃v,get (aR+i*sz+j)=some v/\RD S w x v
def cX:Ob->Bool
 |.aM _ _|.box _|.map _ _ _ _|.cap _ _ _|.nst _ _=>true
 |_=>false
def HS(S:Nat->Prop)(w:World)(sz:Nat)(ao:List (List D))(v:Value)(b:Nat):Prop:=∃(addr cap:Nat)(aM:Array Value),v=.slice (some ⟨b,addr,none⟩) ao.length cap/\0<sz/\nn w b aM/\ao.length<=cap/\addr+cap*sz<=aM.size/\cW S w sz (fun i=>aM[i]?) addr ao
inductive zG(S K:Nat->Prop)(w:World)(Kn:Nat->Prop)(φ:Nat->gO)(sz:Nat):kZ->Value->Prop
 |nil:zG S K w Kn φ sz .nil (.slice none 0 0)
 |bv {ao:List (List D)} {v:Value} {b:Nat} (h:HS S w sz ao v b) (hS:¬S b) (hK:¬K b):zG S K w Kn φ sz (.bv ao) v
 |dY {id len:Nat} {v:Value} (h:RC S w Kn φ (.fq sz id 0 len) v):zG S K w Kn φ sz (.dY id len) v
def xx:Value->Option Nat
 |.slice (some a) _ _=>some a.block
 |_=>none
def rY(w:World)(l:gO)(slots:List kZ)(k x:Nat):Prop:=∃ao v,slots[k]?=some (.bv ao)/\w.cell? ⟨l.bY,l.aR+k,none⟩=some v/\xx v=some x
def JW(ka:Bool)(k:List Value)(v:Value):Prop:=(∀x∈k,ed x=true)/\if ka then v=.agg k.toArray else k=[v]
def wQ(S:Nat->Prop)(w:World)(va:Bool)(ds:List D)(v:Value):Prop:=if va then∃aM:Array Value,v=.agg aM/\ds.length=aM.size/\∀(i:Nat)(x:D),ds[i]?=some x->RD S w x (aM.getD i undef)else∃x,ds=[x]/\RD S w x v
theorem wQ.mono{S S':Nat->Prop}{w w':World}(hs:g_ S w S' w'){va:Bool}{ds:List D}{v:Value}(h:wQ S w va ds v):wQ S' w' va ds v:=by
 unfold wQ at h|-;split
 .rename_i hv;rw[if_pos hv]at h;obtain⟨aM,h1,h2,h3⟩:=h;exact⟨aM,h1,h2,fun i x hi=>(h3 i x hi).mono hs⟩
 .rename_i hv;rw[if_neg hv]at h;obtain⟨x,h1,h2⟩:=h;exact⟨x,h1,h2.mono hs⟩
inductive RO(S:Nat->Prop)(K:Nat->Prop)(w:World)(Kn:Nat->Prop)(φ:Nat->gO)(l:gO):Ob->Prop
 |aM {sz:Nat} {ao:List (List D)} {aM:Array Value} (hsz:0<sz) (hl:l.sz=sz) (hS:¬S l.bY) (hK:¬K l.bY) (ho:nn w l.bY aM) (hext:aM.size=l.ext)
   (hfit:l.aR+ao.length*sz<=l.ext) (hr:cW S w sz (fun i=>aM[i]?) l.aR ao) (hv:ao.length<=l.cap):RO S K w Kn φ l (.aM sz ao)
 |qK {sz:Nat} {ao:List (List D)} (hsz:0<sz) (hl:l.sz=sz) (hS:S l.bY)
   (hr:cW S w sz (fun i=>w.cell? ⟨l.bY,i,none⟩) l.aR ao):RO S K w Kn φ l (.qK sz ao)
 |box {cells:List C} {aM:Array Value} (hb:l.aR=0) (hS:¬S l.bY) (hK:¬K l.bY) (ho:nn w l.bY aM) (hlen:cells.length=aM.size)
   (hr:∀(i:Nat)(x:C),cells[i]?=some x->RC S w Kn φ x (aM.getD i undef)):RO S K w Kn φ l (.box cells)
 |o8 {cells:List D} (hb:l.aR=0) (hS:S l.bY)
   (hr:∀(i:Nat)(x:D),cells[i]?=some x->∃v,w.cell? ⟨l.bY,i,none⟩=some v/\RD S w x v):RO S K w Kn φ l (.o8 cells)
 |map {ka va:Bool} {es:List (List Value×List D×Nat)} {fk:Nat} {ms:Array MapEntry} (hS:¬S l.bY) (hK:¬K l.bY) (ho:w.heap[l.bY]?=some (.map ms fk)) (hlen:es.length=ms.size)
   (hr:∀(i:Nat)(e:List Value×List D×Nat)(m:MapEntry),es[i]?=some e->ms[i]?=some m->JW ka e.1 m.key/\wQ S w va e.2.1 m.val/\m.born=e.2.2):RO S K w Kn φ l (.map ka va es fk)
 |cap {sz:Nat} {ao:List (List D)} {cp:Nat} {aM:Array Value} (hsz:0<sz) (hl:l.sz=sz) (hS:¬S l.bY) (hK:¬K l.bY) (ho:nn w l.bY aM) (hext:aM.size=l.ext)
   (hfit:l.aR+cp*sz<=l.ext) (hr:cW S w sz (fun i=>aM[i]?) l.aR ao) (hv:ao.length<=cp) (hc:l.cap=cp):RO S K w Kn φ l (.cap sz ao cp)
 |nst {sz:Nat} {slots:List kZ} {aM:Array Value} (hsz:0<sz) (hl:l.sz=1) (hS:¬S l.bY) (hK:¬K l.bY) (ho:nn w l.bY aM) (hext:aM.size=l.ext)
   (hfit:l.aR+slots.length<=l.ext) (hr:∀(i:Nat)(s:kZ),slots[i]?=some s->∃v,aM[l.aR+i]?=some v/\zG S K w Kn φ sz s v) (hv:slots.length<=l.cap):RO S K w Kn φ l (.nst sz slots)
theorem cW.mono{S S':Nat->Prop}{w w':World}(hs:g_ S w S' w'){sz aR:Nat}{get:Nat->Option Value}{ao:List (List D)}(h:cW S w sz get aR ao):
  cW S' w' sz get aR ao:=
 ⟨h.1,fun i r hi j x hj=>let⟨v,hg,hr⟩:=h.2 i r hi j x hj;⟨v,hg,hr.mono hs⟩⟩
def Rp(S':Nat->Prop)(w w':World)(l:gO)(o:Ob):Prop:=∀sz slots,o=.nst sz slots->∀k x,rY w l slots k x->w'.heap[x]?=w.heap[x]?/\¬S' x
theorem HS.mono{S S':Nat->Prop}{w w':World}(hs:g_ S w S' w'){sz b:Nat}{ao:List (List D)}{v:Value}(hb:w'.heap[b]?=w.heap[b]?)(h:HS S w sz ao v b):HS S' w' sz ao v b:=by obtain⟨a,c,aM,h1,h2,h3,h4,h5,h6⟩:=h;exact⟨a,c,aM,h1,h2,h3.ml hb,h4,h5,h6.mono hs⟩
theorem HS.bY{S:Nat->Prop}{w:World}{sz b:Nat}{ao:List (List D)}{v:Value}(h:HS S w sz ao v b):xx v=some b:=by obtain⟨a,c,aM,rfl,_⟩:=h;rfl
theorem HS.bv{S:Nat->Prop}{w:World}{sz b:Nat}{ao:List (List D)}{v:Value}(h:HS S w sz ao v b):∃aM,nn w b aM:=by obtain⟨a,c,aM,_,_,h,_⟩:=h;exact⟨aM,h⟩
theorem RO.mono{S S' K:Nat->Prop}{w w':World}{Kn Kn':Nat->Prop}{φ φ':Nat->gO}{l:gO}(hs:g_ S w S' w')(hr:Ren Kn φ Kn' φ'){o:Ob}
  (hsame:cX o=true->w'.heap[l.bY]?=w.heap[l.bY]?/\¬S' l.bY) (hkp:Rp S' w w' l o) (h:RO S K w Kn φ l o):RO S' K w' Kn' φ' l o:=by
 cases h with
 |aM hsz hl hS hK ho hext hfit hrr hv=>exact .aM hsz hl (hsame rfl).2 hK (ho.ml (hsame rfl).1) hext hfit (hrr.mono hs) hv
 |qK hsz hl hS hrr=>refine .qK hsz hl (hs.sub _ hS) ⟨hrr.1,fun i r hi j x hj=>?_⟩;obtain⟨v,hg,h⟩:=hrr.2 i r hi j x hj;exact⟨v,(mA (hs.eu _ hS) _).trans hg,h.mono hs⟩
 |box hb hS hK ho hlen hrr=>exact .box hb (hsame rfl).2 hK (ho.ml (hsame rfl).1) hlen fun i x hi=>(hrr i x hi).mono hs hr
 |o8 hb hS hrr=>refine .o8 hb (hs.sub _ hS) fun i x hi=>?_;obtain⟨v,hg,h⟩:=hrr i x hi;exact⟨v,(mA (hs.eu _ hS) _).trans hg,h.mono hs⟩
 |map hS hK ho hlen hrr=>exact .map (hsame rfl).2 hK ((hsame rfl).1.trans ho) hlen fun i e m hi hm=>let⟨h1,h2,h3⟩:=hrr i e m hi hm;⟨h1,h2.mono hs,h3⟩
 |cap hsz hl hS hK ho hext hfit hrr hv hc=>exact .cap hsz hl (hsame rfl).2 hK (ho.ml (hsame rfl).1) hext hfit (hrr.mono hs) hv hc
 |nst hsz hl hS hK ho hext hfit hrr hv=>refine .nst hsz hl (hsame rfl).2 hK (ho.ml (hsame rfl).1) hext hfit (fun i s hi=>?_) hv;obtain⟨v,h1,h2⟩:=hrr i s hi;refine⟨v,h1,?_⟩;cases h2 with|nil=>exact .nil|@bv ao _ b h hS hK=>obtain⟨k1,k2⟩:=hkp _ _ rfl i b ⟨ao,v,hi,(ho.cell _).trans h1,h.bY⟩;exact .bv (h.mono hs k1) k2 hK|dY h=>exact .dY (h.mono hs hr)
def Io(w0 w:World):Prop:=w.os=w0.os/\w.output=w0.output/\w.tape=w0.tape/\w0.drawn<=w.drawn
theorem Io.trans{a b c:World}(h:Io a b)(h2:Io b c):Io a c:=⟨h2.1.trans h.1,h2.2.1.trans h.2.1,h2.2.2.1.trans h.2.2.1,fc h.2.2.2 h2.2.2.2⟩
theorem Io.refl(w:World):Io w w:=⟨rfl,rfl,rfl,au _⟩
structure GN(K:Nat->Prop)(w0 w:World):Prop where
 FY:∀b,K b->b<w0.heap.size
 m6:∀b,K b->w.heap[b]?=w0.heap[b]?
 grow:w0.heap.size<=w.heap.size
 A4:∀a,a.block<w0.heap.size->w.frozen? a=w0.frozen? a
 bv:∀b aM,nn w0 b aM->∃arr',nn w b arr'/\arr'.size=aM.size
 io:Io w0 w
def uQ(S:Nat->Prop)(w:World):Prop:=∀g d,QC g=some d->RD S w d (.pointer (some ⟨g,0,none⟩))
theorem uQ.mono{S S':Nat->Prop}{w w':World}(h:uQ S w)(hs:g_ S w S' w'):uQ S' w':=fun g d hg=>(h g d hg).mono hs
def UV(w:World)(φ:Nat->gO)(hf:Nat->Option Ob):Prop:=∀i sz sl k x,hf i=some (.nst sz sl)->rY w (φ i) sl k x->
 (∀j b,hf j=some b->cX b=true->(φ j).bY≠x)/\∀j sz' sl' k',hf j=some (.nst sz' sl')->rY w (φ j) sl' k' x->j=i/\k'=k
structure Inv(S K:Nat->Prop)(w0:World)(Kn:Nat->Prop)(φ:Nat->gO)(hf:Nat->Option Ob)(w:World):Prop where
 uS:∀b,S b->b<w.heap.size
 sk:∀b,S b->¬K b
 nw:GN K w0 w
 iQ:∀id o,hf id=some o->Kn id/\RO S K w Kn φ (φ id) o
 eL:∀i j a b,hf i=some a->hf j=some b->cX a=true->cX b=true->i≠j->(φ i).bY≠(φ j).bY
 B7:uQ S w
 w6:UV w φ hf
def bl(u:fL)(hf:Nat->Option Ob)(id:Nat):Option Ob:=match cA u id with|some o=>o|none=>hf id
theorem iX{α:Type}(a b:List (Nat×α))(k:Nat):cA (a++b) k=match cA a k with|some x=>some x|none=>cA b k:=by induction a with|nil=>rfl|cons p r ih=>obtain⟨i,x⟩:=p;simp only[List.cons_append,cA];cases h:(i==k)<;>simp[ih]
theorem gK(u:fL)(h:bH):aC (u++h)=bl u (aC h):=by funext id;simp only[aC,bl,iX];cases cA u id<;>simp
theorem fM(hf:Nat->Option Ob):bl [] hf=hf:=rfl
theorem bT(i:Nat)(o:Option Ob)(u:fL)(hf:Nat->Option Ob)(id:Nat):bl ((i,o)::u) hf id=if i=id then o else bl u hf id:=by
 simp only[bl,cA];by_cases h:i=id
 .simp [h]
 .have e:(i==id)=false:=by simpa using h
  simp[h,e]
theorem ew(u v:fL)(hf:Nat->Option Ob):bl (u++v) hf=bl u (bl v hf):=by funext id;simp only[bl,iX];cases cA u id<;>simp
theorem Inv.uW{S S' K:Nat->Prop}{w0 w w':World}{Kn Kn':Nat->Prop}{φ φ':Nat->gO}{hf hf':Nat->Option Ob}(h:Inv S K w0 Kn φ hf w)
  (hs:g_ S w S' w') (hr:Ren Kn φ Kn' φ') (hslt:∀b,S' b->b<w'.heap.size) (hsk:∀b,S' b->¬K b) (hfrm:GN K w0 w')
  (hobj:∀id o,hf' id=some o->(hf id=some o/\(cX o=true->w'.heap[(φ id).bY]?=w.heap[(φ id).bY]?/\¬S' (φ id).bY)/\Rp S' w w' (φ id) o)\/(Kn' id/\RO S' K w' Kn' φ' (φ' id) o))
  (hdist:∀i j a b,hf' i=some a->hf' j=some b->cX a=true->cX b=true->i≠j->(φ' i).bY≠(φ' j).bY) (hprv:UV w' φ' hf'):
  Inv S' K w0 Kn' φ' hf' w' where
 uS:=hslt
 sk:=hsk
 nw:=hfrm
 eL:=hdist
 B7:=h.B7.mono hs
 w6:=hprv
 iQ id o ho:=by
  rcases hobj id o ho with⟨h1,h2,h3⟩|h1
  .obtain ⟨hk,hro⟩:=h.iQ id o h1;refine⟨hr.sub _ hk,?_⟩;rw[hr.eu _ hk];exact hro.mono hs hr h2 h3
  .exact h1
theorem rY.eu{w w':World}{l:gO}{sl:List kZ}{k x:Nat}(h:w'.heap[l.bY]?=w.heap[l.bY]?):rY w' l sl k x<->rY w l sl k x:=by unfold rY;rw[show∀i,w'.cell? ⟨l.bY,i,none⟩=w.cell? ⟨l.bY,i,none⟩from fun i=>mA h i]
theorem RO.IA{S K:Nat->Prop}{w:World}{Kn:Nat->Prop}{φ:Nat->gO}{l:gO}{sz:Nat}{sl:List kZ}{k x:Nat}(h:RO S K w Kn φ l (.nst sz sl))(hp:rY w l sl k x):
  ¬S x/\¬K x/\x<w.heap.size/\∃ao v,sl[k]?=some (.bv ao)/\w.cell? ⟨l.bY,l.aR+k,none⟩=some v/\HS S w sz ao v x:=by
 cases h with
 |nst hsz hl hS hK ho hext hfit hr hv=>
  obtain⟨ao,v,h1,h2,h3⟩:=hp;obtain⟨v',h4,h5⟩:=hr k _ h1;obtain rfl:v'=v:=by rw[ho.cell,h4]at h2;exact aa h2
  cases h5 with
  |@bv _ _ b h6 hS hK=>
   obtain rfl:b=x:=by rw[h6.bY]at h3;exact aa h3
   obtain⟨aM,h7⟩:=h6.bv;exact⟨hS,hK,h7.lt,ao,v',h1,h2,h6⟩
theorem Inv.IA{S K:Nat->Prop}{w0 w:World}{Kn:Nat->Prop}{φ:Nat->gO}{hf:Nat->Option Ob}(h:Inv S K w0 Kn φ hf w){i sz k x:Nat}{sl:List kZ}(hi:hf i=some (.nst sz sl))(hp:rY w (φ i) sl k x):
  ¬S x/\¬K x/\x<w.heap.size/\∃ao v,sl[k]?=some (.bv ao)/\w.cell? ⟨(φ i).bY,(φ i).aR+k,none⟩=some v/\HS S w sz ao v x:=(h.iQ i _ hi).2.IA hp
def Ro(S':Nat->Prop)(w w':World)(φ φ':Nat->gO)(hf hf':Nat->Option Ob):Prop:=∀id sz sl,hf' id=some (.nst sz sl)->hf id=some (.nst sz sl)/\w'.heap[(φ id).bY]?=w.heap[(φ id).bY]?/\
 ∀k x,rY w (φ id) sl k x->w'.heap[x]?=w.heap[x]?/\¬S' x/\∀j b,hf' j=some b->cX b=true->(φ' j).bY≠x
theorem Inv.kI{S S' K:Nat->Prop}{w0 w w':World}{Kn Kn':Nat->Prop}{φ φ':Nat->gO}{hf hf':Nat->Option Ob}(h:Inv S K w0 Kn φ hf w)
  (hs:g_ S w S' w') (hr:Ren Kn φ Kn' φ') (hslt:∀b,S' b->b<w'.heap.size) (hsk:∀b,S' b->¬K b) (hfrm:GN K w0 w')
  (hobj:∀id o,hf' id=some o->(hf id=some o/\(cX o=true->w'.heap[(φ id).bY]?=w.heap[(φ id).bY]?/\¬S' (φ id).bY))\/(Kn' id/\RO S' K w' Kn' φ' (φ' id) o))
  (hdist:∀i j a b,hf' i=some a->hf' j=some b->cX a=true->cX b=true->i≠j->(φ' i).bY≠(φ' j).bY) (hrest:Ro S' w w' φ φ' hf hf'):
  Inv S' K w0 Kn' φ' hf' w':=by
 have e:∀id sz sl,hf' id=some (.nst sz sl)->φ' id=φ id:=fun id sz sl hi=>hr.eu _ (h.iQ id _ (hrest id sz sl hi).1).1;have hpat:∀id sz sl k x,hf' id=some (.nst sz sl)->rY w' (φ' id) sl k x->rY w (φ id) sl k x:=fun id sz sl k x hi hp=>by rw[e id sz sl hi]at hp;exact(rY.eu (hrest id sz sl hi).2.1).1 hp
 refine h.uW hs hr hslt hsk hfrm (fun id o ho=>?_) hdist fun i sz sl k x hi hp=>?_
 .rcases hobj id o ho with⟨h1,h2⟩|h1
  .exact .inl ⟨h1,h2,fun sz sl eo k x hp=>by subst eo;obtain⟨a,b,_⟩:=(hrest id sz sl ho).2.2 k x hp;exact⟨a,b⟩⟩
  .exact .inr h1
 .have hp':=hpat i sz sl k x hi hp;refine⟨((hrest i sz sl hi).2.2 k x hp').2.2,fun j sz' sl' k' hj hpj=>?_⟩;exact(h.w6 i sz sl k x (hrest i sz sl hi).1 hp').2 j sz' sl' k' (hrest j sz' sl' hj).1 (hpat j sz' sl' k' x hj hpj)
theorem iN{w:World}{o:Obj}{b:Nat}(h:b<w.heap.size):({w with heap:=w.heap.push o}:World).heap[b]?=w.heap[b]?:=by simp[Array.getElem?_push,Nat.ne_of_lt h]
theorem Dj(w:World)(aM:Array Value)(t:TypeId):nn {w with heap:=w.heap.push (.cells aM t)} w.heap.size aM:=⟨t,by simp⟩
theorem D1(w:World)(aM:Array Value)(t:TypeId)(a:Addr):({w with heap:=w.heap.push (.cells aM t)}:World).frozen? a=w.frozen? a:=by
 unfold World.frozen?;rcases nr a.block w.heap.size with h|h|h
 .rw [iN h]
 .simp [h]
 .rw [fK (by simp;omega),fK (by omega)]
theorem GN.push{K:Nat->Prop}{w0 w:World}(h:GN K w0 w)(aM:Array Value)(t:TypeId):GN K w0 {w with heap:=w.heap.push (.cells aM t)}where
 FY:=h.FY
 m6 b hb:=(iN (cn (h.FY b hb) h.grow)).trans (h.m6 b hb)
 grow:=by have:=h.grow;simp;omega
 A4 a ha:=(D1 w aM t a).trans (h.A4 a ha)
 bv b a ha:=let⟨a',h1,h2⟩:=h.bv b a ha;⟨a',h1.ml (iN h1.lt),h2⟩
 io:=h.io
theorem GN.yz{K:Nat->Prop}{w0 w w':World}(h:GN K w0 w){c:Nat}(hother:∀b,b≠c->w'.heap[b]?=w.heap[b]?)
  (hsz:∀aM,nn w c aM->∃arr',nn w' c arr'/\arr'.size=aM.size) (b:Nat) (aM:Array Value) (ho:nn w0 b aM):∃arr',nn w' b arr'/\arr'.size=aM.size:=by
 obtain⟨a,h1,h2⟩:=h.bv b aM ho;by_cases e:b=c
 .subst e;obtain⟨a',h3,h4⟩:=hsz a h1;exact⟨a',h3,h4.trans h2⟩
 .exact ⟨a,h1.ml (hother b e),h2⟩
theorem GN.xu{K:Nat->Prop}{w0 w:World}(h:GN K w0 w)(n:Nat)(hn:w.drawn<=n):GN K w0 {w with drawn:=n}:=⟨h.FY,h.m6,h.grow,h.A4,h.bv,h.io.1,h.io.2.1,h.io.2.2.1,fc h.io.2.2.2 hn⟩
theorem g_.push{S:Nat->Prop}{w:World}(hs:∀b,S b->b<w.heap.size)(o:Obj):g_ S w S {w with heap:=w.heap.push o}:=⟨fun _ h=>h,fun b h=>iN (hs b h)⟩
theorem g_.xu(S:Nat->Prop)(w:World)(n:Nat):g_ S w S {w with drawn:=n}:=⟨fun _ h=>h,fun _ _=>rfl⟩
theorem Inv.C8{S K:Nat->Prop}{w0 w w':World}{Kn Kn':Nat->Prop}{φ φ':Nat->gO}{hf:Nat->Option Ob}(h:Inv S K w0 Kn φ hf w)(hr:Ren Kn φ Kn' φ')(hs:∀b,b<w.heap.size->w'.heap[b]?=w.heap[b]?):Ro S w w' φ φ' hf hf:=fun id sz sl hi=>by
 obtain⟨_,h1⟩:=h.iQ id _ hi;have hlt:(φ id).bY<w.heap.size:=by cases h1 with|nst _ _ _ _ ho=>exact ho.lt
 refine⟨hi,hs _ hlt,fun k x hp=>?_⟩;obtain⟨h2,_,h3,_⟩:=h.IA hi hp;refine⟨hs x h3,h2,fun j b hj hb=>?_⟩;rw[hr.eu j (h.iQ j b hj).1];exact(h.w6 id sz sl k x hi hp).1 j b hj hb
theorem Inv.AH{S K:Nat->Prop}{w0 w w':World}{Kn:Nat->Prop}{φ:Nat->gO}{hf:Nat->Option Ob}(h:Inv S K w0 Kn φ hf w)(hs:∀b,b<w.heap.size->w'.heap[b]?=w.heap[b]?):Ro S w w' φ φ hf hf:=h.C8 (Ren.refl _ _) hs
theorem Inv.xu{S K:Nat->Prop}{w0 w:World}{Kn:Nat->Prop}{φ:Nat->gO}{hf:Nat->Option Ob}(h:Inv S K w0 Kn φ hf w)(n:Nat)(hn:w.drawn<=n):
  Inv S K w0 Kn φ hf {w with drawn:=n}:=
 h.kI (g_.xu S w n) (Ren.refl _ _) h.uS h.sk (h.nw.xu n hn) (fun id o ho=>.inl ⟨ho,fun hown=>⟨rfl,by obtain⟨_,hro⟩:=h.iQ id o ho;cases hro<;>simp_all[cX]⟩⟩) h.eL (h.AH fun _ _=>rfl)
theorem RO.bv{S K:Nat->Prop}{w:World}{Kn:Nat->Prop}{φ:Nat->gO}{l:gO}{o:Ob}(h:RO S K w Kn φ l o)(ho:cX o=true):
  ¬S l.bY/\¬K l.bY/\l.bY<w.heap.size:=by
 cases h with|aM hsz hl hS hK hown=>exact⟨hS,hK,hown.lt⟩|box hb hS hK hown=>exact⟨hS,hK,hown.lt⟩|map hS hK hmp=>exact⟨hS,hK,(bh.1 hmp).1⟩|cap hsz hl hS hK hown=>exact⟨hS,hK,hown.lt⟩|nst hsz hl hS hK hown=>exact⟨hS,hK,hown.lt⟩|_=>simp[cX]at ho
def ext(φ:Nat->gO)(i:Nat)(l:gO):Nat->gO:=fun j=>if j=i then l else φ j
theorem jN{Kn:Nat->Prop}{φ:Nat->gO}{i:Nat}(l:gO)(hi:¬Kn i):Ren Kn φ (fun j=>Kn j\/j=i) (ext φ i l):=⟨fun _ h=>.inl h,fun j h=>by simp only[ext];rw[if_neg];rintro rfl;exact hi h⟩
abbrev HT(o:Ob):Prop:=∀sz sl(k:Nat)ao,o=.nst sz sl->sl[k]?≠some (kZ.bv ao)
theorem Inv.Hh{S K:Nat->Prop}{w0 w w':World}{Kn:Nat->Prop}{φ:Nat->gO}{hf:Nat->Option Ob}(h:Inv S K w0 Kn φ hf w){i:Nat}{l:gO}{o:Ob}(hno:HT o)
  (hsame:∀b,b<w.heap.size->w'.heap[b]?=w.heap[b]?) (hl:cX o=true->∀id sz sl k x,hf id=some (.nst sz sl)->rY w (φ id) sl k x->l.bY≠x):UV w' (ext φ i l) (bl [(i,some o)] hf):=by
 have key:∀a sz sl k x,bl [(i,some o)] hf a=some (.nst sz sl)->rY w' (ext φ i l a) sl k x->hf a=some (.nst sz sl)/\rY w (φ a) sl k x:=by
  intro a sz sl k x ha hp;rw[bT]at ha;by_cases e:i=a
  .rw [if_pos e]at ha;obtain rfl:=aa ha;obtain⟨ao,v,h1,_⟩:=hp;exact absurd h1 (hno _ _ _ _ rfl)
  .rw [if_neg e,fM]at ha;refine⟨ha,?_⟩;have e1:ext φ i l a=φ a:=by simp only[ext];rw[if_neg (fun q=>e q.symm)]
   rw[e1]at hp;obtain⟨_,h1⟩:=h.iQ a _ ha;exact(rY.eu (hsame _ (by cases h1 with|nst _ _ _ _ ho=>exact ho.lt))).1 hp
 intro a sz sl k x ha hp;obtain⟨h1,h2⟩:=key a sz sl k x ha hp;obtain⟨p1,p2⟩:=h.w6 a sz sl k x h1 h2;refine⟨fun j b hj hown=>?_,fun j sz' sl' k' hj hpj=>?_⟩
 .rw [bT]at hj;by_cases e:i=j
  .rw [if_pos e]at hj;obtain rfl:=aa hj;simp only[ext];rw[if_pos e.symm];exact hl hown a sz sl k x h1 h2
  .rw [if_neg e,fM]at hj;simp only[ext];rw[if_neg (fun q=>e q.symm)];exact p1 j b hj hown
 .obtain ⟨h3,h4⟩:=key j sz' sl' k' x hj hpj;exact p2 j sz' sl' k' h3 h4
theorem Inv.DV{S K:Nat->Prop}{w0 w w':World}{Kn:Nat->Prop}{φ:Nat->gO}{hf:Nat->Option Ob}(h:Inv S K w0 Kn φ hf w){id:Nat}{o:Ob}(ho:hf id=some o)(hsame:∀b,b<w.heap.size->w'.heap[b]?=w.heap[b]?):Rp S w w' (φ id) o:=by intro sz sl e k x hp;subst e;obtain⟨h1,_,h2,_⟩:=h.IA ho hp;exact⟨hsame x h2,h1⟩
theorem Inv.alloc{S K:Nat->Prop}{w0 w:World}{Kn:Nat->Prop}{φ:Nat->gO}{hf:Nat->Option Ob}(h:Inv S K w0 Kn φ hf w){i:Nat}(hi:¬Kn i)
  (aM:Array Value) (t:TypeId) (sz c:Nat) (o:Ob)
  (hro:RO S K {w with heap:=w.heap.push (.cells aM t)} (fun j=>Kn j\/j=i) (ext φ i ⟨w.heap.size,0,sz,aM.size,c⟩) ⟨w.heap.size,0,sz,aM.size,c⟩ o) (hno:HT o:=by intro _ _ _ _ e;cases e):
  Inv S K w0 (fun j=>Kn j\/j=i) (ext φ i ⟨w.heap.size,0,sz,aM.size,c⟩) (bl [(i,some o)] hf) {w with heap:=w.heap.push (.cells aM t)}:=by
 refine h.uW (g_.push h.uS _) (jN _ hi) (fun b hb=>by have:=h.uS b hb;simp;omega) h.sk (h.nw.push aM t) ?_ ?_ (h.Hh hno (fun b hb=>iN hb) fun _ id sz sl k x ha hp e=>by have:=(h.IA ha hp).2.2.1;simp only at e;omega)
 .intro id o' ho;rw[bT]at ho;by_cases e:i=id
  .subst e;rw[if_pos rfl]at ho;obtain rfl:o=o':=by simpa using ho
   refine .inr ⟨.inr rfl,?_⟩;simpa[ext]using hro
  .rw [if_neg e,fM]at ho;refine .inl ⟨ho,fun hown=>?_,h.DV ho fun b hb=>iN hb⟩;obtain⟨_,h2⟩:=h.iQ id o' ho;obtain⟨a,b,c⟩:=h2.bv hown;exact⟨iN c,a⟩
 .have key:∀j b,j≠i->hf j=some b->cX b=true->(ext φ i ⟨w.heap.size,0,sz,aM.size,c⟩ j).bY<w.heap.size:=by intro j b hj hb hown;obtain⟨_,h2⟩:=h.iQ j b hb;simpa[ext,hj]using(h2.bv hown).2.2
  intro a b oa ob ha hb hoa hob hne;rw[bT]at ha hb;by_cases ea:i=a
  .by_cases eb:i=b
   .exact absurd (ea.symm.trans eb) hne
   .rw [if_neg eb,fM]at hb;have:=key b ob (fun e=>eb e.symm) hb hob;have e1:(ext φ i ⟨w.heap.size,0,sz,aM.size,c⟩ a).bY=w.heap.size:=by simp[ext,ea]
    omega
  .rw [if_neg ea,fM]at ha;have h1:=key a oa (fun e=>ea e.symm) ha hoa;by_cases eb:i=b
   .have e1:(ext φ i ⟨w.heap.size,0,sz,aM.size,c⟩ b).bY=w.heap.size:=by simp[ext,eb]
    omega
   .rw [if_neg eb,fM]at hb;have:=h.eL a b oa ob ha hb hoa hob hne;have e1:¬a=i:=fun e=>ea e.symm;have e2:¬b=i:=fun e=>eb e.symm;simpa[ext,e1,e2]using this
theorem B9{w:World}{o:Obj}(ho:∀c t r,o≠.cells c t r)(a:Addr):({w with heap:=w.heap.push o}:World).frozen? a=w.frozen? a:=by
 unfold World.frozen?;rcases nr a.block w.heap.size with h|h|h
 .rw [iN h]
 .rw [h];simp only[Array.getElem?_push_size,fK (au _)];cases o with|cells c t r=>exact absurd rfl (ho c t r)|_=>rfl
 .rw [fK (by simp;omega),fK (by omega)]
theorem Inv.Rh{S K:Nat->Prop}{w0 w:World}{Kn:Nat->Prop}{φ:Nat->gO}{hf:Nat->Option Ob}(h:Inv S K w0 Kn φ hf w){i:Nat}(hi:¬Kn i)
  {ob:Obj} (hob:∀c t r,ob≠.cells c t r) (l:gO) (hl:l.bY=w.heap.size) (o:Ob)
  (hro:RO S K {w with heap:=w.heap.push ob} (fun j=>Kn j\/j=i) (ext φ i l) l o) (hno:HT o:=by intro _ _ _ _ e;cases e):
  Inv S K w0 (fun j=>Kn j\/j=i) (ext φ i l) (bl [(i,some o)] hf) {w with heap:=w.heap.push ob}:=by
 have hfrm:GN K w0 {w with heap:=w.heap.push ob}:=
  ⟨h.nw.FY,fun b hb=>(iN (cn (h.nw.FY b hb) h.nw.grow)).trans (h.nw.m6 b hb),by have:=h.nw.grow;simp;omega,fun a ha=>(B9 hob a).trans (h.nw.A4 a ha),
   fun b a ha=>let⟨a',h1,h2⟩:=h.nw.bv b a ha;⟨a',h1.ml (iN h1.lt),h2⟩,h.nw.io⟩
 refine h.uW (g_.push h.uS _) (jN _ hi) (fun b hb=>by have:=h.uS b hb;simp;omega) h.sk hfrm ?_ ?_ (h.Hh hno (fun b hb=>iN hb) fun _ id sz sl k x ha hp e=>by have:=(h.IA ha hp).2.2.1;omega)
 .intro id o' ho;rw[bT]at ho;by_cases e:i=id
  .subst e;rw[if_pos rfl]at ho;obtain rfl:o=o':=by simpa using ho
   refine .inr ⟨.inr rfl,?_⟩;simpa[ext]using hro
  .rw [if_neg e,fM]at ho;refine .inl ⟨ho,fun hown=>?_,h.DV ho fun b hb=>iN hb⟩;obtain⟨_,h2⟩:=h.iQ id o' ho;obtain⟨a,b,c⟩:=h2.bv hown;exact⟨iN c,a⟩
 .have key:∀j b,j≠i->hf j=some b->cX b=true->(ext φ i l j).bY<w.heap.size:=by intro j b hj hb hown;obtain⟨_,h2⟩:=h.iQ j b hb;simpa[ext,hj]using(h2.bv hown).2.2
  intro a b oa ob ha hb hoa hob hne;rw[bT]at ha hb;by_cases ea:i=a
  .by_cases eb:i=b
   .exact absurd (ea.symm.trans eb) hne
   .rw [if_neg eb,fM]at hb;have:=key b ob (fun e=>eb e.symm) hb hob;have e1:(ext φ i l a).bY=w.heap.size:=by simp[ext,ea,hl]
    omega
  .rw [if_neg ea,fM]at ha;have h1:=key a oa (fun e=>ea e.symm) ha hoa;by_cases eb:i=b
   .have e1:(ext φ i l b).bY=w.heap.size:=by simp[ext,eb,hl]
    omega
   .rw [if_neg eb,fM]at hb;have:=h.eL a b oa ob ha hb hoa hob hne;have e1:¬a=i:=fun e=>ea e.symm;have e2:¬b=i:=fun e=>eb e.symm;simpa[ext,e1,e2]using this
theorem Inv.mx{S K:Nat->Prop}{w0 w:World}{Kn:Nat->Prop}{φ:Nat->gO}{hf hf':Nat->Option Ob}(h:Inv S K w0 Kn φ hf w)(hsub:∀id o,hf' id=some o->hf id=some o):
  Inv S K w0 Kn φ hf' w:=
 ⟨h.uS,h.sk,h.nw,fun id o ho=>h.iQ id o (hsub id o ho),fun i j a b ha hb=>h.eL i j a b (hsub _ _ ha) (hsub _ _ hb),h.B7,
  fun i sz sl k x hi hp=>let⟨a,b⟩:=h.w6 i sz sl k x (hsub _ _ hi) hp;⟨fun j b hj=>a j b (hsub _ _ hj),fun j sz' sl' k' hj=>b j sz' sl' k' (hsub _ _ hj)⟩⟩
theorem Inv.set{S K:Nat->Prop}{w0 w w':World}{Kn:Nat->Prop}{φ:Nat->gO}{hf:Nat->Option Ob}(h:Inv S K w0 Kn φ hf w){id:Nat}{o o':Ob}
  (ho:hf id=some o) (hown:cX o=true) (hother:∀b,b≠(φ id).bY->w'.heap[b]?=w.heap[b]?) (hsize:w'.heap.size=w.heap.size)
  (hfrz:∀a,w'.frozen? a=w.frozen? a) (hsz:∀aM,nn w (φ id).bY aM->∃arr',nn w' (φ id).bY arr'/\arr'.size=aM.size) (hio:Io w w') (hro:g_ S w S w'->RO S K w' Kn φ (φ id) o') (hn:∀sz sl,o'≠.nst sz sl:=by intro _ _ e;cases e):
  g_ S w S w'/\Inv S K w0 Kn φ (bl [(id,some o')] hf) w':=by
 obtain⟨hk,h0⟩:=h.iQ id o ho;obtain⟨hS,hK,hlt⟩:=h0.bv hown;have hs:g_ S w S w':=⟨fun _ h=>h,fun b hb=>hother b (fun e=>hS (e▸hb))⟩
 have fix:∀i a,bl [(id,some o')] hf i=some a->cX a=true->∃a',hf i=some a'/\cX a'=true:=by
  intro i a ha hoa;rw[bT]at ha;by_cases e:id=i
  .subst e;exact⟨o,ho,hown⟩
  .rw [if_neg e,fM]at ha;exact⟨a,ha,hoa⟩
 refine⟨hs,h.kI hs (Ren.refl _ _) (fun b hb=>hsize▸h.uS b hb) h.sk ?_ ?_ ?_ ?_⟩
 .exact ⟨h.nw.FY,fun b hb=>(hother b (fun e=>hK (e▸hb))).trans (h.nw.m6 b hb),hsize▸h.nw.grow,fun a ha=>(hfrz a).trans (h.nw.A4 a ha),h.nw.yz hother hsz,h.nw.io.trans hio⟩
 .intro i x hx;rw[bT]at hx;by_cases e:id=i
  .subst e;rw[if_pos rfl]at hx;obtain rfl:o'=x:=by simpa using hx
   exact .inr ⟨hk,hro hs⟩
  .rw [if_neg e,fM]at hx;refine .inl ⟨hx,fun hox=>⟨hother _ ?_,((h.iQ i x hx).2.bv hox).1⟩⟩;exact(h.eL i id x o hx ho hox hown (fun e'=>e e'.symm))
 .intro i j a b ha hb hoa hob hne;obtain⟨a',ha',hoa'⟩:=fix i a ha hoa;obtain⟨b',hb',hob'⟩:=fix j b hb hob;exact h.eL i j a' b' ha' hb' hoa' hob' hne
 .intro a sz sl ha;rw[bT]at ha;by_cases e:id=a
  .rw [if_pos e]at ha;exact absurd (aa ha) (hn _ _)
  .rw [if_neg e,fM]at ha;refine⟨ha,hother _ (h.eL a id _ o ha ho rfl hown fun q=>e q.symm),fun k x hp=>?_⟩;obtain⟨p1,_⟩:=h.w6 a sz sl k x ha hp;refine⟨hother x fun q=>p1 id o ho hown q.symm,(h.IA ha hp).1,fun j b hj hb=>?_⟩;obtain⟨b',hb',hob'⟩:=fix j b hj hb;exact p1 j b' hb' hob'
variable{P:Program}
def fN(P:Program)(t:TypeId):Option Nat:=(P.info? t).map (·.size)
def fV(P:Program)(t:TypeId):Option Bool:=(P.underlying t).map fun|.struct _|.array _ _=>true|_=>false
def jU(P:Program)(t:TypeId):Option (List Value):=match(P.info? t).bind (·.zero)with|some z=>if z.cells.toList.all ed then some z.cells.toList else none|none=>none
theorem pL(b off n:Nat):(⟨b,off,none⟩:Addr).add n=⟨b,off+n,none⟩:=by unfold Addr.add;split<;>simp_all
theorem ia{t:TypeId}{n:Nat}(h:fN P t=some n)(w:World):(sizeOf t).run P w=.ok n w:=by simp only[fN,aE]at h;obtain⟨i,hi,rfl⟩:=h;simp[sizeOf,typeInfo,hi]
theorem cg{t:TypeId}{d:TypeDesc}(h:P.underlying t=some d)(w:World):(underlying t).run P w=.ok d w:=by simp[underlying,h]
theorem tC{t:TypeId}{g:Bool}(h:fV P t=some g)(w:World):(isAgg t).run P w=.ok g w:=by simp only[fV,aE]at h;obtain⟨d,hd,rfl⟩:=h;simp only[isAgg,Sem.run_bind,cg hd,Result.andThen_ok];cases d<;>rfl
theorem pq{t:TypeId}{z:List Value}(h:jU P t=some z)(w:World):
  ∃v,(zeroValue t).run P w=.ok v w/\v.cells.toList=z/\∀x∈z,ed x=true:=by
 simp only[jU]at h;split at h
 .rename_i v hv;split at h
  .rename_i hp;obtain rfl:=aa h;obtain⟨i,hi,hz⟩:=fm.1 hv;exact⟨v,by simp[zeroValue,typeInfo,hi,hz],rfl,fun x hx=>bc.1 hp x hx⟩
  .simp at h
 .simp at h
section
variable{S K:Nat->Prop}{w0 w:World}{Kn:Nat->Prop}{φ:Nat->gO}{hf:Nat->Option Ob}
theorem FX(agg:Bool)(n:Nat)(cells:List D):Pm agg n cells=DR agg n (cells.map .d):=by
 unfold Pm DR;cases agg
 .cases cells<;>rfl
 .simp [List.map_take]
theorem v7{t:TypeId}{agg:Bool}{n:Nat}(ha:fV P t=some agg)(hn:fN P t=some n){cells:List C}{b o:Nat}{v:TV}
  (hc:∀(j:Nat)(x:C),cells[j]?=some x->∃u,w.cell? ⟨b,o+j,none⟩=some u/\RC S w Kn φ x u) (h:DR agg n cells=some v):
  ∃val,(loadVar t ⟨b,o,none⟩).run P w=.ok val w/\gm S w Kn φ v val:=by
 unfold DR at h;cases agg
 .simp only[aS,if_false]at h;cases cells with
  |nil=>simp at h
  |cons x r=>
   obtain rfl:TV.c x=v:=by simpa using h
   obtain⟨u,hu,hr⟩:=hc 0 x rfl;refine⟨u,?_,.c hr⟩;simp only[loadVar,Sem.run_bind,tC ha,Result.andThen_ok,aS,if_false,run_load];simp only[dO]at hu;simp[hu]
 .simp only[if_true]at h;split at h
  .rename_i hle;obtain rfl:=aa h
   have hcell:∀j,j<n->w.cell? ((⟨b,o,none⟩:Addr).add j)=some ((w.cell? ⟨b,o+j,none⟩).getD undef):=by
    intro j hj;have hj':j<cells.length:=by omega
    obtain⟨u,hu,_⟩:=hc j cells[j] (by simp[hj']);rw[pL,hu];rfl
   refine⟨.agg ((aK n).map fun j=>(w.cell? ⟨b,o+j,none⟩).getD undef).toArray,?_,.agg (by simp;omega) ?_⟩
   .simp only[loadVar,Sem.run_bind,tC ha,Result.andThen_ok,if_true,ia hn,run_loadCells w _ n _ hcell,Sem.run_pure]
   .intro i x hi;rw[eJ]at hi;split at hi
    .rename_i hin;obtain⟨u,hu,hr⟩:=hc i x hi;have:((aK n).map fun j=>(w.cell? ⟨b,o+j,none⟩).getD undef).toArray.getD i undef=u:=by simp[jJ,hin,hu]
     rw[this];exact hr
    .simp at hi
  .simp at h
theorem Ci{id dj:Nat}{sz:Nat}{ao:List (List D)}(hI:Inv S K w0 Kn φ hf w)(ho:hf id=some (.aM sz ao)\/hf id=some (.qK sz ao)){r:List D}(hr:ao[dj]?=some r)(off:Nat):
  (φ id).sz=sz/\r.length=sz/\∀(j:Nat)(x:C),((r.drop off).map C.d)[j]?=some x->∃u,w.cell? ⟨(φ id).bY,(φ id).aR+dj*(φ id).sz+off+j,none⟩=some u/\RC S w Kn φ x u:=by
 rcases ho with ho|ho
 .obtain ⟨hk,h0⟩:=hI.iQ _ _ ho;cases h0 with|aM hsz hl hS hK hown hext hfit hrr=>refine⟨hl,hrr.1 _ _ hr,fun j x hj=>?_⟩;rw[aG,bQ]at hj;obtain⟨d,hd,rfl⟩:=aE.1 hj;obtain⟨u,hu,hrd⟩:=hrr.2 dj r hr (off+j) d hd;refine⟨u,?_,.d hrd⟩;rw[hown.cell,hl,<-hu];show _=_;congr 1;omega
 .obtain ⟨hk,h0⟩:=hI.iQ _ _ ho;cases h0 with|qK hsz hl hS hrr=>refine⟨hl,hrr.1 _ _ hr,fun j x hj=>?_⟩;rw[aG,bQ]at hj;obtain⟨d,hd,rfl⟩:=aE.1 hj;obtain⟨u,hu,hrd⟩:=hrr.2 dj r hr (off+j) d hd;refine⟨u,?_,.d hrd⟩;rw[hl,<-hu];simp only[cP]
theorem yj{t:TypeId}{agg:Bool}{n:Nat}(ha:fV P t=some agg)(hn:fN P t=some n){p:C}{H:bH}{v:TV}{aD:List Nat}{pv:Value}
  (hI:Inv S K w0 Kn φ (aC H) w) (hp:RC S w Kn φ p pv) (h:ie agg n p H=some (v,aD)):
  ∃val,(Instr.loadAt t pv).run P w=.ok val w/\gm S w Kn φ v val:=by
 unfold ie at h;split at h
 .rename_i cells;split at h
  .rename_i v' hv;obtain⟨rfl,rfl⟩:v'=v/\[]=aD:=by simpa using h
   rw[FX]at hv;cases hp with
   |d hd=>cases hd with|pt f hb hcell hrd=>obtain⟨val,h1,h2⟩:=v7 (Kn:=Kn) (φ:=φ) (S:=S) ha hn (cells:=cells.map .d) (fun j x hj=>by rw[aG]at hj;obtain⟨d,hd,rfl⟩:=aE.1 hj;exact⟨_,hcell j d hd,.d (hrd j d hd)⟩) hv;exact⟨val,by simp[Instr.loadAt,Instr.sureAddr,h1],h2⟩
  .simp at h
 .rename_i id dj off
  have key:∀sz ao,(aC H id=some (.aM sz ao)\/aC H id=some (.qK sz ao))->
    (match ao[dj]?with|some r=>(match Pm agg n (r.drop off)with|some v=>some (v,[id])|none=>none)|none=>none)=some (v,aD)->
    ∃val,(Instr.loadAt t pv).run P w=.ok val w/\gm S w Kn φ v val:=by
   intro sz ao ho h;split at h
   .rename_i r hr;split at h
    .rename_i v' hv;obtain⟨rfl,rfl⟩:v'=v/\[id]=aD:=by simpa using h
     rw[FX]at hv;obtain⟨hl,hrl,hc⟩:=Ci hI ho hr off;cases hp with|ep hk=>obtain⟨val,h1,h2⟩:=v7 ha hn hc hv;exact⟨val,by simp[Instr.loadAt,Instr.sureAddr,h1],h2⟩
    .simp at h
   .simp at h
  split at h
  .rename_i sz ao ho;exact key sz ao (.inl ho) h
  .rename_i sz ao ho;exact key sz ao (.inr ho) h
  .simp at h
 .rename_i id off;split at h
  .rename_i cells ho;split at h
   .rename_i v' hv;obtain⟨rfl,rfl⟩:v'=v/\[id]=aD:=by simpa using h
    obtain⟨hk,h0⟩:=hI.iQ _ _ ho;cases h0 with
    |box hb hS hK hown hlen hrr=>cases hp with|op hk=>obtain⟨val,h1,h2⟩:=v7 (S:=S) (Kn:=Kn) (φ:=φ) ha hn (cells:=cells.drop off) (b:=(φ id).bY) (o:=(φ id).aR+off) (fun j x hj=>by rw[bQ]at hj;have hlt:=(ak.1 hj).1;rw[hlen]at hlt;refine⟨_,?_,hrr _ _ hj⟩;rw[hown.cell,hb];simp[jJ,hlt]) hv;exact⟨val,by simp[Instr.loadAt,Instr.sureAddr,h1],h2⟩
   .simp at h
  .rename_i cells ho;split at h
   .rename_i v' hv;obtain⟨rfl,rfl⟩:v'=v/\[id]=aD:=by simpa using h
    rw[FX]at hv;obtain⟨hk,h0⟩:=hI.iQ _ _ ho;cases h0 with
    |o8 hb hS hrr=>cases hp with|op hk=>obtain⟨val,h1,h2⟩:=v7 (S:=S) (Kn:=Kn) (φ:=φ) ha hn (cells:=(cells.drop off).map .d) (b:=(φ id).bY) (o:=(φ id).aR+off) (fun j x hj=>by rw[aG,bQ]at hj;obtain⟨d,hd,rfl⟩:=aE.1 hj;obtain⟨u,hu,hr⟩:=hrr _ _ hd;exact⟨u,by rw[hb,<-hu];simp,.d hr⟩) hv;exact⟨val,by simp[Instr.loadAt,Instr.sureAddr,h1],h2⟩
   .simp at h
  .simp at h
 .simp at h
theorem Aj{w:World}{b:Nat}{old aM:Array Value}(h:nn w b old)(a:Addr):(w.setRow b aM).frozen? a=w.frozen? a:=by
 obtain⟨t,h⟩:=h;unfold World.frozen?;by_cases e:a.block=b
 .rw [e,setRow_heap w b old aM t _ h,h]
 .rw [setRow_other w b _ _ e]
theorem yA{w:World}{b:Nat}{old aM:Array Value}(h:nn w b old):nn (w.setRow b aM) b aM:=by obtain⟨t,h⟩:=h;exact⟨t,setRow_heap w b old aM t _ h⟩
theorem pz(v:Value):v.oneCell'=one v:=by cases v<;>rfl
theorem gm.cells{S:Nat->Prop}{w:World}{Kn:Nat->Prop}{φ:Nat->gO}{v:TV}{val:Value}{cs:List C}(h:gm S w Kn φ v val)(hc:cellsOf v=some cs):
  cs.length=val.cells.size/\(∀(i:Nat)(x:C),cs[i]?=some x->RC S w Kn φ x (val.cells.getD i undef))/\∀x∈val.cells.toList,one x=true:=by
 cases h with
 |@c x v h=>
  obtain rfl:[x]=cs:=by simpa[cellsOf]using hc
  have e:=vC h.one;refine⟨by rw[e];rfl,fun i y hi=>?_,fun y hy=>?_⟩
  .cases i with
   |zero=>
    rw[e];obtain rfl:x=y:=by simpa using hi
    exact h
   |succ i=>simp at hi
  .rw [e]at hy;obtain rfl:y=val:=by simpa using hy
   exact h.one
 |@agg cs' aM hlen h=>
  obtain rfl:cs'=cs:=by simpa[cellsOf]using hc
  refine⟨hlen,h,fun y hy=>?_⟩;obtain⟨i,hi,rfl⟩:=cu hy;have hi':i<aM.size:=by simpa[Value.cells]using hi
  have:=(h i (cs'[i]'(by omega)) (by simp[hlen,hi'])).one;simpa[jJ,hi',Value.cells]using this
 |iS hlen h=>simp[cellsOf]at hc
theorem NJ{t:TypeId}{n:Nat}(hn:fN P t=some n){b o:Nat}{aM:Array Value}{val:Value}(ho:nn w b aM)(hlen:val.cells.size=n)(hfit:o+n<=aM.size)
  (hone:∀x∈val.cells.toList,one x=true):
  (storeVar t ⟨b,o,none⟩ val).run P w=.ok () (w.setRow b (aM.toList.take o++val.cells.toList++aM.toList.drop (o+n)).toArray):=by
 obtain⟨ty,hb⟩:=ho;have:=run_storeCells_at P b o ty val.cells.toList 0 aM w hb (by simp;omega) (fun v hv=>by rw[pz];exact hone v hv);have e:val.cells.toList.length=n:=by simpa using hlen
 rw[e]at this;simp only[dO]at this;simp only[storeVar,Sem.run_bind,ia hn,Result.andThen_ok,hlen,ne_eq,not_true_eq_false,if_false];exact this
theorem jA{α:Type}(l:List α)(off:Nat)(p:List α)(hfit:off+p.length<=l.length)(i:Nat):
  (aV l off p)[i]?=if i<off then l[i]?else if i<off+p.length then p[i-off]?else l[i]?:=by
 unfold aV;by_cases h1:i<off
 .rw [List.append_assoc,bN (by simp;omega)];simp[h1]
 .by_cases h2:i<off+p.length
  .rw [bN (by simp;omega),bR (by simp;omega)];simp only[b_,h1,h2,if_true,if_false];congr 1;omega
  .rw [bR (by simp;omega)];simp only[List.length_append,b_,bQ,h1,h2,if_false];congr 1;omega
theorem eO{α:Type}(l:List α)(off:Nat)(p:List α)(hfit:off+p.length<=l.length):(aV l off p).length=l.length:=by unfold aV;simp;omega
theorem P6{aM:Array Value}{vs:List Value}{o n:Nat}(hn:vs.length=n):aM.toList.take o++vs++aM.toList.drop (o+n)=aV aM.toList o vs:=by rw[<-hn];rfl
end
section
variable{S K:Nat->Prop}{w0 w:World}{Kn:Nat->Prop}{φ:Nat->gO}{hf:Nat->Option Ob}
theorem RD.AE{sz:Nat}{ao:List (List D)}{b off len cap:Nat}(hb:S b)(hsz:0<sz)(hlen:ao.length=len)(hcap:len<=cap)
  (h:cW S w sz (fun i=>w.cell? ⟨b,i,none⟩) off ao):RD S w (.sl sz ao) (.slice (some ⟨b,off,none⟩) len cap):=by
 subst hlen;refine .sl (fun i j=>(w.cell? ⟨b,off+i*sz+j,none⟩).getD undef) hb hsz hcap h.1 (fun i r hi j x hj=>?_) (fun i r hi j x hj=>?_)
 .obtain ⟨v,hv,_⟩:=h.2 i r hi j x hj;simp only at hv;rw[hv];rfl
 .obtain ⟨v,hv,hr⟩:=h.2 i r hi j x hj;simp only at hv;rw[hv];exact hr
theorem RD.yt{cells:List D}{b off:Nat}(hb:S b)(h:∀(j:Nat)(x:D),cells[j]?=some x->∃v,w.cell? ⟨b,off+j,none⟩=some v/\RD S w x v):
  RD S w (.pt cells) (.pointer (some ⟨b,off,none⟩)):=by
 refine .pt (fun j=>(w.cell? ⟨b,off+j,none⟩).getD undef) hb (fun j x hj=>?_) (fun j x hj=>?_)
 .obtain ⟨v,hv,_⟩:=h j x hj;rw[hv];rfl
 .obtain ⟨v,hv,hr⟩:=h j x hj;rw[hv];exact hr
def rp(w:World)(l:gO):List kZ->Nat->List Nat
 |[],_=>[]
 |.bv _::r,k=>(match(w.cell? ⟨l.bY,l.aR+k,none⟩).bind xx with|some b=>b::rp w l r (k+1)|none=>rp w l r (k+1))
 |_::r,k=>rp w l r (k+1)
def iv(w:World)(φ:Nat->gO)(hf:Nat->Option Ob)(i:Nat):List Nat:=(φ i).bY::(match hf i with|some (.nst _ sl)=>rp w (φ i) sl 0|_=>[])
theorem C_{l:gO}{x:Nat}:∀{sl:List kZ}{k0:Nat},x∈rp w l sl k0<->∃k ao v,sl[k]?=some (.bv ao)/\w.cell? ⟨l.bY,l.aR+(k0+k),none⟩=some v/\xx v=some x:=by
 intro sl;induction sl with
 |nil=>intro k0;simp[rp]
 |cons s sl ih=>
  intro k0;have tl:(∃k ao v,sl[k]?=some (.bv ao)/\w.cell? ⟨l.bY,l.aR+(k0+1+k),none⟩=some v/\xx v=some x)->∃k ao v,(s::sl)[k]?=some (.bv ao)/\w.cell? ⟨l.bY,l.aR+(k0+k),none⟩=some v/\xx v=some x:=by rintro⟨k,ao,v,h1,h2,h3⟩;exact⟨k+1,ao,v,by simpa using h1,by rw[<-h2,show k0+(k+1)=k0+1+k by omega],h3⟩
  have key:(∀ao,s≠.bv ao)->((∃k ao v,(s::sl)[k]?=some (.bv ao)/\w.cell? ⟨l.bY,l.aR+(k0+k),none⟩=some v/\xx v=some x)->∃k ao v,sl[k]?=some (.bv ao)/\w.cell? ⟨l.bY,l.aR+(k0+1+k),none⟩=some v/\xx v=some x):=by rintro hs ⟨k,ao,v,h1,h2,h3⟩;cases k with|zero=>exact absurd (by simpa using h1) (hs ao)|succ k=>exact⟨k,ao,v,by simpa using h1,by rw[<-h2,show k0+(k+1)=k0+1+k by omega],h3⟩
  cases s with
  |nil=>exact ih.trans ⟨tl,key fun _ e=>by cases e⟩
  |dY id len=>exact ih.trans ⟨tl,key fun _ e=>by cases e⟩
  |bv rows0=>
   simp only[rp];constructor
   .intro hx;split at hx
    .rename_i b hb;rcases aP.1 hx with rfl|hx
     .obtain ⟨v,h1,h2⟩:=fm.1 hb;exact⟨0,rows0,v,rfl,h1,h2⟩
     .exact tl (ih.1 hx)
    .exact tl (ih.1 hx)
   .rintro ⟨k,ao,v,h1,h2,h3⟩;cases k with
    |zero=>
     have e:(w.cell? ⟨l.bY,l.aR+k0,none⟩).bind xx=some x:=by rw[show l.aR+k0=l.aR+(k0+0)from rfl,h2];exact h3
     rw[e];simp
    |succ k=>
     have hm:=ih.2 ⟨k,ao,v,by simpa using h1,by rw[<-h2,show k0+(k+1)=k0+1+k by omega],h3⟩;split
     .exact aA _ hm
     .exact hm
theorem G6{l:gO}{x:Nat}{sl:List kZ}:x∈rp w l sl 0<->∃k,rY w l sl k x:=by rw[C_];simp only[bK];exact Iff.rfl
theorem Fw{l:gO}:∀{sl:List kZ}{k0:Nat},(∀k k' x ao rows' v v',sl[k]?=some (.bv ao)->w.cell? ⟨l.bY,l.aR+(k0+k),none⟩=some v->xx v=some x->sl[k']?=some (.bv rows')->w.cell? ⟨l.bY,l.aR+(k0+k'),none⟩=some v'->xx v'=some x->k=k')->(rp w l sl k0).Nodup:=by
 intro sl;induction sl with
 |nil=>intro k0 _;exact fX
 |cons s sl ih=>
  intro k0 h;have h':(rp w l sl (k0+1)).Nodup:=ih fun k k' x ao rows' v v' h1 h2 h3 h4 h5 h6=>by have:=h (k+1) (k'+1) x ao rows' v v' (by simpa using h1) (by rw[<-h2,show k0+(k+1)=k0+1+k by omega]) h3 (by simpa using h4) (by rw[<-h5,show k0+(k'+1)=k0+1+k' by omega]) h6;omega
  cases s with
  |nil=>exact h'
  |dY id len=>exact h'
  |bv rows0=>
   simp only[rp];split
   .rename_i b hb;refine fY.2 ⟨fun hm=>?_,h'⟩;obtain⟨v0,h1,h2⟩:=fm.1 hb;obtain⟨k,ao,v,h3,h4,h5⟩:=C_.1 hm;have:=h 0 (k+1) b rows0 ao v0 v rfl h1 h2 (by simpa using h3) (by rw[<-h4,show k0+(k+1)=k0+1+k by omega]) h5;omega
   .exact h'
theorem dU{i x:Nat}:x∈iv w φ hf i<->x=(φ i).bY\/∃sz sl k,hf i=some (.nst sz sl)/\rY w (φ i) sl k x:=by
 unfold iv;rw[aP];refine or_congr_right ?_;split
 .rename_i sz sl h;rw[G6];exact⟨fun⟨k,hk⟩=>⟨sz,sl,k,h,hk⟩,fun⟨_,_,k,h1,hk⟩=>by rw[h]at h1;cases h1;exact⟨k,hk⟩⟩
 .rename_i h;exact⟨fun hx=>by simp at hx,fun⟨sz,sl,k,h1,_⟩=>(h sz sl h1).elim⟩
theorem oE(hI:Inv S K w0 Kn φ hf w){i:Nat}{o:Ob}(ho:hf i=some o)(hown:cX o=true){x:Nat}(hx:x∈iv w φ hf i):¬S x/\¬K x/\x<w.heap.size:=by
 rcases dU.1 hx with rfl|⟨sz,sl,k,h1,h2⟩
 .exact (hI.iQ i o ho).2.bv hown
 .obtain ⟨a,b,c,_⟩:=hI.IA h1 h2;exact⟨a,b,c⟩
theorem nZ(hI:Inv S K w0 Kn φ hf w){i j:Nat}{a b:Ob}(hi:hf i=some a)(hj:hf j=some b)(ha:cX a=true)(hb:cX b=true)(hne:i≠j){x:Nat}(hx:x∈iv w φ hf i):x∉iv w φ hf j:=by
 intro hy;rcases dU.1 hx with rfl|⟨sz,sl,k,h1,h2⟩<;>rcases dU.1 hy with e|⟨sz',sl',k',h3,h4⟩
 .exact hI.eL i j a b hi hj ha hb hne e
 .exact (hI.w6 j sz' sl' k' _ h3 h4).1 i a hi ha rfl
 .subst e;exact(hI.w6 i sz sl k _ h1 h2).1 j b hj hb rfl
 .exact hne (((hI.w6 i sz sl k x h1 h2).2 j sz' sl' k' h3 h4).1).symm
theorem GE(hI:Inv S K w0 Kn φ hf w){i:Nat}{o:Ob}(ho:hf i=some o)(hown:cX o=true):(iv w φ hf i).Nodup:=by
 unfold iv;refine fY.2 ⟨fun hm=>?_,?_⟩
 .split at hm
  .rename_i sz sl h;obtain⟨k,hk⟩:=G6.1 hm;exact(hI.w6 i sz sl k _ h hk).1 i o ho hown rfl
  .simp at hm
 .split
  .rename_i sz sl h;refine Fw fun k k' x ao rows' v v' h1 h2 h3 h4 h5 h6=>?_;rw[bK]at h2 h5;exact(((hI.w6 i sz sl k x h ⟨ao,v,h1,h2,h3⟩).2 i sz sl k' h ⟨rows',v',h4,h5,h6⟩).2).symm
  .exact fX
theorem kT(i:Nat):(φ i).bY∈iv w φ hf i:=dU.2 (.inl rfl)
def SB(S:Nat->Prop)(w:World)(φ:Nat->gO)(hf:Nat->Option Ob)(aD:List Nat)(b:Nat):Prop:=S b\/∃i∈aD,b∈iv w φ hf i
theorem SB.Cz(a b:List Nat)(h:∀i∈a,i∈b):g_ (SB S w φ hf a) w (SB S w φ hf b) w:=⟨fun _ hb=>hb.imp id fun⟨i,hi,e⟩=>⟨i,h i hi,e⟩,fun _ _=>rfl⟩
theorem SB.ur(b:List Nat):g_ S w (SB S w φ hf b) w:=⟨fun _ hb=>.inl hb,fun _ _=>rfl⟩
theorem HS.rd{sz b:Nat}{ao:List (List D)}{v:Value}(h:HS S w sz ao v b){T:Nat->Prop}(hT:g_ S w T w)(hb:T b):RD T w (.sl sz ao) v:=by obtain⟨addr,cap,aM,rfl,h2,h3,h4,_,h6⟩:=h;exact .AE hb h2 rfl h4 ⟨h6.1,fun i r hi j x hj=>let⟨v,hv,hr⟩:=h6.2 i r hi j x hj;⟨v,(h3.cell _).trans hv,hr.mono hT⟩⟩
theorem Dx{l:gO}{szi:Nat}{slots:List kZ}(h:RO S K w Kn φ l (.nst szi slots)){ao:List (List D)}(hd:vV szi slots=some ao){T:Nat->Prop}(hT:g_ S w T w)(hp:∀k x,rY w l slots k x->T x):
  ao.length=slots.length/\cW T w 1 (fun i=>w.cell? ⟨l.bY,i,none⟩) l.aR ao:=by
 have key:∀(slots:List kZ)(ao:List (List D)),vV szi slots=some ao->ao.length=slots.length/\∀(i:Nat)(r:List D),ao[i]?=some r->∃s x,slots[i]?=some s/\Kp szi s=some x/\r=[x]:=by
  intro slots;induction slots with
  |nil=>intro ao h;obtain rfl:=aa h;exact⟨rfl,fun i r hi=>by simp at hi⟩
  |cons s slots ih=>
   intro ao h;simp only[vV]at h;split at h
   .rename_i x l hx hl;obtain rfl:=aa h;obtain⟨h1,h2⟩:=ih l hl;refine⟨by simp[h1],fun i r hi=>?_⟩;cases i with|zero=>exact⟨s,x,rfl,hx,(by simpa using hi:[x]=r).symm⟩|succ i=>obtain⟨s',x',e1,e2,e3⟩:=h2 i r (by simpa using hi);exact⟨s',x',by simpa using e1,e2,e3⟩
   .simp at h
 obtain⟨k1,k2⟩:=key slots ao hd;cases h with
 |nst hsz hl hS hK ho hext hfit hr hv=>
  refine⟨k1,fun i r hi=>by obtain⟨_,_,_,_,rfl⟩:=k2 i r hi;rfl,fun i r hi j x hj=>?_⟩;obtain⟨s,y,e1,e2,rfl⟩:=k2 i r hi;cases j with
  |succ j=>simp at hj
  |zero=>
   obtain rfl:y=x:=by simpa using hj
   obtain⟨v,h1,h2⟩:=hr i s e1;refine⟨v,by rw[lw,dO];exact(ho.cell _).trans h1,?_⟩;cases h2 with|nil=>obtain rfl:=aa e2;exact .lit rfl|@bv rows' _ b h3 _ _=>obtain rfl:=aa e2;exact h3.rd hT (hp i b ⟨rows',v,e1,(ho.cell _).trans h1,h3.bY⟩)|dY _=>simp[Kp]at e2
theorem nH{id sz:Nat}{ao:List (List D)}(hI:Inv S K w0 Kn φ hf w)(ho:hf id=some (.aM sz ao)\/hf id=some (.qK sz ao)):
  0<sz/\(φ id).sz=sz/\cW S w sz (fun i=>w.cell? ⟨(φ id).bY,i,none⟩) (φ id).aR ao:=by
 rcases ho with ho|ho
 .obtain ⟨_,h0⟩:=hI.iQ _ _ ho;cases h0 with|aM hsz hl hS hK hown hext hfit hrr=>exact⟨hsz,hl,hrr.1,fun i r hi j x hj=>let⟨v,hv,hr⟩:=hrr.2 i r hi j x hj;⟨v,(hown.cell _).trans hv,hr⟩⟩
 .obtain ⟨_,h0⟩:=hI.iQ _ _ ho;cases h0 with|qK hsz hl hS hrr=>exact⟨hsz,hl,hrr⟩
theorem cW.sub{sz aR:Nat}{get:Nat->Option Value}{ao:List (List D)}(h:cW S w sz get aR ao)(off len:Nat):
  cW S w sz get (aR+off*sz) ((ao.drop off).take len):=by
 have key:∀i(r:List D),((ao.drop off).take len)[i]?=some r->ao[off+i]?=some r:=by
  intro i r hi;rw[eJ]at hi;split at hi
  .rwa [bQ]at hi
  .simp at hi
 refine⟨fun i r hi=>h.1 _ _ (key i r hi),fun i r hi j x hj=>?_⟩;obtain⟨v,hv,hr⟩:=h.2 _ _ (key i r hi) j x hj;refine⟨v,?_,hr⟩;rw[<-hv];congr 1;rw[Nat.add_mul];omega
theorem cW.xm{sz aR addr:Nat}{get:Nat->Option Value}{ao:List (List D)}(h:cW S w sz get aR ao)(off len:Nat)(ha:0<len->addr=aR+off*sz):
  cW S w sz get addr ((ao.drop off).take len):=by
 cases len with|zero=>exact⟨fun i r hi=>by simp at hi,fun i r hi=>by simp at hi⟩|succ n=>rw[ha (Nat.succ_pos _)];exact h.sub off _
theorem CF{sz id off len:Nat}{ao:List (List D)}{v:Value}{szo:Nat}(hI:Inv S K w0 Kn φ hf w)(hc:RC S w Kn φ (.fq sz id off len) v)
  (ho:hf id=some (.aM szo ao)\/hf id=some (.qK szo ao)) (hle:off+len<=ao.length) {T:Nat->Prop} (hT:g_ S w T w) (hb:T (φ id).bY):
  RD T w (.sl sz ((ao.drop off).take len)) v:=by
 obtain⟨hsz,hl,hr⟩:=nH hI ho;subst hl;cases hc with|fq hk hcap haddr hext=>exact .AE hb hsz (by simp;omega) hcap ((hr.xm off len fun h=>haddr (by omega)).mono hT)
theorem Nr{id dj off sz:Nat}{ao:List (List D)}{r:List D}{v:Value}(hI:Inv S K w0 Kn φ hf w)(hc:RC S w Kn φ (.ep id dj off) v)
  (ho:hf id=some (.aM sz ao)\/hf id=some (.qK sz ao)) (hr:ao[dj]?=some r) {T:Nat->Prop} (hT:g_ S w T w) (hb:T (φ id).bY):
  RD T w (.pt (r.drop off)) v:=by
 obtain⟨hsz,hl,hrr⟩:=nH hI ho;cases hc with|ep hk=>refine .yt hb fun j x hj=>?_;rw[bQ]at hj;obtain⟨u,hu,hd⟩:=hrr.2 dj r hr (off+j) x hj;refine⟨u,?_,hd.mono hT⟩;rw[<-hu,hl];simp only[cP]
theorem Ay{H:bH}(hI:Inv S K w0 Kn φ (aC H) w)(n:Nat)(c:C)(x:D)(aD:List Nat)(v:Value)(hleaf:match c with|.op _ _|.oU _ _=>False|_=>True)
  (h:fg H n c=some (x,aD)) (hc:RC S w Kn φ c v):RD (SB S w φ (aC H) aD) w x v:=by
 cases c with
 |d y=>simp only[fg,bm,Prod.mk.injEq]at h;obtain⟨rfl,rfl⟩:=h;cases hc with|d hd=>exact hd.mono (SB.ur _)
 |fq sz id off len=>
  simp only[fg]at h
  have key:∀szo ao,(aC H id=some (.aM szo ao)\/aC H id=some (.qK szo ao))->(if off+len<=ao.length then some (D.sl sz ((ao.drop off).take len),[id])else none)=some (x,aD)->RD (SB S w φ (aC H) aD) w x v:=by
   intro szo ao ho h;split at h
   .rename_i hle;obtain⟨rfl,rfl⟩:=ad (aa h);exact CF hI hc ho hle (SB.ur _) (.inr ⟨_,by simp,kT _⟩)
   .simp at h
  split at h
  .exact key _ _ (.inl (by assumption)) h
  .exact key _ _ (.inr (by assumption)) h
  .rename_i szi slots ho;split at h
   .rename_i he;obtain⟨rfl,rfl⟩:=he;split at h
    .rename_i ao hd;obtain⟨rfl,rfl⟩:=ad (aa h);obtain⟨_,hro⟩:=hI.iQ _ _ ho;obtain⟨h1,h2⟩:=Dx hro hd (SB.ur (hf:=aC H) (φ:=φ) [id]) fun k x hp=>.inr ⟨id,by simp,dU.2 (.inr ⟨szi,slots,k,ho,hp⟩)⟩;cases hro with
     |nst hsz hl=>
      cases hc with
      |fq hk hcap haddr hext=>rw[hl];refine .AE (.inr ⟨id,by simp,kT id⟩) Nat.one_pos h1 hcap ?_;cases hs:slots with|nil=>have:ao=[]:=List.length_eq_zero_iff.1 (by rw[h1,hs];rfl);rw[this];exact⟨fun i r hi=>by simp at hi,fun i r hi=>by simp at hi⟩|cons s r=>rw[hs]at hcap;have:=haddr (by simp at hcap;omega);rw[this,hl,jx,dO];exact h2
    .simp at h
   .simp at h
  .simp at h
 |ep id dj off=>
  simp only[fg]at h
  have key:∀szo ao,(aC H id=some (.aM szo ao)\/aC H id=some (.qK szo ao))->
    (match ao[dj]?with|some r=>if off<=r.length then some (D.pt (r.drop off),[id])else none|none=>none)=some (x,aD)->RD (SB S w φ (aC H) aD) w x v:=by
   intro szo ao ho h;split at h
   .rename_i r hr;split at h
    .obtain ⟨rfl,rfl⟩:=ad (aa h);exact Nr hI hc ho hr (SB.ur _) (.inr ⟨_,by simp,kT _⟩)
    .simp at h
   .simp at h
  split at h
  .exact key _ _ (.inl (by assumption)) h
  .exact key _ _ (.inr (by assumption)) h
  .simp at h
 |op id off=>exact hleaf.elim
 |oU f caps=>exact hleaf.elim
 |om id=>cases n<;>simp[fg]at h
theorem um{H:bH}(hI:Inv S K w0 Kn φ (aC H) w):∀n,
  (∀c x aD v,fg H n c=some (x,aD)->RC S w Kn φ c v->RD (SB S w φ (aC H) aD) w x v)/\
  (∀cs xs aD,gw H n cs=some (xs,aD)->∀(get:Nat->Option Value),(∀(i:Nat)(c:C),cs[i]?=some c->∃v,get i=some v/\RC S w Kn φ c v)->
   xs.length=cs.length/\∀(i:Nat)(x:D),xs[i]?=some x->∃v,get i=some v/\RD (SB S w φ (aC H) aD) w x v):=by
 intro n;induction n with
 |zero=>
  refine⟨fun c x aD v h hc=>?_,fun cs xs aD h get hg=>?_⟩
  .cases c with|op id off=>simp[fg]at h|oU f caps=>simp[fg]at h|_=>exact Ay hI 0 _ x aD v trivial h hc
  .cases cs with
   |nil=>
    obtain⟨rfl,rfl⟩:[]=xs/\[]=aD:=by simpa[gw]using h
    exact⟨rfl,fun i x hi=>by simp at hi⟩
   |cons c cs=>simp[gw]at h
 |succ n ih=>
  obtain⟨ihc,ihl⟩:=ih;refine⟨fun c x aD v h hc=>?_,fun cs xs aD h get hg=>?_⟩
  .cases c with
   |op id off=>
    simp only[fg]at h;split at h
    .rename_i cells ho;split at h
     .obtain ⟨rfl,rfl⟩:=ad (aa h);obtain⟨_,h0⟩:=hI.iQ _ _ ho;cases h0 with
      |o8 hb hS hr=>cases hc with|op hk=>refine .yt (.inl hS) fun j x hj=>?_;rw[bQ]at hj;obtain⟨u,hu,hd⟩:=hr _ _ hj;exact⟨u,by rw[<-hu,hb,bK],hd.mono (SB.ur _)⟩
     .simp at h
    .rename_i cells ho;split at h
     .rename_i ds ids' hv;split at h
      .obtain ⟨rfl,rfl⟩:=ad (aa h);obtain⟨_,h0⟩:=hI.iQ _ _ ho;cases h0 with
       |@box _ aM hb hS hK hown hlen hr=>cases hc with|op hk=>obtain⟨h1,h2⟩:=ihl cells ds ids' hv (fun i=>w.cell? ⟨(φ id).bY,i,none⟩) (fun i c hi=>by have hlt:=(ak.1 hi).1;rw[hlen]at hlt;exact⟨aM.getD i undef,by rw[hown.cell];simp[jJ,hlt],hr i c hi⟩);refine .yt (.inr ⟨id,by simp,kT _⟩) fun j x hj=>?_;rw[bQ]at hj;obtain⟨u,hu,hd⟩:=h2 _ _ hj;exact⟨u,by rw[<-hu,hb,bK],hd.mono (SB.Cz _ _ fun i hi=>by simp[hi])⟩
      .simp at h
     .simp at h
    .simp at h
   |oU f caps=>
    simp only[fg]at h;split at h
    .rename_i ds ids' hv;obtain⟨rfl,rfl⟩:=ad (aa h);cases hc with
     |@oU _ _ vs hlen hr=>
      obtain⟨h1,h2⟩:=ihl caps ds ids' hv (fun i=>vs[i]?) (fun i c hi=>by have hlt:=(ak.1 hi).1;rw[hlen]at hlt;exact⟨vs.getD i undef,by simp[jJ,hlt],hr i c hi⟩);refine .fn (h1.trans hlen) fun j x hj=>?_;obtain⟨u,hu,hd⟩:=h2 j x hj;have hu':vs[j]?=some u:=hu;have:vs.getD j undef=u:=by simp[hu']
      rw[this];exact hd
    .simp at h
   |_=>exact Ay hI (n+1) _ x aD v trivial h hc
  .cases cs with
   |nil=>
    obtain⟨rfl,rfl⟩:[]=xs/\[]=aD:=by simpa[gw]using h
    exact⟨rfl,fun i x hi=>by simp at hi⟩
   |cons c cs=>
    simp only[gw]at h;split at h
    .rename_i x0 a xs0 b hx hxs;obtain⟨rfl,rfl⟩:=ad (aa h);obtain⟨v0,hv0,hc0⟩:=hg 0 c rfl;have h0:=ihc c x0 a v0 hx hc0;obtain⟨h1,h2⟩:=ihl cs xs0 b hxs (fun i=>get (i+1)) (fun i c hi=>hg (i+1) c (by simpa using hi));refine⟨by simp[h1],fun i x hi=>?_⟩;cases i with
     |zero=>
      obtain rfl:x0=x:=by simpa using hi
      exact⟨v0,hv0,h0.mono (SB.Cz _ _ fun i hi=>by simp[hi])⟩
     |succ i=>obtain⟨u,hu,hd⟩:=h2 i x (by simpa using hi);exact⟨u,hu,hd.mono (SB.Cz _ _ fun i hi=>by simp[hi])⟩
    .simp at h
theorem q_{H:bH}(hI:Inv S K w0 Kn φ (aC H) w):∀cs xs aD,gp H cs=some (xs,aD)->∀(get:Nat->Option Value),(∀(i:Nat)(c:C),cs[i]?=some c->∃v,get i=some v/\RC S w Kn φ c v)->
   xs.length=cs.length/\∀(i:Nat)(x:D),xs[i]?=some x->∃v,get i=some v/\RD (SB S w φ (aC H) aD) w x v:=by
 intro cs;induction cs with
 |nil=>
  intro xs aD h get hg;obtain⟨rfl,rfl⟩:[]=xs/\[]=aD:=by simpa[gp]using h
  exact⟨rfl,fun i x hi=>by simp at hi⟩
 |cons c cs ih=>
  intro xs aD h get hg;simp only[gp]at h;split at h
  .rename_i x0 a xs0 b hx hxs;obtain⟨rfl,rfl⟩:=ad (aa h);obtain⟨v0,hv0,hc0⟩:=hg 0 c rfl;have h0:=(um hI 300).1 c x0 a v0 hx hc0;obtain⟨h1,h2⟩:=ih xs0 b hxs (fun i=>get (i+1)) (fun i c hi=>hg (i+1) c (by simpa using hi));refine⟨by simp[h1],fun i x hi=>?_⟩;cases i with
   |zero=>
    obtain rfl:x0=x:=by simpa using hi
    exact⟨v0,hv0,h0.mono (SB.Cz _ _ fun i hi=>by simp[hi])⟩
   |succ i=>obtain⟨u,hu,hd⟩:=h2 i x (by simpa using hi);exact⟨u,hu,hd.mono (SB.Cz _ _ fun i hi=>by simp[hi])⟩
  .simp at h
theorem nV{H:bH}{all:List Nat}:∀(l:List Nat)(u:fL),fh H all l=some u->
  ∀id,(id∈l->∃o,qN H all id=some o/\cA u id=some (some o))/\(id∉l->cA u id=none):=by
 intro l;induction l with
 |nil=>
  intro u h id;obtain rfl:[]=u:=by simpa[fh]using h
  exact⟨fun h=>by simp at h,fun _=>rfl⟩
 |cons a l ih=>
  intro u h id;simp only[fh]at h;split at h
  .rename_i o u' ho hu;obtain rfl:=aa h;by_cases e:a=id
   .subst e;exact⟨fun _=>⟨o,ho,by simp[cA]⟩,fun hn=>absurd (List.mem_cons_self ..) hn⟩
   .obtain ⟨h1,h2⟩:=ih u' hu id;have e':(a==id)=false:=by simpa using e
    refine⟨fun hm=>?_,fun hn=>?_⟩
    .obtain ⟨o',ho',hf'⟩:=h1 ((aP.1 hm).resolve_left (fun e2=>e e2.symm));exact⟨o',ho',by simp[cA,e',hf']⟩
    .simp only[cA,e',cond_false];exact h2 (fun hm=>hn (aA _ hm))
  .simp at h
theorem A5{H:bH}{all:List Nat}{id:Nat}{o:Ob}(hI:Inv S K w0 Kn φ (aC H) w)(hmem:id∈all)(h:qN H all id=some o):
  cX o=false/\(∃o0,aC H id=some o0)/\RO (SB S w φ (aC H) all) K w Kn φ (φ id) o:=by
 unfold qN at h;have hb:SB S w φ (aC H) all (φ id).bY:=.inr ⟨id,hmem,kT _⟩;split at h
 .rename_i sz ao ho;obtain rfl:=aa h;obtain⟨hsz,hl,hr⟩:=nH hI (.inl ho);exact⟨rfl,⟨_,ho⟩,.qK hsz hl hb (hr.mono (SB.ur _))⟩
 .rename_i sz ao ho;obtain rfl:=aa h;obtain⟨hsz,hl,hr⟩:=nH hI (.inr ho);exact⟨rfl,⟨_,ho⟩,.qK hsz hl hb (hr.mono (SB.ur _))⟩
 .rename_i cells ho;obtain rfl:=aa h;obtain⟨_,h0⟩:=hI.iQ _ _ ho;cases h0 with|o8 hbase hS hr=>exact⟨rfl,⟨_,ho⟩,.o8 hbase hb fun i x hi=>let⟨v,hv,hd⟩:=hr i x hi;⟨v,hv,hd.mono (SB.ur _)⟩⟩
 .rename_i cells ho;split at h
  .rename_i ds aD hv;split at h
   .rename_i hall;obtain rfl:=aa h;obtain⟨_,h0⟩:=hI.iQ _ _ ho;cases h0 with|@box _ aM hbase hS hK hown hlen hr=>obtain⟨h1,h2⟩:=(um hI 300).2 cells ds aD hv (fun i=>w.cell? ⟨(φ id).bY,i,none⟩) (fun i c hi=>by have hlt:=(ak.1 hi).1;rw[hlen]at hlt;exact⟨aM.getD i undef,by rw[hown.cell];simp[jJ,hlt],hr i c hi⟩);refine⟨rfl,⟨_,ho⟩,.o8 hbase hb fun i x hi=>?_⟩;obtain⟨u,hu,hd⟩:=h2 i x hi;exact⟨u,hu,hd.mono (SB.Cz _ _ fun i hi=>by simpa using bc.1 hall i hi)⟩
   .simp at h
  .simp at h
 .simp at h
 .simp at h
 .rename_i szi slots ho;split at h
  .rename_i ao hd;obtain rfl:=aa h;obtain⟨_,hro⟩:=hI.iQ _ _ ho;obtain⟨_,h2⟩:=Dx hro hd (SB.ur (hf:=aC H) (φ:=φ) all) fun k x hp=>.inr ⟨id,hmem,dU.2 (.inr ⟨szi,slots,k,ho,hp⟩)⟩;cases hro with|nst hsz hl=>exact⟨rfl,⟨_,ho⟩,.qK Nat.one_pos hl hb h2⟩
  .simp at h
 .simp at h
theorem Inv.Gc{H:bH}{aD:List Nat}{u:fL}(hI:Inv S K w0 Kn φ (aC H) w)(h:fh H aD aD=some u):
  Inv (SB S w φ (aC H) aD) K w0 Kn φ (bl u (aC H)) w:=by
 have hfr:∀id∈aD,∃o,cA u id=some (some o)/\cX o=false/\(∃o0,aC H id=some o0)/\RO (SB S w φ (aC H) aD) K w Kn φ (φ id) o:=by
  intro id hid;obtain⟨o,ho,hfn⟩:=((nV aD u h id).1 hid)
  exact⟨o,hfn,A5 hI hid ho⟩
 have hold:∀id o,bl u (aC H) id=some o->cX o=true->id∉aD/\aC H id=some o:=by
  intro id o ho hown;by_cases hm:id∈aD
  .obtain ⟨o',hfn,hno,_⟩:=hfr id hm;simp only[bl,hfn]at ho;obtain rfl:=aa ho;rw[hno]at hown;simp at hown
  .refine ⟨hm,?_⟩;simpa only[bl,(nV aD u h id).2 hm]using ho
 have hnb:∀id o,aC H id=some o->cX o=true->id∉aD->∀x∈iv w φ (aC H) id,¬SB S w φ (aC H) aD x:=by
  intro id o ho hown hm x hx hb;have hx1:=(oE hI ho hown hx).1;rcases hb with hb|⟨i,hi,e⟩
  .exact hx1 hb
  .obtain ⟨_,_,_,⟨o0,ho0⟩,_⟩:=hfr i hi;by_cases hoi:cX o0=true
   .exact nZ hI ho ho0 hown hoi (fun e'=>hm (e'▸hi)) hx e
   .obtain ⟨_,h1⟩:=hI.iQ i o0 ho0;rcases dU.1 e with rfl|⟨sz,sl,k,h2,_⟩
    .exact hx1 (by
      cases h1 with
      |qK hsz hl hS _=>exact hS
      |o8 hb hS _=>exact hS
      |_=>simp[cX]at hoi)
    .rw [ho0]at h2;obtain rfl:=aa h2;simp[cX]at hoi
 refine hI.kI (SB.ur _) (Ren.refl _ _) ?_ ?_ hI.nw ?_ ?_ ?_
 .intro b hb;rcases hb with hb|⟨i,hi,hb⟩
  .exact hI.uS b hb
  .obtain ⟨_,_,_,⟨o0,ho0⟩,_⟩:=hfr i hi;by_cases hoi:cX o0=true
   .exact (oE hI ho0 hoi hb).2.2
   .obtain ⟨_,h1⟩:=hI.iQ i o0 ho0;rcases dU.1 hb with rfl|⟨sz,sl,k,h2,h3⟩
    .cases h1 with|qK hsz hl hS=>exact hI.uS _ hS|o8 hb hS=>exact hI.uS _ hS|_=>simp[cX]at hoi
    .exact (hI.IA h2 h3).2.2.1
 .intro b hb;rcases hb with hb|⟨i,hi,hb⟩
  .exact hI.sk b hb
  .obtain ⟨_,_,_,⟨o0,ho0⟩,_⟩:=hfr i hi;by_cases hoi:cX o0=true
   .exact (oE hI ho0 hoi hb).2.1
   .obtain ⟨_,h1⟩:=hI.iQ i o0 ho0;rcases dU.1 hb with rfl|⟨sz,sl,k,h2,h3⟩
    .cases h1 with|qK hsz hl hS=>exact hI.sk _ hS|o8 hb hS=>exact hI.sk _ hS|_=>simp[cX]at hoi
    .exact (hI.IA h2 h3).2.1
 .intro id o ho;by_cases hm:id∈aD
  .obtain ⟨o',hfn,hno,⟨o0,ho0⟩,hro⟩:=hfr id hm;simp only[bl,hfn]at ho;obtain rfl:=aa ho;exact .inr ⟨(hI.iQ id o0 ho0).1,hro⟩
  .have ho':aC H id=some o:=by simpa only[bl,(nV aD u h id).2 hm]using ho
   exact .inl ⟨ho',fun hown=>⟨rfl,hnb id o ho' hown hm _ (kT _)⟩⟩
 .intro i j a b ha hb hoa hob hne;exact hI.eL i j a b (hold i a ha hoa).2 (hold j b hb hob).2 hoa hob hne
 .intro id sz sl hi;obtain⟨h1,h2⟩:=hold id _ hi rfl;refine⟨h2,rfl,fun k x hp=>⟨rfl,hnb id _ h2 rfl h1 x (dU.2 (.inr ⟨sz,sl,k,h2,hp⟩)),fun j b hj hb=>?_⟩⟩;exact(hI.w6 id sz sl k x h2 hp).1 j b (hold j b hj hb).2 hb
end
def Cy(S:Nat->Prop)(w:World)(sz:Nat):Option (List (List D))->Value->List Nat->Prop
 |none,v,fp=>v=.slice none 0 0/\fp=[]
 |some ao,v,fp=>∃b,fp=[b]/\HS S w sz ao v b
inductive RT(S:Nat->Prop)(w:World):T->Value->List Nat->Prop
 |d {x:D} {v:Value} (h:RD S w x v):RT S w (.d x) v []
 |sl {sz:Nat} {ao:List (List D)} {b off len cap:Nat} {aM:Array Value} (hsz:0<sz) (ho:nn w b aM) (hlen:ao.length=len) (hcap:len<=cap)
   (hext:off+cap*sz<=aM.size) (hr:cW S w sz (fun i=>aM[i]?) off ao):RT S w (.sl sz ao) (.slice (some ⟨b,off,none⟩) len cap) [b]
 |pt {ts:List T} {b:Nat} {aM:Array Value} {fps:List (List Nat)} (ho:nn w b aM) (hlen:ts.length=aM.size) (hfl:fps.length=ts.length)
   (h:∀(i:Nat)(t:T)(fp:List Nat),ts[i]?=some t->fps[i]?=some fp->RT S w t (aM.getD i undef) fp):
   RT S w (.pt ts) (.pointer (some ⟨b,0,none⟩)) (b::fps.flatten)
 |zK {sz:Nat} {ao:List (Option (List (List D)))} {b off cap:Nat} {aM:Array Value} {fps:List (List Nat)} (hsz:0<sz) (ho:nn w b aM) (hcap:ao.length<=cap) (hext:off+cap<=aM.size) (hfl:fps.length=ao.length)
   (h:∀(i:Nat)(r:Option (List (List D)))(fp:List Nat),ao[i]?=some r->fps[i]?=some fp->∃v,aM[off+i]?=some v/\Cy S w sz r v fp):
   RT S w (.zK sz ao) (.slice (some ⟨b,off,none⟩) ao.length cap) (b::fps.flatten)
theorem Cy.mono{S S':Nat->Prop}{w w':World}(hs:g_ S w S' w'){sz:Nat}{r:Option (List (List D))}{v:Value}{fp:List Nat}(h:Cy S w sz r v fp)(hb:∀b∈fp,w'.heap[b]?=w.heap[b]?):Cy S' w' sz r v fp:=by cases r with|none=>exact h|some ao=>obtain⟨b,rfl,h⟩:=h;exact⟨b,rfl,h.mono hs (hb b (by simp))⟩
theorem Cy.lt{S:Nat->Prop}{w:World}{sz:Nat}{r:Option (List (List D))}{v:Value}{fp:List Nat}(h:Cy S w sz r v fp):∀b∈fp,b<w.heap.size:=by cases r with|none=>obtain⟨_,rfl⟩:=h;intro b hb;simp at hb|some ao=>obtain⟨b,rfl,h⟩:=h;intro b' hb;obtain rfl:=aq.1 hb;obtain⟨aM,h⟩:=h.bv;exact h.lt
theorem RT.mono{S S':Nat->Prop}{w w':World}(hs:g_ S w S' w'){t:T}{v:Value}{fp:List Nat}(h:RT S w t v fp)(hb:∀b∈fp,w'.heap[b]?=w.heap[b]?):RT S' w' t v fp:=by induction h with|d h=>exact .d (h.mono hs)|sl hsz ho hlen hcap hext hr=>exact .sl hsz (ho.ml (hb _ (by simp))) hlen hcap hext (hr.mono hs)|pt ho hlen hfl h ih=>refine .pt (ho.ml (hb _ (by simp))) hlen hfl fun i t fp hi hf=>ih i t fp hi hf fun b hbm=>hb b ?_;exact aA _ (dK.2 ⟨fp,aX hf,hbm⟩)|zK hsz ho hcap hext hfl h=>refine .zK hsz (ho.ml (hb _ (by simp))) hcap hext hfl fun i r fp hi hf=>?_;obtain⟨v,h1,h2⟩:=h i r fp hi hf;exact⟨v,h1,h2.mono hs fun b hbm=>hb b (aA _ (dK.2 ⟨fp,aX hf,hbm⟩))⟩
theorem RT.lt{S:Nat->Prop}{w:World}{t:T}{v:Value}{fp:List Nat}(h:RT S w t v fp):∀b∈fp,b<w.heap.size:=by
 induction h with
 |d h=>intro b hb;simp at hb
 |sl hsz ho=>intro b hb;obtain rfl:=aq.1 hb;exact ho.lt
 |pt ho hlen hfl h ih=>
  intro b hb;rcases aP.1 hb with rfl|hb
  .exact ho.lt
  .obtain ⟨fp,hfp,hbf⟩:=dK.1 hb;obtain⟨i,hi,rfl⟩:=cu hfp;exact ih i _ _ (aw (by omega:i<_)) (aw hi) b hbf
 |zK hsz ho hcap hext hfl h=>
  intro b hb;rcases aP.1 hb with rfl|hb
  .exact ho.lt
  .obtain ⟨fp,hfp,hbf⟩:=dK.1 hb;obtain⟨i,hi,rfl⟩:=cu hfp;obtain⟨v,_,h2⟩:=h i _ _ (aw (by omega:i<_)) (aw hi);exact h2.lt b hbf
section
variable{S K:Nat->Prop}{w0 w:World}{Kn:Nat->Prop}{φ:Nat->gO}{hf:Nat->Option Ob}
theorem pK{id:Nat}(h:∀sz sl,hf id≠some (.nst sz sl)):iv w φ hf id=[(φ id).bY]:=by
 unfold iv;split
 .rename_i sz sl e;exact absurd e (h sz sl)
 .rfl
theorem Ih{l:gO}{sz:Nat}{get:Nat->Option Value}(hget:∀i,w.cell? ⟨l.bY,i,none⟩=get i):∀(slots:List kZ)(k0:Nat)(ao:List (Option (List (List D)))),(∀(i:Nat)(s:kZ),slots[i]?=some s->∃v,get (l.aR+(k0+i))=some v/\zG S K w Kn φ sz s v)->uw slots=some ao->
  ao.length=slots.length/\∃fps:List (List Nat),fps.length=ao.length/\fps.flatten=rp w l slots k0/\∀(i:Nat)(r:Option (List (List D)))(fp:List Nat),ao[i]?=some r->fps[i]?=some fp->∃v,get (l.aR+(k0+i))=some v/\Cy S w sz r v fp:=by
 intro slots;induction slots with
 |nil=>intro k0 ao _ h;obtain rfl:=aa h;exact⟨rfl,[],rfl,rfl,fun i r fp hi=>by simp at hi⟩
 |cons s slots ih=>
  intro k0 ao hr h;simp only[uw]at h;split at h
  .rename_i x rs hx hrs;obtain rfl:=aa h;obtain⟨h1,fps,h2,h3,h4⟩:=ih (k0+1) rs (fun i s hi=>by obtain⟨v,e1,e2⟩:=hr (i+1) s (by simpa using hi);exact⟨v,by rw[<-e1,show k0+(i+1)=k0+1+i by omega],e2⟩) hrs;obtain⟨v,e1,e2⟩:=hr 0 s rfl
   have fin:∀fp0,Cy S w sz x v fp0->fp0++rp w l slots (k0+1)=rp w l (s::slots) k0->(x::rs).length=(s::slots).length/\∃fps:List (List Nat),fps.length=(x::rs).length/\fps.flatten=rp w l (s::slots) k0/\∀(i:Nat)(r:Option (List (List D)))(fp:List Nat),(x::rs)[i]?=some r->fps[i]?=some fp->∃v,get (l.aR+(k0+i))=some v/\Cy S w sz r v fp:=by
    intro fp0 h5 h6;refine⟨by simp[h1],fp0::fps,by simp[h2],by rw[eh,h3,h6],fun i r fp hi hf=>?_⟩;cases i with
    |zero=>
     obtain rfl:x=r:=by simpa using hi
     obtain rfl:fp0=fp:=by simpa using hf
     exact⟨v,e1,h5⟩
    |succ i=>obtain⟨v',q1,q2⟩:=h4 i r fp (by simpa using hi) (by simpa using hf);exact⟨v',by rw[<-q1,show k0+(i+1)=k0+1+i by omega],q2⟩
   cases e2 with|nil=>obtain rfl:=aa hx;exact fin [] ⟨rfl,rfl⟩ rfl|@bv rows0 _ b q1 _ _=>obtain rfl:=aa hx;refine fin [b] ⟨b,rfl,q1⟩ ?_;simp only[rp];rw[show l.aR+k0=l.aR+(k0+0)from rfl,hget,e1];simp only[Option.bind_some,q1.bY,List.singleton_append]|dY _=>simp[Pa]at hx
  .simp at h
theorem Df{H:bH}{sz id off len:Nat}{t:T}{bv rd:List Nat}{v:Value}(hI:Inv S K w0 Kn φ (aC H) w)(hc:RC S w Kn φ (.fq sz id off len) v)
  (h:(match aC H id with
  |some (.aM _ ao)=>if off+len<=ao.length then some (T.sl sz ((ao.drop off).take len),[id],[id])else none
  |some (.qK _ ao)=>if off+len<=ao.length then some (.d (.sl sz ((ao.drop off).take len)),[],[id])else none
  |some (.nst szi slots)=>if off=0/\len=slots.length then(match uw slots with|some ao=>some (.zK szi ao,[id],[id])|none=>none)else none
  |_=>none)=some (t,bv,rd)):
  RT S w t v (bv.flatMap (iv w φ (aC H)))/\∀i∈bv,∃o,aC H i=some o/\cX o=true:=by
 split at h
 .rename_i szo ao ho;split at h
  .rename_i hle;obtain⟨rfl,rfl,rfl⟩:T.sl sz ((ao.drop off).take len)=t/\[id]=bv/\[id]=rd:=by simpa using h
   obtain⟨hk,h0⟩:=hI.iQ _ _ ho;cases h0 with
   |aM hsz hl hS hK hown hext hfit hr=>
    subst hl;cases hc with
    |fq hk hcap haddr hx=>
     rw[bi,List.flatMap_nil,bB,pK fun _ _ e=>by rw[ho]at e;cases e];refine⟨.sl hsz hown (by simp;omega) hcap (by omega) (hr.xm off len fun h=>haddr (by omega)),fun i hi=>?_⟩
     .obtain rfl:=aq.1 hi;exact⟨_,ho,rfl⟩
  .simp at h
 .rename_i szo ao ho;split at h
  .rename_i hle;obtain⟨rfl,rfl,rfl⟩:T.d (.sl sz ((ao.drop off).take len))=t/\[]=bv/\[id]=rd:=by simpa using h
   obtain⟨hk,h0⟩:=hI.iQ _ _ ho;have hS:S (φ id).bY:=by cases h0 with|qK hsz hl hS _=>exact hS
   exact⟨.d (CF hI hc (.inr ho) hle (g_.refl _ _) hS),fun i hi=>by simp at hi⟩
  .simp at h
 .rename_i szi slots ho;split at h
  .rename_i he;obtain⟨rfl,rfl⟩:=he;split at h
   .rename_i ao hrows;obtain⟨rfl,rfl,rfl⟩:T.zK szi ao=t/\[id]=bv/\[id]=rd:=by simpa using h
    obtain⟨hk,h0⟩:=hI.iQ _ _ ho;cases h0 with
    |@nst _ _ aM hsz hl hS hK hown hext hfit hr hv=>
     obtain⟨h1,fps,h2,h3,h4⟩:=Ih (get:=fun i=>aM[i]?) hown.cell slots 0 ao (fun i s hi=>by rw[bK];exact hr i s hi) hrows;cases hc with
     |@fq _ _ _ cap addr hk hcap haddr hx hcc=>
      rw[bi,List.flatMap_nil,bB];have e:iv w φ (aC H) id=(φ id).bY::fps.flatten:=by unfold iv;rw[ho,h3]
      rw[e,<-h1];refine⟨.zK (sz:=szi) (ao:=ao) hsz hown (by omega) (by rw[hl,lw]at hx;omega) h2 fun i r fp hi hf=>?_,fun i hi=>?_⟩
      .obtain ⟨v,q1,q2⟩:=h4 i r fp hi hf;have hlt:=(ak.1 hi).1;rw[bK]at q1;exact⟨v,by rw[haddr (by omega),jx,dO];exact q1,q2⟩
      .obtain rfl:=aq.1 hi;exact⟨_,ho,rfl⟩
   .simp at h
  .simp at h
 .simp at h
theorem rq{H:bH}(hI:Inv S K w0 Kn φ (aC H) w):∀n,
  (∀c t bv rd v,eK H n c=some (t,bv,rd)->RC S w Kn φ c v->RT S w t v (bv.flatMap (iv w φ (aC H)))/\∀i∈bv,∃o,aC H i=some o/\cX o=true)/\
  (∀cs ts bv rd,iJ H n cs=some (ts,bv,rd)->∀(get:Nat->Value),(∀(i:Nat)(c:C),cs[i]?=some c->RC S w Kn φ c (get i))->
   ts.length=cs.length/\(∃fps:List (List Nat),fps.length=ts.length/\fps.flatten=bv.flatMap (iv w φ (aC H))/\
    ∀(i:Nat)(t:T)(fp:List Nat),ts[i]?=some t->fps[i]?=some fp->RT S w t (get i) fp)/\∀i∈bv,∃o,aC H i=some o/\cX o=true):=by
 intro n;induction n with
 |zero=>
  refine⟨fun c t bv rd v h hc=>?_,fun cs ts bv rd h get hg=>?_⟩
  .cases c with
   |d x=>
    obtain⟨rfl,rfl,rfl⟩:T.d x=t/\[]=bv/\[]=rd:=by simpa[eK]using h
    cases hc with|d hd=>exact⟨.d hd,fun i hi=>by simp at hi⟩
   |fq sz id off len=>simp only[eK]at h;exact Df hI hc h
   |_=>simp[eK]at h
  .cases cs with
   |nil=>
    obtain⟨rfl,rfl,rfl⟩:[]=ts/\[]=bv/\[]=rd:=by simpa[iJ]using h
    exact⟨rfl,⟨[],rfl,rfl,fun i t fp hi=>by simp at hi⟩,fun i hi=>by simp at hi⟩
   |cons c cs=>simp[iJ]at h
 |succ n ih=>
  obtain⟨ihc,ihl⟩:=ih;refine⟨fun c t bv rd v h hc=>?_,fun cs ts bv rd h get hg=>?_⟩
  .cases c with
   |d x=>
    obtain⟨rfl,rfl,rfl⟩:T.d x=t/\[]=bv/\[]=rd:=by simpa[eK]using h
    cases hc with|d hd=>exact⟨.d hd,fun i hi=>by simp at hi⟩
   |fq sz id off len=>simp only[eK]at h;exact Df hI hc h
   |op id off=>
    cases off with
    |succ off=>simp[eK]at h
    |zero=>
     simp only[eK]at h;split at h
     .rename_i cells ho;split at h
      .rename_i ts own' rd' hp;obtain⟨rfl,rfl,rfl⟩:T.pt ts=t/\id::own'=bv/\id::rd'=rd:=by simpa using h
       obtain⟨hk,h0⟩:=hI.iQ _ _ ho;cases h0 with
       |@box _ aM hb hS hK hown hlen hr=>
        obtain⟨h1,⟨fps,h2,h3,h4⟩,h5⟩:=ihl cells ts own' rd' hp (fun i=>aM.getD i undef) hr;cases hc with
        |op hk=>
         rw[hb];refine⟨?_,fun i hi=>?_⟩
         .rw [bi,<-h3,pK fun _ _ e=>by rw[ho]at e;cases e];exact .pt hown (h1.trans hlen) h2 h4
         .rcases aP.1 hi with rfl|hi
          .exact ⟨_,ho,rfl⟩
          .exact h5 i hi
      .simp at h
     .rename_i cells ho;obtain⟨rfl,rfl,rfl⟩:T.d (.pt cells)=t/\[]=bv/\[id]=rd:=by simpa using h
      obtain⟨hk,h0⟩:=hI.iQ _ _ ho;cases h0 with
      |o8 hb hS hr=>cases hc with|op hk=>exact⟨.d (.yt hS fun j x hj=>by obtain⟨u,hu,hd⟩:=hr j x hj;exact⟨u,by rw[<-hu,hb];simp,hd⟩),fun i hi=>by simp at hi⟩
     .simp at h
   |ep id dj off=>simp[eK]at h
   |oU f caps=>simp[eK]at h
   |om id=>simp[eK]at h
  .cases cs with
   |nil=>
    obtain⟨rfl,rfl,rfl⟩:[]=ts/\[]=bv/\[]=rd:=by simpa[iJ]using h
    exact⟨rfl,⟨[],rfl,rfl,fun i t fp hi=>by simp at hi⟩,fun i hi=>by simp at hi⟩
   |cons c cs=>
    simp only[iJ]at h;split at h
    .rename_i t0 a i0 ts0 b j0 hx hxs;obtain⟨rfl,rfl,rfl⟩:t0::ts0=ts/\a++b=bv/\i0++j0=rd:=by simpa using h
     obtain⟨p1,p2⟩:=ihc c t0 a i0 (get 0) hx (hg 0 c rfl);obtain⟨h1,⟨fps,h2,h3,h4⟩,h5⟩:=ihl cs ts0 b j0 hxs (fun i=>get (i+1)) (fun i c hi=>hg (i+1) c (by simpa using hi));refine⟨by simp[h1],⟨(a.flatMap (iv w φ (aC H)))::fps,by simp[h2],by simp[h3],fun i t fp hi hfp=>?_⟩,fun i hi=>?_⟩
     .cases i with
      |zero=>
       obtain rfl:t0=t:=by simpa using hi
       obtain rfl:(a.flatMap (iv w φ (aC H)))=fp:=by simpa using hfp
       exact p1
      |succ i=>exact h4 i t fp (by simpa using hi) (by simpa using hfp)
     .rcases ap.1 hi with hi|hi
      .exact p2 i hi
      .exact h5 i hi
    .simp at h
theorem Br{bv:List Nat}(hI:Inv S K w0 Kn φ hf w)(hn:bv.Nodup)(ho:∀i∈bv,∃o,hf i=some o/\cX o=true):(bv.flatMap (iv w φ hf)).Nodup:=by induction bv with|nil=>exact fX|cons a l ih=>rw[fY]at hn;obtain⟨o1,h1,h2⟩:=ho a (by simp);rw[bi,bZ];refine⟨GE hI h1 h2,ih hn.2 fun i hi=>ho i (aA _ hi),fun x hx y hy e=>?_⟩;subst e;obtain⟨i,hi,hy⟩:=List.mem_flatMap.1 hy;obtain⟨o2,h3,h4⟩:=ho i (aA _ hi);exact nZ hI h1 h3 h2 h4 (fun e'=>hn.1 (e'▸hi)) hx hy
def ph(Kn:Nat->Prop)(a b:Nat)(j:Nat):Prop:=Kn j\/(a<=j/\j<b)
theorem Inv.name(h:Inv S K w0 Kn φ hf w){i:Nat}(hi:¬Kn i)(l:gO)(o:Ob)(hfree:cX o=true->∀j b,hf j=some b->cX b=true->l.bY∉iv w φ hf j)
  (hro:RO S K w (fun j=>Kn j\/j=i) (ext φ i l) l o)
  (hp:∀sz sl k x,o=.nst sz sl->rY w l sl k x->x≠l.bY/\(∀j b,hf j=some b->cX b=true->x∉iv w φ hf j)/\∀k',rY w l sl k' x->k'=k:=by intro _ _ _ _ e;cases e):
  Inv S K w0 (fun j=>Kn j\/j=i) (ext φ i l) (bl [(i,some o)] hf) w:=by
 have hold:∀j b,bl [(i,some o)] hf j=some b->(j=i/\b=o/\ext φ i l j=l)\/(j≠i/\hf j=some b/\ext φ i l j=φ j):=by
  intro j b hj;rw[bT]at hj;by_cases e:i=j
  .rw [if_pos e]at hj;exact .inl ⟨e.symm,(aa hj).symm,by simp[ext,e]⟩
  .rw [if_neg e,fM]at hj;have e1:¬j=i:=fun q=>e q.symm;exact .inr ⟨e1,hj,by simp[ext,e1]⟩
 refine h.uW (g_.refl _ _) (jN _ hi) h.uS h.sk h.nw ?_ ?_ ?_
 .intro id o' ho;rcases hold id o' ho with⟨rfl,rfl,e⟩|⟨_,ho,_⟩
  .exact .inr ⟨.inr rfl,by rw[e];exact hro⟩
  .exact .inl ⟨ho,fun hown=>⟨rfl,((h.iQ id o' ho).2.bv hown).1⟩,h.DV ho fun _ _=>rfl⟩
 .intro a b oa ob ha hb hoa hob hne;rcases hold a oa ha with⟨h1,h2,e1⟩|⟨_,ha',e1⟩<;>rcases hold b ob hb with⟨h3,h4,e2⟩|⟨_,hb',e2⟩
  .exact absurd (h1.trans h3.symm) hne
  .rw [e1,e2];exact fun e=>hfree (h2▸hoa) b ob hb' hob (dU.2 (.inl e))
  .rw [e1,e2];exact fun e=>hfree (h4▸hob) a oa ha' hoa (dU.2 (.inl e.symm))
  .rw [e1,e2];exact h.eL a b oa ob ha' hb' hoa hob hne
 .intro a sz sl k x ha hpa;rcases hold a _ ha with⟨ea,eo,e1⟩|⟨hne,ha',e1⟩<;>rw[e1]at hpa
  .obtain ⟨p1,p2,p3⟩:=hp sz sl k x eo.symm hpa;refine⟨fun j b hj hown=>?_,fun j sz' sl' k' hj hpj=>?_⟩
   .rcases hold j b hj with⟨_,_,e2⟩|⟨_,hj',e2⟩<;>rw[e2]
    .exact fun e=>p1 e.symm
    .exact fun e=>p2 j b hj' hown (dU.2 (.inl e.symm))
   .rcases hold j _ hj with⟨ej,eo2,e2⟩|⟨_,hj',e2⟩<;>rw[e2]at hpj
    .rw [<-eo]at eo2;cases eo2;exact⟨ej.trans ea.symm,p3 k' hpj⟩
    .exact absurd (dU.2 (.inr ⟨sz',sl',k',hj',hpj⟩)) (p2 j _ hj' rfl)
  .obtain ⟨p1,p2⟩:=h.w6 a sz sl k x ha' hpa;refine⟨fun j b hj hown=>?_,fun j sz' sl' k' hj hpj=>?_⟩
   .rcases hold j b hj with⟨_,eo,e2⟩|⟨_,hj',e2⟩<;>rw[e2]
    .exact fun e=>hfree (eo▸hown) a _ ha' rfl (dU.2 (.inr ⟨sz,sl,k,ha',e▸hpa⟩))
    .exact p1 j b hj' hown
   .rcases hold j _ hj with⟨_,eo,e2⟩|⟨_,hj',e2⟩<;>rw[e2]at hpj
    .exact absurd (dU.2 (.inr ⟨sz,sl,k,ha',hpa⟩)) ((hp sz' sl' k' x eo.symm hpj).2.1 a _ ha' rfl)
    .exact p2 j sz' sl' k' hj' hpj
theorem Inv.kn{Kn':Nat->Prop}(h:Inv S K w0 Kn φ hf w)(hs:∀i,Kn i->Kn' i):Inv S K w0 Kn' φ hf w:=h.kI (g_.refl _ _) ⟨hs,fun _ _=>rfl⟩ h.uS h.sk h.nw (fun id o ho=>.inl ⟨ho,fun hown=>⟨rfl,((h.iQ id o ho).2.bv hown).1⟩⟩) h.eL (h.AH fun _ _=>rfl)
structure rN(S K:Nat->Prop)(w0 w:World)(Kn:Nat->Prop)(φ:Nat->gO)(hf:Nat->Option Ob)(fp:List Nat)(nxt m:Nat)(u:fL)(φ':Nat->gO):Prop where
 le:nxt<=m
 sj:Ren Kn φ (ph Kn nxt m) φ'
 inv:Inv S K w0 (ph Kn nxt m) φ' (bl u hf) w
 gM:∀p∈u,nxt<=p.1/\p.1<m
 bY:∀p∈u,∀x∈iv w φ' (bl u hf) p.1,x∈fp
theorem tF(a b:Nat):Ren Kn φ (ph Kn a b) φ:=⟨fun _ h=>.inl h,fun _ _=>rfl⟩
theorem rN.nil(h:Inv S K w0 Kn φ hf w)(fp:List Nat)(n:Nat):rN S K w0 w Kn φ hf fp n n [] φ:=⟨au _,tF _ _,h.kn fun _ hi=>.inl hi,fun p hp=>by simp at hp,fun p hp=>by simp at hp⟩
theorem rN.skip(h:Inv S K w0 Kn φ hf w)(fp:List Nat)(n:Nat):rN S K w0 w Kn φ hf fp n (n+1) [] φ:=⟨bO _,tF _ _,h.kn fun _ hi=>.inl hi,fun p hp=>by simp at hp,fun p hp=>by simp at hp⟩
theorem ll{α:Type}{u:List (Nat×α)}{id:Nat}(h:∀p∈u,p.1≠id):cA u id=none:=by
 induction u with
 |nil=>rfl
 |cons p r ih=>
  obtain⟨i,x⟩:=p;have e:(i==id)=false:=by simpa using h (i,x) (by simp)
  simp only[cA,e,cond_false];exact ih fun q hq=>h q (by simp[hq])
def i_(w:World)(φ:Nat->gO)(hf:Nat->Option Ob)(fp:List Nat):Prop:=∀j b,hf j=some b->cX b=true->∀x∈iv w φ hf j,x∉fp
theorem ru{a b c:Nat}(h1:a<=b)(h2:b<=c)(j:Nat):ph (ph Kn a b) b c j<->ph Kn a c j:=by
 unfold ph;constructor
 .rintro ((h|h)|h)
  .exact .inl h
  .exact .inr (by omega)
  .exact .inr (by omega)
 .rintro (h|h)
  .exact .inl (.inl h)
  .by_cases e:j<b
   .exact .inl (.inr (by omega))
   .exact .inr (by omega)
theorem Inv.xp{Kn':Nat->Prop}(h:Inv S K w0 Kn φ hf w)(hs:∀i,Kn i<->Kn' i):Inv S K w0 Kn' φ hf w:=h.kn fun i hi=>(hs i).1 hi
theorem RC.kn{Kn':Nat->Prop}{c:C}{v:Value}(h:RC S w Kn φ c v)(hs:∀i,Kn i->Kn' i):RC S w Kn' φ c v:=h.mono (g_.refl _ _) ⟨hs,fun _ _=>rfl⟩
theorem gF{φ':Nat->gO}{hf':Nat->Option Ob}{i:Nat}(h1:φ i=φ' i)(h2:hf i=hf' i):iv w φ hf i=iv w φ' hf' i:=by unfold iv;rw[h1,h2]
theorem rN.pS{fa fb:List Nat}{n m k:Nat}{u v:fL}{φ1 φ2:Nat->gO}(a:rN S K w0 w Kn φ hf fa n m u φ1)(b:rN S K w0 w (ph Kn n m) φ1 (bl u hf) fb m k v φ2):
  rN S K w0 w Kn φ hf (fa++fb) n k (v++u) φ2 where
 le:=fc a.le b.le
 sj:=⟨fun i h=>.inl h,fun i h=>(b.sj.eu i (.inl h)).trans (a.sj.eu i h)⟩
 inv:=by rw[ew];exact b.inv.xp fun i=>ru a.le b.le i
 gM p hp:=by
  have:=a.le;have:=b.le;rcases ap.1 hp with h|h
  .have:=b.gM p h;omega
  .have:=a.gM p h;omega
 bY p hp:=by
  intro x hx;rcases ap.1 hp with h|h
  .rw [ew]at hx;exact List.mem_append_right _ (b.bY p h x hx)
  .have hn:cA v p.1=none:=ll fun q hq e=>by have:=a.gM p h;have:=b.gM q hq;omega
   have e:bl (v++u) hf p.1=bl u hf p.1:=by simp only[bl,iX,hn]
   have e2:=gF (w:=w) (b.sj.eu p.1 (.inr (a.gM p h))) e;rw[e2]at hx;exact List.mem_append_left _ (a.bY p h x hx)
theorem mD{u v:fL}(h:∀p∈u,∀q∈v,p.1≠q.1):bl (u++v) hf=bl (v++u) hf:=by
 funext id;simp only[bl,iX];cases hu:cA u id with
 |none=>cases cA v id<;>simp
 |some x=>
  have:cA v id=none:=by
   refine ll fun q hq e=>?_
   have hm:∃p∈u,p.1=id:=by
    clear h;induction u with
    |nil=>simp[cA]at hu
    |cons p r ih=>
     obtain⟨i,y⟩:=p;by_cases e':i=id
     .exact ⟨(i,y),by simp,e'⟩
     .have e2:(i==id)=false:=by simpa using e'
      simp only[cA,e2,cond_false]at hu;obtain⟨p,hp,hpe⟩:=ih hu;exact⟨p,by simp[hp],hpe⟩
   obtain⟨p,hp,hpe⟩:=hm;exact h p hp q hq (hpe.trans e.symm)
  simp[this]
theorem qf(nxt:Nat)(ts:List T):k8 nxt (.pt ts)=(.op nxt 0,(nxt,some (.box (iE (nxt+1) ts).1))::(iE (nxt+1) ts).2.1,(iE (nxt+1) ts).2.2):=rfl
theorem qz(nxt:Nat)(t:T)(ts:List T):iE nxt (t::ts)=((k8 nxt t).1::(iE (k8 nxt t).2.2 ts).1,(k8 nxt t).2.1++(iE (k8 nxt t).2.2 ts).2.1,(iE (k8 nxt t).2.2 ts).2.2):=rfl
theorem D5{x:Nat}:∀{fps:List (List Nat)}{k k':Nat},fps.flatten.Nodup->fps[k]?=some [x]->fps[k']?=some [x]->k=k':=by
 intro fps;induction fps with
 |nil=>intro k k' _ h;simp at h
 |cons fp fps ih=>
  intro k k' hn h1 h2;rw[eh,bZ]at hn;have hm:∀k,fps[k]?=some [x]->x∈fps.flatten:=fun k h=>dK.2 ⟨[x],aX h,by simp⟩;cases k with
  |zero=>
   obtain rfl:fp=[x]:=by simpa using h1
   cases k' with|zero=>rfl|succ k'=>exact absurd rfl (hn.2.2 x (by simp) x (hm k' (by simpa using h2)))
  |succ k=>
   cases k' with
   |zero=>
    obtain rfl:fp=[x]:=by simpa using h2
    exact absurd rfl (hn.2.2 x (by simp) x (hm k (by simpa using h1)))
   |succ k'=>exact congrArg Nat.succ (ih hn.2.1 (by simpa using h1) (by simpa using h2))
mutual
theorem J9(t:T):∀nxt,nxt<=(k8 nxt t).2.2:=by intro nxt;cases t with|d x=>exact bO _|uI=>exact bO _|sl sz ao=>exact bO _|zK sz ao=>exact bO _|pt ts=>rw[qf];exact Nat.le_of_succ_le (vN ts (nxt+1))
theorem vN(ts:List T):∀nxt,nxt<=(iE nxt ts).2.2:=by intro nxt;cases ts with|nil=>exact au _|cons t ts=>rw[qz];exact fc (J9 t nxt) (vN ts _)
end
mutual
theorem vO(t:T):∀{Kn:Nat->Prop}{φ:Nat->gO}{hf:Nat->Option Ob}(nxt:Nat)(v:Value)(fp:List Nat),Inv S K w0 Kn φ hf w->(∀j,nxt<=j->j<(k8 nxt t).2.2->¬Kn j)->
  RT S w t v fp->fp.Nodup->(∀b∈fp,¬S b/\¬K b)->i_ w φ hf fp->
  ∃φ',rN S K w0 w Kn φ hf fp nxt (k8 nxt t).2.2 (k8 nxt t).2.1 φ'/\RC S w (ph Kn nxt (k8 nxt t).2.2) φ' (k8 nxt t).1 v:=by
 intro Kn φ hf nxt v fp hI hfr hr hnd hSK haw;cases t with
 |uI=>cases hr
 |d x=>cases hr with|d hd=>exact⟨φ,rN.skip hI _ _,.d hd⟩
 |sl sz ao=>
  cases hr with
  |@sl _ _ b off len cap aM hsz ho hlen hcap hext hrr=>
   have hnx:¬Kn nxt:=hfr nxt (au _) (aZ _);refine⟨ext φ nxt ⟨b,off,sz,aM.size,cap⟩,?_,?_⟩
   .have hin:=hI.name (hnx) ⟨b,off,sz,aM.size,cap⟩ (.aM sz ao) (fun _ j o hj hown hm=>haw j o hj hown _ hm (by simp))
     (.aM hsz rfl (hSK b (by simp)).1 (hSK b (by simp)).2 ho rfl (by have:ao.length*sz<=cap*sz:=aI _ (by omega);simp only;omega) hrr (by simp only;omega))
    refine⟨bO _,⟨fun i h=>.inl h,(jN _ (hnx)).eu⟩,hin.xp fun i=>?_,fun p hp=>?_,fun p hp=>?_⟩
    .simp only[ph,k8];constructor
     .rintro (h|rfl)
      .exact .inl h
      .exact .inr (by omega)
     .rintro (h|h)
      .exact .inl h
      .exact .inr (by omega)
    .obtain rfl:p=_:=by simpa[k8]using hp
     simp[k8]
    .obtain rfl:p=_:=by simpa[k8]using hp
     rw[pK fun _ _ e=>by simp[k8,bl,cA]at e];simp[ext]
   .have e:(ext φ nxt ⟨b,off,sz,aM.size,cap⟩) nxt=⟨b,off,sz,aM.size,cap⟩:=by simp[ext]
    have:=RC.fq (S:=S) (w:=w) (Kn:=ph Kn nxt (nxt+1)) (φ:=ext φ nxt ⟨b,off,sz,aM.size,cap⟩) (id:=nxt) (off:=0) (len:=ao.length) (cap:=cap) (addr:=off) (.inr (by omega)) (by omega) (by rw[e];simp) (by rw[e];simpa using hext) (by rw[e];simp);rw[e]at this;simpa[k8,hlen]using this
 |zK sz ao=>
  cases hr with
  |@zK _ _ b off cap aM fps hsz ho hcap hext hfl hrr=>
   have hnx:¬Kn nxt:=hfr nxt (au _) (aZ _);rw[fY]at hnd;have hget:∀i,w.cell? ⟨b,i,none⟩=aM[i]?:=ho.cell;have hpat:∀k x,rY w ⟨b,off,1,aM.size,cap⟩ (ao.map mT) k x->∃fp,fps[k]?=some fp/\fp=[x]:=by rintro k x ⟨rs,v,h1,h2,h3⟩;rw[aG]at h1;obtain⟨r,hr1,hr2⟩:=aE.1 h1;have hlt:=(ak.1 hr1).1;have hf:fps[k]?=some fps[k]:=aw (by omega);obtain⟨v',q1,q2⟩:=hrr k r fps[k] hr1 hf;simp only[hget,q1,bm]at h2;subst h2;cases r with|none=>cases hr2|some rows'=>obtain⟨b',q3,q4⟩:=q2;rw[q4.bY]at h3;obtain rfl:=aa h3;exact⟨_,hf,q3⟩
   have hmem:∀k x,rY w ⟨b,off,1,aM.size,cap⟩ (ao.map mT) k x->x∈fps.flatten:=fun k x hp=>by obtain⟨fp,h1,rfl⟩:=hpat k x hp;exact dK.2 ⟨[x],aX h1,by simp⟩
   have hin:=hI.name (hnx) ⟨b,off,1,aM.size,cap⟩ (.nst sz (ao.map mT)) (fun _ j o hj hown hm=>haw j o hj hown _ hm (by simp))
    (.nst hsz rfl (hSK b (by simp)).1 (hSK b (by simp)).2 ho rfl (by simp only[aN];omega) (fun i s hi=>by
     rw[aG]at hi;obtain⟨r,hr1,rfl⟩:=aE.1 hi;have hlt:=(ak.1 hr1).1;have hf:fps[i]?=some fps[i]:=aw (by omega);obtain⟨v,q1,q2⟩:=hrr i r fps[i] hr1 hf;refine⟨v,q1,?_⟩;cases r with
     |none=>obtain⟨rfl,_⟩:=q2;exact .nil
     |some rows'=>obtain⟨b',q3,q4⟩:=q2;have hm:b'∈fps.flatten:=dK.2 ⟨fps[i],List.getElem_mem _,by rw[q3];simp⟩;exact .bv q4 (hSK b' (aA _ hm)).1 (hSK b' (aA _ hm)).2) (by simp only[aN];omega))
    (fun sz' sl' k x eo hp=>by cases eo;have hm:=hmem k x hp;refine⟨fun e=>hnd.1 (by have e:x=b:=e;rw[<-e];exact hm),fun j b' hj hown hx=>haw j b' hj hown x hx (aA _ hm),fun k' hp'=>?_⟩;obtain⟨fp,h1,rfl⟩:=hpat k x hp;obtain⟨fp',h2,rfl⟩:=hpat k' x hp';exact D5 hnd.2 h2 h1)
   refine⟨ext φ nxt ⟨b,off,1,aM.size,cap⟩,?_,?_⟩
   .refine ⟨bO _,⟨fun i h=>.inl h,(jN _ (hnx)).eu⟩,hin.xp fun i=>?_,fun p hp=>?_,fun p hp x hx=>?_⟩
    .simp only[ph,k8];constructor
     .rintro (h|rfl)
      .exact .inl h
      .exact .inr (by omega)
     .rintro (h|h)
      .exact .inl h
      .exact .inr (by omega)
    .obtain rfl:p=_:=by simpa[k8]using hp
     simp[k8]
    .obtain rfl:p=_:=by simpa[k8]using hp
     have e:bl (k8 nxt (T.zK sz ao)).2.1 hf nxt=some (.nst sz (ao.map mT)):=by simp[k8,bl,cA]
     rcases dU.1 hx with rfl|⟨sz',sl',k,h1,h2⟩
     .simp [ext]
     .rw [e]at h1;cases h1;simp only[ext,if_true]at h2;exact aA _ (hmem k x h2)
   .have e:(ext φ nxt ⟨b,off,1,aM.size,cap⟩) nxt=⟨b,off,1,aM.size,cap⟩:=by simp[ext]
    have:=RC.fq (S:=S) (w:=w) (Kn:=ph Kn nxt (nxt+1)) (φ:=ext φ nxt ⟨b,off,1,aM.size,cap⟩) (id:=nxt) (off:=0) (len:=ao.length) (cap:=cap) (addr:=off) (.inr (by omega)) (by omega) (by rw[e];simp) (by rw[e];simpa using hext) (by rw[e];simp);rw[e]at this;simpa[k8]using this
 |pt ts=>
  cases hr with
  |@pt _ b aM fps ho hlen hfl h=>
   rw[fY]at hnd;have hnx:¬Kn nxt:=hfr nxt (au _) (by rw[qf];exact vN ts (nxt+1))
   obtain⟨φ1,hL,hrc⟩:=th ts (Kn:=Kn) (φ:=φ) (hf:=hf) (nxt+1) (fun i=>aM.getD i undef) fps hI (fun j hj hj2=>hfr j (by omega) (by rw[qf];exact hj2)) hfl h hnd.2
    (fun b' hb'=>hSK b' (by simp[hb'])) (fun j o hj hown x hx hm=>haw j o hj hown x hx (aA _ hm))
   have hm:=hL.le
   have hnk:¬ph Kn (nxt+1) (iE (nxt+1) ts).2.2 nxt:=by
    rintro(h|h)
    .exact hnx h
    .omega
   refine⟨ext φ1 nxt ⟨b,0,1,aM.size,0⟩,?_,?_⟩
   .have hin:=hL.inv.name hnk ⟨b,0,1,aM.size,0⟩ (.box (iE (nxt+1) ts).1) (fun _ j o hj hown hm=>by
      by_cases hu:∃p∈(iE (nxt+1) ts).2.1,p.1=j
      .obtain ⟨p,hp,rfl⟩:=hu;exact hnd.1 (hL.bY p hp _ hm)
      .have hfn:cA (iE (nxt+1) ts).2.1 j=none:=ll fun p hp e=>hu ⟨p,hp,e⟩;have hj':=hj;simp only[bl,hfn]at hj';have hk:=(hI.iQ j o hj').1;rw[gF (hL.sj.eu j hk) (hj.trans hj'.symm)]at hm;exact haw j o hj' hown _ hm (by simp))
     (.box rfl (hSK b (by simp)).1 (hSK b (by simp)).2 ho (hrc.1.trans hlen) fun i c hi=>(hrc.2 i c hi).mono (g_.refl _ _) (jN _ hnk))
    refine⟨?_,⟨fun i h=>.inl h,fun i hi=>?_⟩,?_,fun p hp=>?_,fun p hp=>?_⟩
    .simp only[qf];exact Nat.le_of_succ_le hm
    .have:i≠nxt:=fun e=>hnx (e▸hi);simp only[ext,this,if_false];exact hL.sj.eu i hi
    .have e:bl (k8 nxt (.pt ts)).2.1 hf=bl [(nxt,some (.box (iE (nxt+1) ts).1))] (bl (iE (nxt+1) ts).2.1 hf):=by rw[<-ew];rfl
     rw[e];refine hin.xp fun i=>?_;simp only[ph,qf];constructor
     .rintro ((h|h)|rfl)
      .exact .inl h
      .exact .inr (by omega)
      .exact .inr (by omega)
     .rintro (h|h)
      .exact .inl (.inl h)
      .by_cases e:i=nxt
       .exact .inr e
       .exact .inl (.inr (by omega))
    .simp only[qf]at hp|-;rcases aP.1 hp with rfl|hp
     .simp only;omega
     .have:=hL.gM p hp;omega
    .simp only[qf]at hp;rcases aP.1 hp with rfl|hp
     .rw [pK fun _ _ e=>by simp[qf,bl,cA]at e];simp[ext]
     .have hne:¬p.1=nxt:=by have:=hL.gM p hp;omega
      have hne':(nxt==p.1)=false:=by simpa using fun e=>hne e.symm
      intro x hx;rw[gF (φ':=φ1) (hf':=bl (iE (nxt+1) ts).2.1 hf) (by simp only[ext,hne,if_false]) (by simp only[qf,bl,cA,hne',cond_false])]at hx;exact aA _ (hL.bY p hp x hx)
   .have:=RC.op (S:=S) (w:=w) (Kn:=ph Kn nxt (iE (nxt+1) ts).2.2) (φ:=ext φ1 nxt ⟨b,0,1,aM.size,0⟩) (id:=nxt) (off:=0) (.inr (by omega));simpa[qf,ext]using this
theorem th(ts:List T):∀{Kn:Nat->Prop}{φ:Nat->gO}{hf:Nat->Option Ob}(nxt:Nat)(get:Nat->Value)(fps:List (List Nat)),Inv S K w0 Kn φ hf w->(∀j,nxt<=j->j<(iE nxt ts).2.2->¬Kn j)->
  fps.length=ts.length->(∀(i:Nat)(t:T)(fp:List Nat),ts[i]?=some t->fps[i]?=some fp->RT S w t (get i) fp)->fps.flatten.Nodup->(∀b∈fps.flatten,¬S b/\¬K b)->i_ w φ hf fps.flatten->
  ∃φ',rN S K w0 w Kn φ hf fps.flatten nxt (iE nxt ts).2.2 (iE nxt ts).2.1 φ'/\(iE nxt ts).1.length=ts.length/\
   ∀(i:Nat)(c:C),(iE nxt ts).1[i]?=some c->RC S w (ph Kn nxt (iE nxt ts).2.2) φ' c (get i):=by
 intro Kn φ hf nxt get fps hI hfr hfl hr hnd hSK haw;cases ts with
 |nil=>exact⟨φ,rN.nil hI _ _,rfl,fun i c hi=>by simp[iE]at hi⟩
 |cons t ts=>
  cases fps with
  |nil=>simp at hfl
  |cons fp fps=>
   rw[eh,bZ]at hnd;obtain⟨hn1,hn2,hn3⟩:=hnd;simp only[eh,ap]at hSK
   obtain⟨φ1,hL1,hc1⟩:=vO t (Kn:=Kn) (φ:=φ) (hf:=hf) nxt (get 0) fp hI (fun j hj hj2=>hfr j hj (by rw[qz];exact cn hj2 (vN ts _))) (hr 0 t fp rfl rfl) hn1 (fun b hb=>hSK b (.inl hb))
    (fun j o hj hown x hx hm=>haw j o hj hown x hx (by simp[hm]))
   obtain⟨φ2,hL2,hlen,hc2⟩:=th ts (Kn:=ph Kn nxt (k8 nxt t).2.2) (φ:=φ1) (hf:=bl (k8 nxt t).2.1 hf) (k8 nxt t).2.2 (fun i=>get (i+1)) fps hL1.inv
    (fun j hj hj2 hk=>by
     rcases hk with hk|hk
     .have:=hL1.le;exact hfr j (by omega) (by rw[qz];exact hj2) hk
     .omega) (by simpa using hfl) (fun i t fp hi hfp=>hr (i+1) t fp (by simpa using hi) (by simpa using hfp)) hn2 (fun b hb=>hSK b (.inr hb))
    (fun j o hj hown x hx hm=>by
     by_cases hu:∃p∈(k8 nxt t).2.1,p.1=j
     .obtain ⟨p,hp,rfl⟩:=hu;exact hn3 _ (hL1.bY p hp x hx) _ hm rfl
     .have hfn:cA (k8 nxt t).2.1 j=none:=ll fun p hp e=>hu ⟨p,hp,e⟩;have hj':=hj;simp only[bl,hfn]at hj';have hk:=(hI.iQ j o hj').1;rw[gF (hL1.sj.eu j hk) (hj.trans hj'.symm)]at hx;exact haw j o hj' hown x hx (by simp[hm]))
   have hcomp:=hL1.pS hL2;have hcm:bl ((iE (k8 nxt t).2.2 ts).2.1++(k8 nxt t).2.1) hf=bl ((k8 nxt t).2.1++(iE (k8 nxt t).2.2 ts).2.1) hf:=mD fun p hp q hq e=>by have h1:=hL2.gM p hp;have h2:=hL1.gM q hq;omega
   refine⟨φ2,?_,by simp[qz,hlen],fun i c hi=>?_⟩
   .simp only[qz,eh];have hsw:∀{p:Nat×Option Ob}{a b:fL},p∈a++b->p∈b++a:=fun hp=>ap.2 (ap.1 hp).symm;exact⟨hcomp.le,hcomp.sj,hcm▸hcomp.inv,fun p hp=>hcomp.gM p (hsw hp),fun p hp x hx=>hcomp.bY p (hsw hp) x (hcm.symm▸hx)⟩
   .have hsub:∀i,ph (ph Kn nxt (k8 nxt t).2.2) (k8 nxt t).2.2 (iE (k8 nxt t).2.2 ts).2.2 i->ph Kn nxt (iE (k8 nxt t).2.2 ts).2.2 i:=fun i=>(ru hL1.le hL2.le i).1;cases i with
    |zero=>
     obtain rfl:(k8 nxt t).1=c:=by simpa[iE]using hi
     exact(hc1.mono (g_.refl _ _) hL2.sj).kn hsub
    |succ i=>exact(hc2 i c (by simpa[qz]using hi)).kn hsub
end
theorem tw{α:Type}{l:List α}{k i:Nat}{x y:α}(h:(l.set k x)[i]?=some y):(k=i/\y=x/\i<l.length)\/(k≠i/\l[i]?=some y):=by
 rw[List.getElem?_set]at h;split at h
 .rename_i e;split at h
  .rename_i hlt;exact .inl ⟨e,(aa h).symm,e▸hlt⟩
  .simp at h
 .rename_i e;exact .inr ⟨e,h⟩
theorem Inv.S4(h:Inv S K w0 Kn φ hf w){id:Nat}{o o':Ob}(ho:hf id=some o)(hown:cX o=true)(hno:HT o')(hro:RO S K w Kn φ (φ id) o'):Inv S K w0 Kn φ (bl [(id,some o')] hf) w:=by
 have hold:∀j b,bl [(id,some o')] hf j=some b->(j=id/\b=o')\/(j≠id/\hf j=some b):=by
  intro j b hj;rw[bT]at hj;by_cases e:id=j
  .rw [if_pos e]at hj;exact .inl ⟨e.symm,(aa hj).symm⟩
  .rw [if_neg e,fM]at hj;exact .inr ⟨fun q=>e q.symm,hj⟩
 have was:∀j b,bl [(id,some o')] hf j=some b->cX b=true->∃b',hf j=some b'/\cX b'=true:=by
  intro j b hj hb;rcases hold j b hj with⟨rfl,rfl⟩|⟨_,hj'⟩
  .exact ⟨o,ho,hown⟩
  .exact ⟨b,hj',hb⟩
 refine h.uW (g_.refl _ _) (Ren.refl _ _) h.uS h.sk h.nw ?_ ?_ ?_
 .intro i x hx;rcases hold i x hx with⟨rfl,rfl⟩|⟨_,hx'⟩
  .exact .inr ⟨(h.iQ i o ho).1,hro⟩
  .exact .inl ⟨hx',fun hown=>⟨rfl,((h.iQ i x hx').2.bv hown).1⟩,h.DV hx' fun _ _=>rfl⟩
 .intro i j a b ha hb hoa hob hne;obtain⟨a',h1,h2⟩:=was i a ha hoa;obtain⟨b',h3,h4⟩:=was j b hb hob;exact h.eL i j a' b' h1 h3 h2 h4 hne
 .intro i sz sl k x hi hp;rcases hold i _ hi with⟨rfl,e⟩|⟨_,hi'⟩
  .obtain ⟨ao,v,h1,_⟩:=hp;exact absurd h1 (hno sz sl k ao e.symm)
  .obtain ⟨p1,p2⟩:=h.w6 i sz sl k x hi' hp;refine⟨fun j b hj hb=>?_,fun j sz' sl' k' hj hpj=>?_⟩
   .obtain ⟨b',h1,h2⟩:=was j b hj hb;exact p1 j b' h1 h2
   .rcases hold j _ hj with⟨rfl,e⟩|⟨_,hj'⟩
    .obtain ⟨ao,v,h1,_⟩:=hpj;exact absurd h1 (hno sz' sl' k' ao e.symm)
    .exact p2 j sz' sl' k' hj' hpj
theorem Inv.split(h:Inv S K w0 Kn φ hf w){id nxt sz dj:Nat}{slots:List kZ}{ao:List (List D)}(ho:hf id=some (.nst sz slots))(hs:slots[dj]?=some (.bv ao))(hn:¬Kn nxt):
  ∃l v,w.cell? ⟨(φ id).bY,(φ id).aR+dj,none⟩=some v/\RC S w (fun j=>Kn j\/j=nxt) (ext φ nxt l) (.fq sz nxt 0 ao.length) v/\
   Inv S K w0 (fun j=>Kn j\/j=nxt) (ext φ nxt l) (bl [(nxt,some (.aM sz ao)),(id,some (.nst sz (slots.set dj (.dY nxt ao.length))))] hf) w:=by
 obtain⟨hk,hro⟩:=h.iQ id _ ho;have hne:id≠nxt:=fun e=>hn (e▸hk);cases hro with
 |@nst _ _ aM hsz hl hS hK hown hext hfit hr hv=>
  obtain⟨v,h1,h2⟩:=hr dj _ hs;cases h2 with
  |@bv _ _ b hrw hbS hbK=>
   obtain⟨addr,cap,ba,rfl,_,hbo,hcap,hfx,hrr⟩:=hrw;have hcell:w.cell? ⟨(φ id).bY,(φ id).aR+dj,none⟩=some (.slice (some ⟨b,addr,none⟩) ao.length cap):=(hown.cell _).trans h1;have hpat:rY w (φ id) slots dj b:=⟨ao,_,hs,hcell,rfl⟩
   obtain⟨p1,p2⟩:=h.w6 id sz slots dj b ho hpat;have he:ext φ nxt ⟨b,addr,sz,ba.size,cap⟩ nxt=⟨b,addr,sz,ba.size,cap⟩:=by simp[ext]
   have heo:∀j,j≠nxt->ext φ nxt ⟨b,addr,sz,ba.size,cap⟩ j=φ j:=fun j hj=>by simp[ext,hj]
   have hren:=jN (φ:=φ) (⟨b,addr,sz,ba.size,cap⟩:gO) hn;have hrc:RC S w (fun j=>Kn j\/j=nxt) (ext φ nxt ⟨b,addr,sz,ba.size,cap⟩) (.fq sz nxt 0 ao.length) (.slice (some ⟨b,addr,none⟩) ao.length cap):=by have:=RC.fq (S:=S) (w:=w) (Kn:=fun j=>Kn j\/j=nxt) (φ:=ext φ nxt ⟨b,addr,sz,ba.size,cap⟩) (id:=nxt) (off:=0) (len:=ao.length) (cap:=cap) (addr:=addr) (.inr rfl) (by omega) (by rw[he];simp) (by rw[he];simpa using hfx) (by rw[he];simp);rw[he]at this;exact this
   refine⟨⟨b,addr,sz,ba.size,cap⟩,_,hcell,hrc,?_⟩
   have hold:∀j c,bl [(nxt,some (.aM sz ao)),(id,some (.nst sz (slots.set dj (.dY nxt ao.length))))] hf j=some c->(j=nxt/\c=.aM sz ao)\/(j=id/\c=.nst sz (slots.set dj (.dY nxt ao.length)))\/(j≠nxt/\j≠id/\hf j=some c):=by
    intro j c hj;rw[bT]at hj;by_cases e:nxt=j
    .rw [if_pos e]at hj;exact .inl ⟨e.symm,(aa hj).symm⟩
    .rw [if_neg e,bT]at hj;by_cases e2:id=j
     .rw [if_pos e2]at hj;exact .inr (.inl ⟨e2.symm,(aa hj).symm⟩)
     .rw [if_neg e2,fM]at hj;exact .inr (.inr ⟨fun q=>e q.symm,fun q=>e2 q.symm,hj⟩)
   have hpat2:∀j sz' sl' k x,bl [(nxt,some (.aM sz ao)),(id,some (.nst sz (slots.set dj (.dY nxt ao.length))))] hf j=some (.nst sz' sl')->rY w (ext φ nxt ⟨b,addr,sz,ba.size,cap⟩ j) sl' k x->∃tu,hf j=some (.nst sz' tu)/\rY w (φ j) tu k x/\x≠b:=by
    intro j sz' sl' k x hj hp;rcases hold j _ hj with⟨_,e⟩|⟨rfl,e⟩|⟨e1,e2,hj'⟩
    .cases e
    .cases e;rw[heo _ hne]at hp;obtain⟨rows',v',q1,q2,q3⟩:=hp;rcases tw q1 with⟨_,e,_⟩|⟨hk',q1'⟩
     .cases e
     .have hp':rY w (φ j) slots k x:=⟨rows',v',q1',q2,q3⟩
      exact⟨slots,ho,hp',fun e=>hk' (by rw[((p2 j sz slots k ho (e▸hp')).2)])⟩
    .rw [heo _ e1]at hp;exact⟨sl',hj',hp,fun e=>e2 ((p2 j sz' sl' k hj' (e▸hp)).1)⟩
   refine h.uW (g_.refl _ _) hren h.uS h.sk h.nw ?_ ?_ ?_
   .intro j c hj;rcases hold j c hj with⟨rfl,rfl⟩|⟨rfl,rfl⟩|⟨e1,_,hj'⟩
    .refine .inr ⟨.inr rfl,?_⟩;rw[he];exact .aM (by assumption) rfl hbS hbK hbo rfl (by have:=aI sz hcap;simp only;omega) hrr hcap
    .refine .inr ⟨.inl hk,?_⟩;rw[heo _ hne];refine .nst hsz hl hS hK hown hext (by rw[dL];exact hfit) (fun i s hi=>?_) (by rw[dL];exact hv);rcases tw hi with⟨rfl,rfl,_⟩|⟨_,hi'⟩
     .exact ⟨_,h1,.dY hrc⟩
     .obtain ⟨v',q1,q2⟩:=hr i s hi';refine⟨v',q1,?_⟩;cases q2 with|nil=>exact .nil|bv h hS hK=>exact .bv h hS hK|dY h=>exact .dY (h.mono (g_.refl _ _) hren)
    .exact .inl ⟨hj',fun hown=>⟨rfl,((h.iQ j c hj').2.bv hown).1⟩,h.DV hj' fun _ _=>rfl⟩
   .intro i j a c ha hc hoa hoc hij
    have key:∀j c,bl [(nxt,some (.aM sz ao)),(id,some (.nst sz (slots.set dj (.dY nxt ao.length))))] hf j=some c->cX c=true->j≠nxt->(∃c',hf j=some c'/\cX c'=true)/\ext φ nxt ⟨b,addr,sz,ba.size,cap⟩ j=φ j:=by
     intro j c hj hc hjn;rcases hold j c hj with⟨e,_⟩|⟨rfl,rfl⟩|⟨_,_,hj'⟩
     .exact absurd e hjn
     .exact ⟨⟨_,ho,rfl⟩,heo _ hjn⟩
     .exact ⟨⟨c,hj',hc⟩,heo _ hjn⟩
    by_cases hi:i=nxt
    .subst hi;obtain⟨⟨c',q1,q2⟩,q3⟩:=key j c hc hoc fun e=>hij e.symm;rw[he,q3];exact fun e=>p1 j c' q1 q2 e.symm
    .obtain ⟨⟨a',q1,q2⟩,q3⟩:=key i a ha hoa hi;by_cases hj:j=nxt
     .subst hj;rw[he,q3];exact p1 i a' q1 q2
     .obtain ⟨⟨c',q4,q5⟩,q6⟩:=key j c hc hoc hj;rw[q3,q6];exact h.eL i j a' c' q1 q4 q2 q5 hij
   .intro j sz' sl' k x hj hp;obtain⟨tu,q1,q2,q3⟩:=hpat2 j sz' sl' k x hj hp;obtain⟨r1,r2⟩:=h.w6 j sz' tu k x q1 q2;refine⟨fun i c hi hc=>?_,fun i sz2 sl2 k' hi hpi=>?_⟩
    .rcases hold i c hi with⟨rfl,rfl⟩|⟨rfl,rfl⟩|⟨e1,_,hi'⟩
     .rw [he];exact fun e=>q3 e.symm
     .rw [heo _ hne];exact r1 i _ ho rfl
     .rw [heo _ e1];exact r1 i c hi' hc
    .obtain ⟨sl3,q4,q5,_⟩:=hpat2 i sz2 sl2 k' x hi hpi;exact r2 i sz2 sl3 k' q4 q5
theorem Inv.M3(h:Inv S K w0 Kn φ hf w){id id2 sz sz2 dj:Nat}{slots:List kZ}{ao:List (List D)}(ho:hf id=some (.nst sz slots))(hs:slots[dj]?=some (.dY id2 ao.length))(h2:hf id2=some (.aM sz2 ao)):
  Inv S K w0 Kn φ (bl [(id,some (.nst sz (slots.set dj (.bv ao)))),(id2,none)] hf) w:=by
 obtain⟨hk,hro⟩:=h.iQ id _ ho;obtain⟨hk2,hro2⟩:=h.iQ id2 _ h2;have hne:id2≠id:=fun e=>by rw[e,ho]at h2;cases h2
 have hold:∀j c,bl [(id,some (.nst sz (slots.set dj (.bv ao)))),(id2,none)] hf j=some c->(j=id/\c=.nst sz (slots.set dj (.bv ao)))\/(j≠id/\j≠id2/\hf j=some c):=by
  intro j c hj;rw[bT]at hj;by_cases e:id=j
  .rw [if_pos e]at hj;exact .inl ⟨e.symm,(aa hj).symm⟩
  .rw [if_neg e,bT]at hj;by_cases e2:id2=j
   .rw [if_pos e2]at hj;cases hj
   .rw [if_neg e2,fM]at hj;exact .inr ⟨fun q=>e q.symm,fun q=>e2 q.symm,hj⟩
 have was:∀j c,bl [(id,some (.nst sz (slots.set dj (.bv ao)))),(id2,none)] hf j=some c->cX c=true->j≠id2/\∃c',hf j=some c'/\cX c'=true:=by
  intro j c hj hc;rcases hold j c hj with⟨rfl,rfl⟩|⟨_,e,hj'⟩
  .exact ⟨hne.symm,_,ho,rfl⟩
  .exact ⟨e,c,hj',hc⟩
 cases hro with
 |@nst _ _ aM hsz hl hS hK hown hext hfit hr hv=>
  obtain⟨v,h1,hsl⟩:=hr dj _ hs;have hcell:w.cell? ⟨(φ id).bY,(φ id).aR+dj,none⟩=some v:=(hown.cell _).trans h1
  obtain⟨hvb,hrw⟩:xx v=some (φ id2).bY/\HS S w sz ao v (φ id2).bY:=by
   cases hsl with
   |dY hrc=>
    cases hro2 with
    |@aM _ _ ba hsz2 hl2 hS2 hK2 hown2 hext2 hfit2 hr2 hv2=>cases hrc with|@fq _ _ _ cap addr hk' hcap haddr hx hcc=>refine⟨rfl,addr,cap,ba,rfl,by rw[hl2];exact hsz2,hown2,hcap,by omega,?_⟩;have:=hr2.xm (addr:=addr) 0 ao.length (fun hlt=>by rw[haddr (by omega),hl2]);rw[hl2];simpa using this
  obtain⟨hS2,hK2,_⟩:=hro2.bv rfl
  have hpat2:∀j sz' sl' k x,bl [(id,some (.nst sz (slots.set dj (.bv ao)))),(id2,none)] hf j=some (.nst sz' sl')->rY w (φ j) sl' k x->(j=id/\k=dj/\x=(φ id2).bY)\/∃tu,hf j=some (.nst sz' tu)/\rY w (φ j) tu k x:=by
   intro j sz' sl' k x hj hp;rcases hold j _ hj with⟨rfl,e⟩|⟨e1,e2,hj'⟩
   .cases e;obtain⟨rows',v',q1,q2,q3⟩:=hp;rcases tw q1 with⟨rfl,_,_⟩|⟨hk',q1'⟩
    .refine .inl ⟨rfl,rfl,?_⟩;rw[hcell]at q2;obtain rfl:=aa q2;rw[hvb]at q3;exact(aa q3).symm
    .exact .inr ⟨slots,ho,rows',v',q1',q2,q3⟩
   .exact .inr ⟨sl',hj',hp⟩
  refine h.uW (g_.refl _ _) (Ren.refl _ _) h.uS h.sk h.nw ?_ ?_ ?_
  .intro j c hj;rcases hold j c hj with⟨rfl,rfl⟩|⟨_,_,hj'⟩
   .refine .inr ⟨hk,.nst hsz hl hS hK hown hext (by rw[dL];exact hfit) (fun i s hi=>?_) (by rw[dL];exact hv)⟩;rcases tw hi with⟨rfl,rfl,_⟩|⟨_,hi'⟩
    .exact ⟨v,h1,.bv hrw hS2 hK2⟩
    .exact hr i s hi'
   .exact .inl ⟨hj',fun hown=>⟨rfl,((h.iQ j c hj').2.bv hown).1⟩,h.DV hj' fun _ _=>rfl⟩
  .intro i j a c ha hc hoa hoc hij;obtain⟨_,a',q1,q2⟩:=was i a ha hoa;obtain⟨_,c',q3,q4⟩:=was j c hc hoc;exact h.eL i j a' c' q1 q3 q2 q4 hij
  .intro j sz' sl' k x hj hp;refine⟨fun i c hi hc=>?_,fun i sz3 sl3 k' hi hpi=>?_⟩
   .obtain ⟨hi2,c',q1,q2⟩:=was i c hi hc;rcases hpat2 j sz' sl' k x hj hp with⟨_,_,rfl⟩|⟨tu,q3,q4⟩
    .exact h.eL i id2 c' _ q1 h2 q2 rfl hi2
    .exact (h.w6 j sz' tu k x q3 q4).1 i c' q1 q2
   .rcases hpat2 j sz' sl' k x hj hp with⟨e1,e2,e3⟩|⟨tu,q3,q4⟩<;>rcases hpat2 i sz3 sl3 k' x hi hpi with⟨e4,e5,e6⟩|⟨sl4,q5,q6⟩
    .exact ⟨e4.trans e1.symm,e5.trans e2.symm⟩
    .exact absurd e3.symm ((h.w6 i sz3 sl4 k' x q5 q6).1 id2 _ h2 rfl)
    .exact absurd e6.symm ((h.w6 j sz' tu k x q3 q4).1 id2 _ h2 rfl)
    .exact (h.w6 j sz' tu k x q3 q4).2 i sz3 sl4 k' q5 q6
theorem Inv.TU{w':World}(h:Inv S K w0 Kn φ hf w){id sz dj:Nat}{slots:List kZ}{s':kZ}{v:Value}{aM arr':Array Value}(ho:hf id=some (.nst sz slots))(hown:nn w (φ id).bY aM)(hown':nn w' (φ id).bY arr')(hsize':arr'.size=aM.size)
  (hother:∀b,b≠(φ id).bY->w'.heap[b]?=w.heap[b]?) (hsize:w'.heap.size=w.heap.size) (hfrz:∀a,w'.frozen? a=w.frozen? a) (hio:Io w w')
  (hget:∀i,i≠(φ id).aR+dj->arr'[i]?=aM[i]?) (hv:dj<slots.length->arr'[(φ id).aR+dj]?=some v) (hslot:g_ S w S w'->zG S K w' Kn φ sz s' v) (hs':∀ao,s'≠.bv ao):
  g_ S w S w'/\Inv S K w0 Kn φ (bl [(id,some (.nst sz (slots.set dj s')))] hf) w':=by
 obtain⟨hk,h0⟩:=h.iQ id _ ho;obtain⟨hS,hK,hlt⟩:=h0.bv rfl;have hs:g_ S w S w':=⟨fun _ h=>h,fun b hb=>hother b (fun e=>hS (e▸hb))⟩
 have hold:∀j c,bl [(id,some (.nst sz (slots.set dj s')))] hf j=some c->(j=id/\c=.nst sz (slots.set dj s'))\/(j≠id/\hf j=some c):=by
  intro j c hj;rw[bT]at hj;by_cases e:id=j
  .rw [if_pos e]at hj;exact .inl ⟨e.symm,(aa hj).symm⟩
  .rw [if_neg e,fM]at hj;exact .inr ⟨fun q=>e q.symm,hj⟩
 have was:∀j c,bl [(id,some (.nst sz (slots.set dj s')))] hf j=some c->cX c=true->∃c',hf j=some c'/\cX c'=true:=by
  intro j c hj hc;rcases hold j c hj with⟨rfl,rfl⟩|⟨_,hj'⟩
  .exact ⟨_,ho,rfl⟩
  .exact ⟨c,hj',hc⟩
 have hpat2:∀j sz' sl' k x,bl [(id,some (.nst sz (slots.set dj s')))] hf j=some (.nst sz' sl')->rY w' (φ j) sl' k x->∃tu,hf j=some (.nst sz' tu)/\rY w (φ j) tu k x:=by
  intro j sz' sl' k x hj hp;rcases hold j _ hj with⟨rfl,e⟩|⟨e1,hj'⟩
  .cases e;obtain⟨rows',v',q1,q2,q3⟩:=hp;rcases tw q1 with⟨_,e,_⟩|⟨hk',q1'⟩
   .exact absurd e.symm (hs' rows')
   .refine ⟨slots,ho,rows',v',q1',?_,q3⟩;rw[hown.cell,<-hget _ (by omega),<-hown'.cell];exact q2
  .exact ⟨sl',hj',(rY.eu (hother _ (h.eL j id _ _ hj' ho rfl rfl e1))).1 hp⟩
 have hkeep:∀j sz' sl' k x,hf j=some (.nst sz' sl')->rY w (φ j) sl' k x->w'.heap[x]?=w.heap[x]?/\¬S x:=fun j sz' sl' k x hj hp=>⟨hother x fun e=>(h.w6 j sz' sl' k x hj hp).1 id _ ho rfl e.symm,(h.IA hj hp).1⟩;refine⟨hs,h.uW hs (Ren.refl _ _) (fun b hb=>hsize▸h.uS b hb) h.sk ?_ ?_ ?_ ?_⟩
 .exact ⟨h.nw.FY,fun b hb=>(hother b (fun e=>hK (e▸hb))).trans (h.nw.m6 b hb),hsize▸h.nw.grow,fun a ha=>(hfrz a).trans (h.nw.A4 a ha),h.nw.yz hother (fun a ha=>⟨arr',hown',by obtain⟨t1,e1⟩:=ha;obtain⟨t2,e2⟩:=hown;rw[e1]at e2;rw[hsize'];cases e2;rfl⟩),h.nw.io.trans hio⟩
 .intro j c hj;rcases hold j c hj with⟨rfl,rfl⟩|⟨e1,hj'⟩
  .refine .inr ⟨hk,?_⟩;cases h0 with
   |@nst _ _ arr0 hsz hl hS hK hown0 hext hfit hr hv0=>
    have ea:arr0=aM:=by obtain⟨t1,e1⟩:=hown0;obtain⟨t2,e2⟩:=hown;rw[e1]at e2;cases e2;rfl
    subst ea;refine .nst hsz hl hS hK hown' (hsize'.trans hext) (by rw[dL];exact hfit) (fun i s hi=>?_) (by rw[dL];exact hv0);rcases tw hi with⟨rfl,rfl,hlt⟩|⟨hne,hi'⟩
    .exact ⟨v,hv hlt,hslot hs⟩
    .obtain ⟨v',q1,q2⟩:=hr i s hi';refine⟨v',(hget _ (by omega)).trans q1,?_⟩;cases q2 with|nil=>exact .nil|@bv ao _ b q3 q4 q5=>exact .bv (q3.mono hs (hkeep j sz slots i b ho ⟨ao,v',hi',(hown.cell _).trans q1,q3.bY⟩).1) q4 q5|dY q3=>exact .dY (q3.mono hs (Ren.refl _ _))
  .exact .inl ⟨hj',fun hox=>⟨hother _ (h.eL j id c _ hj' ho hox rfl e1),((h.iQ j c hj').2.bv hox).1⟩,fun sz' sl' eo k x hp=>by subst eo;exact hkeep j sz' sl' k x hj' hp⟩
 .intro i j a c ha hc hoa hoc hij;obtain⟨a',q1,q2⟩:=was i a ha hoa;obtain⟨c',q3,q4⟩:=was j c hc hoc;exact h.eL i j a' c' q1 q3 q2 q4 hij
 .intro j sz' sl' k x hj hp;obtain⟨tu,q1,q2⟩:=hpat2 j sz' sl' k x hj hp;obtain⟨r1,r2⟩:=h.w6 j sz' tu k x q1 q2;refine⟨fun i c hi hc=>?_,fun i sz3 sl3 k' hi hpi=>?_⟩
  .obtain ⟨c',q3,q4⟩:=was i c hi hc;exact r1 i c' q3 q4
  .obtain ⟨sl4,q5,q6⟩:=hpat2 i sz3 sl3 k' x hi hpi;exact r2 i sz3 sl4 k' q5 q6
end
end Go.Ev
