/- The abstract machine: deep data, cells, owned objects, operations and code, and their evaluation. Conditions: none, these are definitions. -/
import Derived.Orders
import Derived.Laws.CopyRow
open Array renaming getD->jW,getElem?_eq_none->gg,getElem?_eq_some_iff->bg
open BitVec renaming ofInt->bB
open Bool renaming false_eq_true->aR
open List renaming all_eq_true->bd,append_nil->bO,flatMap_cons->bl,flatten_cons->dR,getElem?_append_left->bF,getElem?_append_right->bM,getElem?_drop->bL,getElem?_eq_getElem->aD,getElem?_eq_some_iff->ak,getElem?_map->aI,getElem?_take->ew,getElem_of_mem->bV,length_map->aQ,length_set->fk,length_take->dM,map->lw,mem_append->ao,mem_cons->aK,mem_cons_of_mem->aB,mem_flatten->dq,mem_of_getElem?->aW,mem_singleton->aq,nodup_append->bZ,nodup_cons->eE,nodup_nil->gM,range->bi,replicate->av
open Nat renaming add_assoc->cR,add_zero->dw,le_refl->au,le_succ->bH,le_trans->fy,lt_of_lt_of_le->cU,lt_succ_self->aX,mul_le_mul_right->aL,mul_one->lR,zero_add->bJ,zero_mul->iZ
open Option renaming bind_eq_some_iff->eX,map_eq_some_iff->aH
open Option.some renaming inj->aa,injEq->bq
open Prod.mk renaming inj->ad
namespace Go.Ev
inductive D where
 |lit (v:Value)
 |sl (sz:Nat) (am:List (List D))
 |pt (cells:List D)
 |fn (f:FuncId) (caps:List D)
 deriving Inhabited
inductive C where
 |d (x:D)
 |eZ (sz id off len:Nat)
 |ep (id cY off:Nat)
 |op (id off:Nat)
 |nW (f:FuncId) (caps:List C)
 |om (id:Nat)
 deriving Inhabited
inductive TV where
 |c (x:C)
 |agg (cells:List C)
 |iz (xs:List TV)
 deriving Inhabited
inductive kx where
 |nil
 |bv (am:List (List D))
 |dO (id len:Nat)
 deriving Inhabited
inductive Ob where
 |aM (sz:Nat) (am:List (List D))
 |oV (sz:Nat) (am:List (List D))
 |box (cells:List C)
 |ny (cells:List D)
 |map (ka va:Bool) (es:List (List Value×List D×Nat)) (eW:Nat)
 |cap (sz:Nat) (am:List (List D)) (cp:Nat)
 |nst (sz:Nat) (slots:List kx)
 deriving Inhabited
inductive T where
 |d (x:D)
 |sl (sz:Nat) (am:List (List D))
 |pt (cells:List T)
 |yz (sz:Nat) (am:List (Option (List (List D))))
 |vy
 deriving Inhabited
inductive A where
 |d (x:D)
 |agg (cells:List D)
 |mt (t:T)
 deriving Inhabited
inductive R where
 |c (t:T)
 |agg (cells:List T)
 deriving Inhabited
def fo:Value->Bool
 |.bool _|.int _ _|.float _ _|.string _|.pointer none|.slice none 0 0|.map none|.nilFunc|.nilIface=>true
 |_=>false
def Co:Nat:=2147483648
def cg{α:Type}:List (Nat×α)->Nat->Option α
 |[],_=>none
 |(a,x)::r,k=>bif a==k then some x else cg r k
abbrev jp:=List (Nat×TV)
abbrev bE:=List (Nat×Option Ob)
abbrev fm:=List (Nat×Option Ob)
def az(h:bE)(id:Nat):Option Ob:=(cg h id).join
inductive Kd where
 |b
 |i (k:IntKind)
 |s
 deriving Inhabited,DecidableEq
inductive K where
 |mv
 |pick
 |alloc (zero:List Value)
 |box
 |build (zero:List Value) (places:List (Nat×Nat))
 |buildSlice (sz len:Nat) (zero:List Value) (places:List Nat)
 |load (agg:Bool) (n:Nat)
 |store (n:Nat)
 |nilCheck
 |yZ (op:BinOp)
 |tQ (neg:Bool)
 |qk (kind:Nat) (neg:Bool)
 |x9 (neg:Bool) (ks:List Kd)
 |un (op:UnOp)
 |uF (k:IntKind)
 |rT
 |GS (f:FuncId)
 |makeSlice (zero:List Value)
 |slice (str:Bool) (sz:Nat) (lo hi:Bool)
 |fieldAddr (off n:Nat)
 |field (agg:Bool) (off n:Nat)
 |indexAddr (aM:Option Nat) (sz:Nat)
 |oU
 |index (agg:Bool) (len sz:Nat)
 |extract (i:Nat)
 |len (str:Bool)
 |tL (isMax:Bool)
 |append (sz:Nat)
 |copy (sz:Nat)
 |clear (zero:List Value)
 |Ak (sz:Nat)
 |Kh
 |PE (zero:List Value)
 |O2
 |call (ro:Bool) (jL:List Bool)
 |makeMap (ka va:Bool)
 |lookup (ka:Bool) (ks:List Kd) (va:Bool) (zero:List Value) (ok:Bool)
 |mapEntry (ka:Bool) (ks:List Kd) (va:Bool) (zero:List Value)
 |entryStore (va:Bool) (m:Nat)
 |zD (szi:Nat)
 |sS
 |fU
 deriving Inhabited
structure m9 where
 dst:Option Nat
 k:K
 args:List Operand
 guard:Option (Nat×Bool)
 deriving Inhabited
inductive CC where
 |skip
 |region (ops:List m9) (my:List Nat)
 |drawn (ops:List m9) (dyn:List (Nat×Nat)) (my:List Nat)
 |seq (a b:CC)
 |cond (c:Operand) (a b:CC)
 |block (id:Nat) (a:CC)
 |loop (my:List Nat) (a:CC)
 |exit (id:Nat)
 |ret
 |fU
 deriving Inhabited
structure St where
 dm:jp
 heap:bE
 next:Nat
 gh:List C
 deriving Inhabited
inductive rj where
 |normal
 |exit (id:Nat)
 |ret
 deriving Inhabited,DecidableEq
def NT:Nat->Option D:=fun g => if g = 0 then some (.pt ([0, 1, 28, 2, 29, 14, 24, 3, 30, 22, 20, 15, 25, 17, 4, 8, 31, 27, 13, 23, 21, 19, 16, 7, 26, 12, 18, 6, 11, 5, 10, 9].map fun (x : Int) => .lit (.int .u8 x))) else none
def cv:Value->Option TV
 |.agg cs=>if cs.toList.all fo then some (.agg (cs.toList.map fun v=>.d (.lit v)))else none
 |v=>if fo v then some (.c (.d (.lit v)))else none
def km(e:jp):Operand->Option TV
 |.tmp t=>cg e t
 |.const v=>cv v
 |.global g=>(NT g).map fun d=>.c (.d d)
 |.func f=>some (.c (.d (.fn f [])))
def cellsOf:TV->Option (List C)
 |.c x=>some [x]
 |.agg cs=>some cs
 |.iz _=>none
def e9:List Value->List C:=lw fun v=>.d (.lit v)
def c9:List Value->List D:=lw D.lit
def aU{α:Type}(l:List α)(off:Nat)(p:List α):List α:=l.take off++p++l.drop (off+p.length)
def me(cells:List C):List ((Nat×Nat)×TV)->Option (List C)
 |[]=>some cells
 |((off,n),v)::r=>match cellsOf v with|some cs=>if cs.length=n/\off+n<=cells.length then me (aU cells off cs) r else none|none=>none
def lG{α:Type}(sz:Nat):Nat->List α->List (List α)
 |0,_=>[]
 |n+1,l=>l.take sz::lG sz n (l.drop sz)
def Ie(sz:Nat):kx->Option D
 |.nil=>some (.lit (.slice none 0 0))
 |.bv am=>some (.sl sz am)
 |.dO _ _=>none
def pJ(sz:Nat):List kx->Option (List (List D))
 |[]=>some []
 |s::r=>match Ie sz s,pJ sz r with|some x,some l=>some ([x]::l)|_,_=>none
def Mx:kx->Option (Option (List (List D)))
 |.nil=>some none
 |.bv am=>some (some am)
 |.dO _ _=>none
def tw:List kx->Option (List (Option (List (List D))))
 |[]=>some []
 |s::r=>match Mx s,tw r with|some x,some l=>some (x::l)|_,_=>none
def lZ:Option (List (List D))->kx
 |none=>.nil
 |some am=>.bv am
mutual
def dH(h:bE):Nat->C->Option (D×List Nat)
 |_,.d x=>some (x,[])
 |_,.eZ sz id off len=>match az h id with|some (.aM _ am)|some (.oV _ am)=>if off+len<=am.length then some (.sl sz ((am.drop off).take len),[id])else none|some (.nst szi slots)=>if off=0/\len=slots.length then(match pJ szi slots with|some am=>some (.sl sz am,[id])|none=>none)else none|_=>none
 |_,.ep id cY off=>
  match az h id with
  |some (.aM _ am)|some (.oV _ am)=>match am[cY]?with|some r=>if off<=r.length then some (.pt (r.drop off),[id])else none|none=>none
  |_=>none
 |0,_=>none
 |n+1,.op id off=>
  match az h id with
  |some (.ny cells)=>if off<=cells.length then some (.pt (cells.drop off),[id])else none
  |some (.box cells)=>match fI h n cells with|some (ds,aw)=>if off<=ds.length then some (.pt (ds.drop off),id::aw)else none|none=>none
  |_=>none
 |n+1,.nW f caps=>match fI h n caps with|some (ds,aw)=>some (.fn f ds,aw)|none=>none
 |_+1,.om _=>none
def fI(h:bE):Nat->List C->Option (List D×List Nat)
 |_,[]=>some ([],[])
 |0,_=>none
 |n+1,c::cs=>match dH h n c,fI h n cs with|some (x,a),some (xs,b)=>some (x::xs,a++b)|_,_=>none
end
def jH(h:bE)(all:List Nat)(id:Nat):Option Ob:=
 match az h id with
 |some (.aM sz am)=>some (.oV sz am)
 |some (.oV sz am)=>some (.oV sz am)
 |some (.ny cells)=>some (.ny cells)
 |some (.box cells)=>match fI h 300 cells with|some (ds,aw)=>if aw.all (fun i=>all.contains i)then some (.ny ds)else none|none=>none
 |some (.map _ _ _ _)=>none
 |some (.cap _ _ _)=>none
 |some (.nst szi slots)=>match pJ szi slots with|some am=>some (.oV 1 am)|none=>none
 |none=>none
def dK(h:bE)(all:List Nat):List Nat->Option fm
 |[]=>some []
 |id::r=>match jH h all id,dK h all r with|some o,some u=>some ((id,some o)::u)|_,_=>none
def dC(h:bE):List C->Option (List D×List Nat)
 |[]=>some ([],[])
 |c::cs=>match dH h 300 c,dC h cs with|some (x,a),some (xs,b)=>some (x::xs,a++b)|_,_=>none
mutual
def ez(h:bE):Nat->C->Option (T×List Nat×List Nat)
 |_,.d x=>some (.d x,[],[])
 |_,.eZ sz id off len=>match az h id with|some (.aM _ am)=>if off+len<=am.length then some (.sl sz ((am.drop off).take len),[id],[id])else none|some (.oV _ am)=>if off+len<=am.length then some (.d (.sl sz ((am.drop off).take len)),[],[id])else none|some (.nst szi slots)=>if off=0/\len=slots.length then(match tw slots with|some am=>some (.yz szi am,[id],[id])|none=>none)else none|_=>none
 |0,_=>none
 |n+1,.op id 0=>
  match az h id with
  |some (.box cells)=>match ic h n cells with|some (ts,bv,aw)=>some (.pt ts,id::bv,id::aw)|none=>none
  |some (.ny cells)=>some (.d (.pt cells),[],[id])
  |_=>none
 |_+1,_=>none
def ic(h:bE):Nat->List C->Option (List T×List Nat×List Nat)
 |_,[]=>some ([],[],[])
 |0,_=>none
 |n+1,c::cs=>match ez h n c,ic h n cs with|some (x,a,i),some (xs,b,j)=>some (x::xs,a++b,i++j)|_,_=>none
end
mutual
def ky(nxt:Nat):T->C×fm×Nat
 |.d x=>(.d x,[],nxt+1)
 |.vy=>(.d (.lit .nilFunc),[],nxt+1)
 |.sl sz am=>(.eZ sz nxt 0 am.length,[(nxt,some (.aM sz am))],nxt+1)
 |.yz sz am=>(.eZ 1 nxt 0 am.length,[(nxt,some (.nst sz (am.map lZ)))],nxt+1)
 |.pt ts=>let(cs,u,m):=hO (nxt+1) ts;(.op nxt 0,(nxt,some (.box cs))::u,m)
def hO(nxt:Nat):List T->List C×fm×Nat
 |[]=>([],[],nxt)
 |t::ts=>let(c,u,m):=ky nxt t;let(cs,v,k):=hO m ts;(c::cs,u++v,k)
end
def vQ(nxt:Nat):R->TV×fm×Nat
 |.c t=>let(c,u,m):=ky nxt t;(.c c,u,m)
 |.agg ts=>let(cs,u,m):=hO nxt ts;(.agg cs,u,m)
def gT(nxt:Nat):List R->List TV×fm×Nat
 |[]=>([],[],nxt)
 |r::rs=>let(v,u,m):=vQ nxt r;let(vs,w,k):=gT m rs;(v::vs,u++w,k)
abbrev Call:=FuncId->List A->Option (List R×List T)
abbrev E5:=Option (TV×fm×List Nat×Nat)
def lv(v:Value):TV:=.c (.d (.lit v))
def rp(op:BinOp):Value->Value->Option Value
 |.int k a,.int k' b=>
  match op with
  |.shl=>if b<0 then none else some (.int k (k.wrap (a*2^(min b.toNat k.bits))))
  |.shr=>if b<0 then none else some (.int k (a.fdiv (2^(min b.toNat k.bits))))
  |op=>if k=k' then
   (match op with
   |.add=>some (.int k (k.wrap (a+b)))
   |.sub=>some (.int k (k.wrap (a-b)))
   |.mul=>some (.int k (k.wrap (a*b)))
   |.quo=>if b=0 then none else some (.int k (k.wrap (a.tdiv b)))
   |.rem=>if b=0 then none else some (.int k (a.tmod b))
   |.and=>some (.int k (k.wrap (bB k.bits a&&&bB k.bits b).toNat))
   |.or=>some (.int k (k.wrap (bB k.bits a|||bB k.bits b).toNat))
   |.xor=>some (.int k (k.wrap (bB k.bits a^^^bB k.bits b).toNat))
   |.andNot=>some (.int k (k.wrap (bB k.bits a&&&~~~bB k.bits b).toNat))
   |.eql=>some (.bool (a==b))
   |.neq=>some (.bool (a !=b))
   |.lss=>some (.bool (a<b))
   |.leq=>some (.bool (a<=b))
   |.gtr=>some (.bool (a>b))
   |.geq=>some (.bool (a>=b))
   |_=>none)else none
 |.float k a,.float k' b=>
  if k=k' then
   match op with|.add=>(k.format.add a b).map (.float k)|.sub=>(k.format.sub a b).map (.float k)|.mul=>(k.format.mul a b).map (.float k)|.quo=>(k.format.div a b).map (.float k)|.eql=>some (.bool (k.format.order a b==some .eq))|.neq=>some (.bool (k.format.order a b !=some .eq))|.lss=>some (.bool (k.format.order a b==some .lt))|.leq=>some (.bool (k.format.order a b==some .lt||k.format.order a b==some .eq))|.gtr=>some (.bool (k.format.order a b==some .gt))|.geq=>some (.bool (k.format.order a b==some .gt||k.format.order a b==some .eq))|_=>none
  else none
 |.string x,.string y=>match op with|.add=>if((x.size+y.size:Nat):Int)>IntKind.i64.max then none else some (.string (x++y))|.eql=>some (.bool (x.toList==y.toList))|.neq=>some (.bool !(x.toList==y.toList))|.lss=>some (.bool (Op.bytesLess x.toList y.toList))|.leq=>some (.bool (Op.bytesLess x.toList y.toList||x.toList==y.toList))|.gtr=>some (.bool !(Op.bytesLess x.toList y.toList||x.toList==y.toList))|.geq=>some (.bool !(Op.bytesLess x.toList y.toList))|_=>none
 |_,_=>none
def PJ(op:UnOp):Value->Option Value
 |.bool b=>match op with|.not=>some (.bool !b)|_=>none
 |.int k n=>match op with|.neg=>some (.int k (k.wrap (0-n)))|.xor=>some (.int k (k.wrap (bB k.bits (if k.signed then-1 else k.max)^^^bB k.bits n).toNat))|_=>none
 |.float k b=>match op with|.neg=>some (.float k (Op.negFloat k b))|_=>none
 |_=>none
def Dj:Kd->Value->Value->Option Bool
 |.i q,.int k a,.int k' b=>if k=q/\k'=q then some (a==b)else none
 |.b,.bool a,.bool b=>some (a==b)
 |.s,.string a,.string b=>some (a==b)
 |_,_,_=>none
def gk:List Kd->List Value->List Value->Option Bool
 |[],[],[]=>some true
 |k::ks,x::xs,y::ys=>match Dj k x y,gk ks xs ys with|some a,some b=>some (a&&b)|_,_=>none
 |_,_,_=>none
def k8:List C->Option (List Value)
 |[]=>some []
 |.d (.lit v)::r=>match k8 r with|some l=>some (v::l)|none=>none
 |_=>none
def PL(isMax:Bool):Value->Value->Option Value
 |.int k x,.int k' y=>if k=k' then some (.int k (if isMax then(if y>x then y else x)else(if y<x then y else x)))else none
 |.float k x,.float k' y=>
  if k=k' then match k.format.order x y with|none=>none|some .lt=>some (.float k (if isMax then y else x))|some .gt=>some (.float k (if isMax then x else y))|some .eq=>some (.float k (if isMax then(if(k.decode x).neg then y else x)else(if(k.decode x).neg then x else y)))
  else none
 |_,_=>none
def MD(isMax:Bool):Value->List (Option TV)->Option Value
 |x,[]=>some x
 |x,some (.c (.d (.lit y)))::r=>match PL isMax x y with|some z=>MD isMax z r|none=>none
 |_,_=>none
def Cq(agg:Bool)(n:Nat)(cells:List C):Option TV:=if agg then(if n<=cells.length then some (.agg (cells.take n))else none)else match cells with|x::_=>some (.c x)|[]=>none
def MF(agg:Bool)(n:Nat)(cells:List D):Option TV:=if agg then(if n<=cells.length then some (.agg ((cells.take n).map .d))else none)else match cells with|x::_=>some (.c (.d x))|[]=>none
def gL(agg:Bool)(n:Nat)(p:C)(h:bE):Option (TV×List Nat):=
 match p with
 |.d (.pt cells)=>match MF agg n cells with|some v=>some (v,[])|none=>none
 |.ep id cY off=>
  match az h id with
  |some (.aM _ am)|some (.oV _ am)=>
   match am[cY]?with
   |some r=>match MF agg n (r.drop off)with|some v=>some (v,[id])|none=>none
   |none=>none
  |_=>none
 |.op id off=>
  match az h id with
  |some (.box cells)=>match Cq agg n (cells.drop off)with|some v=>some (v,[id])|none=>none
  |some (.ny cells)=>match MF agg n (cells.drop off)with|some v=>some (v,[id])|none=>none
  |_=>none
 |_=>none
def qW(id cY sz:Nat)(slots:List kx)(cs:List C)(h:bE):Option (fm×List Nat):=
 match cs with
 |[.d (.lit (.slice none 0 0))]=>some ([(id,some (.nst sz (slots.set cY .nil)))],[id])
 |[.eZ sz' id2 0 len]=>match az h id2 with|some (.aM _ am)=>if sz'=sz/\len=am.length/\id2≠id then some ([(id,some (.nst sz (slots.set cY (.bv am)))),(id2,none)],[id,id2])else none|_=>none
 |_=>none
def kV(agg:Bool)(n:Nat)(p:C)(h:bE)(nxt:Nat):E5:=
 match p with
 |.ep id cY 0=>
  match az h id with
  |some (.nst sz slots)=>if agg=false/\n=1 then
   (match slots[cY]?with
   |some .nil=>some (.c (.d (.lit (.slice none 0 0))),[],[id],nxt)
   |some (.bv am)=>some (.c (.eZ sz nxt 0 am.length),[(nxt,some (.aM sz am)),(id,some (.nst sz (slots.set cY (.dO nxt am.length))))],[id],nxt+1)
   |_=>none)else none
  |_=>none
 |_=>none
def ly(n:Nat)(p:C)(v:TV)(h:bE):Option (fm×List Nat):=
 match cellsOf v with
 |none=>none
 |some cs=>
  if cs.length=n then
   match p with
   |.ep id cY off=>
    match az h id with
    |some (.aM sz am)=>
     match am[cY]?,dC h cs with
     |some r,some (ds,aw)=>match dK h aw aw with|some u=>if off+n<=r.length/\aw.contains id=false then some ((id,some (.aM sz (am.set cY (aU r off ds))))::u,id::aw)else none|none=>none
     |_,_=>none
    |some (.nst sz slots)=>if off=0/\n=1/\cY<slots.length then qW id cY sz slots cs h else none
    |_=>none
   |.op id off=>match az h id with|some (.box cells)=>if off+n<=cells.length then some ([(id,some (.box (aU cells off cs)))],[id])else none|_=>none
   |_=>none
  else none
def cm:Option TV->Option Int
 |some (.c (.d (.lit (.int _ n))))=>some n
 |_=>none
def fF(str:Bool)(sz:Nat)(x:C)(lo hi:Option Int):Option C:=
 if str then match x with
 |.d (.lit (.string s))=>
  let h:=hi.getD s.size;let l:=lo.getD 0
  if 0<=l/\l<=h/\h<=s.size then some (.d (.lit (.string (s.extract l.toNat h.toNat))))else none
 |_=>none
 else match x with
 |.d (.lit (.slice none 0 0))=>if 0<=lo.getD 0/\lo.getD 0<=hi.getD 0/\hi.getD 0<=0 then some x else none
 |.eZ sz' id off len=>
  let h:=hi.getD len;let l:=lo.getD 0
  if sz'=sz/\0<=l/\l<=h/\h<=len then some (.eZ sz id (off+l.toNat) (h.toNat-l.toNat))else none
 |.d (.sl sz' am)=>
  let h:=hi.getD am.length;let l:=lo.getD 0
  if sz'=sz/\0<=l/\l<=h/\h<=am.length then some (.d (.sl sz ((am.drop l.toNat).take (h.toNat-l.toNat))))else none
 |_=>none
def mV(str:Bool)(sz:Nat)(x:C)(l u:Int)(h:bE):Option (C×List Nat):=
 match str,x with
 |false,.eZ sz' id off _=>match az h id with|some (.aM _ am)=>if sz'=sz/\0<=l/\l<=u/\off+u.toNat<=am.length then some (.eZ sz id (off+l.toNat) (u.toNat-l.toNat),[id])else none|some (.cap _ _ cp)=>if sz'=sz/\0<=l/\l<=u/\off+u.toNat<=cp then some (.eZ sz id (off+l.toNat) (u.toNat-l.toNat),[id])else none|_=>none
 |_,_=>none
def JZ(sz:Nat)(x:C)(l u m:Int)(nxt:Nat):Option C:=match x with|.eZ sz' _ _ len=>if sz'=sz/\0<=l/\l<=u/\u<=m/\m<=len then some (.eZ sz nxt 0 (u.toNat-l.toNat))else none|_=>none
def oq(zero:List Value)(x:C)(h:bE):Option (fm×List Nat):=
 match x with
 |.eZ sz id off len=>match az h id with|some (.aM _ am)=>if sz=zero.length/\off+len<=am.length then some ([(id,some (.aM sz (aU am off (av len (c9 zero)))))],[id])else none|_=>none
 |_=>none
def jM(off n:Nat):C->Option C
 |.op id o=>some (.op id (o+off))
 |.ep id r o=>some (.ep id r (o+off))
 |.d (.pt cells)=>if off+n<=cells.length then some (.d (.pt ((cells.drop off).take n)))else none
 |_=>none
def ii(aM:Option Nat)(sz:Nat)(x:C)(i:Int):Option C:=
 match aM with
 |none=>match x with|.eZ sz' id off len=>if 0<=i/\i<len/\sz'=sz then some (.ep id (off+i.toNat) 0)else none|.d (.sl sz' am)=>if 0<=i/\sz'=sz then(match am[i.toNat]?with|some r=>some (.d (.pt r))|none=>none)else none|_=>none
 |some n=>
  if 0<=i/\i<n then
   match x with|.op id o=>some (.op id (o+i.toNat*sz))|.ep id r o=>some (.ep id r (o+i.toNat*sz))|.d (.pt cells)=>if i.toNat*sz+sz<=cells.length then some (.d (.pt ((cells.drop (i.toNat*sz)).take sz)))else none|_=>none
  else none
def sY:Bool->C->Option Int
 |true,.d (.lit (.string s))=>some s.size
 |false,.d (.lit (.slice none 0 0))=>some 0
 |false,.eZ _ _ _ len=>some len
 |false,.d (.sl _ am)=>some am.length
 |_,_=>none
def iO(sz:Nat)(h:bE):C->Option (List (List D)×List Nat)
 |.d (.lit (.slice none 0 0))=>some ([],[])
 |.d (.sl sz' am)=>if sz'=sz then some (am,[])else none
 |.eZ sz' id off len=>match az h id with|some (.aM _ am)|some (.oV _ am)=>if sz'=sz/\off+len<=am.length then some ((am.drop off).take len,[id])else none|_=>none
 |_=>none
def nA(sz:Nat)(s x:C)(h:bE)(nxt:Nat):E5:=
 match iO sz h x with
 |none=>none
 |some (new,aw)=>
  match s with
  |.d (.lit (.slice none 0 0))=>
   if new.length<=Co then
    match new with|[]=>some (.c s,[],aw,nxt)|new=>some (.c (.eZ sz nxt 0 new.length),[(nxt,some (.aM sz new))],aw,nxt+1)
   else none
  |.eZ sz' id off len=>
   match az h id with
   |some (.aM _ am)=>
    if sz'=sz/\off+len<=am.length/\len+new.length<=Co then
     some (.c (.eZ sz nxt 0 (len+new.length)),[(id,none),(nxt,some (.aM sz ((am.drop off).take len++new++am.drop (off+len+new.length))))],id::aw,nxt+1)
    else none
   |_=>none
  |_=>none
def ol(sz:Nat)(dst src:C)(h:bE):Option (Int×fm×List Nat):=
 match dst,src with
 |.eZ sz' id off len,.eZ sz2 id2 off2 len2=>
  match az h id,az h id2 with
  |some (.cap _ am cp),some (.aM _ rows2)=>
   if sz'=sz/\sz2=sz/\off<=am.length/\off2+min len2 len<=rows2.length then
    some ((min len2 len:Nat),[(id,some (.cap sz (aU am off ((rows2.drop off2).take (min len2 len))) cp))],[id,id2])
   else none
  |some (.cap _ am cp),some (.cap _ rows2 _)=>
   if sz'=sz/\sz2=sz/\off<=am.length/\off2+min len2 len<=rows2.length then
    some ((min len2 len:Nat),[(id,some (.cap sz (aU am off ((rows2.drop off2).take (min len2 len))) cp))],[id,id2])
   else none
  |_,_=>none
 |_,_=>none
def zR(zero:List Value)(x:C)(k:Int)(h:bE)(nxt:Nat):E5:=
 match x with
 |.eZ sz' id off len=>
  match az h id with
  |some (.cap _ am cp)=>
   if sz'=zero.length/\0<=k/\len+k.toNat<=Co/\off+len<=am.length/\cp<off+len+k.toNat then
    some (.c (.eZ zero.length nxt 0 (len+k.toNat)),[(nxt,some (.aM zero.length ((am.drop off).take len++av k.toNat (c9 zero))))],[id],nxt+1)
   else none
  |_=>none
 |_=>none
def x8(x:C)(h:bE):Option (Nat×List Nat):=
 match x with
 |.eZ _ id off _=>match az h id with|some (.cap _ _ cp)=>some (cp-off,[id])|_=>none
 |_=>none
def x7(x y:C)(h:bE):Option (List Nat):=
 match x,y with
 |.eZ _ a _ _,.eZ _ b _ _=>match az h a,az h b with|some (.aM _ _),some (.cap _ _ cp)=>if a≠b/\0<cp then some [a,b]else none|_,_=>none
 |_,_=>none
def lF(sz:Nat)(dst src:C)(h:bE):Option (Int×fm×List Nat):=
 match iO sz h src,dst with
 |some (_,aw),.d (.lit (.slice none 0 0))=>some (0,[],aw)
 |some (new,aw),.eZ sz' id off len=>
  match az h id with
  |some (.aM _ am)=>
   if sz'=sz/\off+len<=am.length then
    some ((min new.length len:Nat),[(id,some (.aM sz (aU am off (new.take len))))],id::aw)
   else none
  |_=>none
 |_,_=>none
def fZ(h:bE):List TV->List Bool->Option (List A×List Nat×List (C×List Nat×List Nat))
 |[],_=>some ([],[],[])
 |v::vs,ms=>
  match fZ h vs ms.tail with
  |none=>none
  |some (as,aw,lent)=>
   if ms.headD false then
    match v with
    |.c c=>match ez h 300 c with|some (t,bv,rd)=>some (.mt t::as,aw,(c,bv,rd)::lent)|none=>none
    |_=>none
   else match v with
    |.c c=>match dH h 300 c with|some (x,i)=>some (.d x::as,i++aw,lent)|none=>none
    |.agg cs=>match dC h cs with|some (xs,i)=>some (.agg xs::as,i++aw,lent)|none=>none
    |.iz _=>none
def eQ(nxt:Nat):List (C×List Nat×List Nat)->List T->Option (fm×Nat)
 |[],[]=>some ([],nxt)
 |(_,[],_)::r,.d _::ts=>eQ nxt r ts
 |(.op id 0,bv,_)::r,.pt ts'::ts=>match eQ (hO nxt ts').2.2 r ts with|some (w,k)=>if bv.contains id then some ((id,some (.box (hO nxt ts').1))::(hO nxt ts').2.1++bv.map (fun i=>(i,none))++w,k)else none|none=>none
 |(.eZ sz id 0 len,bv,_)::r,.sl sz' am::ts=>
  if am.length=len/\sz'=sz/\bv=[id]then
   match eQ nxt r ts with|some (w,k)=>some ((id,some (.aM sz am))::w,k)|none=>none
  else none
 |(.eZ sz id 0 len,bv,_)::r,.yz szi am::ts=>
  if am.length=len/\sz=1/\bv=[id]then
   match eQ nxt r ts with|some (w,k)=>some ((id,some (.nst szi (am.map lZ)))::w,k)|none=>none
  else none
 |(_,bv,_)::r,.vy::ts=>match eQ nxt r ts with|some (w,k)=>some (bv.map (fun i=>(i,none))++w,k)|none=>none
 |_,_=>none
def xM:R->Bool
 |.c (.d (.lit _))=>true
 |.agg ts=>ts.all fun|.d (.lit _)=>true|_=>false
 |_=>false
def sK:List TV->TV
 |[v]=>v
 |vs=>.iz vs
def er{α:Type}:List (Option α)->Option (List α)
 |[]=>some []
 |some x::r=>match er r with|some xs=>some (x::xs)|none=>none
 |none::_=>none
def eF(h:bE):List (C×List Nat×List Nat)->Bool
 |[]=>true
 |(.eZ _ id off len,_)::r=>(match az h id with|some (.aM _ am)=>off==0&&len==am.length|some (.nst _ slots)=>off==0&&len==slots.length|_=>false)&&eF h r
 |_::r=>eF h r
def tP(call:Call)(ro:Bool)(jL:List Bool)(f:Option TV)(vs:List (Option TV))(h:bE)(nxt:Nat):E5:=
 match(match f with|some (.c (.d (.fn f caps)))=>some (f,caps.map C.d)|some (.c (.nW f caps))=>some (f,caps)|_=>none),er vs with
 |some (f,caps),some vs=>
  match fZ h (vs++caps.map TV.c) jL with
  |none=>none
  |some (as,aw,lent)=>
   if eF h lent/\(lent.flatMap (·.2.1)).Nodup/\(lent.flatMap (·.2.1)).all (fun i=>!aw.contains i)then
    match call f as with
    |none=>none
    |some (rs,outs)=>
     if ro then
      if rs.all xM/\lent.isEmpty/\outs.isEmpty then
       let(vs,u,m):=gT nxt rs
       some (sK vs,u,aw,m)
      else none
     else
      match dK h aw aw with
      |none=>none
      |some fu=>
       match eQ nxt lent outs with
       |none=>none
       |some (bu,m)=>
        let(vs,u,k):=gT m rs
        some (sK vs,u++bu++fu,aw++lent.flatMap (·.2.2),k)
   else none
 |_,_=>none
def pB:Nat->C->Option Bool
 |0,.d (.lit (.slice none 0 0))=>some true
 |0,.d (.sl _ _)|0,.eZ _ _ _ _=>some false
 |1,.d (.lit (.pointer none))=>some true
 |1,.d (.pt _)|1,.ep _ _ _|1,.op _ _=>some false
 |2,.d (.lit .nilFunc)=>some true
 |2,.d (.fn _ _)|2,.nW _ _=>some false
 |_,_=>none
def ye:List C->Option (List D)
 |[]=>some []
 |.d x::r=>match ye r with|some l=>some (x::l)|none=>none
 |_=>none
abbrev sd:=List Value×List D×Nat
def md(ks:List Kd)(key:List Value):List sd->Nat->Option (Option Nat)
 |[],_=>some none
 |e::r,i=>match gk ks key e.1 with|some true=>some (some i)|some false=>md ks key r (i+1)|none=>none
def oF(va:Bool)(ds:List D):Option TV:=if va then some (.agg (ds.map .d))else match ds with|[x]=>some (.c (.d x))|_=>none
def Jk:Kd->Value->Bool
 |.i q,.int k _=>decide (k=q)
 |.b,.bool _=>true
 |.s,.string _=>true
 |_,_=>false
def yB:List Kd->List Value->Bool
 |[],[]=>true
 |k::ks,x::xs=>Jk k x&&yB ks xs
 |_,_=>false
def nY(ka:Bool)(ks:List Kd):TV->Option (List Value)
 |.agg cs=>if ka=true/\cs.length=ks.length then(match k8 cs with|some l=>if yB ks l=true then some l else none|none=>none)else none
 |.c x=>if ka=false/\ks.length=1 then(match k8 [x]with|some l=>if yB ks l=true then some l else none|none=>none)else none
 |.iz _=>none
def gY(ka:Bool)(ks:List Kd)(va:Bool)(zero:List Value)(ok:Bool)(m:C)(k:TV)(h:bE):Option (TV×List Nat):=
 match m,nY ka ks k with
 |.d (.lit (.map none)),some _=>match oF va (c9 zero)with|some v=>some (if ok then .iz [v,lv (.bool false)]else v,[])|none=>none
 |.om id,some key=>
  match az h id with
  |some (.map ka' va' es _)=>
   if ka'=ka/\va'=va then
    match md ks key es 0 with
    |some (some i)=>match oF va (es.getD i default).2.1 with|some v=>some (if ok then .iz [v,lv (.bool true)]else v,[id])|none=>none
    |some none=>match oF va (c9 zero)with|some v=>some (if ok then .iz [v,lv (.bool false)]else v,[id])|none=>none
    |none=>none
   else none
  |_=>none
 |_,_=>none
def mh(ka:Bool)(ks:List Kd)(va:Bool)(zero:List Value)(m:C)(k:TV)(h:bE):Option (TV×fm×List Nat):=
 match m,nY ka ks k with
 |.om id,some key=>
  match az h id with
  |some (.map ka' va' es eW)=>
   if ka'=ka/\va'=va then
    match md ks key es 0 with
    |some (some i)=>match oF va (es.getD i default).2.1 with|some v=>some (.iz [v,lv (.int .i64 (es.getD i default).2.2)],[(id,some (.map ka va es eW))],[id])|none=>none
    |some none=>match oF va (c9 zero)with|some v=>some (.iz [v,lv (.int .i64 eW)],[(id,some (.map ka va (es++[(key,c9 zero,eW)]) (eW+1)))],[id])|none=>none
    |none=>none
   else none
  |_=>none
 |_,_=>none
def wF:TV->Bool
 |.agg _=>true
 |_=>false
def mi(va:Bool)(n:Nat)(m:C)(st:Option TV)(x:TV)(h:bE):Option (fm×List Nat):=
 match m,cm st,(cellsOf x).bind ye with
 |.om id,some s,some ds=>
  match az h id with
  |some (.map ka va' es eW)=>
   if va'=va/\ds.length=n/\wF x=va then
    match es.findIdx? (fun e=>decide ((e.2.2:Int)=s))with|some i=>some ([(id,some (.map ka va (es.set i ((es.getD i default).1,ds,(es.getD i default).2.2)) eW))],[id])|none=>none
   else none
  |_=>none
 |_,_,_=>none
def cA(call:Call)(k:K)(vs:List (Option TV))(h:bE)(nxt:Nat):E5:=
 match k,vs with
 |.mv,[some x]=>some (x,[],[],nxt)
 |.pick,[some (.c (.d (.lit (.bool c)))),a,b]=>match(if c then a else b)with|some v=>some (v,[],[],nxt)|none=>none
 |.alloc zero,[]=>some (.c (.op nxt 0),[(nxt,some (.box (e9 zero)))],[],nxt+1)
 |.box,[some x]=>match cellsOf x with|some cs=>some (.c (.op nxt 0),[(nxt,some (.box cs))],[],nxt+1)|none=>none
 |.build zero places,vs=>
  match er vs with
  |some xs=>match me (e9 zero) (places.zip xs)with|some cs=>some (.agg cs,[],[],nxt)|none=>none
  |none=>none
 |.buildSlice sz len zero places,vs=>
  match er vs with
  |some xs=>
   match me (e9 zero) ((places.map fun i=>(i*sz,sz)).zip xs)with
   |some cs=>
    match dC h cs with
    |some (ds,aw)=>match dK h aw aw with|some u=>some (.c (.eZ sz nxt 0 len),(nxt,some (.aM sz (lG sz len ds)))::u,aw,nxt+1)|none=>none
    |none=>none
   |none=>none
  |none=>none
 |.load agg n,[some (.c p)]=>match gL agg n p h with|some (v,aw)=>some (v,[],aw,nxt)|none=>none
 |.sS,[some (.c p)]=>match gL false 1 p h with|some (v,aw)=>some (v,[],aw,nxt)|none=>kV false 1 p h nxt
 |.store n,[some (.c p),some v]=>match ly n p v h with|some (u,aw)=>some (.iz [],u,aw,nxt)|none=>none
 |.nilCheck,[some (.c x)]=>match x with|.d (.pt _)|.d (.fn _ _)|.ep _ _ _|.op _ _|.nW _ _=>some (.c x,[],[],nxt)|_=>none
 |.yZ op,[some (.c (.d (.lit x))),some (.c (.d (.lit y)))]=>match rp op x y with|some v=>some (lv v,[],[],nxt)|none=>none
 |.tQ neg,[some (.c (.d (.lit (.bool x)))),some (.c (.d (.lit (.bool y))))]=>some (lv (.bool (if neg then !(x==y)else x==y)),[],[],nxt)
 |.qk kind neg,[some (.c x)]=>match pB kind x with|some b=>some (lv (.bool (if neg then !b else b)),[],[],nxt)|none=>none
 |.x9 neg ks,[some (.agg xs),some (.agg ys)]=>
  match k8 xs,k8 ys with
  |some xs,some ys=>match gk ks xs ys with|some b=>some (lv (.bool (if neg then !b else b)),[],[],nxt)|none=>none
  |_,_=>none
 |.un op,[some (.c (.d (.lit x)))]=>match PJ op x with|some v=>some (lv v,[],[],nxt)|none=>none
 |.uF k,[some (.c (.d (.lit (.int _ n))))]=>some (lv (.int k (k.wrap n)),[],[],nxt)
 |.rT,[some (.c (.d (.lit (.string s))))]=>some (lv (.string s),[],[],nxt)
 |.GS f,vs=>
  match er vs with
  |some xs=>match er (xs.map fun|.c c=>some c|_=>none)with|some cs=>some (.c (.nW f cs),[],[],nxt)|none=>none
  |none=>none
 |.makeSlice zero,[l,c]=>
  match cm l,cm c with
  |some l,some c=>
   if 0<=l/\l<=c/\c<=Co then
    some (.c (.eZ zero.length nxt 0 l.toNat),[(nxt,some (.aM zero.length (av l.toNat (c9 zero))))],[],nxt+1)
   else none
  |_,_=>none
 |.zD szi,[l,c]=>match cm l,cm c with|some l,some c=>if 0<=l/\l<=c/\c<=Co then some (.c (.eZ 1 nxt 0 l.toNat),[(nxt,some (.nst szi (av l.toNat .nil)))],[],nxt+1)else none|_,_=>none
 |.slice str sz lo hi,some (.c x)::r=>
  match lo,hi,r with
  |false,false,[]=>match fF str sz x none none with|some y=>some (.c y,[],[],nxt)|none=>none
  |true,false,[l]=>match cm l with|some l=>(match fF str sz x (some l) none with|some y=>some (.c y,[],[],nxt)|none=>none)|none=>none
  |false,true,[u]=>match cm u with|some u=>(match fF str sz x none (some u)with|some y=>some (.c y,[],[],nxt)|none=>(match mV str sz x 0 u h with|some (y,aw)=>some (.c y,[],aw,nxt)|none=>none))|none=>none
  |true,true,[l,u]=>
   match cm l,cm u with
   |some l,some u=>match fF str sz x (some l) (some u)with|some y=>some (.c y,[],[],nxt)|none=>(match mV str sz x l u h with|some (y,aw)=>some (.c y,[],aw,nxt)|none=>none)
   |_,_=>none
  |_,_,_=>none
 |.Ak sz,[some (.c x),l,u,m]=>
  match cm l,cm u,cm m with
  |some l,some u,some m=>match JZ sz x l u m nxt with|some y=>some (.c y,[],[],nxt+1)|none=>none
  |_,_,_=>none
 |.clear zero,[some (.c x)]=>match oq zero x h with|some (u,aw)=>some (.iz [],u,aw,nxt)|none=>none
 |.fieldAddr off n,[some (.c x)]=>match jM off n x with|some y=>some (.c y,[],[],nxt)|none=>none
 |.field agg off n,[some (.agg cs)]=>match Cq agg n (cs.drop off)with|some v=>some (v,[],[],nxt)|none=>none
 |.indexAddr aM sz,[some (.c x),i]=>
  match cm i with
  |some i=>match ii aM sz x i with|some y=>some (.c y,[],[],nxt)|none=>none
  |none=>none
 |.oU,[some (.c (.d (.lit (.string s)))),i]=>
  match cm i with
  |some i=>match(if 0<=i then s[i.toNat]?else none)with|some b=>some (lv (.int .u8 b.toNat),[],[],nxt)|none=>none
  |none=>none
 |.index agg len sz,[some (.agg cs),i]=>
  match cm i with
  |some i=>if 0<=i/\i<len then match Cq agg sz (cs.drop (i.toNat*sz))with|some v=>some (v,[],[],nxt)|none=>none else none
  |none=>none
 |.extract i,[some (.iz xs)]=>match xs[i]?with|some v=>some (v,[],[],nxt)|none=>none
 |.len str,[some (.c x)]=>match sY str x with|some n=>some (lv (.int .i64 n),[],[],nxt)|none=>none
 |.tL m,some (.c (.d (.lit x)))::r=>match MD m x r with|some v=>some (lv v,[],[],nxt)|none=>none
 |.append sz,[some (.c s),some (.c x)]=>nA sz s x h nxt
 |.copy sz,[some (.c d),some (.c s)]=>match lF sz d s h with|some (i,u,aw)=>some (lv (.int .i64 i),u,aw,nxt)|none=>(match ol sz d s h with|some (i,u,aw)=>some (lv (.int .i64 i),u,aw,nxt)|none=>none)
 |.Kh,[some (.c x)]=>match x8 x h with|some (n,aw)=>some (lv (.int .i64 n),[],aw,nxt)|none=>none
 |.PE zero,[some (.c x),some (.c (.d (.lit (.int _ k))))]=>zR zero x k h nxt
 |.O2,[some (.c x),some (.c y)]=>match x7 x y h with|some aw=>some (lv (.bool false),[],aw,nxt)|none=>none
 |.call ro jL,f::vs=>tP call ro jL f vs h nxt
 |.makeMap ka va,[]=>some (.c (.om nxt),[(nxt,some (.map ka va [] 0))],[],nxt+1)
 |.lookup ka ks va zero ok,[some (.c m),some k]=>match gY ka ks va zero ok m k h with|some (v,aw)=>some (v,[],aw,nxt)|none=>none
 |.mapEntry ka ks va zero,[some (.c m),some k]=>match mh ka ks va zero m k h with|some (v,u,aw)=>some (v,u,aw,nxt)|none=>none
 |.entryStore va n,[some (.c m),s,some x]=>match mi va n m s x h with|some (u,aw)=>some (.iz [],u,aw,nxt)|none=>none
 |_,_=>none
def jX(e:jp):Option (Nat×Bool)->Option Bool
 |none=>some true
 |some (t,b)=>match cg e t with|some (.c (.d (.lit (.bool x))))=>some (x==b)|some (.iz [])=>some false|_=>none
def put(e:jp)(dst:Option Nat)(v:TV):jp:=match dst with|some d=>(d,v)::e|none=>e
def drop(e:jp)(dst:Option Nat):jp:=put e dst (.iz [])
def iD:Nat:=1000000
def mj(calls:Nat->Call)(aP:Nat):List m9->Nat->jp->bE->Option (jp×bE×List (List Nat×List Nat))
 |[],_,e,h=>some (e,h,[])
 |o::r,i,e,h=>
  match jX e o.guard with
  |some true=>
   match cA (calls i) o.k (o.args.map (km e)) h (aP+iD*i)with
   |some (v,u,aw,n)=>
    if n<=aP+iD*(i+1)then
     match mj calls aP r (i+1) (put e o.dst v) (u++h)with|some (e,h,tr)=>some (e,h,(aw,u.map (·.1))::tr)|none=>none
    else none
   |none=>none
  |some false=>match mj calls aP r (i+1) (drop e o.dst) h with|some (e,h,tr)=>some (e,h,([],[])::tr)|none=>none
  |none=>none
def lr(a b:List Nat×List Nat):Bool:=a.2.all (fun i=>!b.1.contains i&&!b.2.contains i)&&b.2.all (fun i=>!a.1.contains i)
def Dy(tr:List (List Nat×List Nat))(i j:Nat):Bool:=
 match tr[i]?,tr[j]?with
 |some a,some b=>lr a b||(match a with|([id],[])=>((tr.take j).drop (i+1)).all (fun x=>!x.2.contains id)|_=>false)
 |_,_=>true
def zT(tr:List (List Nat×List Nat))(dyn:List (Nat×Nat)):Bool:=dyn.all fun(i,j)=>if 1000<=j then Dy tr i (j-1000)else match tr[i]?,tr[j]?with|some a,some b=>lr a b|_,_=>true
def eI:C->List Nat
 |.d _=>[]
 |.eZ _ id _ _|.ep id _ _|.op id _|.om id=>[id]
 |.nW _ caps=>lV caps
where lV:List C->List Nat
 |[]=>[]
 |c::r=>eI c++lV r
def lp:TV->List Nat
 |.c x=>eI x
 |.agg cs=>eI.lV cs
 |.iz xs=>yQ xs
where yQ:List TV->List Nat
 |[]=>[]
 |x::r=>lp x++yQ r
inductive RV where
 |tmp (t:Nat)
 |cell (t:Nat) (agg:Bool) (n:Nat)
 deriving Inhabited
def enter:List A->Nat->Nat->jp×bE×Nat×List C
 |[],_,n=>([],[],n,[])
 |.d x::r,i,n=>let(e,h,m,l):=enter r (i+1) n;((i,.c (.d x))::e,h,m,l)
 |.agg xs::r,i,n=>let(e,h,m,l):=enter r (i+1) n;((i,.agg (xs.map .d))::e,h,m,l)
 |.mt t::r,i,n=>let(c,u,k):=ky n t;let(e,h,m,l):=enter r (i+1) k;((i,.c c)::e,u++h,m,c::l)
def vU(s:St):RV->Option TV
 |.tmp t=>cg s.dm t
 |.cell t agg n=>match cg s.dm t with|some (.c p)=>(match gL agg n p s.heap with|some (v,_)=>some v|none=>none)|_=>none
def re(h:bE):TV->Option (R×List Nat)
 |.c c=>match ez h 300 c with|some (t,aw,_)=>some (.c t,aw)|none=>none
 |.agg cs=>match ic h 300 cs with|some (ts,aw,_)=>some (.agg ts,aw)|none=>none
 |.iz _=>none
def tK(h:bE):List TV->Option (List R×List Nat)
 |[]=>some ([],[])
 |v::vs=>match re h v,tK h vs with|some (r,a),some (rs,b)=>some (r::rs,a++b)|_,_=>none
structure Fn where
 np:Nat
 ntmps:Nat
 kD:List RV
 body:CC
 deriving Inhabited
inductive RD(S:Nat->Prop)(w:World):D->Value->Prop
 |lit {v:Value} (h:fo v=true):RD S w (.lit v) v
 |sl {sz:Nat} {am:List (List D)} {b off cap:Nat} (f:Nat->Nat->Value) (hb:S b) (hsz:0<sz) (hcap:am.length<=cap)
   (hrow:∀(i:Nat)(r:List D),am[i]?=some r->r.length=sz)
   (hcell:∀(i:Nat)(r:List D),am[i]?=some r->∀(j:Nat)(x:D),r[j]?=some x->w.cell? ⟨b,off+i*sz+j,none⟩=some (f i j))
   (hrd:∀(i:Nat)(r:List D),am[i]?=some r->∀(j:Nat)(x:D),r[j]?=some x->RD S w x (f i j)):
   RD S w (.sl sz am) (.slice (some ⟨b,off,none⟩) am.length cap)
 |si {sz:Nat} {a:Addr} (hsz:0<sz):RD S w (.sl sz []) (.slice (some a) 0 0)
 |pt {cells:List D} {b off:Nat} (f:Nat->Value) (hb:S b)
   (hcell:∀(j:Nat)(x:D),cells[j]?=some x->w.cell? ⟨b,off+j,none⟩=some (f j))
   (hrd:∀(j:Nat)(x:D),cells[j]?=some x->RD S w x (f j)):
   RD S w (.pt cells) (.pointer (some ⟨b,off,none⟩))
 |fn {g:FuncId} {caps:List D} {vs:Array Value} (hlen:caps.length=vs.size)
   (hrd:∀(j:Nat)(x:D),caps[j]?=some x->RD S w x (vs.getD j undef)):
   RD S w (.fn g caps) (.func (.func g) #[] vs)
structure gF(S:Nat->Prop)(w:World)(S':Nat->Prop)(w':World):Prop where
 sub:∀b,S b->S' b
 dU:∀b,S b->w'.heap[b]?=w.heap[b]?
theorem gF.refl(S:Nat->Prop)(w:World):gF S w S w:=⟨fun _ h=>h,fun _ _=>rfl⟩
theorem gF.trans{S S' S'':Nat->Prop}{w w' w'':World}(a:gF S w S' w')(b:gF S' w' S'' w''):gF S w S'' w'':=⟨fun x h=>b.sub x (a.sub x h),fun x h=>(b.dU x (a.sub x h)).trans (a.dU x h)⟩
theorem lH{w w':World}{b:Nat}(h:w'.heap[b]?=w.heap[b]?)(off:Nat):w'.cell? ⟨b,off,none⟩=w.cell? ⟨b,off,none⟩:=by simp[World.cell?,h]
theorem RD.mono{S S':Nat->Prop}{w w':World}(hs:gF S w S' w'){x:D}{v:Value}(h:RD S w x v):RD S' w' x v:=by induction h with|lit h=>exact .lit h|sl f hb hsz hcap hrow hcell hrd ih=>exact .sl f (hs.sub _ hb) hsz hcap hrow (fun i r hi j x hj=>(lH (hs.dU _ hb) _).trans (hcell i r hi j x hj)) ih|si h=>exact .si h|pt f hb hcell hrd ih=>exact .pt f (hs.sub _ hb) (fun j x hj=>(lH (hs.dU _ hb) _).trans (hcell j x hj)) ih|fn hlen hrd ih=>exact .fn hlen ih
structure gr where
 cK:Nat
 aP:Nat
 sz:Nat
 ext:Nat
 cap:Nat
 deriving Inhabited
inductive RC(S:Nat->Prop)(w:World)(Kn:Nat->Prop)(φ:Nat->gr):C->Value->Prop
 |d {x:D} {v:Value} (h:RD S w x v):RC S w Kn φ (.d x) v
 |eZ {id off len cap addr:Nat} (hk:Kn id) (hcap:len<=cap) (haddr:0<cap->addr=(φ id).aP+off*(φ id).sz) (hext:addr+cap*(φ id).sz<=(φ id).ext) (hc:off+cap=(φ id).cap):
   RC S w Kn φ (.eZ (φ id).sz id off len) (.slice (some ⟨(φ id).cK,addr,none⟩) len cap)
 |ep {id cY off:Nat} (hk:Kn id):RC S w Kn φ (.ep id cY off) (.pointer (some ⟨(φ id).cK,(φ id).aP+cY*(φ id).sz+off,none⟩))
 |op {id off:Nat} (hk:Kn id):RC S w Kn φ (.op id off) (.pointer (some ⟨(φ id).cK,(φ id).aP+off,none⟩))
 |nW {g:FuncId} {caps:List C} {vs:Array Value} (hlen:caps.length=vs.size)
   (hrc:∀(j:Nat)(x:C),caps[j]?=some x->RC S w Kn φ x (vs.getD j undef)):
   RC S w Kn φ (.nW g caps) (.func (.func g) #[] vs)
 |om {id:Nat} (hk:Kn id):RC S w Kn φ (.om id) (.map (some (φ id).cK))
structure sH(Kn:Nat->Prop)(φ:Nat->gr)(Kn':Nat->Prop)(φ':Nat->gr):Prop where
 sub:∀i,Kn i->Kn' i
 dU:∀i,Kn i->φ' i=φ i
theorem sH.refl(Kn:Nat->Prop)(φ:Nat->gr):sH Kn φ Kn φ:=⟨fun _ h=>h,fun _ _=>rfl⟩
theorem RC.mono{S S':Nat->Prop}{w w':World}{Kn Kn':Nat->Prop}{φ φ':Nat->gr}(hs:gF S w S' w')(hr:sH Kn φ Kn' φ'){x:C}{v:Value}
  (h:RC S w Kn φ x v):RC S' w' Kn' φ' x v:=by
 induction h with|d h=>exact .d (h.mono hs)|eZ hk hcap haddr hext hc=>rw[<-hr.dU _ hk]at hext haddr hc|-;exact .eZ (hr.sub _ hk) hcap haddr hext hc|ep hk=>rw[<-hr.dU _ hk];exact .ep (hr.sub _ hk)|op hk=>rw[<-hr.dU _ hk];exact .op (hr.sub _ hk)|nW hlen hrc ih=>exact .nW hlen ih|om hk=>rw[<-hr.dU _ hk];exact .om (hr.sub _ hk)
inductive fR(S:Nat->Prop)(w:World)(Kn:Nat->Prop)(φ:Nat->gr):TV->Value->Prop
 |c {x:C} {v:Value} (h:RC S w Kn φ x v):fR S w Kn φ (.c x) v
 |agg {cs:List C} {aM:Array Value} (hlen:cs.length=aM.size) (h:∀(i:Nat)(x:C),cs[i]?=some x->RC S w Kn φ x (aM.getD i undef)):fR S w Kn φ (.agg cs) (.agg aM)
 |iz {xs:List TV} {aM:Array Value} (hlen:xs.length=aM.size) (h:∀(i:Nat)(x:TV),xs[i]?=some x->fR S w Kn φ x (aM.getD i undef)):fR S w Kn φ (.iz xs) (.tuple aM)
theorem fR.mono{S S':Nat->Prop}{w w':World}{Kn Kn':Nat->Prop}{φ φ':Nat->gr}(hs:gF S w S' w')(hr:sH Kn φ Kn' φ'){x:TV}{v:Value}
  (h:fR S w Kn φ x v):fR S' w' Kn' φ' x v:=by
 induction h with|c h=>exact .c (h.mono hs hr)|agg hlen h=>exact .agg hlen fun i x hi=>(h i x hi).mono hs hr|iz hlen h ih=>exact .iz hlen ih
def one:Value->Bool
 |.agg _|.tuple _=>false
 |_=>true
theorem ul{v:Value}(h:fo v=true):one v=true:=by cases v<;>simp_all[fo,one]
theorem RD.one{S:Nat->Prop}{w:World}{x:D}{v:Value}(h:RD S w x v):one v=true:=by cases h with|lit h=>exact ul h|_=>rfl
theorem RC.one{S:Nat->Prop}{w:World}{Kn:Nat->Prop}{φ:Nat->gr}{x:C}{v:Value}(h:RC S w Kn φ x v):one v=true:=by cases h with|d h=>exact h.one|_=>rfl
theorem uG{v:Value}(h:one v=true):v.cells= #[v]:=by cases v<;>simp_all[Ev.one,Value.cells]
def nR(w:World)(b:Nat)(aM:Array Value):Prop:=∃t,w.heap[b]?=some (.cells aM t (0,0))
theorem nR.cell{w:World}{b:Nat}{aM:Array Value}(h:nR w b aM)(i:Nat):w.cell? ⟨b,i,none⟩=aM[i]?:=by obtain⟨t,h⟩:=h;simp[World.cell?,h]
theorem nR.lt{w:World}{b:Nat}{aM:Array Value}(h:nR w b aM):b<w.heap.size:=by obtain⟨t,h⟩:=h;exact(bg.1 h).1
theorem nR.l6{w w':World}{b:Nat}{aM:Array Value}(h:nR w b aM)(hs:w'.heap[b]?=w.heap[b]?):nR w' b aM:=by obtain⟨t,h⟩:=h;exact⟨t,hs.trans h⟩
def cE(S:Nat->Prop)(w:World)(sz:Nat)(get:Nat->Option Value)(aP:Nat)(am:List (List D)):Prop:=
 (∀(i:Nat)(r:List D),am[i]?=some r->r.length=sz)/\
 ∀(i:Nat)(r:List D),am[i]?=some r->∀(j:Nat)(x:D),r[j]?=some x->∃v,get (aP+i*sz+j)=some v/\RD S w x v
def cD:Ob->Bool
 |.aM _ _|.box _|.map _ _ _ _|.cap _ _ _|.nst _ _=>true
 |_=>false
def FX(S:Nat->Prop)(w:World)(sz:Nat)(am:List (List D))(v:Value)(b:Nat):Prop:=∃(addr cap:Nat)(aM:Array Value),v=.slice (some ⟨b,addr,none⟩) am.length cap/\0<sz/\nR w b aM/\am.length<=cap/\addr+cap*sz<=aM.size/\cE S w sz (fun i=>aM[i]?) addr am
inductive yu(S K:Nat->Prop)(w:World)(Kn:Nat->Prop)(φ:Nat->gr)(sz:Nat):kx->Value->Prop
 |nil:yu S K w Kn φ sz .nil (.slice none 0 0)
 |bv {am:List (List D)} {v:Value} {b:Nat} (h:FX S w sz am v b) (hS:¬S b) (hK:¬K b):yu S K w Kn φ sz (.bv am) v
 |dO {id len:Nat} {v:Value} (h:RC S w Kn φ (.eZ sz id 0 len) v):yu S K w Kn φ sz (.dO id len) v
def wt:Value->Option Nat
 |.slice (some a) _ _=>some a.block
 |_=>none
def ri(w:World)(l:gr)(slots:List kx)(k x:Nat):Prop:=∃am v,slots[k]?=some (.bv am)/\w.cell? ⟨l.cK,l.aP+k,none⟩=some v/\wt v=some x
def HP(ka:Bool)(k:List Value)(v:Value):Prop:=(∀x∈k,fo x=true)/\if ka then v=.agg k.toArray else k=[v]
def vO(S:Nat->Prop)(w:World)(va:Bool)(ds:List D)(v:Value):Prop:=if va then∃aM:Array Value,v=.agg aM/\ds.length=aM.size/\∀(i:Nat)(x:D),ds[i]?=some x->RD S w x (aM.getD i undef)else∃x,ds=[x]/\RD S w x v
theorem vO.mono{S S':Nat->Prop}{w w':World}(hs:gF S w S' w'){va:Bool}{ds:List D}{v:Value}(h:vO S w va ds v):vO S' w' va ds v:=by
 unfold vO at h|-;split
 .rename_i hv;rw[if_pos hv]at h;obtain⟨aM,h1,h2,h3⟩:=h;exact⟨aM,h1,h2,fun i x hi=>(h3 i x hi).mono hs⟩
 .rename_i hv;rw[if_neg hv]at h;obtain⟨x,h1,h2⟩:=h;exact⟨x,h1,h2.mono hs⟩
inductive RO(S:Nat->Prop)(K:Nat->Prop)(w:World)(Kn:Nat->Prop)(φ:Nat->gr)(l:gr):Ob->Prop
 |aM {sz:Nat} {am:List (List D)} {aM:Array Value} (hsz:0<sz) (hl:l.sz=sz) (hS:¬S l.cK) (hK:¬K l.cK) (ho:nR w l.cK aM) (hext:aM.size=l.ext)
   (hfit:l.aP+am.length*sz<=l.ext) (hr:cE S w sz (fun i=>aM[i]?) l.aP am) (hv:am.length<=l.cap):RO S K w Kn φ l (.aM sz am)
 |oV {sz:Nat} {am:List (List D)} (hsz:0<sz) (hl:l.sz=sz) (hS:S l.cK)
   (hr:cE S w sz (fun i=>w.cell? ⟨l.cK,i,none⟩) l.aP am):RO S K w Kn φ l (.oV sz am)
 |box {cells:List C} {aM:Array Value} (hb:l.aP=0) (hS:¬S l.cK) (hK:¬K l.cK) (ho:nR w l.cK aM) (hlen:cells.length=aM.size)
   (hr:∀(i:Nat)(x:C),cells[i]?=some x->RC S w Kn φ x (aM.getD i undef)):RO S K w Kn φ l (.box cells)
 |ny {cells:List D} (hb:l.aP=0) (hS:S l.cK)
   (hr:∀(i:Nat)(x:D),cells[i]?=some x->∃v,w.cell? ⟨l.cK,i,none⟩=some v/\RD S w x v):RO S K w Kn φ l (.ny cells)
 |map {ka va:Bool} {es:List (List Value×List D×Nat)} {eW:Nat} {ms:Array MapEntry} (hS:¬S l.cK) (hK:¬K l.cK) (ho:w.heap[l.cK]?=some (.map ms eW)) (hlen:es.length=ms.size)
   (hr:∀(i:Nat)(e:List Value×List D×Nat)(m:MapEntry),es[i]?=some e->ms[i]?=some m->HP ka e.1 m.key/\vO S w va e.2.1 m.val/\m.born=e.2.2):RO S K w Kn φ l (.map ka va es eW)
 |cap {sz:Nat} {am:List (List D)} {cp:Nat} {aM:Array Value} (hsz:0<sz) (hl:l.sz=sz) (hS:¬S l.cK) (hK:¬K l.cK) (ho:nR w l.cK aM) (hext:aM.size=l.ext)
   (hfit:l.aP+cp*sz<=l.ext) (hr:cE S w sz (fun i=>aM[i]?) l.aP am) (hv:am.length<=cp) (hc:l.cap=cp):RO S K w Kn φ l (.cap sz am cp)
 |nst {sz:Nat} {slots:List kx} {aM:Array Value} (hsz:0<sz) (hl:l.sz=1) (hS:¬S l.cK) (hK:¬K l.cK) (ho:nR w l.cK aM) (hext:aM.size=l.ext)
   (hfit:l.aP+slots.length<=l.ext) (hr:∀(i:Nat)(s:kx),slots[i]?=some s->∃v,aM[l.aP+i]?=some v/\yu S K w Kn φ sz s v) (hv:slots.length<=l.cap):RO S K w Kn φ l (.nst sz slots)
theorem cE.mono{S S':Nat->Prop}{w w':World}(hs:gF S w S' w'){sz aP:Nat}{get:Nat->Option Value}{am:List (List D)}(h:cE S w sz get aP am):
  cE S' w' sz get aP am:=
 ⟨h.1,fun i r hi j x hj=>let⟨v,hg,hr⟩:=h.2 i r hi j x hj;⟨v,hg,hr.mono hs⟩⟩
def OE(S':Nat->Prop)(w w':World)(l:gr)(o:Ob):Prop:=∀sz slots,o=.nst sz slots->∀k x,ri w l slots k x->w'.heap[x]?=w.heap[x]?/\¬S' x
theorem FX.mono{S S':Nat->Prop}{w w':World}(hs:gF S w S' w'){sz b:Nat}{am:List (List D)}{v:Value}(hb:w'.heap[b]?=w.heap[b]?)(h:FX S w sz am v b):FX S' w' sz am v b:=by obtain⟨a,c,aM,h1,h2,h3,h4,h5,h6⟩:=h;exact⟨a,c,aM,h1,h2,h3.l6 hb,h4,h5,h6.mono hs⟩
theorem FX.cK{S:Nat->Prop}{w:World}{sz b:Nat}{am:List (List D)}{v:Value}(h:FX S w sz am v b):wt v=some b:=by obtain⟨a,c,aM,rfl,_⟩:=h;rfl
theorem FX.bv{S:Nat->Prop}{w:World}{sz b:Nat}{am:List (List D)}{v:Value}(h:FX S w sz am v b):∃aM,nR w b aM:=by obtain⟨a,c,aM,_,_,h,_⟩:=h;exact⟨aM,h⟩
theorem RO.mono{S S' K:Nat->Prop}{w w':World}{Kn Kn':Nat->Prop}{φ φ':Nat->gr}{l:gr}(hs:gF S w S' w')(hr:sH Kn φ Kn' φ'){o:Ob}
  (hsame:cD o=true->w'.heap[l.cK]?=w.heap[l.cK]?/\¬S' l.cK) (hkp:OE S' w w' l o) (h:RO S K w Kn φ l o):RO S' K w' Kn' φ' l o:=by
 cases h with
 |aM hsz hl hS hK ho hext hfit hrr hv=>exact .aM hsz hl (hsame rfl).2 hK (ho.l6 (hsame rfl).1) hext hfit (hrr.mono hs) hv
 |oV hsz hl hS hrr=>refine .oV hsz hl (hs.sub _ hS) ⟨hrr.1,fun i r hi j x hj=>?_⟩;obtain⟨v,hg,h⟩:=hrr.2 i r hi j x hj;exact⟨v,(lH (hs.dU _ hS) _).trans hg,h.mono hs⟩
 |box hb hS hK ho hlen hrr=>exact .box hb (hsame rfl).2 hK (ho.l6 (hsame rfl).1) hlen fun i x hi=>(hrr i x hi).mono hs hr
 |ny hb hS hrr=>refine .ny hb (hs.sub _ hS) fun i x hi=>?_;obtain⟨v,hg,h⟩:=hrr i x hi;exact⟨v,(lH (hs.dU _ hS) _).trans hg,h.mono hs⟩
 |map hS hK ho hlen hrr=>exact .map (hsame rfl).2 hK ((hsame rfl).1.trans ho) hlen fun i e m hi hm=>let⟨h1,h2,h3⟩:=hrr i e m hi hm;⟨h1,h2.mono hs,h3⟩
 |cap hsz hl hS hK ho hext hfit hrr hv hc=>exact .cap hsz hl (hsame rfl).2 hK (ho.l6 (hsame rfl).1) hext hfit (hrr.mono hs) hv hc
 |nst hsz hl hS hK ho hext hfit hrr hv=>refine .nst hsz hl (hsame rfl).2 hK (ho.l6 (hsame rfl).1) hext hfit (fun i s hi=>?_) hv;obtain⟨v,h1,h2⟩:=hrr i s hi;refine⟨v,h1,?_⟩;cases h2 with|nil=>exact .nil|@bv am _ b h hS hK=>obtain⟨k1,k2⟩:=hkp _ _ rfl i b ⟨am,v,hi,(ho.cell _).trans h1,h.cK⟩;exact .bv (h.mono hs k1) k2 hK|dO h=>exact .dO (h.mono hs hr)
def Io(w0 w:World):Prop:=w.os=w0.os/\w.output=w0.output/\w.tape=w0.tape/\w0.drawn<=w.drawn
theorem Io.trans{a b c:World}(h:Io a b)(h2:Io b c):Io a c:=⟨h2.1.trans h.1,h2.2.1.trans h.2.1,h2.2.2.1.trans h.2.2.1,fy h.2.2.2 h2.2.2.2⟩
theorem Io.refl(w:World):Io w w:=⟨rfl,rfl,rfl,au _⟩
structure FZ(K:Nat->Prop)(w0 w:World):Prop where
 Ei:∀b,K b->b<w0.heap.size
 my:∀b,K b->w.heap[b]?=w0.heap[b]?
 qQ:w0.heap.size<=w.heap.size
 zJ:∀a,a.block<w0.heap.size->w.frozen? a=w0.frozen? a
 bv:∀b aM,nR w0 b aM->∃arr',nR w b arr'/\arr'.size=aM.size
 io:Io w0 w
def za(S:Nat->Prop)(w:World):Prop:=∀g d,NT g=some d->RD S w d (.pointer (some ⟨g,0,none⟩))
theorem za.mono{S S':Nat->Prop}{w w':World}(h:za S w)(hs:gF S w S' w'):za S' w':=fun g d hg=>(h g d hg).mono hs
def Rs(w:World)(φ:Nat->gr)(hf:Nat->Option Ob):Prop:=∀i sz sl k x,hf i=some (.nst sz sl)->ri w (φ i) sl k x->
 (∀j b,hf j=some b->cD b=true->(φ j).cK≠x)/\∀j sz' sl' k',hf j=some (.nst sz' sl')->ri w (φ j) sl' k' x->j=i/\k'=k
structure Inv(S K:Nat->Prop)(w0:World)(Kn:Nat->Prop)(φ:Nat->gr)(hf:Nat->Option Ob)(w:World):Prop where
 t6:∀b,S b->b<w.heap.size
 sk:∀b,S b->¬K b
 mz:FZ K w0 w
 iv:∀id o,hf id=some o->Kn id/\RO S K w Kn φ (φ id) o
 jo:∀i j a b,hf i=some a->hf j=some b->cD a=true->cD b=true->i≠j->(φ i).cK≠(φ j).cK
 AJ:za S w
 vV:Rs w φ hf
def bm(u:fm)(hf:Nat->Option Ob)(id:Nat):Option Ob:=match cg u id with|some o=>o|none=>hf id
theorem gy{α:Type}(a b:List (Nat×α))(k:Nat):cg (a++b) k=match cg a k with|some x=>some x|none=>cg b k:=by induction a with|nil=>rfl|cons p r ih=>obtain⟨i,x⟩:=p;simp only[List.cons_append,cg];cases h:(i==k)<;>simp[ih]
theorem gm(u:fm)(h:bE):az (u++h)=bm u (az h):=by funext id;simp only[az,bm,gy];cases cg u id<;>simp
theorem fz(hf:Nat->Option Ob):bm [] hf=hf:=rfl
theorem bP(i:Nat)(o:Option Ob)(u:fm)(hf:Nat->Option Ob)(id:Nat):bm ((i,o)::u) hf id=if i=id then o else bm u hf id:=by
 simp only[bm,cg];by_cases h:i=id
 .simp [h]
 .have e:(i==id)=false:=by simpa using h
  simp[h,e]
theorem dV(u v:fm)(hf:Nat->Option Ob):bm (u++v) hf=bm u (bm v hf):=by funext id;simp only[bm,gy];cases cg u id<;>simp
theorem Inv.t_{S S' K:Nat->Prop}{w0 w w':World}{Kn Kn':Nat->Prop}{φ φ':Nat->gr}{hf hf':Nat->Option Ob}(h:Inv S K w0 Kn φ hf w)
  (hs:gF S w S' w') (hr:sH Kn φ Kn' φ') (hslt:∀b,S' b->b<w'.heap.size) (hsk:∀b,S' b->¬K b) (hfrm:FZ K w0 w')
  (hobj:∀id o,hf' id=some o->(hf id=some o/\(cD o=true->w'.heap[(φ id).cK]?=w.heap[(φ id).cK]?/\¬S' (φ id).cK)/\OE S' w w' (φ id) o)\/(Kn' id/\RO S' K w' Kn' φ' (φ' id) o))
  (hdist:∀i j a b,hf' i=some a->hf' j=some b->cD a=true->cD b=true->i≠j->(φ' i).cK≠(φ' j).cK) (hprv:Rs w' φ' hf'):
  Inv S' K w0 Kn' φ' hf' w' where
 t6:=hslt
 sk:=hsk
 mz:=hfrm
 jo:=hdist
 AJ:=h.AJ.mono hs
 vV:=hprv
 iv id o ho:=by
  rcases hobj id o ho with⟨h1,h2,h3⟩|h1
  .obtain ⟨hk,hro⟩:=h.iv id o h1;refine⟨hr.sub _ hk,?_⟩;rw[hr.dU _ hk];exact hro.mono hs hr h2 h3
  .exact h1
theorem ri.dU{w w':World}{l:gr}{sl:List kx}{k x:Nat}(h:w'.heap[l.cK]?=w.heap[l.cK]?):ri w' l sl k x<->ri w l sl k x:=by unfold ri;rw[show∀i,w'.cell? ⟨l.cK,i,none⟩=w.cell? ⟨l.cK,i,none⟩from fun i=>lH h i]
theorem RO.Gy{S K:Nat->Prop}{w:World}{Kn:Nat->Prop}{φ:Nat->gr}{l:gr}{sz:Nat}{sl:List kx}{k x:Nat}(h:RO S K w Kn φ l (.nst sz sl))(hp:ri w l sl k x):
  ¬S x/\¬K x/\x<w.heap.size/\∃am v,sl[k]?=some (.bv am)/\w.cell? ⟨l.cK,l.aP+k,none⟩=some v/\FX S w sz am v x:=by
 cases h with
 |nst hsz hl hS hK ho hext hfit hr hv=>
  obtain⟨am,v,h1,h2,h3⟩:=hp;obtain⟨v',h4,h5⟩:=hr k _ h1;obtain rfl:v'=v:=by rw[ho.cell,h4]at h2;exact aa h2
  cases h5 with
  |@bv _ _ b h6 hS hK=>
   obtain rfl:b=x:=by rw[h6.cK]at h3;exact aa h3
   obtain⟨aM,h7⟩:=h6.bv;exact⟨hS,hK,h7.lt,am,v',h1,h2,h6⟩
theorem Inv.Gy{S K:Nat->Prop}{w0 w:World}{Kn:Nat->Prop}{φ:Nat->gr}{hf:Nat->Option Ob}(h:Inv S K w0 Kn φ hf w){i sz k x:Nat}{sl:List kx}(hi:hf i=some (.nst sz sl))(hp:ri w (φ i) sl k x):
  ¬S x/\¬K x/\x<w.heap.size/\∃am v,sl[k]?=some (.bv am)/\w.cell? ⟨(φ i).cK,(φ i).aP+k,none⟩=some v/\FX S w sz am v x:=(h.iv i _ hi).2.Gy hp
def OD(S':Nat->Prop)(w w':World)(φ φ':Nat->gr)(hf hf':Nat->Option Ob):Prop:=∀id sz sl,hf' id=some (.nst sz sl)->hf id=some (.nst sz sl)/\w'.heap[(φ id).cK]?=w.heap[(φ id).cK]?/\
 ∀k x,ri w (φ id) sl k x->w'.heap[x]?=w.heap[x]?/\¬S' x/\∀j b,hf' j=some b->cD b=true->(φ' j).cK≠x
theorem Inv.jK{S S' K:Nat->Prop}{w0 w w':World}{Kn Kn':Nat->Prop}{φ φ':Nat->gr}{hf hf':Nat->Option Ob}(h:Inv S K w0 Kn φ hf w)
  (hs:gF S w S' w') (hr:sH Kn φ Kn' φ') (hslt:∀b,S' b->b<w'.heap.size) (hsk:∀b,S' b->¬K b) (hfrm:FZ K w0 w')
  (hobj:∀id o,hf' id=some o->(hf id=some o/\(cD o=true->w'.heap[(φ id).cK]?=w.heap[(φ id).cK]?/\¬S' (φ id).cK))\/(Kn' id/\RO S' K w' Kn' φ' (φ' id) o))
  (hdist:∀i j a b,hf' i=some a->hf' j=some b->cD a=true->cD b=true->i≠j->(φ' i).cK≠(φ' j).cK) (hrest:OD S' w w' φ φ' hf hf'):
  Inv S' K w0 Kn' φ' hf' w':=by
 have e:∀id sz sl,hf' id=some (.nst sz sl)->φ' id=φ id:=fun id sz sl hi=>hr.dU _ (h.iv id _ (hrest id sz sl hi).1).1;have hpat:∀id sz sl k x,hf' id=some (.nst sz sl)->ri w' (φ' id) sl k x->ri w (φ id) sl k x:=fun id sz sl k x hi hp=>by rw[e id sz sl hi]at hp;exact(ri.dU (hrest id sz sl hi).2.1).1 hp
 refine h.t_ hs hr hslt hsk hfrm (fun id o ho=>?_) hdist fun i sz sl k x hi hp=>?_
 .rcases hobj id o ho with⟨h1,h2⟩|h1
  .exact .inl ⟨h1,h2,fun sz sl eo k x hp=>by subst eo;obtain⟨a,b,_⟩:=(hrest id sz sl ho).2.2 k x hp;exact⟨a,b⟩⟩
  .exact .inr h1
 .have hp':=hpat i sz sl k x hi hp;refine⟨((hrest i sz sl hi).2.2 k x hp').2.2,fun j sz' sl' k' hj hpj=>?_⟩;exact(h.vV i sz sl k x (hrest i sz sl hi).1 hp').2 j sz' sl' k' (hrest j sz' sl' hj).1 (hpat j sz' sl' k' x hj hpj)
theorem ik{w:World}{o:Obj}{b:Nat}(h:b<w.heap.size):({w with heap:=w.heap.push o}:World).heap[b]?=w.heap[b]?:=by simp[Array.getElem?_push,Nat.ne_of_lt h]
theorem BZ(w:World)(aM:Array Value)(t:TypeId):nR {w with heap:=w.heap.push (.cells aM t)} w.heap.size aM:=⟨t,by simp⟩
theorem CA(w:World)(aM:Array Value)(t:TypeId)(a:Addr):({w with heap:=w.heap.push (.cells aM t)}:World).frozen? a=w.frozen? a:=by
 unfold World.frozen?;rcases Nat.lt_trichotomy a.block w.heap.size with h|h|h
 .rw [ik h]
 .simp [h]
 .rw [gg (by simp;omega),gg (by omega)]
theorem FZ.push{K:Nat->Prop}{w0 w:World}(h:FZ K w0 w)(aM:Array Value)(t:TypeId):FZ K w0 {w with heap:=w.heap.push (.cells aM t)}where
 Ei:=h.Ei
 my b hb:=(ik (cU (h.Ei b hb) h.qQ)).trans (h.my b hb)
 qQ:=by have:=h.qQ;simp;omega
 zJ a ha:=(CA w aM t a).trans (h.zJ a ha)
 bv b a ha:=let⟨a',h1,h2⟩:=h.bv b a ha;⟨a',h1.l6 (ik h1.lt),h2⟩
 io:=h.io
theorem FZ.xu{K:Nat->Prop}{w0 w w':World}(h:FZ K w0 w){c:Nat}(hother:∀b,b≠c->w'.heap[b]?=w.heap[b]?)
  (hsz:∀aM,nR w c aM->∃arr',nR w' c arr'/\arr'.size=aM.size) (b:Nat) (aM:Array Value) (ho:nR w0 b aM):∃arr',nR w' b arr'/\arr'.size=aM.size:=by
 obtain⟨a,h1,h2⟩:=h.bv b aM ho;by_cases e:b=c
 .subst e;obtain⟨a',h3,h4⟩:=hsz a h1;exact⟨a',h3,h4.trans h2⟩
 .exact ⟨a,h1.l6 (hother b e),h2⟩
theorem FZ.wn{K:Nat->Prop}{w0 w:World}(h:FZ K w0 w)(n:Nat)(hn:w.drawn<=n):FZ K w0 {w with drawn:=n}:=⟨h.Ei,h.my,h.qQ,h.zJ,h.bv,h.io.1,h.io.2.1,h.io.2.2.1,fy h.io.2.2.2 hn⟩
theorem gF.push{S:Nat->Prop}{w:World}(hs:∀b,S b->b<w.heap.size)(o:Obj):gF S w S {w with heap:=w.heap.push o}:=⟨fun _ h=>h,fun b h=>ik (hs b h)⟩
theorem gF.wn(S:Nat->Prop)(w:World)(n:Nat):gF S w S {w with drawn:=n}:=⟨fun _ h=>h,fun _ _=>rfl⟩
theorem Inv.BL{S K:Nat->Prop}{w0 w w':World}{Kn Kn':Nat->Prop}{φ φ':Nat->gr}{hf:Nat->Option Ob}(h:Inv S K w0 Kn φ hf w)(hr:sH Kn φ Kn' φ')(hs:∀b,b<w.heap.size->w'.heap[b]?=w.heap[b]?):OD S w w' φ φ' hf hf:=fun id sz sl hi=>by
 obtain⟨_,h1⟩:=h.iv id _ hi;have hlt:(φ id).cK<w.heap.size:=by cases h1 with|nst _ _ _ _ ho=>exact ho.lt
 refine⟨hi,hs _ hlt,fun k x hp=>?_⟩;obtain⟨h2,_,h3,_⟩:=h.Gy hi hp;refine⟨hs x h3,h2,fun j b hj hb=>?_⟩;rw[hr.dU j (h.iv j b hj).1];exact(h.vV id sz sl k x hi hp).1 j b hj hb
theorem Inv.zo{S K:Nat->Prop}{w0 w w':World}{Kn:Nat->Prop}{φ:Nat->gr}{hf:Nat->Option Ob}(h:Inv S K w0 Kn φ hf w)(hs:∀b,b<w.heap.size->w'.heap[b]?=w.heap[b]?):OD S w w' φ φ hf hf:=h.BL (sH.refl _ _) hs
theorem Inv.wn{S K:Nat->Prop}{w0 w:World}{Kn:Nat->Prop}{φ:Nat->gr}{hf:Nat->Option Ob}(h:Inv S K w0 Kn φ hf w)(n:Nat)(hn:w.drawn<=n):
  Inv S K w0 Kn φ hf {w with drawn:=n}:=
 h.jK (gF.wn S w n) (sH.refl _ _) h.t6 h.sk (h.mz.wn n hn) (fun id o ho=>.inl ⟨ho,fun hown=>⟨rfl,by obtain⟨_,hro⟩:=h.iv id o ho;cases hro<;>simp_all[cD]⟩⟩) h.jo (h.zo fun _ _=>rfl)
theorem RO.bv{S K:Nat->Prop}{w:World}{Kn:Nat->Prop}{φ:Nat->gr}{l:gr}{o:Ob}(h:RO S K w Kn φ l o)(ho:cD o=true):
  ¬S l.cK/\¬K l.cK/\l.cK<w.heap.size:=by
 cases h with|aM hsz hl hS hK hown=>exact⟨hS,hK,hown.lt⟩|box hb hS hK hown=>exact⟨hS,hK,hown.lt⟩|map hS hK hmp=>exact⟨hS,hK,(bg.1 hmp).1⟩|cap hsz hl hS hK hown=>exact⟨hS,hK,hown.lt⟩|nst hsz hl hS hK hown=>exact⟨hS,hK,hown.lt⟩|_=>simp[cD]at ho
def ext(φ:Nat->gr)(i:Nat)(l:gr):Nat->gr:=fun j=>if j=i then l else φ j
theorem jq{Kn:Nat->Prop}{φ:Nat->gr}{i:Nat}(l:gr)(hi:¬Kn i):sH Kn φ (fun j=>Kn j\/j=i) (ext φ i l):=⟨fun _ h=>.inl h,fun j h=>by simp only[ext];rw[if_neg];rintro rfl;exact hi h⟩
abbrev FY(o:Ob):Prop:=∀sz sl(k:Nat)am,o=.nst sz sl->sl[k]?≠some (kx.bv am)
theorem Inv.Fx{S K:Nat->Prop}{w0 w w':World}{Kn:Nat->Prop}{φ:Nat->gr}{hf:Nat->Option Ob}(h:Inv S K w0 Kn φ hf w){i:Nat}{l:gr}{o:Ob}(hno:FY o)
  (hsame:∀b,b<w.heap.size->w'.heap[b]?=w.heap[b]?) (hl:cD o=true->∀id sz sl k x,hf id=some (.nst sz sl)->ri w (φ id) sl k x->l.cK≠x):Rs w' (ext φ i l) (bm [(i,some o)] hf):=by
 have key:∀a sz sl k x,bm [(i,some o)] hf a=some (.nst sz sl)->ri w' (ext φ i l a) sl k x->hf a=some (.nst sz sl)/\ri w (φ a) sl k x:=by
  intro a sz sl k x ha hp;rw[bP]at ha;by_cases e:i=a
  .rw [if_pos e]at ha;obtain rfl:=aa ha;obtain⟨am,v,h1,_⟩:=hp;exact absurd h1 (hno _ _ _ _ rfl)
  .rw [if_neg e,fz]at ha;refine⟨ha,?_⟩;have e1:ext φ i l a=φ a:=by simp only[ext];rw[if_neg (fun q=>e q.symm)]
   rw[e1]at hp;obtain⟨_,h1⟩:=h.iv a _ ha;exact(ri.dU (hsame _ (by cases h1 with|nst _ _ _ _ ho=>exact ho.lt))).1 hp
 intro a sz sl k x ha hp;obtain⟨h1,h2⟩:=key a sz sl k x ha hp;obtain⟨p1,p2⟩:=h.vV a sz sl k x h1 h2;refine⟨fun j b hj hown=>?_,fun j sz' sl' k' hj hpj=>?_⟩
 .rw [bP]at hj;by_cases e:i=j
  .rw [if_pos e]at hj;obtain rfl:=aa hj;simp only[ext];rw[if_pos e.symm];exact hl hown a sz sl k x h1 h2
  .rw [if_neg e,fz]at hj;simp only[ext];rw[if_neg (fun q=>e q.symm)];exact p1 j b hj hown
 .obtain ⟨h3,h4⟩:=key j sz' sl' k' x hj hpj;exact p2 j sz' sl' k' h3 h4
theorem Inv.Ct{S K:Nat->Prop}{w0 w w':World}{Kn:Nat->Prop}{φ:Nat->gr}{hf:Nat->Option Ob}(h:Inv S K w0 Kn φ hf w){id:Nat}{o:Ob}(ho:hf id=some o)(hsame:∀b,b<w.heap.size->w'.heap[b]?=w.heap[b]?):OE S w w' (φ id) o:=by intro sz sl e k x hp;subst e;obtain⟨h1,_,h2,_⟩:=h.Gy ho hp;exact⟨hsame x h2,h1⟩
theorem Inv.alloc{S K:Nat->Prop}{w0 w:World}{Kn:Nat->Prop}{φ:Nat->gr}{hf:Nat->Option Ob}(h:Inv S K w0 Kn φ hf w){i:Nat}(hi:¬Kn i)
  (aM:Array Value) (t:TypeId) (sz c:Nat) (o:Ob)
  (hro:RO S K {w with heap:=w.heap.push (.cells aM t)} (fun j=>Kn j\/j=i) (ext φ i ⟨w.heap.size,0,sz,aM.size,c⟩) ⟨w.heap.size,0,sz,aM.size,c⟩ o) (hno:FY o:=by intro _ _ _ _ e;cases e):
  Inv S K w0 (fun j=>Kn j\/j=i) (ext φ i ⟨w.heap.size,0,sz,aM.size,c⟩) (bm [(i,some o)] hf) {w with heap:=w.heap.push (.cells aM t)}:=by
 refine h.t_ (gF.push h.t6 _) (jq _ hi) (fun b hb=>by have:=h.t6 b hb;simp;omega) h.sk (h.mz.push aM t) ?_ ?_ (h.Fx hno (fun b hb=>ik hb) fun _ id sz sl k x ha hp e=>by have:=(h.Gy ha hp).2.2.1;simp only at e;omega)
 .intro id o' ho;rw[bP]at ho;by_cases e:i=id
  .subst e;rw[if_pos rfl]at ho;obtain rfl:o=o':=by simpa using ho
   refine .inr ⟨.inr rfl,?_⟩;simpa[ext]using hro
  .rw [if_neg e,fz]at ho;refine .inl ⟨ho,fun hown=>?_,h.Ct ho fun b hb=>ik hb⟩;obtain⟨_,h2⟩:=h.iv id o' ho;obtain⟨a,b,c⟩:=h2.bv hown;exact⟨ik c,a⟩
 .have key:∀j b,j≠i->hf j=some b->cD b=true->(ext φ i ⟨w.heap.size,0,sz,aM.size,c⟩ j).cK<w.heap.size:=by intro j b hj hb hown;obtain⟨_,h2⟩:=h.iv j b hb;simpa[ext,hj]using(h2.bv hown).2.2
  intro a b oa ob ha hb hoa hob hne;rw[bP]at ha hb;by_cases ea:i=a
  .by_cases eb:i=b
   .exact absurd (ea.symm.trans eb) hne
   .rw [if_neg eb,fz]at hb;have:=key b ob (fun e=>eb e.symm) hb hob;have e1:(ext φ i ⟨w.heap.size,0,sz,aM.size,c⟩ a).cK=w.heap.size:=by simp[ext,ea]
    omega
  .rw [if_neg ea,fz]at ha;have h1:=key a oa (fun e=>ea e.symm) ha hoa;by_cases eb:i=b
   .have e1:(ext φ i ⟨w.heap.size,0,sz,aM.size,c⟩ b).cK=w.heap.size:=by simp[ext,eb]
    omega
   .rw [if_neg eb,fz]at hb;have:=h.jo a b oa ob ha hb hoa hob hne;have e1:¬a=i:=fun e=>ea e.symm;have e2:¬b=i:=fun e=>eb e.symm;simpa[ext,e1,e2]using this
theorem AN{w:World}{o:Obj}(ho:∀c t r,o≠.cells c t r)(a:Addr):({w with heap:=w.heap.push o}:World).frozen? a=w.frozen? a:=by
 unfold World.frozen?;rcases Nat.lt_trichotomy a.block w.heap.size with h|h|h
 .rw [ik h]
 .rw [h];simp only[Array.getElem?_push_size,gg (au _)];cases o with|cells c t r=>exact absurd rfl (ho c t r)|_=>rfl
 .rw [gg (by simp;omega),gg (by omega)]
theorem Inv.Oy{S K:Nat->Prop}{w0 w:World}{Kn:Nat->Prop}{φ:Nat->gr}{hf:Nat->Option Ob}(h:Inv S K w0 Kn φ hf w){i:Nat}(hi:¬Kn i)
  {ob:Obj} (hob:∀c t r,ob≠.cells c t r) (l:gr) (hl:l.cK=w.heap.size) (o:Ob)
  (hro:RO S K {w with heap:=w.heap.push ob} (fun j=>Kn j\/j=i) (ext φ i l) l o) (hno:FY o:=by intro _ _ _ _ e;cases e):
  Inv S K w0 (fun j=>Kn j\/j=i) (ext φ i l) (bm [(i,some o)] hf) {w with heap:=w.heap.push ob}:=by
 have hfrm:FZ K w0 {w with heap:=w.heap.push ob}:=
  ⟨h.mz.Ei,fun b hb=>(ik (cU (h.mz.Ei b hb) h.mz.qQ)).trans (h.mz.my b hb),by have:=h.mz.qQ;simp;omega,fun a ha=>(AN hob a).trans (h.mz.zJ a ha),
   fun b a ha=>let⟨a',h1,h2⟩:=h.mz.bv b a ha;⟨a',h1.l6 (ik h1.lt),h2⟩,h.mz.io⟩
 refine h.t_ (gF.push h.t6 _) (jq _ hi) (fun b hb=>by have:=h.t6 b hb;simp;omega) h.sk hfrm ?_ ?_ (h.Fx hno (fun b hb=>ik hb) fun _ id sz sl k x ha hp e=>by have:=(h.Gy ha hp).2.2.1;omega)
 .intro id o' ho;rw[bP]at ho;by_cases e:i=id
  .subst e;rw[if_pos rfl]at ho;obtain rfl:o=o':=by simpa using ho
   refine .inr ⟨.inr rfl,?_⟩;simpa[ext]using hro
  .rw [if_neg e,fz]at ho;refine .inl ⟨ho,fun hown=>?_,h.Ct ho fun b hb=>ik hb⟩;obtain⟨_,h2⟩:=h.iv id o' ho;obtain⟨a,b,c⟩:=h2.bv hown;exact⟨ik c,a⟩
 .have key:∀j b,j≠i->hf j=some b->cD b=true->(ext φ i l j).cK<w.heap.size:=by intro j b hj hb hown;obtain⟨_,h2⟩:=h.iv j b hb;simpa[ext,hj]using(h2.bv hown).2.2
  intro a b oa ob ha hb hoa hob hne;rw[bP]at ha hb;by_cases ea:i=a
  .by_cases eb:i=b
   .exact absurd (ea.symm.trans eb) hne
   .rw [if_neg eb,fz]at hb;have:=key b ob (fun e=>eb e.symm) hb hob;have e1:(ext φ i l a).cK=w.heap.size:=by simp[ext,ea,hl]
    omega
  .rw [if_neg ea,fz]at ha;have h1:=key a oa (fun e=>ea e.symm) ha hoa;by_cases eb:i=b
   .have e1:(ext φ i l b).cK=w.heap.size:=by simp[ext,eb,hl]
    omega
   .rw [if_neg eb,fz]at hb;have:=h.jo a b oa ob ha hb hoa hob hne;have e1:¬a=i:=fun e=>ea e.symm;have e2:¬b=i:=fun e=>eb e.symm;simpa[ext,e1,e2]using this
theorem Inv.lm{S K:Nat->Prop}{w0 w:World}{Kn:Nat->Prop}{φ:Nat->gr}{hf hf':Nat->Option Ob}(h:Inv S K w0 Kn φ hf w)(hsub:∀id o,hf' id=some o->hf id=some o):
  Inv S K w0 Kn φ hf' w:=
 ⟨h.t6,h.sk,h.mz,fun id o ho=>h.iv id o (hsub id o ho),fun i j a b ha hb=>h.jo i j a b (hsub _ _ ha) (hsub _ _ hb),h.AJ,
  fun i sz sl k x hi hp=>let⟨a,b⟩:=h.vV i sz sl k x (hsub _ _ hi) hp;⟨fun j b hj=>a j b (hsub _ _ hj),fun j sz' sl' k' hj=>b j sz' sl' k' (hsub _ _ hj)⟩⟩
theorem Inv.set{S K:Nat->Prop}{w0 w w':World}{Kn:Nat->Prop}{φ:Nat->gr}{hf:Nat->Option Ob}(h:Inv S K w0 Kn φ hf w){id:Nat}{o o':Ob}
  (ho:hf id=some o) (hown:cD o=true) (hother:∀b,b≠(φ id).cK->w'.heap[b]?=w.heap[b]?) (hsize:w'.heap.size=w.heap.size)
  (hfrz:∀a,w'.frozen? a=w.frozen? a) (hsz:∀aM,nR w (φ id).cK aM->∃arr',nR w' (φ id).cK arr'/\arr'.size=aM.size) (hio:Io w w') (hro:gF S w S w'->RO S K w' Kn φ (φ id) o') (hn:∀sz sl,o'≠.nst sz sl:=by intro _ _ e;cases e):
  gF S w S w'/\Inv S K w0 Kn φ (bm [(id,some o')] hf) w':=by
 obtain⟨hk,h0⟩:=h.iv id o ho;obtain⟨hS,hK,hlt⟩:=h0.bv hown;have hs:gF S w S w':=⟨fun _ h=>h,fun b hb=>hother b (fun e=>hS (e▸hb))⟩
 have fix:∀i a,bm [(id,some o')] hf i=some a->cD a=true->∃a',hf i=some a'/\cD a'=true:=by
  intro i a ha hoa;rw[bP]at ha;by_cases e:id=i
  .subst e;exact⟨o,ho,hown⟩
  .rw [if_neg e,fz]at ha;exact⟨a,ha,hoa⟩
 refine⟨hs,h.jK hs (sH.refl _ _) (fun b hb=>hsize▸h.t6 b hb) h.sk ?_ ?_ ?_ ?_⟩
 .exact ⟨h.mz.Ei,fun b hb=>(hother b (fun e=>hK (e▸hb))).trans (h.mz.my b hb),hsize▸h.mz.qQ,fun a ha=>(hfrz a).trans (h.mz.zJ a ha),h.mz.xu hother hsz,h.mz.io.trans hio⟩
 .intro i x hx;rw[bP]at hx;by_cases e:id=i
  .subst e;rw[if_pos rfl]at hx;obtain rfl:o'=x:=by simpa using hx
   exact .inr ⟨hk,hro hs⟩
  .rw [if_neg e,fz]at hx;refine .inl ⟨hx,fun hox=>⟨hother _ ?_,((h.iv i x hx).2.bv hox).1⟩⟩;exact(h.jo i id x o hx ho hox hown (fun e'=>e e'.symm))
 .intro i j a b ha hb hoa hob hne;obtain⟨a',ha',hoa'⟩:=fix i a ha hoa;obtain⟨b',hb',hob'⟩:=fix j b hb hob;exact h.jo i j a' b' ha' hb' hoa' hob' hne
 .intro a sz sl ha;rw[bP]at ha;by_cases e:id=a
  .rw [if_pos e]at ha;exact absurd (aa ha) (hn _ _)
  .rw [if_neg e,fz]at ha;refine⟨ha,hother _ (h.jo a id _ o ha ho rfl hown fun q=>e q.symm),fun k x hp=>?_⟩;obtain⟨p1,_⟩:=h.vV a sz sl k x ha hp;refine⟨hother x fun q=>p1 id o ho hown q.symm,(h.Gy ha hp).1,fun j b hj hb=>?_⟩;obtain⟨b',hb',hob'⟩:=fix j b hj hb;exact p1 j b' hb' hob'
variable{P:Program}
def fA(P:Program)(t:TypeId):Option Nat:=(P.info? t).map (·.size)
def fG(P:Program)(t:TypeId):Option Bool:=(P.underlying t).map fun|.struct _|.array _ _=>true|_=>false
def jw(P:Program)(t:TypeId):Option (List Value):=match(P.info? t).bind (·.zero)with|some z=>if z.cells.toList.all fo then some z.cells.toList else none|none=>none
theorem o7(b off n:Nat):(⟨b,off,none⟩:Addr).add n=⟨b,off+n,none⟩:=by unfold Addr.add;split<;>simp_all
theorem gJ{t:TypeId}{n:Nat}(h:fA P t=some n)(w:World):(sizeOf t).run P w=.ok n w:=by simp only[fA,aH]at h;obtain⟨i,hi,rfl⟩:=h;simp[sizeOf,typeInfo,hi]
theorem bX{t:TypeId}{d:TypeDesc}(h:P.underlying t=some d)(w:World):(underlying t).run P w=.ok d w:=by simp[underlying,h]
theorem sn{t:TypeId}{g:Bool}(h:fG P t=some g)(w:World):(isAgg t).run P w=.ok g w:=by simp only[fG,aH]at h;obtain⟨d,hd,rfl⟩:=h;simp only[isAgg,Sem.run_bind,bX hd,Result.andThen_ok];cases d<;>rfl
theorem oI{t:TypeId}{z:List Value}(h:jw P t=some z)(w:World):
  ∃v,(zeroValue t).run P w=.ok v w/\v.cells.toList=z/\∀x∈z,fo x=true:=by
 simp only[jw]at h;split at h
 .rename_i v hv;split at h
  .rename_i hp;obtain rfl:=aa h;obtain⟨i,hi,hz⟩:=eX.1 hv;exact⟨v,by simp[zeroValue,typeInfo,hi,hz],rfl,fun x hx=>bd.1 hp x hx⟩
  .simp at h
 .simp at h
section
variable{S K:Nat->Prop}{w0 w:World}{Kn:Nat->Prop}{φ:Nat->gr}{hf:Nat->Option Ob}
theorem Eh(agg:Bool)(n:Nat)(cells:List D):MF agg n cells=Cq agg n (cells.map .d):=by
 unfold MF Cq;cases agg
 .cases cells<;>rfl
 .simp [List.map_take]
theorem u_{t:TypeId}{agg:Bool}{n:Nat}(ha:fG P t=some agg)(hn:fA P t=some n){cells:List C}{b o:Nat}{v:TV}
  (hc:∀(j:Nat)(x:C),cells[j]?=some x->∃u,w.cell? ⟨b,o+j,none⟩=some u/\RC S w Kn φ x u) (h:Cq agg n cells=some v):
  ∃val,(loadVar t ⟨b,o,none⟩).run P w=.ok val w/\fR S w Kn φ v val:=by
 unfold Cq at h;cases agg
 .simp only[aR,if_false]at h;cases cells with
  |nil=>simp at h
  |cons x r=>
   obtain rfl:TV.c x=v:=by simpa using h
   obtain⟨u,hu,hr⟩:=hc 0 x rfl;refine⟨u,?_,.c hr⟩;simp only[loadVar,Sem.run_bind,sn ha,Result.andThen_ok,aR,if_false,run_load];simp only[dw]at hu;simp[hu]
 .simp only[if_true]at h;split at h
  .rename_i hle;obtain rfl:=aa h
   have hcell:∀j,j<n->w.cell? ((⟨b,o,none⟩:Addr).add j)=some ((w.cell? ⟨b,o+j,none⟩).getD undef):=by
    intro j hj;have hj':j<cells.length:=by omega
    obtain⟨u,hu,_⟩:=hc j cells[j] (by simp[hj']);rw[o7,hu];rfl
   refine⟨.agg ((bi n).map fun j=>(w.cell? ⟨b,o+j,none⟩).getD undef).toArray,?_,.agg (by simp;omega) ?_⟩
   .simp only[loadVar,Sem.run_bind,sn ha,Result.andThen_ok,if_true,gJ hn,run_loadCells w _ n _ hcell,Sem.run_pure]
   .intro i x hi;rw[ew]at hi;split at hi
    .rename_i hin;obtain⟨u,hu,hr⟩:=hc i x hi;have:((bi n).map fun j=>(w.cell? ⟨b,o+j,none⟩).getD undef).toArray.getD i undef=u:=by simp[jW,hin,hu]
     rw[this];exact hr
    .simp at hi
  .simp at h
theorem AY{id cY:Nat}{sz:Nat}{am:List (List D)}(hI:Inv S K w0 Kn φ hf w)(ho:hf id=some (.aM sz am)\/hf id=some (.oV sz am)){r:List D}(hr:am[cY]?=some r)(off:Nat):
  (φ id).sz=sz/\r.length=sz/\∀(j:Nat)(x:C),((r.drop off).map C.d)[j]?=some x->∃u,w.cell? ⟨(φ id).cK,(φ id).aP+cY*(φ id).sz+off+j,none⟩=some u/\RC S w Kn φ x u:=by
 rcases ho with ho|ho
 .obtain ⟨hk,h0⟩:=hI.iv _ _ ho;cases h0 with|aM hsz hl hS hK hown hext hfit hrr=>refine⟨hl,hrr.1 _ _ hr,fun j x hj=>?_⟩;rw[aI,bL]at hj;obtain⟨d,hd,rfl⟩:=aH.1 hj;obtain⟨u,hu,hrd⟩:=hrr.2 cY r hr (off+j) d hd;refine⟨u,?_,.d hrd⟩;rw[hown.cell,hl,<-hu];show _=_;congr 1;omega
 .obtain ⟨hk,h0⟩:=hI.iv _ _ ho;cases h0 with|oV hsz hl hS hrr=>refine⟨hl,hrr.1 _ _ hr,fun j x hj=>?_⟩;rw[aI,bL]at hj;obtain⟨d,hd,rfl⟩:=aH.1 hj;obtain⟨u,hu,hrd⟩:=hrr.2 cY r hr (off+j) d hd;refine⟨u,?_,.d hrd⟩;rw[hl,<-hu];simp only[cR]
theorem xg{t:TypeId}{agg:Bool}{n:Nat}(ha:fG P t=some agg)(hn:fA P t=some n){p:C}{H:bE}{v:TV}{aw:List Nat}{pv:Value}
  (hI:Inv S K w0 Kn φ (az H) w) (hp:RC S w Kn φ p pv) (h:gL agg n p H=some (v,aw)):
  ∃val,(Instr.loadAt t pv).run P w=.ok val w/\fR S w Kn φ v val:=by
 unfold gL at h;split at h
 .rename_i cells;split at h
  .rename_i v' hv;obtain⟨rfl,rfl⟩:v'=v/\[]=aw:=by simpa using h
   rw[Eh]at hv;cases hp with
   |d hd=>cases hd with|pt f hb hcell hrd=>obtain⟨val,h1,h2⟩:=u_ (Kn:=Kn) (φ:=φ) (S:=S) ha hn (cells:=cells.map .d) (fun j x hj=>by rw[aI]at hj;obtain⟨d,hd,rfl⟩:=aH.1 hj;exact⟨_,hcell j d hd,.d (hrd j d hd)⟩) hv;exact⟨val,by simp[Instr.loadAt,Instr.sureAddr,h1],h2⟩
  .simp at h
 .rename_i id cY off
  have key:∀sz am,(az H id=some (.aM sz am)\/az H id=some (.oV sz am))->
    (match am[cY]?with|some r=>(match MF agg n (r.drop off)with|some v=>some (v,[id])|none=>none)|none=>none)=some (v,aw)->
    ∃val,(Instr.loadAt t pv).run P w=.ok val w/\fR S w Kn φ v val:=by
   intro sz am ho h;split at h
   .rename_i r hr;split at h
    .rename_i v' hv;obtain⟨rfl,rfl⟩:v'=v/\[id]=aw:=by simpa using h
     rw[Eh]at hv;obtain⟨hl,hrl,hc⟩:=AY hI ho hr off;cases hp with|ep hk=>obtain⟨val,h1,h2⟩:=u_ ha hn hc hv;exact⟨val,by simp[Instr.loadAt,Instr.sureAddr,h1],h2⟩
    .simp at h
   .simp at h
  split at h
  .rename_i sz am ho;exact key sz am (.inl ho) h
  .rename_i sz am ho;exact key sz am (.inr ho) h
  .simp at h
 .rename_i id off;split at h
  .rename_i cells ho;split at h
   .rename_i v' hv;obtain⟨rfl,rfl⟩:v'=v/\[id]=aw:=by simpa using h
    obtain⟨hk,h0⟩:=hI.iv _ _ ho;cases h0 with
    |box hb hS hK hown hlen hrr=>cases hp with|op hk=>obtain⟨val,h1,h2⟩:=u_ (S:=S) (Kn:=Kn) (φ:=φ) ha hn (cells:=cells.drop off) (b:=(φ id).cK) (o:=(φ id).aP+off) (fun j x hj=>by rw[bL]at hj;have hlt:=(ak.1 hj).1;rw[hlen]at hlt;refine⟨_,?_,hrr _ _ hj⟩;rw[hown.cell,hb];simp[jW,hlt]) hv;exact⟨val,by simp[Instr.loadAt,Instr.sureAddr,h1],h2⟩
   .simp at h
  .rename_i cells ho;split at h
   .rename_i v' hv;obtain⟨rfl,rfl⟩:v'=v/\[id]=aw:=by simpa using h
    rw[Eh]at hv;obtain⟨hk,h0⟩:=hI.iv _ _ ho;cases h0 with
    |ny hb hS hrr=>cases hp with|op hk=>obtain⟨val,h1,h2⟩:=u_ (S:=S) (Kn:=Kn) (φ:=φ) ha hn (cells:=(cells.drop off).map .d) (b:=(φ id).cK) (o:=(φ id).aP+off) (fun j x hj=>by rw[aI,bL]at hj;obtain⟨d,hd,rfl⟩:=aH.1 hj;obtain⟨u,hu,hr⟩:=hrr _ _ hd;exact⟨u,by rw[hb,<-hu];simp,.d hr⟩) hv;exact⟨val,by simp[Instr.loadAt,Instr.sureAddr,h1],h2⟩
   .simp at h
  .simp at h
 .simp at h
theorem yV{w:World}{b:Nat}{old aM:Array Value}(h:nR w b old)(a:Addr):(w.setRow b aM).frozen? a=w.frozen? a:=by
 obtain⟨t,h⟩:=h;unfold World.frozen?;by_cases e:a.block=b
 .rw [e,setRow_heap w b old aM t _ h,h]
 .rw [setRow_other w b _ _ e]
theorem xw{w:World}{b:Nat}{old aM:Array Value}(h:nR w b old):nR (w.setRow b aM) b aM:=by obtain⟨t,h⟩:=h;exact⟨t,setRow_heap w b old aM t _ h⟩
theorem oO(v:Value):v.oneCell'=one v:=by cases v<;>rfl
theorem fR.cells{S:Nat->Prop}{w:World}{Kn:Nat->Prop}{φ:Nat->gr}{v:TV}{val:Value}{cs:List C}(h:fR S w Kn φ v val)(hc:cellsOf v=some cs):
  cs.length=val.cells.size/\(∀(i:Nat)(x:C),cs[i]?=some x->RC S w Kn φ x (val.cells.getD i undef))/\∀x∈val.cells.toList,one x=true:=by
 cases h with
 |@c x v h=>
  obtain rfl:[x]=cs:=by simpa[cellsOf]using hc
  have e:=uG h.one;refine⟨by rw[e];rfl,fun i y hi=>?_,fun y hy=>?_⟩
  .cases i with
   |zero=>
    rw[e];obtain rfl:x=y:=by simpa using hi
    exact h
   |succ i=>simp at hi
  .rw [e]at hy;obtain rfl:y=val:=by simpa using hy
   exact h.one
 |@agg cs' aM hlen h=>
  obtain rfl:cs'=cs:=by simpa[cellsOf]using hc
  refine⟨hlen,h,fun y hy=>?_⟩;obtain⟨i,hi,rfl⟩:=bV hy;have hi':i<aM.size:=by simpa[Value.cells]using hi
  have:=(h i (cs'[i]'(by omega)) (by simp[hlen,hi'])).one;simpa[jW,hi',Value.cells]using this
 |iz hlen h=>simp[cellsOf]at hc
theorem K6{t:TypeId}{n:Nat}(hn:fA P t=some n){b o:Nat}{aM:Array Value}{val:Value}(ho:nR w b aM)(hlen:val.cells.size=n)(hfit:o+n<=aM.size)
  (hone:∀x∈val.cells.toList,one x=true):
  (storeVar t ⟨b,o,none⟩ val).run P w=.ok () (w.setRow b (aM.toList.take o++val.cells.toList++aM.toList.drop (o+n)).toArray):=by
 obtain⟨ty,hb⟩:=ho;have:=run_storeCells_at P b o ty val.cells.toList 0 aM w hb (by simp;omega) (fun v hv=>by rw[oO];exact hone v hv);have e:val.cells.toList.length=n:=by simpa using hlen
 rw[e]at this;simp only[dw]at this;simp only[storeVar,Sem.run_bind,gJ hn,Result.andThen_ok,hlen,ne_eq,not_true_eq_false,if_false];exact this
theorem jb{α:Type}(l:List α)(off:Nat)(p:List α)(hfit:off+p.length<=l.length)(i:Nat):
  (aU l off p)[i]?=if i<off then l[i]?else if i<off+p.length then p[i-off]?else l[i]?:=by
 unfold aU;by_cases h1:i<off
 .rw [List.append_assoc,bF (by simp;omega)];simp[h1]
 .by_cases h2:i<off+p.length
  .rw [bF (by simp;omega),bM (by simp;omega)];simp only[dM,h1,h2,if_true,if_false];congr 1;omega
  .rw [bM (by simp;omega)];simp only[List.length_append,dM,bL,h1,h2,if_false];congr 1;omega
theorem eH{α:Type}(l:List α)(off:Nat)(p:List α)(hfit:off+p.length<=l.length):(aU l off p).length=l.length:=by unfold aU;simp;omega
theorem Nm{aM:Array Value}{vs:List Value}{o n:Nat}(hn:vs.length=n):aM.toList.take o++vs++aM.toList.drop (o+n)=aU aM.toList o vs:=by rw[<-hn];rfl
end
section
variable{S K:Nat->Prop}{w0 w:World}{Kn:Nat->Prop}{φ:Nat->gr}{hf:Nat->Option Ob}
theorem RD.zk{sz:Nat}{am:List (List D)}{b off len cap:Nat}(hb:S b)(hsz:0<sz)(hlen:am.length=len)(hcap:len<=cap)
  (h:cE S w sz (fun i=>w.cell? ⟨b,i,none⟩) off am):RD S w (.sl sz am) (.slice (some ⟨b,off,none⟩) len cap):=by
 subst hlen;refine .sl (fun i j=>(w.cell? ⟨b,off+i*sz+j,none⟩).getD undef) hb hsz hcap h.1 (fun i r hi j x hj=>?_) (fun i r hi j x hj=>?_)
 .obtain ⟨v,hv,_⟩:=h.2 i r hi j x hj;simp only at hv;rw[hv];rfl
 .obtain ⟨v,hv,hr⟩:=h.2 i r hi j x hj;simp only at hv;rw[hv];exact hr
theorem RD.xo{cells:List D}{b off:Nat}(hb:S b)(h:∀(j:Nat)(x:D),cells[j]?=some x->∃v,w.cell? ⟨b,off+j,none⟩=some v/\RD S w x v):
  RD S w (.pt cells) (.pointer (some ⟨b,off,none⟩)):=by
 refine .pt (fun j=>(w.cell? ⟨b,off+j,none⟩).getD undef) hb (fun j x hj=>?_) (fun j x hj=>?_)
 .obtain ⟨v,hv,_⟩:=h j x hj;rw[hv];rfl
 .obtain ⟨v,hv,hr⟩:=h j x hj;rw[hv];exact hr
def qI(w:World)(l:gr):List kx->Nat->List Nat
 |[],_=>[]
 |.bv _::r,k=>(match(w.cell? ⟨l.cK,l.aP+k,none⟩).bind wt with|some b=>b::qI w l r (k+1)|none=>qI w l r (k+1))
 |_::r,k=>qI w l r (k+1)
def gV(w:World)(φ:Nat->gr)(hf:Nat->Option Ob)(i:Nat):List Nat:=(φ i).cK::(match hf i with|some (.nst _ sl)=>qI w (φ i) sl 0|_=>[])
theorem BN{l:gr}{x:Nat}:∀{sl:List kx}{k0:Nat},x∈qI w l sl k0<->∃k am v,sl[k]?=some (.bv am)/\w.cell? ⟨l.cK,l.aP+(k0+k),none⟩=some v/\wt v=some x:=by
 intro sl;induction sl with
 |nil=>intro k0;simp[qI]
 |cons s sl ih=>
  intro k0;have tl:(∃k am v,sl[k]?=some (.bv am)/\w.cell? ⟨l.cK,l.aP+(k0+1+k),none⟩=some v/\wt v=some x)->∃k am v,(s::sl)[k]?=some (.bv am)/\w.cell? ⟨l.cK,l.aP+(k0+k),none⟩=some v/\wt v=some x:=by rintro⟨k,am,v,h1,h2,h3⟩;exact⟨k+1,am,v,by simpa using h1,by rw[<-h2,show k0+(k+1)=k0+1+k by omega],h3⟩
  have key:(∀am,s≠.bv am)->((∃k am v,(s::sl)[k]?=some (.bv am)/\w.cell? ⟨l.cK,l.aP+(k0+k),none⟩=some v/\wt v=some x)->∃k am v,sl[k]?=some (.bv am)/\w.cell? ⟨l.cK,l.aP+(k0+1+k),none⟩=some v/\wt v=some x):=by rintro hs ⟨k,am,v,h1,h2,h3⟩;cases k with|zero=>exact absurd (by simpa using h1) (hs am)|succ k=>exact⟨k,am,v,by simpa using h1,by rw[<-h2,show k0+(k+1)=k0+1+k by omega],h3⟩
  cases s with
  |nil=>exact ih.trans ⟨tl,key fun _ e=>by cases e⟩
  |dO id len=>exact ih.trans ⟨tl,key fun _ e=>by cases e⟩
  |bv rows0=>
   simp only[qI];constructor
   .intro hx;split at hx
    .rename_i b hb;rcases aK.1 hx with rfl|hx
     .obtain ⟨v,h1,h2⟩:=eX.1 hb;exact⟨0,rows0,v,rfl,h1,h2⟩
     .exact tl (ih.1 hx)
    .exact tl (ih.1 hx)
   .rintro ⟨k,am,v,h1,h2,h3⟩;cases k with
    |zero=>
     have e:(w.cell? ⟨l.cK,l.aP+k0,none⟩).bind wt=some x:=by rw[show l.aP+k0=l.aP+(k0+0)from rfl,h2];exact h3
     rw[e];simp
    |succ k=>
     have hm:=ih.2 ⟨k,am,v,by simpa using h1,by rw[<-h2,show k0+(k+1)=k0+1+k by omega],h3⟩;split
     .exact aB _ hm
     .exact hm
theorem Fm{l:gr}{x:Nat}{sl:List kx}:x∈qI w l sl 0<->∃k,ri w l sl k x:=by rw[BN];simp only[bJ];exact Iff.rfl
theorem DT{l:gr}:∀{sl:List kx}{k0:Nat},(∀k k' x am rows' v v',sl[k]?=some (.bv am)->w.cell? ⟨l.cK,l.aP+(k0+k),none⟩=some v->wt v=some x->sl[k']?=some (.bv rows')->w.cell? ⟨l.cK,l.aP+(k0+k'),none⟩=some v'->wt v'=some x->k=k')->(qI w l sl k0).Nodup:=by
 intro sl;induction sl with
 |nil=>intro k0 _;exact gM
 |cons s sl ih=>
  intro k0 h;have h':(qI w l sl (k0+1)).Nodup:=ih fun k k' x am rows' v v' h1 h2 h3 h4 h5 h6=>by have:=h (k+1) (k'+1) x am rows' v v' (by simpa using h1) (by rw[<-h2,show k0+(k+1)=k0+1+k by omega]) h3 (by simpa using h4) (by rw[<-h5,show k0+(k'+1)=k0+1+k' by omega]) h6;omega
  cases s with
  |nil=>exact h'
  |dO id len=>exact h'
  |bv rows0=>
   simp only[qI];split
   .rename_i b hb;refine eE.2 ⟨fun hm=>?_,h'⟩;obtain⟨v0,h1,h2⟩:=eX.1 hb;obtain⟨k,am,v,h3,h4,h5⟩:=BN.1 hm;have:=h 0 (k+1) b rows0 am v0 v rfl h1 h2 (by simpa using h3) (by rw[<-h4,show k0+(k+1)=k0+1+k by omega]) h5;omega
   .exact h'
theorem dE{i x:Nat}:x∈gV w φ hf i<->x=(φ i).cK\/∃sz sl k,hf i=some (.nst sz sl)/\ri w (φ i) sl k x:=by
 unfold gV;rw[aK];refine or_congr_right ?_;split
 .rename_i sz sl h;rw[Fm];exact⟨fun⟨k,hk⟩=>⟨sz,sl,k,h,hk⟩,fun⟨_,_,k,h1,hk⟩=>by rw[h]at h1;cases h1;exact⟨k,hk⟩⟩
 .rename_i h;exact⟨fun hx=>by simp at hx,fun⟨sz,sl,k,h1,_⟩=>(h sz sl h1).elim⟩
theorem nC(hI:Inv S K w0 Kn φ hf w){i:Nat}{o:Ob}(ho:hf i=some o)(hown:cD o=true){x:Nat}(hx:x∈gV w φ hf i):¬S x/\¬K x/\x<w.heap.size:=by
 rcases dE.1 hx with rfl|⟨sz,sl,k,h1,h2⟩
 .exact (hI.iv i o ho).2.bv hown
 .obtain ⟨a,b,c,_⟩:=hI.Gy h1 h2;exact⟨a,b,c⟩
theorem mW(hI:Inv S K w0 Kn φ hf w){i j:Nat}{a b:Ob}(hi:hf i=some a)(hj:hf j=some b)(ha:cD a=true)(hb:cD b=true)(hne:i≠j){x:Nat}(hx:x∈gV w φ hf i):x∉gV w φ hf j:=by
 intro hy;rcases dE.1 hx with rfl|⟨sz,sl,k,h1,h2⟩<;>rcases dE.1 hy with e|⟨sz',sl',k',h3,h4⟩
 .exact hI.jo i j a b hi hj ha hb hne e
 .exact (hI.vV j sz' sl' k' _ h3 h4).1 i a hi ha rfl
 .subst e;exact(hI.vV i sz sl k _ h1 h2).1 j b hj hb rfl
 .exact hne (((hI.vV i sz sl k x h1 h2).2 j sz' sl' k' h3 h4).1).symm
theorem E1(hI:Inv S K w0 Kn φ hf w){i:Nat}{o:Ob}(ho:hf i=some o)(hown:cD o=true):(gV w φ hf i).Nodup:=by
 unfold gV;refine eE.2 ⟨fun hm=>?_,?_⟩
 .split at hm
  .rename_i sz sl h;obtain⟨k,hk⟩:=Fm.1 hm;exact(hI.vV i sz sl k _ h hk).1 i o ho hown rfl
  .simp at hm
 .split
  .rename_i sz sl h;refine DT fun k k' x am rows' v v' h1 h2 h3 h4 h5 h6=>?_;rw[bJ]at h2 h5;exact(((hI.vV i sz sl k x h ⟨am,v,h1,h2,h3⟩).2 i sz sl k' h ⟨rows',v',h4,h5,h6⟩).2).symm
  .exact gM
theorem kp(i:Nat):(φ i).cK∈gV w φ hf i:=dE.2 (.inl rfl)
def SB(S:Nat->Prop)(w:World)(φ:Nat->gr)(hf:Nat->Option Ob)(aw:List Nat)(b:Nat):Prop:=S b\/∃i∈aw,b∈gV w φ hf i
theorem SB.Bb(a b:List Nat)(h:∀i∈a,i∈b):gF (SB S w φ hf a) w (SB S w φ hf b) w:=⟨fun _ hb=>hb.imp id fun⟨i,hi,e⟩=>⟨i,h i hi,e⟩,fun _ _=>rfl⟩
theorem SB.tn(b:List Nat):gF S w (SB S w φ hf b) w:=⟨fun _ hb=>.inl hb,fun _ _=>rfl⟩
theorem FX.rd{sz b:Nat}{am:List (List D)}{v:Value}(h:FX S w sz am v b){T:Nat->Prop}(hT:gF S w T w)(hb:T b):RD T w (.sl sz am) v:=by obtain⟨addr,cap,aM,rfl,h2,h3,h4,_,h6⟩:=h;exact .zk hb h2 rfl h4 ⟨h6.1,fun i r hi j x hj=>let⟨v,hv,hr⟩:=h6.2 i r hi j x hj;⟨v,(h3.cell _).trans hv,hr.mono hT⟩⟩
theorem Cc{l:gr}{szi:Nat}{slots:List kx}(h:RO S K w Kn φ l (.nst szi slots)){am:List (List D)}(hd:pJ szi slots=some am){T:Nat->Prop}(hT:gF S w T w)(hp:∀k x,ri w l slots k x->T x):
  am.length=slots.length/\cE T w 1 (fun i=>w.cell? ⟨l.cK,i,none⟩) l.aP am:=by
 have key:∀(slots:List kx)(am:List (List D)),pJ szi slots=some am->am.length=slots.length/\∀(i:Nat)(r:List D),am[i]?=some r->∃s x,slots[i]?=some s/\Ie szi s=some x/\r=[x]:=by
  intro slots;induction slots with
  |nil=>intro am h;obtain rfl:=aa h;exact⟨rfl,fun i r hi=>by simp at hi⟩
  |cons s slots ih=>
   intro am h;simp only[pJ]at h;split at h
   .rename_i x l hx hl;obtain rfl:=aa h;obtain⟨h1,h2⟩:=ih l hl;refine⟨by simp[h1],fun i r hi=>?_⟩;cases i with|zero=>exact⟨s,x,rfl,hx,(by simpa using hi:[x]=r).symm⟩|succ i=>obtain⟨s',x',e1,e2,e3⟩:=h2 i r (by simpa using hi);exact⟨s',x',by simpa using e1,e2,e3⟩
   .simp at h
 obtain⟨k1,k2⟩:=key slots am hd;cases h with
 |nst hsz hl hS hK ho hext hfit hr hv=>
  refine⟨k1,fun i r hi=>by obtain⟨_,_,_,_,rfl⟩:=k2 i r hi;rfl,fun i r hi j x hj=>?_⟩;obtain⟨s,y,e1,e2,rfl⟩:=k2 i r hi;cases j with
  |succ j=>simp at hj
  |zero=>
   obtain rfl:y=x:=by simpa using hj
   obtain⟨v,h1,h2⟩:=hr i s e1;refine⟨v,by rw[lR,dw];exact(ho.cell _).trans h1,?_⟩;cases h2 with|nil=>obtain rfl:=aa e2;exact .lit rfl|@bv rows' _ b h3 _ _=>obtain rfl:=aa e2;exact h3.rd hT (hp i b ⟨rows',v,e1,(ho.cell _).trans h1,h3.cK⟩)|dO _=>simp[Ie]at e2
theorem mJ{id sz:Nat}{am:List (List D)}(hI:Inv S K w0 Kn φ hf w)(ho:hf id=some (.aM sz am)\/hf id=some (.oV sz am)):
  0<sz/\(φ id).sz=sz/\cE S w sz (fun i=>w.cell? ⟨(φ id).cK,i,none⟩) (φ id).aP am:=by
 rcases ho with ho|ho
 .obtain ⟨_,h0⟩:=hI.iv _ _ ho;cases h0 with|aM hsz hl hS hK hown hext hfit hrr=>exact⟨hsz,hl,hrr.1,fun i r hi j x hj=>let⟨v,hv,hr⟩:=hrr.2 i r hi j x hj;⟨v,(hown.cell _).trans hv,hr⟩⟩
 .obtain ⟨_,h0⟩:=hI.iv _ _ ho;cases h0 with|oV hsz hl hS hrr=>exact⟨hsz,hl,hrr⟩
theorem cE.sub{sz aP:Nat}{get:Nat->Option Value}{am:List (List D)}(h:cE S w sz get aP am)(off len:Nat):
  cE S w sz get (aP+off*sz) ((am.drop off).take len):=by
 have key:∀i(r:List D),((am.drop off).take len)[i]?=some r->am[off+i]?=some r:=by
  intro i r hi;rw[ew]at hi;split at hi
  .rwa [bL]at hi
  .simp at hi
 refine⟨fun i r hi=>h.1 _ _ (key i r hi),fun i r hi j x hj=>?_⟩;obtain⟨v,hv,hr⟩:=h.2 _ _ (key i r hi) j x hj;refine⟨v,?_,hr⟩;rw[<-hv];congr 1;rw[Nat.add_mul];omega
theorem cE.wh{sz aP addr:Nat}{get:Nat->Option Value}{am:List (List D)}(h:cE S w sz get aP am)(off len:Nat)(ha:0<len->addr=aP+off*sz):
  cE S w sz get addr ((am.drop off).take len):=by
 cases len with|zero=>exact⟨fun i r hi=>by simp at hi,fun i r hi=>by simp at hi⟩|succ n=>rw[ha (Nat.succ_pos _)];exact h.sub off _
theorem Bj{sz id off len:Nat}{am:List (List D)}{v:Value}{szo:Nat}(hI:Inv S K w0 Kn φ hf w)(hc:RC S w Kn φ (.eZ sz id off len) v)
  (ho:hf id=some (.aM szo am)\/hf id=some (.oV szo am)) (hle:off+len<=am.length) {T:Nat->Prop} (hT:gF S w T w) (hb:T (φ id).cK):
  RD T w (.sl sz ((am.drop off).take len)) v:=by
 obtain⟨hsz,hl,hr⟩:=mJ hI ho;subst hl;cases hc with|eZ hk hcap haddr hext=>exact .zk hb hsz (by simp;omega) hcap ((hr.wh off len fun h=>haddr (by omega)).mono hT)
theorem KR{id cY off sz:Nat}{am:List (List D)}{r:List D}{v:Value}(hI:Inv S K w0 Kn φ hf w)(hc:RC S w Kn φ (.ep id cY off) v)
  (ho:hf id=some (.aM sz am)\/hf id=some (.oV sz am)) (hr:am[cY]?=some r) {T:Nat->Prop} (hT:gF S w T w) (hb:T (φ id).cK):
  RD T w (.pt (r.drop off)) v:=by
 obtain⟨hsz,hl,hrr⟩:=mJ hI ho;cases hc with|ep hk=>refine .xo hb fun j x hj=>?_;rw[bL]at hj;obtain⟨u,hu,hd⟩:=hrr.2 cY r hr (off+j) x hj;refine⟨u,?_,hd.mono hT⟩;rw[<-hu,hl];simp only[cR]
theorem ze{H:bE}(hI:Inv S K w0 Kn φ (az H) w)(n:Nat)(c:C)(x:D)(aw:List Nat)(v:Value)(hleaf:match c with|.op _ _|.nW _ _=>False|_=>True)
  (h:dH H n c=some (x,aw)) (hc:RC S w Kn φ c v):RD (SB S w φ (az H) aw) w x v:=by
 cases c with
 |d y=>simp only[dH,bq,Prod.mk.injEq]at h;obtain⟨rfl,rfl⟩:=h;cases hc with|d hd=>exact hd.mono (SB.tn _)
 |eZ sz id off len=>
  simp only[dH]at h
  have key:∀szo am,(az H id=some (.aM szo am)\/az H id=some (.oV szo am))->(if off+len<=am.length then some (D.sl sz ((am.drop off).take len),[id])else none)=some (x,aw)->RD (SB S w φ (az H) aw) w x v:=by
   intro szo am ho h;split at h
   .rename_i hle;obtain⟨rfl,rfl⟩:=ad (aa h);exact Bj hI hc ho hle (SB.tn _) (.inr ⟨_,by simp,kp _⟩)
   .simp at h
  split at h
  .exact key _ _ (.inl (by assumption)) h
  .exact key _ _ (.inr (by assumption)) h
  .rename_i szi slots ho;split at h
   .rename_i he;obtain⟨rfl,rfl⟩:=he;split at h
    .rename_i am hd;obtain⟨rfl,rfl⟩:=ad (aa h);obtain⟨_,hro⟩:=hI.iv _ _ ho;obtain⟨h1,h2⟩:=Cc hro hd (SB.tn (hf:=az H) (φ:=φ) [id]) fun k x hp=>.inr ⟨id,by simp,dE.2 (.inr ⟨szi,slots,k,ho,hp⟩)⟩;cases hro with
     |nst hsz hl=>
      cases hc with
      |eZ hk hcap haddr hext=>rw[hl];refine .zk (.inr ⟨id,by simp,kp id⟩) Nat.one_pos h1 hcap ?_;cases hs:slots with|nil=>have:am=[]:=List.length_eq_zero_iff.1 (by rw[h1,hs];rfl);rw[this];exact⟨fun i r hi=>by simp at hi,fun i r hi=>by simp at hi⟩|cons s r=>rw[hs]at hcap;have:=haddr (by simp at hcap;omega);rw[this,hl,iZ,dw];exact h2
    .simp at h
   .simp at h
  .simp at h
 |ep id cY off=>
  simp only[dH]at h
  have key:∀szo am,(az H id=some (.aM szo am)\/az H id=some (.oV szo am))->
    (match am[cY]?with|some r=>if off<=r.length then some (D.pt (r.drop off),[id])else none|none=>none)=some (x,aw)->RD (SB S w φ (az H) aw) w x v:=by
   intro szo am ho h;split at h
   .rename_i r hr;split at h
    .obtain ⟨rfl,rfl⟩:=ad (aa h);exact KR hI hc ho hr (SB.tn _) (.inr ⟨_,by simp,kp _⟩)
    .simp at h
   .simp at h
  split at h
  .exact key _ _ (.inl (by assumption)) h
  .exact key _ _ (.inr (by assumption)) h
  .simp at h
 |op id off=>exact hleaf.elim
 |nW f caps=>exact hleaf.elim
 |om id=>cases n<;>simp[dH]at h
theorem tf{H:bE}(hI:Inv S K w0 Kn φ (az H) w):∀n,
  (∀c x aw v,dH H n c=some (x,aw)->RC S w Kn φ c v->RD (SB S w φ (az H) aw) w x v)/\
  (∀cs xs aw,fI H n cs=some (xs,aw)->∀(get:Nat->Option Value),(∀(i:Nat)(c:C),cs[i]?=some c->∃v,get i=some v/\RC S w Kn φ c v)->
   xs.length=cs.length/\∀(i:Nat)(x:D),xs[i]?=some x->∃v,get i=some v/\RD (SB S w φ (az H) aw) w x v):=by
 intro n;induction n with
 |zero=>
  refine⟨fun c x aw v h hc=>?_,fun cs xs aw h get hg=>?_⟩
  .cases c with|op id off=>simp[dH]at h|nW f caps=>simp[dH]at h|_=>exact ze hI 0 _ x aw v trivial h hc
  .cases cs with
   |nil=>
    obtain⟨rfl,rfl⟩:[]=xs/\[]=aw:=by simpa[fI]using h
    exact⟨rfl,fun i x hi=>by simp at hi⟩
   |cons c cs=>simp[fI]at h
 |succ n ih=>
  obtain⟨ihc,ihl⟩:=ih;refine⟨fun c x aw v h hc=>?_,fun cs xs aw h get hg=>?_⟩
  .cases c with
   |op id off=>
    simp only[dH]at h;split at h
    .rename_i cells ho;split at h
     .obtain ⟨rfl,rfl⟩:=ad (aa h);obtain⟨_,h0⟩:=hI.iv _ _ ho;cases h0 with
      |ny hb hS hr=>cases hc with|op hk=>refine .xo (.inl hS) fun j x hj=>?_;rw[bL]at hj;obtain⟨u,hu,hd⟩:=hr _ _ hj;exact⟨u,by rw[<-hu,hb,bJ],hd.mono (SB.tn _)⟩
     .simp at h
    .rename_i cells ho;split at h
     .rename_i ds ids' hv;split at h
      .obtain ⟨rfl,rfl⟩:=ad (aa h);obtain⟨_,h0⟩:=hI.iv _ _ ho;cases h0 with
       |@box _ aM hb hS hK hown hlen hr=>cases hc with|op hk=>obtain⟨h1,h2⟩:=ihl cells ds ids' hv (fun i=>w.cell? ⟨(φ id).cK,i,none⟩) (fun i c hi=>by have hlt:=(ak.1 hi).1;rw[hlen]at hlt;exact⟨aM.getD i undef,by rw[hown.cell];simp[jW,hlt],hr i c hi⟩);refine .xo (.inr ⟨id,by simp,kp _⟩) fun j x hj=>?_;rw[bL]at hj;obtain⟨u,hu,hd⟩:=h2 _ _ hj;exact⟨u,by rw[<-hu,hb,bJ],hd.mono (SB.Bb _ _ fun i hi=>by simp[hi])⟩
      .simp at h
     .simp at h
    .simp at h
   |nW f caps=>
    simp only[dH]at h;split at h
    .rename_i ds ids' hv;obtain⟨rfl,rfl⟩:=ad (aa h);cases hc with
     |@nW _ _ vs hlen hr=>
      obtain⟨h1,h2⟩:=ihl caps ds ids' hv (fun i=>vs[i]?) (fun i c hi=>by have hlt:=(ak.1 hi).1;rw[hlen]at hlt;exact⟨vs.getD i undef,by simp[jW,hlt],hr i c hi⟩);refine .fn (h1.trans hlen) fun j x hj=>?_;obtain⟨u,hu,hd⟩:=h2 j x hj;have hu':vs[j]?=some u:=hu;have:vs.getD j undef=u:=by simp[hu']
      rw[this];exact hd
    .simp at h
   |_=>exact ze hI (n+1) _ x aw v trivial h hc
  .cases cs with
   |nil=>
    obtain⟨rfl,rfl⟩:[]=xs/\[]=aw:=by simpa[fI]using h
    exact⟨rfl,fun i x hi=>by simp at hi⟩
   |cons c cs=>
    simp only[fI]at h;split at h
    .rename_i x0 a xs0 b hx hxs;obtain⟨rfl,rfl⟩:=ad (aa h);obtain⟨v0,hv0,hc0⟩:=hg 0 c rfl;have h0:=ihc c x0 a v0 hx hc0;obtain⟨h1,h2⟩:=ihl cs xs0 b hxs (fun i=>get (i+1)) (fun i c hi=>hg (i+1) c (by simpa using hi));refine⟨by simp[h1],fun i x hi=>?_⟩;cases i with
     |zero=>
      obtain rfl:x0=x:=by simpa using hi
      exact⟨v0,hv0,h0.mono (SB.Bb _ _ fun i hi=>by simp[hi])⟩
     |succ i=>obtain⟨u,hu,hd⟩:=h2 i x (by simpa using hi);exact⟨u,hu,hd.mono (SB.Bb _ _ fun i hi=>by simp[hi])⟩
    .simp at h
theorem qv{H:bE}(hI:Inv S K w0 Kn φ (az H) w):∀cs xs aw,dC H cs=some (xs,aw)->∀(get:Nat->Option Value),(∀(i:Nat)(c:C),cs[i]?=some c->∃v,get i=some v/\RC S w Kn φ c v)->
   xs.length=cs.length/\∀(i:Nat)(x:D),xs[i]?=some x->∃v,get i=some v/\RD (SB S w φ (az H) aw) w x v:=by
 intro cs;induction cs with
 |nil=>
  intro xs aw h get hg;obtain⟨rfl,rfl⟩:[]=xs/\[]=aw:=by simpa[dC]using h
  exact⟨rfl,fun i x hi=>by simp at hi⟩
 |cons c cs ih=>
  intro xs aw h get hg;simp only[dC]at h;split at h
  .rename_i x0 a xs0 b hx hxs;obtain⟨rfl,rfl⟩:=ad (aa h);obtain⟨v0,hv0,hc0⟩:=hg 0 c rfl;have h0:=(tf hI 300).1 c x0 a v0 hx hc0;obtain⟨h1,h2⟩:=ih xs0 b hxs (fun i=>get (i+1)) (fun i c hi=>hg (i+1) c (by simpa using hi));refine⟨by simp[h1],fun i x hi=>?_⟩;cases i with
   |zero=>
    obtain rfl:x0=x:=by simpa using hi
    exact⟨v0,hv0,h0.mono (SB.Bb _ _ fun i hi=>by simp[hi])⟩
   |succ i=>obtain⟨u,hu,hd⟩:=h2 i x (by simpa using hi);exact⟨u,hu,hd.mono (SB.Bb _ _ fun i hi=>by simp[hi])⟩
  .simp at h
theorem kL{H:bE}{all:List Nat}:∀(l:List Nat)(u:fm),dK H all l=some u->
  ∀id,(id∈l->∃o,jH H all id=some o/\cg u id=some (some o))/\(id∉l->cg u id=none):=by
 intro l;induction l with
 |nil=>
  intro u h id;obtain rfl:[]=u:=by simpa[dK]using h
  exact⟨fun h=>by simp at h,fun _=>rfl⟩
 |cons a l ih=>
  intro u h id;simp only[dK]at h;split at h
  .rename_i o u' ho hu;obtain rfl:=aa h;by_cases e:a=id
   .subst e;exact⟨fun _=>⟨o,ho,by simp[cg]⟩,fun hn=>absurd (List.mem_cons_self ..) hn⟩
   .obtain ⟨h1,h2⟩:=ih u' hu id;have e':(a==id)=false:=by simpa using e
    refine⟨fun hm=>?_,fun hn=>?_⟩
    .obtain ⟨o',ho',hf'⟩:=h1 ((aK.1 hm).resolve_left (fun e2=>e e2.symm));exact⟨o',ho',by simp[cg,e',hf']⟩
    .simp only[cg,e',cond_false];exact h2 (fun hm=>hn (aB _ hm))
  .simp at h
theorem zK{H:bE}{all:List Nat}{id:Nat}{o:Ob}(hI:Inv S K w0 Kn φ (az H) w)(hmem:id∈all)(h:jH H all id=some o):
  cD o=false/\(∃o0,az H id=some o0)/\RO (SB S w φ (az H) all) K w Kn φ (φ id) o:=by
 unfold jH at h;have hb:SB S w φ (az H) all (φ id).cK:=.inr ⟨id,hmem,kp _⟩;split at h
 .rename_i sz am ho;obtain rfl:=aa h;obtain⟨hsz,hl,hr⟩:=mJ hI (.inl ho);exact⟨rfl,⟨_,ho⟩,.oV hsz hl hb (hr.mono (SB.tn _))⟩
 .rename_i sz am ho;obtain rfl:=aa h;obtain⟨hsz,hl,hr⟩:=mJ hI (.inr ho);exact⟨rfl,⟨_,ho⟩,.oV hsz hl hb (hr.mono (SB.tn _))⟩
 .rename_i cells ho;obtain rfl:=aa h;obtain⟨_,h0⟩:=hI.iv _ _ ho;cases h0 with|ny hbase hS hr=>exact⟨rfl,⟨_,ho⟩,.ny hbase hb fun i x hi=>let⟨v,hv,hd⟩:=hr i x hi;⟨v,hv,hd.mono (SB.tn _)⟩⟩
 .rename_i cells ho;split at h
  .rename_i ds aw hv;split at h
   .rename_i hall;obtain rfl:=aa h;obtain⟨_,h0⟩:=hI.iv _ _ ho;cases h0 with|@box _ aM hbase hS hK hown hlen hr=>obtain⟨h1,h2⟩:=(tf hI 300).2 cells ds aw hv (fun i=>w.cell? ⟨(φ id).cK,i,none⟩) (fun i c hi=>by have hlt:=(ak.1 hi).1;rw[hlen]at hlt;exact⟨aM.getD i undef,by rw[hown.cell];simp[jW,hlt],hr i c hi⟩);refine⟨rfl,⟨_,ho⟩,.ny hbase hb fun i x hi=>?_⟩;obtain⟨u,hu,hd⟩:=h2 i x hi;exact⟨u,hu,hd.mono (SB.Bb _ _ fun i hi=>by simpa using bd.1 hall i hi)⟩
   .simp at h
  .simp at h
 .simp at h
 .simp at h
 .rename_i szi slots ho;split at h
  .rename_i am hd;obtain rfl:=aa h;obtain⟨_,hro⟩:=hI.iv _ _ ho;obtain⟨_,h2⟩:=Cc hro hd (SB.tn (hf:=az H) (φ:=φ) all) fun k x hp=>.inr ⟨id,hmem,dE.2 (.inr ⟨szi,slots,k,ho,hp⟩)⟩;cases hro with|nst hsz hl=>exact⟨rfl,⟨_,ho⟩,.oV Nat.one_pos hl hb h2⟩
  .simp at h
 .simp at h
theorem Inv.EB{H:bE}{aw:List Nat}{u:fm}(hI:Inv S K w0 Kn φ (az H) w)(h:dK H aw aw=some u):
  Inv (SB S w φ (az H) aw) K w0 Kn φ (bm u (az H)) w:=by
 have hfr:∀id∈aw,∃o,cg u id=some (some o)/\cD o=false/\(∃o0,az H id=some o0)/\RO (SB S w φ (az H) aw) K w Kn φ (φ id) o:=by
  intro id hid;obtain⟨o,ho,hfn⟩:=((kL aw u h id).1 hid)
  exact⟨o,hfn,zK hI hid ho⟩
 have hold:∀id o,bm u (az H) id=some o->cD o=true->id∉aw/\az H id=some o:=by
  intro id o ho hown;by_cases hm:id∈aw
  .obtain ⟨o',hfn,hno,_⟩:=hfr id hm;simp only[bm,hfn]at ho;obtain rfl:=aa ho;rw[hno]at hown;simp at hown
  .refine ⟨hm,?_⟩;simpa only[bm,(kL aw u h id).2 hm]using ho
 have hnb:∀id o,az H id=some o->cD o=true->id∉aw->∀x∈gV w φ (az H) id,¬SB S w φ (az H) aw x:=by
  intro id o ho hown hm x hx hb;have hx1:=(nC hI ho hown hx).1;rcases hb with hb|⟨i,hi,e⟩
  .exact hx1 hb
  .obtain ⟨_,_,_,⟨o0,ho0⟩,_⟩:=hfr i hi;by_cases hoi:cD o0=true
   .exact mW hI ho ho0 hown hoi (fun e'=>hm (e'▸hi)) hx e
   .obtain ⟨_,h1⟩:=hI.iv i o0 ho0;rcases dE.1 e with rfl|⟨sz,sl,k,h2,_⟩
    .exact hx1 (by
      cases h1 with
      |oV hsz hl hS _=>exact hS
      |ny hb hS _=>exact hS
      |_=>simp[cD]at hoi)
    .rw [ho0]at h2;obtain rfl:=aa h2;simp[cD]at hoi
 refine hI.jK (SB.tn _) (sH.refl _ _) ?_ ?_ hI.mz ?_ ?_ ?_
 .intro b hb;rcases hb with hb|⟨i,hi,hb⟩
  .exact hI.t6 b hb
  .obtain ⟨_,_,_,⟨o0,ho0⟩,_⟩:=hfr i hi;by_cases hoi:cD o0=true
   .exact (nC hI ho0 hoi hb).2.2
   .obtain ⟨_,h1⟩:=hI.iv i o0 ho0;rcases dE.1 hb with rfl|⟨sz,sl,k,h2,h3⟩
    .cases h1 with|oV hsz hl hS=>exact hI.t6 _ hS|ny hb hS=>exact hI.t6 _ hS|_=>simp[cD]at hoi
    .exact (hI.Gy h2 h3).2.2.1
 .intro b hb;rcases hb with hb|⟨i,hi,hb⟩
  .exact hI.sk b hb
  .obtain ⟨_,_,_,⟨o0,ho0⟩,_⟩:=hfr i hi;by_cases hoi:cD o0=true
   .exact (nC hI ho0 hoi hb).2.1
   .obtain ⟨_,h1⟩:=hI.iv i o0 ho0;rcases dE.1 hb with rfl|⟨sz,sl,k,h2,h3⟩
    .cases h1 with|oV hsz hl hS=>exact hI.sk _ hS|ny hb hS=>exact hI.sk _ hS|_=>simp[cD]at hoi
    .exact (hI.Gy h2 h3).2.1
 .intro id o ho;by_cases hm:id∈aw
  .obtain ⟨o',hfn,hno,⟨o0,ho0⟩,hro⟩:=hfr id hm;simp only[bm,hfn]at ho;obtain rfl:=aa ho;exact .inr ⟨(hI.iv id o0 ho0).1,hro⟩
  .have ho':az H id=some o:=by simpa only[bm,(kL aw u h id).2 hm]using ho
   exact .inl ⟨ho',fun hown=>⟨rfl,hnb id o ho' hown hm _ (kp _)⟩⟩
 .intro i j a b ha hb hoa hob hne;exact hI.jo i j a b (hold i a ha hoa).2 (hold j b hb hob).2 hoa hob hne
 .intro id sz sl hi;obtain⟨h1,h2⟩:=hold id _ hi rfl;refine⟨h2,rfl,fun k x hp=>⟨rfl,hnb id _ h2 rfl h1 x (dE.2 (.inr ⟨sz,sl,k,h2,hp⟩)),fun j b hj hb=>?_⟩⟩;exact(hI.vV id sz sl k x h2 hp).1 j b (hold j b hj hb).2 hb
end
def A_(S:Nat->Prop)(w:World)(sz:Nat):Option (List (List D))->Value->List Nat->Prop
 |none,v,fp=>v=.slice none 0 0/\fp=[]
 |some am,v,fp=>∃b,fp=[b]/\FX S w sz am v b
inductive RT(S:Nat->Prop)(w:World):T->Value->List Nat->Prop
 |d {x:D} {v:Value} (h:RD S w x v):RT S w (.d x) v []
 |sl {sz:Nat} {am:List (List D)} {b off len cap:Nat} {aM:Array Value} (hsz:0<sz) (ho:nR w b aM) (hlen:am.length=len) (hcap:len<=cap)
   (hext:off+cap*sz<=aM.size) (hr:cE S w sz (fun i=>aM[i]?) off am):RT S w (.sl sz am) (.slice (some ⟨b,off,none⟩) len cap) [b]
 |pt {ts:List T} {b:Nat} {aM:Array Value} {fps:List (List Nat)} (ho:nR w b aM) (hlen:ts.length=aM.size) (hfl:fps.length=ts.length)
   (h:∀(i:Nat)(t:T)(fp:List Nat),ts[i]?=some t->fps[i]?=some fp->RT S w t (aM.getD i undef) fp):
   RT S w (.pt ts) (.pointer (some ⟨b,0,none⟩)) (b::fps.flatten)
 |yz {sz:Nat} {am:List (Option (List (List D)))} {b off cap:Nat} {aM:Array Value} {fps:List (List Nat)} (hsz:0<sz) (ho:nR w b aM) (hcap:am.length<=cap) (hext:off+cap<=aM.size) (hfl:fps.length=am.length)
   (h:∀(i:Nat)(r:Option (List (List D)))(fp:List Nat),am[i]?=some r->fps[i]?=some fp->∃v,aM[off+i]?=some v/\A_ S w sz r v fp):
   RT S w (.yz sz am) (.slice (some ⟨b,off,none⟩) am.length cap) (b::fps.flatten)
theorem A_.mono{S S':Nat->Prop}{w w':World}(hs:gF S w S' w'){sz:Nat}{r:Option (List (List D))}{v:Value}{fp:List Nat}(h:A_ S w sz r v fp)(hb:∀b∈fp,w'.heap[b]?=w.heap[b]?):A_ S' w' sz r v fp:=by cases r with|none=>exact h|some am=>obtain⟨b,rfl,h⟩:=h;exact⟨b,rfl,h.mono hs (hb b (by simp))⟩
theorem A_.lt{S:Nat->Prop}{w:World}{sz:Nat}{r:Option (List (List D))}{v:Value}{fp:List Nat}(h:A_ S w sz r v fp):∀b∈fp,b<w.heap.size:=by cases r with|none=>obtain⟨_,rfl⟩:=h;intro b hb;simp at hb|some am=>obtain⟨b,rfl,h⟩:=h;intro b' hb;obtain rfl:=aq.1 hb;obtain⟨aM,h⟩:=h.bv;exact h.lt
theorem RT.mono{S S':Nat->Prop}{w w':World}(hs:gF S w S' w'){t:T}{v:Value}{fp:List Nat}(h:RT S w t v fp)(hb:∀b∈fp,w'.heap[b]?=w.heap[b]?):RT S' w' t v fp:=by induction h with|d h=>exact .d (h.mono hs)|sl hsz ho hlen hcap hext hr=>exact .sl hsz (ho.l6 (hb _ (by simp))) hlen hcap hext (hr.mono hs)|pt ho hlen hfl h ih=>refine .pt (ho.l6 (hb _ (by simp))) hlen hfl fun i t fp hi hf=>ih i t fp hi hf fun b hbm=>hb b ?_;exact aB _ (dq.2 ⟨fp,aW hf,hbm⟩)|yz hsz ho hcap hext hfl h=>refine .yz hsz (ho.l6 (hb _ (by simp))) hcap hext hfl fun i r fp hi hf=>?_;obtain⟨v,h1,h2⟩:=h i r fp hi hf;exact⟨v,h1,h2.mono hs fun b hbm=>hb b (aB _ (dq.2 ⟨fp,aW hf,hbm⟩))⟩
theorem RT.lt{S:Nat->Prop}{w:World}{t:T}{v:Value}{fp:List Nat}(h:RT S w t v fp):∀b∈fp,b<w.heap.size:=by
 induction h with
 |d h=>intro b hb;simp at hb
 |sl hsz ho=>intro b hb;obtain rfl:=aq.1 hb;exact ho.lt
 |pt ho hlen hfl h ih=>
  intro b hb;rcases aK.1 hb with rfl|hb
  .exact ho.lt
  .obtain ⟨fp,hfp,hbf⟩:=dq.1 hb;obtain⟨i,hi,rfl⟩:=bV hfp;exact ih i _ _ (aD (by omega:i<_)) (aD hi) b hbf
 |yz hsz ho hcap hext hfl h=>
  intro b hb;rcases aK.1 hb with rfl|hb
  .exact ho.lt
  .obtain ⟨fp,hfp,hbf⟩:=dq.1 hb;obtain⟨i,hi,rfl⟩:=bV hfp;obtain⟨v,_,h2⟩:=h i _ _ (aD (by omega:i<_)) (aD hi);exact h2.lt b hbf
section
variable{S K:Nat->Prop}{w0 w:World}{Kn:Nat->Prop}{φ:Nat->gr}{hf:Nat->Option Ob}
theorem o6{id:Nat}(h:∀sz sl,hf id≠some (.nst sz sl)):gV w φ hf id=[(φ id).cK]:=by
 unfold gV;split
 .rename_i sz sl e;exact absurd e (h sz sl)
 .rfl
theorem Gd{l:gr}{sz:Nat}{get:Nat->Option Value}(hget:∀i,w.cell? ⟨l.cK,i,none⟩=get i):∀(slots:List kx)(k0:Nat)(am:List (Option (List (List D)))),(∀(i:Nat)(s:kx),slots[i]?=some s->∃v,get (l.aP+(k0+i))=some v/\yu S K w Kn φ sz s v)->tw slots=some am->
  am.length=slots.length/\∃fps:List (List Nat),fps.length=am.length/\fps.flatten=qI w l slots k0/\∀(i:Nat)(r:Option (List (List D)))(fp:List Nat),am[i]?=some r->fps[i]?=some fp->∃v,get (l.aP+(k0+i))=some v/\A_ S w sz r v fp:=by
 intro slots;induction slots with
 |nil=>intro k0 am _ h;obtain rfl:=aa h;exact⟨rfl,[],rfl,rfl,fun i r fp hi=>by simp at hi⟩
 |cons s slots ih=>
  intro k0 am hr h;simp only[tw]at h;split at h
  .rename_i x rs hx hrs;obtain rfl:=aa h;obtain⟨h1,fps,h2,h3,h4⟩:=ih (k0+1) rs (fun i s hi=>by obtain⟨v,e1,e2⟩:=hr (i+1) s (by simpa using hi);exact⟨v,by rw[<-e1,show k0+(i+1)=k0+1+i by omega],e2⟩) hrs;obtain⟨v,e1,e2⟩:=hr 0 s rfl
   have fin:∀fp0,A_ S w sz x v fp0->fp0++qI w l slots (k0+1)=qI w l (s::slots) k0->(x::rs).length=(s::slots).length/\∃fps:List (List Nat),fps.length=(x::rs).length/\fps.flatten=qI w l (s::slots) k0/\∀(i:Nat)(r:Option (List (List D)))(fp:List Nat),(x::rs)[i]?=some r->fps[i]?=some fp->∃v,get (l.aP+(k0+i))=some v/\A_ S w sz r v fp:=by
    intro fp0 h5 h6;refine⟨by simp[h1],fp0::fps,by simp[h2],by rw[dR,h3,h6],fun i r fp hi hf=>?_⟩;cases i with
    |zero=>
     obtain rfl:x=r:=by simpa using hi
     obtain rfl:fp0=fp:=by simpa using hf
     exact⟨v,e1,h5⟩
    |succ i=>obtain⟨v',q1,q2⟩:=h4 i r fp (by simpa using hi) (by simpa using hf);exact⟨v',by rw[<-q1,show k0+(i+1)=k0+1+i by omega],q2⟩
   cases e2 with|nil=>obtain rfl:=aa hx;exact fin [] ⟨rfl,rfl⟩ rfl|@bv rows0 _ b q1 _ _=>obtain rfl:=aa hx;refine fin [b] ⟨b,rfl,q1⟩ ?_;simp only[qI];rw[show l.aP+k0=l.aP+(k0+0)from rfl,hget,e1];simp only[Option.bind_some,q1.cK,List.singleton_append]|dO _=>simp[Mx]at hx
  .simp at h
theorem BV{H:bE}{sz id off len:Nat}{t:T}{bv rd:List Nat}{v:Value}(hI:Inv S K w0 Kn φ (az H) w)(hc:RC S w Kn φ (.eZ sz id off len) v)
  (h:(match az H id with
  |some (.aM _ am)=>if off+len<=am.length then some (T.sl sz ((am.drop off).take len),[id],[id])else none
  |some (.oV _ am)=>if off+len<=am.length then some (.d (.sl sz ((am.drop off).take len)),[],[id])else none
  |some (.nst szi slots)=>if off=0/\len=slots.length then(match tw slots with|some am=>some (.yz szi am,[id],[id])|none=>none)else none
  |_=>none)=some (t,bv,rd)):
  RT S w t v (bv.flatMap (gV w φ (az H)))/\∀i∈bv,∃o,az H i=some o/\cD o=true:=by
 split at h
 .rename_i szo am ho;split at h
  .rename_i hle;obtain⟨rfl,rfl,rfl⟩:T.sl sz ((am.drop off).take len)=t/\[id]=bv/\[id]=rd:=by simpa using h
   obtain⟨hk,h0⟩:=hI.iv _ _ ho;cases h0 with
   |aM hsz hl hS hK hown hext hfit hr=>
    subst hl;cases hc with
    |eZ hk hcap haddr hx=>
     rw[bl,List.flatMap_nil,bO,o6 fun _ _ e=>by rw[ho]at e;cases e];refine⟨.sl hsz hown (by simp;omega) hcap (by omega) (hr.wh off len fun h=>haddr (by omega)),fun i hi=>?_⟩
     .obtain rfl:=aq.1 hi;exact⟨_,ho,rfl⟩
  .simp at h
 .rename_i szo am ho;split at h
  .rename_i hle;obtain⟨rfl,rfl,rfl⟩:T.d (.sl sz ((am.drop off).take len))=t/\[]=bv/\[id]=rd:=by simpa using h
   obtain⟨hk,h0⟩:=hI.iv _ _ ho;have hS:S (φ id).cK:=by cases h0 with|oV hsz hl hS _=>exact hS
   exact⟨.d (Bj hI hc (.inr ho) hle (gF.refl _ _) hS),fun i hi=>by simp at hi⟩
  .simp at h
 .rename_i szi slots ho;split at h
  .rename_i he;obtain⟨rfl,rfl⟩:=he;split at h
   .rename_i am hrows;obtain⟨rfl,rfl,rfl⟩:T.yz szi am=t/\[id]=bv/\[id]=rd:=by simpa using h
    obtain⟨hk,h0⟩:=hI.iv _ _ ho;cases h0 with
    |@nst _ _ aM hsz hl hS hK hown hext hfit hr hv=>
     obtain⟨h1,fps,h2,h3,h4⟩:=Gd (get:=fun i=>aM[i]?) hown.cell slots 0 am (fun i s hi=>by rw[bJ];exact hr i s hi) hrows;cases hc with
     |@eZ _ _ _ cap addr hk hcap haddr hx hcc=>
      rw[bl,List.flatMap_nil,bO];have e:gV w φ (az H) id=(φ id).cK::fps.flatten:=by unfold gV;rw[ho,h3]
      rw[e,<-h1];refine⟨.yz (sz:=szi) (am:=am) hsz hown (by omega) (by rw[hl,lR]at hx;omega) h2 fun i r fp hi hf=>?_,fun i hi=>?_⟩
      .obtain ⟨v,q1,q2⟩:=h4 i r fp hi hf;have hlt:=(ak.1 hi).1;rw[bJ]at q1;exact⟨v,by rw[haddr (by omega),iZ,dw];exact q1,q2⟩
      .obtain rfl:=aq.1 hi;exact⟨_,ho,rfl⟩
   .simp at h
  .simp at h
 .simp at h
theorem qJ{H:bE}(hI:Inv S K w0 Kn φ (az H) w):∀n,
  (∀c t bv rd v,ez H n c=some (t,bv,rd)->RC S w Kn φ c v->RT S w t v (bv.flatMap (gV w φ (az H)))/\∀i∈bv,∃o,az H i=some o/\cD o=true)/\
  (∀cs ts bv rd,ic H n cs=some (ts,bv,rd)->∀(get:Nat->Value),(∀(i:Nat)(c:C),cs[i]?=some c->RC S w Kn φ c (get i))->
   ts.length=cs.length/\(∃fps:List (List Nat),fps.length=ts.length/\fps.flatten=bv.flatMap (gV w φ (az H))/\
    ∀(i:Nat)(t:T)(fp:List Nat),ts[i]?=some t->fps[i]?=some fp->RT S w t (get i) fp)/\∀i∈bv,∃o,az H i=some o/\cD o=true):=by
 intro n;induction n with
 |zero=>
  refine⟨fun c t bv rd v h hc=>?_,fun cs ts bv rd h get hg=>?_⟩
  .cases c with
   |d x=>
    obtain⟨rfl,rfl,rfl⟩:T.d x=t/\[]=bv/\[]=rd:=by simpa[ez]using h
    cases hc with|d hd=>exact⟨.d hd,fun i hi=>by simp at hi⟩
   |eZ sz id off len=>simp only[ez]at h;exact BV hI hc h
   |_=>simp[ez]at h
  .cases cs with
   |nil=>
    obtain⟨rfl,rfl,rfl⟩:[]=ts/\[]=bv/\[]=rd:=by simpa[ic]using h
    exact⟨rfl,⟨[],rfl,rfl,fun i t fp hi=>by simp at hi⟩,fun i hi=>by simp at hi⟩
   |cons c cs=>simp[ic]at h
 |succ n ih=>
  obtain⟨ihc,ihl⟩:=ih;refine⟨fun c t bv rd v h hc=>?_,fun cs ts bv rd h get hg=>?_⟩
  .cases c with
   |d x=>
    obtain⟨rfl,rfl,rfl⟩:T.d x=t/\[]=bv/\[]=rd:=by simpa[ez]using h
    cases hc with|d hd=>exact⟨.d hd,fun i hi=>by simp at hi⟩
   |eZ sz id off len=>simp only[ez]at h;exact BV hI hc h
   |op id off=>
    cases off with
    |succ off=>simp[ez]at h
    |zero=>
     simp only[ez]at h;split at h
     .rename_i cells ho;split at h
      .rename_i ts own' rd' hp;obtain⟨rfl,rfl,rfl⟩:T.pt ts=t/\id::own'=bv/\id::rd'=rd:=by simpa using h
       obtain⟨hk,h0⟩:=hI.iv _ _ ho;cases h0 with
       |@box _ aM hb hS hK hown hlen hr=>
        obtain⟨h1,⟨fps,h2,h3,h4⟩,h5⟩:=ihl cells ts own' rd' hp (fun i=>aM.getD i undef) hr;cases hc with
        |op hk=>
         rw[hb];refine⟨?_,fun i hi=>?_⟩
         .rw [bl,<-h3,o6 fun _ _ e=>by rw[ho]at e;cases e];exact .pt hown (h1.trans hlen) h2 h4
         .rcases aK.1 hi with rfl|hi
          .exact ⟨_,ho,rfl⟩
          .exact h5 i hi
      .simp at h
     .rename_i cells ho;obtain⟨rfl,rfl,rfl⟩:T.d (.pt cells)=t/\[]=bv/\[id]=rd:=by simpa using h
      obtain⟨hk,h0⟩:=hI.iv _ _ ho;cases h0 with
      |ny hb hS hr=>cases hc with|op hk=>exact⟨.d (.xo hS fun j x hj=>by obtain⟨u,hu,hd⟩:=hr j x hj;exact⟨u,by rw[<-hu,hb];simp,hd⟩),fun i hi=>by simp at hi⟩
     .simp at h
   |ep id cY off=>simp[ez]at h
   |nW f caps=>simp[ez]at h
   |om id=>simp[ez]at h
  .cases cs with
   |nil=>
    obtain⟨rfl,rfl,rfl⟩:[]=ts/\[]=bv/\[]=rd:=by simpa[ic]using h
    exact⟨rfl,⟨[],rfl,rfl,fun i t fp hi=>by simp at hi⟩,fun i hi=>by simp at hi⟩
   |cons c cs=>
    simp only[ic]at h;split at h
    .rename_i t0 a i0 ts0 b j0 hx hxs;obtain⟨rfl,rfl,rfl⟩:t0::ts0=ts/\a++b=bv/\i0++j0=rd:=by simpa using h
     obtain⟨p1,p2⟩:=ihc c t0 a i0 (get 0) hx (hg 0 c rfl);obtain⟨h1,⟨fps,h2,h3,h4⟩,h5⟩:=ihl cs ts0 b j0 hxs (fun i=>get (i+1)) (fun i c hi=>hg (i+1) c (by simpa using hi));refine⟨by simp[h1],⟨(a.flatMap (gV w φ (az H)))::fps,by simp[h2],by simp[h3],fun i t fp hi hfp=>?_⟩,fun i hi=>?_⟩
     .cases i with
      |zero=>
       obtain rfl:t0=t:=by simpa using hi
       obtain rfl:(a.flatMap (gV w φ (az H)))=fp:=by simpa using hfp
       exact p1
      |succ i=>exact h4 i t fp (by simpa using hi) (by simpa using hfp)
     .rcases ao.1 hi with hi|hi
      .exact p2 i hi
      .exact h5 i hi
    .simp at h
theorem z7{bv:List Nat}(hI:Inv S K w0 Kn φ hf w)(hn:bv.Nodup)(ho:∀i∈bv,∃o,hf i=some o/\cD o=true):(bv.flatMap (gV w φ hf)).Nodup:=by induction bv with|nil=>exact gM|cons a l ih=>rw[eE]at hn;obtain⟨o1,h1,h2⟩:=ho a (by simp);rw[bl,bZ];refine⟨E1 hI h1 h2,ih hn.2 fun i hi=>ho i (aB _ hi),fun x hx y hy e=>?_⟩;subst e;obtain⟨i,hi,hy⟩:=List.mem_flatMap.1 hy;obtain⟨o2,h3,h4⟩:=ho i (aB _ hi);exact mW hI h1 h3 h2 h4 (fun e'=>hn.1 (e'▸hi)) hx hy
def ow(Kn:Nat->Prop)(a b:Nat)(j:Nat):Prop:=Kn j\/(a<=j/\j<b)
theorem Inv.name(h:Inv S K w0 Kn φ hf w){i:Nat}(hi:¬Kn i)(l:gr)(o:Ob)(hfree:cD o=true->∀j b,hf j=some b->cD b=true->l.cK∉gV w φ hf j)
  (hro:RO S K w (fun j=>Kn j\/j=i) (ext φ i l) l o)
  (hp:∀sz sl k x,o=.nst sz sl->ri w l sl k x->x≠l.cK/\(∀j b,hf j=some b->cD b=true->x∉gV w φ hf j)/\∀k',ri w l sl k' x->k'=k:=by intro _ _ _ _ e;cases e):
  Inv S K w0 (fun j=>Kn j\/j=i) (ext φ i l) (bm [(i,some o)] hf) w:=by
 have hold:∀j b,bm [(i,some o)] hf j=some b->(j=i/\b=o/\ext φ i l j=l)\/(j≠i/\hf j=some b/\ext φ i l j=φ j):=by
  intro j b hj;rw[bP]at hj;by_cases e:i=j
  .rw [if_pos e]at hj;exact .inl ⟨e.symm,(aa hj).symm,by simp[ext,e]⟩
  .rw [if_neg e,fz]at hj;have e1:¬j=i:=fun q=>e q.symm;exact .inr ⟨e1,hj,by simp[ext,e1]⟩
 refine h.t_ (gF.refl _ _) (jq _ hi) h.t6 h.sk h.mz ?_ ?_ ?_
 .intro id o' ho;rcases hold id o' ho with⟨rfl,rfl,e⟩|⟨_,ho,_⟩
  .exact .inr ⟨.inr rfl,by rw[e];exact hro⟩
  .exact .inl ⟨ho,fun hown=>⟨rfl,((h.iv id o' ho).2.bv hown).1⟩,h.Ct ho fun _ _=>rfl⟩
 .intro a b oa ob ha hb hoa hob hne;rcases hold a oa ha with⟨h1,h2,e1⟩|⟨_,ha',e1⟩<;>rcases hold b ob hb with⟨h3,h4,e2⟩|⟨_,hb',e2⟩
  .exact absurd (h1.trans h3.symm) hne
  .rw [e1,e2];exact fun e=>hfree (h2▸hoa) b ob hb' hob (dE.2 (.inl e))
  .rw [e1,e2];exact fun e=>hfree (h4▸hob) a oa ha' hoa (dE.2 (.inl e.symm))
  .rw [e1,e2];exact h.jo a b oa ob ha' hb' hoa hob hne
 .intro a sz sl k x ha hpa;rcases hold a _ ha with⟨ea,eo,e1⟩|⟨hne,ha',e1⟩<;>rw[e1]at hpa
  .obtain ⟨p1,p2,p3⟩:=hp sz sl k x eo.symm hpa;refine⟨fun j b hj hown=>?_,fun j sz' sl' k' hj hpj=>?_⟩
   .rcases hold j b hj with⟨_,_,e2⟩|⟨_,hj',e2⟩<;>rw[e2]
    .exact fun e=>p1 e.symm
    .exact fun e=>p2 j b hj' hown (dE.2 (.inl e.symm))
   .rcases hold j _ hj with⟨ej,eo2,e2⟩|⟨_,hj',e2⟩<;>rw[e2]at hpj
    .rw [<-eo]at eo2;cases eo2;exact⟨ej.trans ea.symm,p3 k' hpj⟩
    .exact absurd (dE.2 (.inr ⟨sz',sl',k',hj',hpj⟩)) (p2 j _ hj' rfl)
  .obtain ⟨p1,p2⟩:=h.vV a sz sl k x ha' hpa;refine⟨fun j b hj hown=>?_,fun j sz' sl' k' hj hpj=>?_⟩
   .rcases hold j b hj with⟨_,eo,e2⟩|⟨_,hj',e2⟩<;>rw[e2]
    .exact fun e=>hfree (eo▸hown) a _ ha' rfl (dE.2 (.inr ⟨sz,sl,k,ha',e▸hpa⟩))
    .exact p1 j b hj' hown
   .rcases hold j _ hj with⟨_,eo,e2⟩|⟨_,hj',e2⟩<;>rw[e2]at hpj
    .exact absurd (dE.2 (.inr ⟨sz,sl,k,ha',hpa⟩)) ((hp sz' sl' k' x eo.symm hpj).2.1 a _ ha' rfl)
    .exact p2 j sz' sl' k' hj' hpj
theorem Inv.kn{Kn':Nat->Prop}(h:Inv S K w0 Kn φ hf w)(hs:∀i,Kn i->Kn' i):Inv S K w0 Kn' φ hf w:=h.jK (gF.refl _ _) ⟨hs,fun _ _=>rfl⟩ h.t6 h.sk h.mz (fun id o ho=>.inl ⟨ho,fun hown=>⟨rfl,((h.iv id o ho).2.bv hown).1⟩⟩) h.jo (h.zo fun _ _=>rfl)
structure q_(S K:Nat->Prop)(w0 w:World)(Kn:Nat->Prop)(φ:Nat->gr)(hf:Nat->Option Ob)(fp:List Nat)(nxt m:Nat)(u:fm)(φ':Nat->gr):Prop where
 le:nxt<=m
 rt:sH Kn φ (ow Kn nxt m) φ'
 inv:Inv S K w0 (ow Kn nxt m) φ' (bm u hf) w
 gp:∀p∈u,nxt<=p.1/\p.1<m
 cK:∀p∈u,∀x∈gV w φ' (bm u hf) p.1,x∈fp
theorem ss(a b:Nat):sH Kn φ (ow Kn a b) φ:=⟨fun _ h=>.inl h,fun _ _=>rfl⟩
theorem q_.nil(h:Inv S K w0 Kn φ hf w)(fp:List Nat)(n:Nat):q_ S K w0 w Kn φ hf fp n n [] φ:=⟨au _,ss _ _,h.kn fun _ hi=>.inl hi,fun p hp=>by simp at hp,fun p hp=>by simp at hp⟩
theorem q_.skip(h:Inv S K w0 Kn φ hf w)(fp:List Nat)(n:Nat):q_ S K w0 w Kn φ hf fp n (n+1) [] φ:=⟨bH _,ss _ _,h.kn fun _ hi=>.inl hi,fun p hp=>by simp at hp,fun p hp=>by simp at hp⟩
theorem kK{α:Type}{u:List (Nat×α)}{id:Nat}(h:∀p∈u,p.1≠id):cg u id=none:=by
 induction u with
 |nil=>rfl
 |cons p r ih=>
  obtain⟨i,x⟩:=p;have e:(i==id)=false:=by simpa using h (i,x) (by simp)
  simp only[cg,e,cond_false];exact ih fun q hq=>h q (by simp[hq])
def ip(w:World)(φ:Nat->gr)(hf:Nat->Option Ob)(fp:List Nat):Prop:=∀j b,hf j=some b->cD b=true->∀x∈gV w φ hf j,x∉fp
theorem qN{a b c:Nat}(h1:a<=b)(h2:b<=c)(j:Nat):ow (ow Kn a b) b c j<->ow Kn a c j:=by
 unfold ow;constructor
 .rintro ((h|h)|h)
  .exact .inl h
  .exact .inr (by omega)
  .exact .inr (by omega)
 .rintro (h|h)
  .exact .inl (.inl h)
  .by_cases e:j<b
   .exact .inl (.inr (by omega))
   .exact .inr (by omega)
theorem Inv.wj{Kn':Nat->Prop}(h:Inv S K w0 Kn φ hf w)(hs:∀i,Kn i<->Kn' i):Inv S K w0 Kn' φ hf w:=h.kn fun i hi=>(hs i).1 hi
theorem RC.kn{Kn':Nat->Prop}{c:C}{v:Value}(h:RC S w Kn φ c v)(hs:∀i,Kn i->Kn' i):RC S w Kn' φ c v:=h.mono (gF.refl _ _) ⟨hs,fun _ _=>rfl⟩
theorem ga{φ':Nat->gr}{hf':Nat->Option Ob}{i:Nat}(h1:φ i=φ' i)(h2:hf i=hf' i):gV w φ hf i=gV w φ' hf' i:=by unfold gV;rw[h1,h2]
theorem q_.pg{fa fb:List Nat}{n m k:Nat}{u v:fm}{φ1 φ2:Nat->gr}(a:q_ S K w0 w Kn φ hf fa n m u φ1)(b:q_ S K w0 w (ow Kn n m) φ1 (bm u hf) fb m k v φ2):
  q_ S K w0 w Kn φ hf (fa++fb) n k (v++u) φ2 where
 le:=fy a.le b.le
 rt:=⟨fun i h=>.inl h,fun i h=>(b.rt.dU i (.inl h)).trans (a.rt.dU i h)⟩
 inv:=by rw[dV];exact b.inv.wj fun i=>qN a.le b.le i
 gp p hp:=by
  have:=a.le;have:=b.le;rcases ao.1 hp with h|h
  .have:=b.gp p h;omega
  .have:=a.gp p h;omega
 cK p hp:=by
  intro x hx;rcases ao.1 hp with h|h
  .rw [dV]at hx;exact List.mem_append_right _ (b.cK p h x hx)
  .have hn:cg v p.1=none:=kK fun q hq e=>by have:=a.gp p h;have:=b.gp q hq;omega
   have e:bm (v++u) hf p.1=bm u hf p.1:=by simp only[bm,gy,hn]
   have e2:=ga (w:=w) (b.rt.dU p.1 (.inr (a.gp p h))) e;rw[e2]at hx;exact List.mem_append_left _ (a.cK p h x hx)
theorem lJ{u v:fm}(h:∀p∈u,∀q∈v,p.1≠q.1):bm (u++v) hf=bm (v++u) hf:=by
 funext id;simp only[bm,gy];cases hu:cg u id with
 |none=>cases cg v id<;>simp
 |some x=>
  have:cg v id=none:=by
   refine kK fun q hq e=>?_
   have hm:∃p∈u,p.1=id:=by
    clear h;induction u with
    |nil=>simp[cg]at hu
    |cons p r ih=>
     obtain⟨i,y⟩:=p;by_cases e':i=id
     .exact ⟨(i,y),by simp,e'⟩
     .have e2:(i==id)=false:=by simpa using e'
      simp only[cg,e2,cond_false]at hu;obtain⟨p,hp,hpe⟩:=ih hu;exact⟨p,by simp[hp],hpe⟩
   obtain⟨p,hp,hpe⟩:=hm;exact h p hp q hq (hpe.trans e.symm)
  simp[this]
theorem pF(nxt:Nat)(ts:List T):ky nxt (.pt ts)=(.op nxt 0,(nxt,some (.box (hO (nxt+1) ts).1))::(hO (nxt+1) ts).2.1,(hO (nxt+1) ts).2.2):=rfl
theorem pY(nxt:Nat)(t:T)(ts:List T):hO nxt (t::ts)=((ky nxt t).1::(hO (ky nxt t).2.2 ts).1,(ky nxt t).2.1++(hO (ky nxt t).2.2 ts).2.1,(hO (ky nxt t).2.2 ts).2.2):=rfl
theorem CF{x:Nat}:∀{fps:List (List Nat)}{k k':Nat},fps.flatten.Nodup->fps[k]?=some [x]->fps[k']?=some [x]->k=k':=by
 intro fps;induction fps with
 |nil=>intro k k' _ h;simp at h
 |cons fp fps ih=>
  intro k k' hn h1 h2;rw[dR,bZ]at hn;have hm:∀k,fps[k]?=some [x]->x∈fps.flatten:=fun k h=>dq.2 ⟨[x],aW h,by simp⟩;cases k with
  |zero=>
   obtain rfl:fp=[x]:=by simpa using h1
   cases k' with|zero=>rfl|succ k'=>exact absurd rfl (hn.2.2 x (by simp) x (hm k' (by simpa using h2)))
  |succ k=>
   cases k' with
   |zero=>
    obtain rfl:fp=[x]:=by simpa using h2
    exact absurd rfl (hn.2.2 x (by simp) x (hm k (by simpa using h1)))
   |succ k'=>exact congrArg Nat.succ (ih hn.2.1 (by simpa using h1) (by simpa using h2))
mutual
theorem H5(t:T):∀nxt,nxt<=(ky nxt t).2.2:=by intro nxt;cases t with|d x=>exact bH _|vy=>exact bH _|sl sz am=>exact bH _|yz sz am=>exact bH _|pt ts=>rw[pF];exact Nat.le_of_succ_le (uT ts (nxt+1))
theorem uT(ts:List T):∀nxt,nxt<=(hO nxt ts).2.2:=by intro nxt;cases ts with|nil=>exact au _|cons t ts=>rw[pY];exact fy (H5 t nxt) (uT ts _)
end
mutual
theorem uU(t:T):∀{Kn:Nat->Prop}{φ:Nat->gr}{hf:Nat->Option Ob}(nxt:Nat)(v:Value)(fp:List Nat),Inv S K w0 Kn φ hf w->(∀j,nxt<=j->j<(ky nxt t).2.2->¬Kn j)->
  RT S w t v fp->fp.Nodup->(∀b∈fp,¬S b/\¬K b)->ip w φ hf fp->
  ∃φ',q_ S K w0 w Kn φ hf fp nxt (ky nxt t).2.2 (ky nxt t).2.1 φ'/\RC S w (ow Kn nxt (ky nxt t).2.2) φ' (ky nxt t).1 v:=by
 intro Kn φ hf nxt v fp hI hfr hr hnd hSK haw;cases t with
 |vy=>cases hr
 |d x=>cases hr with|d hd=>exact⟨φ,q_.skip hI _ _,.d hd⟩
 |sl sz am=>
  cases hr with
  |@sl _ _ b off len cap aM hsz ho hlen hcap hext hrr=>
   have hnx:¬Kn nxt:=hfr nxt (au _) (aX _);refine⟨ext φ nxt ⟨b,off,sz,aM.size,cap⟩,?_,?_⟩
   .have hin:=hI.name (hnx) ⟨b,off,sz,aM.size,cap⟩ (.aM sz am) (fun _ j o hj hown hm=>haw j o hj hown _ hm (by simp))
     (.aM hsz rfl (hSK b (by simp)).1 (hSK b (by simp)).2 ho rfl (by have:am.length*sz<=cap*sz:=aL _ (by omega);simp only;omega) hrr (by simp only;omega))
    refine⟨bH _,⟨fun i h=>.inl h,(jq _ (hnx)).dU⟩,hin.wj fun i=>?_,fun p hp=>?_,fun p hp=>?_⟩
    .simp only[ow,ky];constructor
     .rintro (h|rfl)
      .exact .inl h
      .exact .inr (by omega)
     .rintro (h|h)
      .exact .inl h
      .exact .inr (by omega)
    .obtain rfl:p=_:=by simpa[ky]using hp
     simp[ky]
    .obtain rfl:p=_:=by simpa[ky]using hp
     rw[o6 fun _ _ e=>by simp[ky,bm,cg]at e];simp[ext]
   .have e:(ext φ nxt ⟨b,off,sz,aM.size,cap⟩) nxt=⟨b,off,sz,aM.size,cap⟩:=by simp[ext]
    have:=RC.eZ (S:=S) (w:=w) (Kn:=ow Kn nxt (nxt+1)) (φ:=ext φ nxt ⟨b,off,sz,aM.size,cap⟩) (id:=nxt) (off:=0) (len:=am.length) (cap:=cap) (addr:=off) (.inr (by omega)) (by omega) (by rw[e];simp) (by rw[e];simpa using hext) (by rw[e];simp);rw[e]at this;simpa[ky,hlen]using this
 |yz sz am=>
  cases hr with
  |@yz _ _ b off cap aM fps hsz ho hcap hext hfl hrr=>
   have hnx:¬Kn nxt:=hfr nxt (au _) (aX _);rw[eE]at hnd;have hget:∀i,w.cell? ⟨b,i,none⟩=aM[i]?:=ho.cell;have hpat:∀k x,ri w ⟨b,off,1,aM.size,cap⟩ (am.map lZ) k x->∃fp,fps[k]?=some fp/\fp=[x]:=by rintro k x ⟨rs,v,h1,h2,h3⟩;rw[aI]at h1;obtain⟨r,hr1,hr2⟩:=aH.1 h1;have hlt:=(ak.1 hr1).1;have hf:fps[k]?=some fps[k]:=aD (by omega);obtain⟨v',q1,q2⟩:=hrr k r fps[k] hr1 hf;simp only[hget,q1,bq]at h2;subst h2;cases r with|none=>cases hr2|some rows'=>obtain⟨b',q3,q4⟩:=q2;rw[q4.cK]at h3;obtain rfl:=aa h3;exact⟨_,hf,q3⟩
   have hmem:∀k x,ri w ⟨b,off,1,aM.size,cap⟩ (am.map lZ) k x->x∈fps.flatten:=fun k x hp=>by obtain⟨fp,h1,rfl⟩:=hpat k x hp;exact dq.2 ⟨[x],aW h1,by simp⟩
   have hin:=hI.name (hnx) ⟨b,off,1,aM.size,cap⟩ (.nst sz (am.map lZ)) (fun _ j o hj hown hm=>haw j o hj hown _ hm (by simp))
    (.nst hsz rfl (hSK b (by simp)).1 (hSK b (by simp)).2 ho rfl (by simp only[aQ];omega) (fun i s hi=>by
     rw[aI]at hi;obtain⟨r,hr1,rfl⟩:=aH.1 hi;have hlt:=(ak.1 hr1).1;have hf:fps[i]?=some fps[i]:=aD (by omega);obtain⟨v,q1,q2⟩:=hrr i r fps[i] hr1 hf;refine⟨v,q1,?_⟩;cases r with
     |none=>obtain⟨rfl,_⟩:=q2;exact .nil
     |some rows'=>obtain⟨b',q3,q4⟩:=q2;have hm:b'∈fps.flatten:=dq.2 ⟨fps[i],List.getElem_mem _,by rw[q3];simp⟩;exact .bv q4 (hSK b' (aB _ hm)).1 (hSK b' (aB _ hm)).2) (by simp only[aQ];omega))
    (fun sz' sl' k x eo hp=>by cases eo;have hm:=hmem k x hp;refine⟨fun e=>hnd.1 (by have e:x=b:=e;rw[<-e];exact hm),fun j b' hj hown hx=>haw j b' hj hown x hx (aB _ hm),fun k' hp'=>?_⟩;obtain⟨fp,h1,rfl⟩:=hpat k x hp;obtain⟨fp',h2,rfl⟩:=hpat k' x hp';exact CF hnd.2 h2 h1)
   refine⟨ext φ nxt ⟨b,off,1,aM.size,cap⟩,?_,?_⟩
   .refine ⟨bH _,⟨fun i h=>.inl h,(jq _ (hnx)).dU⟩,hin.wj fun i=>?_,fun p hp=>?_,fun p hp x hx=>?_⟩
    .simp only[ow,ky];constructor
     .rintro (h|rfl)
      .exact .inl h
      .exact .inr (by omega)
     .rintro (h|h)
      .exact .inl h
      .exact .inr (by omega)
    .obtain rfl:p=_:=by simpa[ky]using hp
     simp[ky]
    .obtain rfl:p=_:=by simpa[ky]using hp
     have e:bm (ky nxt (T.yz sz am)).2.1 hf nxt=some (.nst sz (am.map lZ)):=by simp[ky,bm,cg]
     rcases dE.1 hx with rfl|⟨sz',sl',k,h1,h2⟩
     .simp [ext]
     .rw [e]at h1;cases h1;simp only[ext,if_true]at h2;exact aB _ (hmem k x h2)
   .have e:(ext φ nxt ⟨b,off,1,aM.size,cap⟩) nxt=⟨b,off,1,aM.size,cap⟩:=by simp[ext]
    have:=RC.eZ (S:=S) (w:=w) (Kn:=ow Kn nxt (nxt+1)) (φ:=ext φ nxt ⟨b,off,1,aM.size,cap⟩) (id:=nxt) (off:=0) (len:=am.length) (cap:=cap) (addr:=off) (.inr (by omega)) (by omega) (by rw[e];simp) (by rw[e];simpa using hext) (by rw[e];simp);rw[e]at this;simpa[ky]using this
 |pt ts=>
  cases hr with
  |@pt _ b aM fps ho hlen hfl h=>
   rw[eE]at hnd;have hnx:¬Kn nxt:=hfr nxt (au _) (by rw[pF];exact uT ts (nxt+1))
   obtain⟨φ1,hL,hrc⟩:=se ts (Kn:=Kn) (φ:=φ) (hf:=hf) (nxt+1) (fun i=>aM.getD i undef) fps hI (fun j hj hj2=>hfr j (by omega) (by rw[pF];exact hj2)) hfl h hnd.2
    (fun b' hb'=>hSK b' (by simp[hb'])) (fun j o hj hown x hx hm=>haw j o hj hown x hx (aB _ hm))
   have hm:=hL.le
   have hnk:¬ow Kn (nxt+1) (hO (nxt+1) ts).2.2 nxt:=by
    rintro(h|h)
    .exact hnx h
    .omega
   refine⟨ext φ1 nxt ⟨b,0,1,aM.size,0⟩,?_,?_⟩
   .have hin:=hL.inv.name hnk ⟨b,0,1,aM.size,0⟩ (.box (hO (nxt+1) ts).1) (fun _ j o hj hown hm=>by
      by_cases hu:∃p∈(hO (nxt+1) ts).2.1,p.1=j
      .obtain ⟨p,hp,rfl⟩:=hu;exact hnd.1 (hL.cK p hp _ hm)
      .have hfn:cg (hO (nxt+1) ts).2.1 j=none:=kK fun p hp e=>hu ⟨p,hp,e⟩;have hj':=hj;simp only[bm,hfn]at hj';have hk:=(hI.iv j o hj').1;rw[ga (hL.rt.dU j hk) (hj.trans hj'.symm)]at hm;exact haw j o hj' hown _ hm (by simp))
     (.box rfl (hSK b (by simp)).1 (hSK b (by simp)).2 ho (hrc.1.trans hlen) fun i c hi=>(hrc.2 i c hi).mono (gF.refl _ _) (jq _ hnk))
    refine⟨?_,⟨fun i h=>.inl h,fun i hi=>?_⟩,?_,fun p hp=>?_,fun p hp=>?_⟩
    .simp only[pF];exact Nat.le_of_succ_le hm
    .have:i≠nxt:=fun e=>hnx (e▸hi);simp only[ext,this,if_false];exact hL.rt.dU i hi
    .have e:bm (ky nxt (.pt ts)).2.1 hf=bm [(nxt,some (.box (hO (nxt+1) ts).1))] (bm (hO (nxt+1) ts).2.1 hf):=by rw[<-dV];rfl
     rw[e];refine hin.wj fun i=>?_;simp only[ow,pF];constructor
     .rintro ((h|h)|rfl)
      .exact .inl h
      .exact .inr (by omega)
      .exact .inr (by omega)
     .rintro (h|h)
      .exact .inl (.inl h)
      .by_cases e:i=nxt
       .exact .inr e
       .exact .inl (.inr (by omega))
    .simp only[pF]at hp|-;rcases aK.1 hp with rfl|hp
     .simp only;omega
     .have:=hL.gp p hp;omega
    .simp only[pF]at hp;rcases aK.1 hp with rfl|hp
     .rw [o6 fun _ _ e=>by simp[pF,bm,cg]at e];simp[ext]
     .have hne:¬p.1=nxt:=by have:=hL.gp p hp;omega
      have hne':(nxt==p.1)=false:=by simpa using fun e=>hne e.symm
      intro x hx;rw[ga (φ':=φ1) (hf':=bm (hO (nxt+1) ts).2.1 hf) (by simp only[ext,hne,if_false]) (by simp only[pF,bm,cg,hne',cond_false])]at hx;exact aB _ (hL.cK p hp x hx)
   .have:=RC.op (S:=S) (w:=w) (Kn:=ow Kn nxt (hO (nxt+1) ts).2.2) (φ:=ext φ1 nxt ⟨b,0,1,aM.size,0⟩) (id:=nxt) (off:=0) (.inr (by omega));simpa[pF,ext]using this
theorem se(ts:List T):∀{Kn:Nat->Prop}{φ:Nat->gr}{hf:Nat->Option Ob}(nxt:Nat)(get:Nat->Value)(fps:List (List Nat)),Inv S K w0 Kn φ hf w->(∀j,nxt<=j->j<(hO nxt ts).2.2->¬Kn j)->
  fps.length=ts.length->(∀(i:Nat)(t:T)(fp:List Nat),ts[i]?=some t->fps[i]?=some fp->RT S w t (get i) fp)->fps.flatten.Nodup->(∀b∈fps.flatten,¬S b/\¬K b)->ip w φ hf fps.flatten->
  ∃φ',q_ S K w0 w Kn φ hf fps.flatten nxt (hO nxt ts).2.2 (hO nxt ts).2.1 φ'/\(hO nxt ts).1.length=ts.length/\
   ∀(i:Nat)(c:C),(hO nxt ts).1[i]?=some c->RC S w (ow Kn nxt (hO nxt ts).2.2) φ' c (get i):=by
 intro Kn φ hf nxt get fps hI hfr hfl hr hnd hSK haw;cases ts with
 |nil=>exact⟨φ,q_.nil hI _ _,rfl,fun i c hi=>by simp[hO]at hi⟩
 |cons t ts=>
  cases fps with
  |nil=>simp at hfl
  |cons fp fps=>
   rw[dR,bZ]at hnd;obtain⟨hn1,hn2,hn3⟩:=hnd;simp only[dR,ao]at hSK
   obtain⟨φ1,hL1,hc1⟩:=uU t (Kn:=Kn) (φ:=φ) (hf:=hf) nxt (get 0) fp hI (fun j hj hj2=>hfr j hj (by rw[pY];exact cU hj2 (uT ts _))) (hr 0 t fp rfl rfl) hn1 (fun b hb=>hSK b (.inl hb))
    (fun j o hj hown x hx hm=>haw j o hj hown x hx (by simp[hm]))
   obtain⟨φ2,hL2,hlen,hc2⟩:=se ts (Kn:=ow Kn nxt (ky nxt t).2.2) (φ:=φ1) (hf:=bm (ky nxt t).2.1 hf) (ky nxt t).2.2 (fun i=>get (i+1)) fps hL1.inv
    (fun j hj hj2 hk=>by
     rcases hk with hk|hk
     .have:=hL1.le;exact hfr j (by omega) (by rw[pY];exact hj2) hk
     .omega) (by simpa using hfl) (fun i t fp hi hfp=>hr (i+1) t fp (by simpa using hi) (by simpa using hfp)) hn2 (fun b hb=>hSK b (.inr hb))
    (fun j o hj hown x hx hm=>by
     by_cases hu:∃p∈(ky nxt t).2.1,p.1=j
     .obtain ⟨p,hp,rfl⟩:=hu;exact hn3 _ (hL1.cK p hp x hx) _ hm rfl
     .have hfn:cg (ky nxt t).2.1 j=none:=kK fun p hp e=>hu ⟨p,hp,e⟩;have hj':=hj;simp only[bm,hfn]at hj';have hk:=(hI.iv j o hj').1;rw[ga (hL1.rt.dU j hk) (hj.trans hj'.symm)]at hx;exact haw j o hj' hown x hx (by simp[hm]))
   have hcomp:=hL1.pg hL2;have hcm:bm ((hO (ky nxt t).2.2 ts).2.1++(ky nxt t).2.1) hf=bm ((ky nxt t).2.1++(hO (ky nxt t).2.2 ts).2.1) hf:=lJ fun p hp q hq e=>by have h1:=hL2.gp p hp;have h2:=hL1.gp q hq;omega
   refine⟨φ2,?_,by simp[pY,hlen],fun i c hi=>?_⟩
   .simp only[pY,dR];have hsw:∀{p:Nat×Option Ob}{a b:fm},p∈a++b->p∈b++a:=fun hp=>ao.2 (ao.1 hp).symm;exact⟨hcomp.le,hcomp.rt,hcm▸hcomp.inv,fun p hp=>hcomp.gp p (hsw hp),fun p hp x hx=>hcomp.cK p (hsw hp) x (hcm.symm▸hx)⟩
   .have hsub:∀i,ow (ow Kn nxt (ky nxt t).2.2) (ky nxt t).2.2 (hO (ky nxt t).2.2 ts).2.2 i->ow Kn nxt (hO (ky nxt t).2.2 ts).2.2 i:=fun i=>(qN hL1.le hL2.le i).1;cases i with
    |zero=>
     obtain rfl:(ky nxt t).1=c:=by simpa[hO]using hi
     exact(hc1.mono (gF.refl _ _) hL2.rt).kn hsub
    |succ i=>exact(hc2 i c (by simpa[pY]using hi)).kn hsub
end
theorem sj{α:Type}{l:List α}{k i:Nat}{x y:α}(h:(l.set k x)[i]?=some y):(k=i/\y=x/\i<l.length)\/(k≠i/\l[i]?=some y):=by
 rw[List.getElem?_set]at h;split at h
 .rename_i e;split at h
  .rename_i hlt;exact .inl ⟨e,(aa h).symm,e▸hlt⟩
  .simp at h
 .rename_i e;exact .inr ⟨e,h⟩
theorem Inv.PQ(h:Inv S K w0 Kn φ hf w){id:Nat}{o o':Ob}(ho:hf id=some o)(hown:cD o=true)(hno:FY o')(hro:RO S K w Kn φ (φ id) o'):Inv S K w0 Kn φ (bm [(id,some o')] hf) w:=by
 have hold:∀j b,bm [(id,some o')] hf j=some b->(j=id/\b=o')\/(j≠id/\hf j=some b):=by
  intro j b hj;rw[bP]at hj;by_cases e:id=j
  .rw [if_pos e]at hj;exact .inl ⟨e.symm,(aa hj).symm⟩
  .rw [if_neg e,fz]at hj;exact .inr ⟨fun q=>e q.symm,hj⟩
 have was:∀j b,bm [(id,some o')] hf j=some b->cD b=true->∃b',hf j=some b'/\cD b'=true:=by
  intro j b hj hb;rcases hold j b hj with⟨rfl,rfl⟩|⟨_,hj'⟩
  .exact ⟨o,ho,hown⟩
  .exact ⟨b,hj',hb⟩
 refine h.t_ (gF.refl _ _) (sH.refl _ _) h.t6 h.sk h.mz ?_ ?_ ?_
 .intro i x hx;rcases hold i x hx with⟨rfl,rfl⟩|⟨_,hx'⟩
  .exact .inr ⟨(h.iv i o ho).1,hro⟩
  .exact .inl ⟨hx',fun hown=>⟨rfl,((h.iv i x hx').2.bv hown).1⟩,h.Ct hx' fun _ _=>rfl⟩
 .intro i j a b ha hb hoa hob hne;obtain⟨a',h1,h2⟩:=was i a ha hoa;obtain⟨b',h3,h4⟩:=was j b hb hob;exact h.jo i j a' b' h1 h3 h2 h4 hne
 .intro i sz sl k x hi hp;rcases hold i _ hi with⟨rfl,e⟩|⟨_,hi'⟩
  .obtain ⟨am,v,h1,_⟩:=hp;exact absurd h1 (hno sz sl k am e.symm)
  .obtain ⟨p1,p2⟩:=h.vV i sz sl k x hi' hp;refine⟨fun j b hj hb=>?_,fun j sz' sl' k' hj hpj=>?_⟩
   .obtain ⟨b',h1,h2⟩:=was j b hj hb;exact p1 j b' h1 h2
   .rcases hold j _ hj with⟨rfl,e⟩|⟨_,hj'⟩
    .obtain ⟨am,v,h1,_⟩:=hpj;exact absurd h1 (hno sz' sl' k' am e.symm)
    .exact p2 j sz' sl' k' hj' hpj
theorem Inv.split(h:Inv S K w0 Kn φ hf w){id nxt sz cY:Nat}{slots:List kx}{am:List (List D)}(ho:hf id=some (.nst sz slots))(hs:slots[cY]?=some (.bv am))(hn:¬Kn nxt):
  ∃l v,w.cell? ⟨(φ id).cK,(φ id).aP+cY,none⟩=some v/\RC S w (fun j=>Kn j\/j=nxt) (ext φ nxt l) (.eZ sz nxt 0 am.length) v/\
   Inv S K w0 (fun j=>Kn j\/j=nxt) (ext φ nxt l) (bm [(nxt,some (.aM sz am)),(id,some (.nst sz (slots.set cY (.dO nxt am.length))))] hf) w:=by
 obtain⟨hk,hro⟩:=h.iv id _ ho;have hne:id≠nxt:=fun e=>hn (e▸hk);cases hro with
 |@nst _ _ aM hsz hl hS hK hown hext hfit hr hv=>
  obtain⟨v,h1,h2⟩:=hr cY _ hs;cases h2 with
  |@bv _ _ b hrw hbS hbK=>
   obtain⟨addr,cap,ba,rfl,_,hbo,hcap,hfx,hrr⟩:=hrw;have hcell:w.cell? ⟨(φ id).cK,(φ id).aP+cY,none⟩=some (.slice (some ⟨b,addr,none⟩) am.length cap):=(hown.cell _).trans h1;have hpat:ri w (φ id) slots cY b:=⟨am,_,hs,hcell,rfl⟩
   obtain⟨p1,p2⟩:=h.vV id sz slots cY b ho hpat;have he:ext φ nxt ⟨b,addr,sz,ba.size,cap⟩ nxt=⟨b,addr,sz,ba.size,cap⟩:=by simp[ext]
   have heo:∀j,j≠nxt->ext φ nxt ⟨b,addr,sz,ba.size,cap⟩ j=φ j:=fun j hj=>by simp[ext,hj]
   have hren:=jq (φ:=φ) (⟨b,addr,sz,ba.size,cap⟩:gr) hn;have hrc:RC S w (fun j=>Kn j\/j=nxt) (ext φ nxt ⟨b,addr,sz,ba.size,cap⟩) (.eZ sz nxt 0 am.length) (.slice (some ⟨b,addr,none⟩) am.length cap):=by have:=RC.eZ (S:=S) (w:=w) (Kn:=fun j=>Kn j\/j=nxt) (φ:=ext φ nxt ⟨b,addr,sz,ba.size,cap⟩) (id:=nxt) (off:=0) (len:=am.length) (cap:=cap) (addr:=addr) (.inr rfl) (by omega) (by rw[he];simp) (by rw[he];simpa using hfx) (by rw[he];simp);rw[he]at this;exact this
   refine⟨⟨b,addr,sz,ba.size,cap⟩,_,hcell,hrc,?_⟩
   have hold:∀j c,bm [(nxt,some (.aM sz am)),(id,some (.nst sz (slots.set cY (.dO nxt am.length))))] hf j=some c->(j=nxt/\c=.aM sz am)\/(j=id/\c=.nst sz (slots.set cY (.dO nxt am.length)))\/(j≠nxt/\j≠id/\hf j=some c):=by
    intro j c hj;rw[bP]at hj;by_cases e:nxt=j
    .rw [if_pos e]at hj;exact .inl ⟨e.symm,(aa hj).symm⟩
    .rw [if_neg e,bP]at hj;by_cases e2:id=j
     .rw [if_pos e2]at hj;exact .inr (.inl ⟨e2.symm,(aa hj).symm⟩)
     .rw [if_neg e2,fz]at hj;exact .inr (.inr ⟨fun q=>e q.symm,fun q=>e2 q.symm,hj⟩)
   have hpat2:∀j sz' sl' k x,bm [(nxt,some (.aM sz am)),(id,some (.nst sz (slots.set cY (.dO nxt am.length))))] hf j=some (.nst sz' sl')->ri w (ext φ nxt ⟨b,addr,sz,ba.size,cap⟩ j) sl' k x->∃si,hf j=some (.nst sz' si)/\ri w (φ j) si k x/\x≠b:=by
    intro j sz' sl' k x hj hp;rcases hold j _ hj with⟨_,e⟩|⟨rfl,e⟩|⟨e1,e2,hj'⟩
    .cases e
    .cases e;rw[heo _ hne]at hp;obtain⟨rows',v',q1,q2,q3⟩:=hp;rcases sj q1 with⟨_,e,_⟩|⟨hk',q1'⟩
     .cases e
     .have hp':ri w (φ j) slots k x:=⟨rows',v',q1',q2,q3⟩
      exact⟨slots,ho,hp',fun e=>hk' (by rw[((p2 j sz slots k ho (e▸hp')).2)])⟩
    .rw [heo _ e1]at hp;exact⟨sl',hj',hp,fun e=>e2 ((p2 j sz' sl' k hj' (e▸hp)).1)⟩
   refine h.t_ (gF.refl _ _) hren h.t6 h.sk h.mz ?_ ?_ ?_
   .intro j c hj;rcases hold j c hj with⟨rfl,rfl⟩|⟨rfl,rfl⟩|⟨e1,_,hj'⟩
    .refine .inr ⟨.inr rfl,?_⟩;rw[he];exact .aM (by assumption) rfl hbS hbK hbo rfl (by have:=aL sz hcap;simp only;omega) hrr hcap
    .refine .inr ⟨.inl hk,?_⟩;rw[heo _ hne];refine .nst hsz hl hS hK hown hext (by rw[fk];exact hfit) (fun i s hi=>?_) (by rw[fk];exact hv);rcases sj hi with⟨rfl,rfl,_⟩|⟨_,hi'⟩
     .exact ⟨_,h1,.dO hrc⟩
     .obtain ⟨v',q1,q2⟩:=hr i s hi';refine⟨v',q1,?_⟩;cases q2 with|nil=>exact .nil|bv h hS hK=>exact .bv h hS hK|dO h=>exact .dO (h.mono (gF.refl _ _) hren)
    .exact .inl ⟨hj',fun hown=>⟨rfl,((h.iv j c hj').2.bv hown).1⟩,h.Ct hj' fun _ _=>rfl⟩
   .intro i j a c ha hc hoa hoc hij
    have key:∀j c,bm [(nxt,some (.aM sz am)),(id,some (.nst sz (slots.set cY (.dO nxt am.length))))] hf j=some c->cD c=true->j≠nxt->(∃c',hf j=some c'/\cD c'=true)/\ext φ nxt ⟨b,addr,sz,ba.size,cap⟩ j=φ j:=by
     intro j c hj hc hjn;rcases hold j c hj with⟨e,_⟩|⟨rfl,rfl⟩|⟨_,_,hj'⟩
     .exact absurd e hjn
     .exact ⟨⟨_,ho,rfl⟩,heo _ hjn⟩
     .exact ⟨⟨c,hj',hc⟩,heo _ hjn⟩
    by_cases hi:i=nxt
    .subst hi;obtain⟨⟨c',q1,q2⟩,q3⟩:=key j c hc hoc fun e=>hij e.symm;rw[he,q3];exact fun e=>p1 j c' q1 q2 e.symm
    .obtain ⟨⟨a',q1,q2⟩,q3⟩:=key i a ha hoa hi;by_cases hj:j=nxt
     .subst hj;rw[he,q3];exact p1 i a' q1 q2
     .obtain ⟨⟨c',q4,q5⟩,q6⟩:=key j c hc hoc hj;rw[q3,q6];exact h.jo i j a' c' q1 q4 q2 q5 hij
   .intro j sz' sl' k x hj hp;obtain⟨si,q1,q2,q3⟩:=hpat2 j sz' sl' k x hj hp;obtain⟨r1,r2⟩:=h.vV j sz' si k x q1 q2;refine⟨fun i c hi hc=>?_,fun i sz2 sl2 k' hi hpi=>?_⟩
    .rcases hold i c hi with⟨rfl,rfl⟩|⟨rfl,rfl⟩|⟨e1,_,hi'⟩
     .rw [he];exact fun e=>q3 e.symm
     .rw [heo _ hne];exact r1 i _ ho rfl
     .rw [heo _ e1];exact r1 i c hi' hc
    .obtain ⟨sl3,q4,q5,_⟩:=hpat2 i sz2 sl2 k' x hi hpi;exact r2 i sz2 sl3 k' q4 q5
theorem Inv.Kw(h:Inv S K w0 Kn φ hf w){id id2 sz sz2 cY:Nat}{slots:List kx}{am:List (List D)}(ho:hf id=some (.nst sz slots))(hs:slots[cY]?=some (.dO id2 am.length))(h2:hf id2=some (.aM sz2 am)):
  Inv S K w0 Kn φ (bm [(id,some (.nst sz (slots.set cY (.bv am)))),(id2,none)] hf) w:=by
 obtain⟨hk,hro⟩:=h.iv id _ ho;obtain⟨hk2,hro2⟩:=h.iv id2 _ h2;have hne:id2≠id:=fun e=>by rw[e,ho]at h2;cases h2
 have hold:∀j c,bm [(id,some (.nst sz (slots.set cY (.bv am)))),(id2,none)] hf j=some c->(j=id/\c=.nst sz (slots.set cY (.bv am)))\/(j≠id/\j≠id2/\hf j=some c):=by
  intro j c hj;rw[bP]at hj;by_cases e:id=j
  .rw [if_pos e]at hj;exact .inl ⟨e.symm,(aa hj).symm⟩
  .rw [if_neg e,bP]at hj;by_cases e2:id2=j
   .rw [if_pos e2]at hj;cases hj
   .rw [if_neg e2,fz]at hj;exact .inr ⟨fun q=>e q.symm,fun q=>e2 q.symm,hj⟩
 have was:∀j c,bm [(id,some (.nst sz (slots.set cY (.bv am)))),(id2,none)] hf j=some c->cD c=true->j≠id2/\∃c',hf j=some c'/\cD c'=true:=by
  intro j c hj hc;rcases hold j c hj with⟨rfl,rfl⟩|⟨_,e,hj'⟩
  .exact ⟨hne.symm,_,ho,rfl⟩
  .exact ⟨e,c,hj',hc⟩
 cases hro with
 |@nst _ _ aM hsz hl hS hK hown hext hfit hr hv=>
  obtain⟨v,h1,hsl⟩:=hr cY _ hs;have hcell:w.cell? ⟨(φ id).cK,(φ id).aP+cY,none⟩=some v:=(hown.cell _).trans h1
  obtain⟨hvb,hrw⟩:wt v=some (φ id2).cK/\FX S w sz am v (φ id2).cK:=by
   cases hsl with
   |dO hrc=>
    cases hro2 with
    |@aM _ _ ba hsz2 hl2 hS2 hK2 hown2 hext2 hfit2 hr2 hv2=>cases hrc with|@eZ _ _ _ cap addr hk' hcap haddr hx hcc=>refine⟨rfl,addr,cap,ba,rfl,by rw[hl2];exact hsz2,hown2,hcap,by omega,?_⟩;have:=hr2.wh (addr:=addr) 0 am.length (fun hlt=>by rw[haddr (by omega),hl2]);rw[hl2];simpa using this
  obtain⟨hS2,hK2,_⟩:=hro2.bv rfl
  have hpat2:∀j sz' sl' k x,bm [(id,some (.nst sz (slots.set cY (.bv am)))),(id2,none)] hf j=some (.nst sz' sl')->ri w (φ j) sl' k x->(j=id/\k=cY/\x=(φ id2).cK)\/∃si,hf j=some (.nst sz' si)/\ri w (φ j) si k x:=by
   intro j sz' sl' k x hj hp;rcases hold j _ hj with⟨rfl,e⟩|⟨e1,e2,hj'⟩
   .cases e;obtain⟨rows',v',q1,q2,q3⟩:=hp;rcases sj q1 with⟨rfl,_,_⟩|⟨hk',q1'⟩
    .refine .inl ⟨rfl,rfl,?_⟩;rw[hcell]at q2;obtain rfl:=aa q2;rw[hvb]at q3;exact(aa q3).symm
    .exact .inr ⟨slots,ho,rows',v',q1',q2,q3⟩
   .exact .inr ⟨sl',hj',hp⟩
  refine h.t_ (gF.refl _ _) (sH.refl _ _) h.t6 h.sk h.mz ?_ ?_ ?_
  .intro j c hj;rcases hold j c hj with⟨rfl,rfl⟩|⟨_,_,hj'⟩
   .refine .inr ⟨hk,.nst hsz hl hS hK hown hext (by rw[fk];exact hfit) (fun i s hi=>?_) (by rw[fk];exact hv)⟩;rcases sj hi with⟨rfl,rfl,_⟩|⟨_,hi'⟩
    .exact ⟨v,h1,.bv hrw hS2 hK2⟩
    .exact hr i s hi'
   .exact .inl ⟨hj',fun hown=>⟨rfl,((h.iv j c hj').2.bv hown).1⟩,h.Ct hj' fun _ _=>rfl⟩
  .intro i j a c ha hc hoa hoc hij;obtain⟨_,a',q1,q2⟩:=was i a ha hoa;obtain⟨_,c',q3,q4⟩:=was j c hc hoc;exact h.jo i j a' c' q1 q3 q2 q4 hij
  .intro j sz' sl' k x hj hp;refine⟨fun i c hi hc=>?_,fun i sz3 sl3 k' hi hpi=>?_⟩
   .obtain ⟨hi2,c',q1,q2⟩:=was i c hi hc;rcases hpat2 j sz' sl' k x hj hp with⟨_,_,rfl⟩|⟨si,q3,q4⟩
    .exact h.jo i id2 c' _ q1 h2 q2 rfl hi2
    .exact (h.vV j sz' si k x q3 q4).1 i c' q1 q2
   .rcases hpat2 j sz' sl' k x hj hp with⟨e1,e2,e3⟩|⟨si,q3,q4⟩<;>rcases hpat2 i sz3 sl3 k' x hi hpi with⟨e4,e5,e6⟩|⟨sl4,q5,q6⟩
    .exact ⟨e4.trans e1.symm,e5.trans e2.symm⟩
    .exact absurd e3.symm ((h.vV i sz3 sl4 k' x q5 q6).1 id2 _ h2 rfl)
    .exact absurd e6.symm ((h.vV j sz' si k x q3 q4).1 id2 _ h2 rfl)
    .exact (h.vV j sz' si k x q3 q4).2 i sz3 sl4 k' q5 q6
theorem Inv.Qx{w':World}(h:Inv S K w0 Kn φ hf w){id sz cY:Nat}{slots:List kx}{s':kx}{v:Value}{aM arr':Array Value}(ho:hf id=some (.nst sz slots))(hown:nR w (φ id).cK aM)(hown':nR w' (φ id).cK arr')(hsize':arr'.size=aM.size)
  (hother:∀b,b≠(φ id).cK->w'.heap[b]?=w.heap[b]?) (hsize:w'.heap.size=w.heap.size) (hfrz:∀a,w'.frozen? a=w.frozen? a) (hio:Io w w')
  (hget:∀i,i≠(φ id).aP+cY->arr'[i]?=aM[i]?) (hv:cY<slots.length->arr'[(φ id).aP+cY]?=some v) (hslot:gF S w S w'->yu S K w' Kn φ sz s' v) (hs':∀am,s'≠.bv am):
  gF S w S w'/\Inv S K w0 Kn φ (bm [(id,some (.nst sz (slots.set cY s')))] hf) w':=by
 obtain⟨hk,h0⟩:=h.iv id _ ho;obtain⟨hS,hK,hlt⟩:=h0.bv rfl;have hs:gF S w S w':=⟨fun _ h=>h,fun b hb=>hother b (fun e=>hS (e▸hb))⟩
 have hold:∀j c,bm [(id,some (.nst sz (slots.set cY s')))] hf j=some c->(j=id/\c=.nst sz (slots.set cY s'))\/(j≠id/\hf j=some c):=by
  intro j c hj;rw[bP]at hj;by_cases e:id=j
  .rw [if_pos e]at hj;exact .inl ⟨e.symm,(aa hj).symm⟩
  .rw [if_neg e,fz]at hj;exact .inr ⟨fun q=>e q.symm,hj⟩
 have was:∀j c,bm [(id,some (.nst sz (slots.set cY s')))] hf j=some c->cD c=true->∃c',hf j=some c'/\cD c'=true:=by
  intro j c hj hc;rcases hold j c hj with⟨rfl,rfl⟩|⟨_,hj'⟩
  .exact ⟨_,ho,rfl⟩
  .exact ⟨c,hj',hc⟩
 have hpat2:∀j sz' sl' k x,bm [(id,some (.nst sz (slots.set cY s')))] hf j=some (.nst sz' sl')->ri w' (φ j) sl' k x->∃si,hf j=some (.nst sz' si)/\ri w (φ j) si k x:=by
  intro j sz' sl' k x hj hp;rcases hold j _ hj with⟨rfl,e⟩|⟨e1,hj'⟩
  .cases e;obtain⟨rows',v',q1,q2,q3⟩:=hp;rcases sj q1 with⟨_,e,_⟩|⟨hk',q1'⟩
   .exact absurd e.symm (hs' rows')
   .refine ⟨slots,ho,rows',v',q1',?_,q3⟩;rw[hown.cell,<-hget _ (by omega),<-hown'.cell];exact q2
  .exact ⟨sl',hj',(ri.dU (hother _ (h.jo j id _ _ hj' ho rfl rfl e1))).1 hp⟩
 have hkeep:∀j sz' sl' k x,hf j=some (.nst sz' sl')->ri w (φ j) sl' k x->w'.heap[x]?=w.heap[x]?/\¬S x:=fun j sz' sl' k x hj hp=>⟨hother x fun e=>(h.vV j sz' sl' k x hj hp).1 id _ ho rfl e.symm,(h.Gy hj hp).1⟩;refine⟨hs,h.t_ hs (sH.refl _ _) (fun b hb=>hsize▸h.t6 b hb) h.sk ?_ ?_ ?_ ?_⟩
 .exact ⟨h.mz.Ei,fun b hb=>(hother b (fun e=>hK (e▸hb))).trans (h.mz.my b hb),hsize▸h.mz.qQ,fun a ha=>(hfrz a).trans (h.mz.zJ a ha),h.mz.xu hother (fun a ha=>⟨arr',hown',by obtain⟨t1,e1⟩:=ha;obtain⟨t2,e2⟩:=hown;rw[e1]at e2;rw[hsize'];cases e2;rfl⟩),h.mz.io.trans hio⟩
 .intro j c hj;rcases hold j c hj with⟨rfl,rfl⟩|⟨e1,hj'⟩
  .refine .inr ⟨hk,?_⟩;cases h0 with
   |@nst _ _ arr0 hsz hl hS hK hown0 hext hfit hr hv0=>
    have ea:arr0=aM:=by obtain⟨t1,e1⟩:=hown0;obtain⟨t2,e2⟩:=hown;rw[e1]at e2;cases e2;rfl
    subst ea;refine .nst hsz hl hS hK hown' (hsize'.trans hext) (by rw[fk];exact hfit) (fun i s hi=>?_) (by rw[fk];exact hv0);rcases sj hi with⟨rfl,rfl,hlt⟩|⟨hne,hi'⟩
    .exact ⟨v,hv hlt,hslot hs⟩
    .obtain ⟨v',q1,q2⟩:=hr i s hi';refine⟨v',(hget _ (by omega)).trans q1,?_⟩;cases q2 with|nil=>exact .nil|@bv am _ b q3 q4 q5=>exact .bv (q3.mono hs (hkeep j sz slots i b ho ⟨am,v',hi',(hown.cell _).trans q1,q3.cK⟩).1) q4 q5|dO q3=>exact .dO (q3.mono hs (sH.refl _ _))
  .exact .inl ⟨hj',fun hox=>⟨hother _ (h.jo j id c _ hj' ho hox rfl e1),((h.iv j c hj').2.bv hox).1⟩,fun sz' sl' eo k x hp=>by subst eo;exact hkeep j sz' sl' k x hj' hp⟩
 .intro i j a c ha hc hoa hoc hij;obtain⟨a',q1,q2⟩:=was i a ha hoa;obtain⟨c',q3,q4⟩:=was j c hc hoc;exact h.jo i j a' c' q1 q3 q2 q4 hij
 .intro j sz' sl' k x hj hp;obtain⟨si,q1,q2⟩:=hpat2 j sz' sl' k x hj hp;obtain⟨r1,r2⟩:=h.vV j sz' si k x q1 q2;refine⟨fun i c hi hc=>?_,fun i sz3 sl3 k' hi hpi=>?_⟩
  .obtain ⟨c',q3,q4⟩:=was i c hi hc;exact r1 i c' q3 q4
  .obtain ⟨sl4,q5,q6⟩:=hpat2 i sz3 sl3 k' x hi hpi;exact r2 i sz3 sl4 k' q5 q6
end
end Go.Ev
