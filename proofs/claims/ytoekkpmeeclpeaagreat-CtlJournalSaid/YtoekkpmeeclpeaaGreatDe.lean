/- Operations as they are carried out, compiled from the program. Conditions: none, these are definitions. -/
import Derived.Orders
import Derived.Scope
import Derived.Laws.CopyRow
open BitVec renaming ofInt->ba
open ByteArray renaming empty->pf
open Classical renaming choose->oc,choose_spec->gX
open List renaming length_replicate->bo,range->aK,replicate->ay
open Nat renaming beq->lR,blt->gL
open Option.some renaming injEq->fo
noncomputable section
namespace Go.Ev
def plain:Value->Bool
 |.bool _|.int _ _|.float _ _|.string _|.pointer none|.slice none 0 0|.map none|.nilFunc|.nilIface=>true
 |_=>false
def gI{α:Type}:List (Nat×α)->Nat->Option α
 |[],_=>none
 |(a,x)::r,k=>bif a==k then some x else gI r k
inductive Kd where
 |b
 |i (k:IntKind)
 |s
 deriving Inhabited,DecidableEq
inductive K where
 |mv
 |pick
 |alloc (zero:List Value)
 |box
 |build (zero:List Value) (places:List (Nat×Nat))
 |buildSlice (sz len:Nat) (zero:List Value) (places:List Nat)
 |load (agg:Bool) (n:Nat)
 |store (n:Nat)
 |nilCheck
 |G8 (op:BinOp)
 |Eg (neg:Bool)
 |Jn (kind:Nat) (neg:Bool)
 |FZ (neg:Bool) (ks:List Kd)
 |un (op:UnOp)
 |C0 (k:IntKind)
 |MP (k:FloatKind)
 |AW
 |Uq (f:FuncId)
 |makeSlice (zero:List Value)
 |slice (str:Bool) (sz:Nat) (lo hi:Bool)
 |fieldAddr (off n:Nat)
 |field (agg:Bool) (off n:Nat)
 |indexAddr (bz:Option Nat) (sz:Nat)
 |AL
 |index (agg:Bool) (len sz:Nat)
 |extract (i:Nat)
 |len (str:Bool)
 |Bw (isMax:Bool)
 |append (sz:Nat) (wd:Bool)
 |copy (sz:Nat)
 |clear (zero:List Value)
 |Xe (sz:Nat)
 |afy
 |apm (zero:List Value)
 |ovl
 |call (ro:Bool) (yv:List Bool)
 |makeMap (ka va:Bool)
 |lookup (ka:Bool) (ks:List Kd) (va:Bool) (zero:List Value) (ok:Bool)
 |mapEntry (ka:Bool) (ks:List Kd) (va:Bool) (zero:List Value)
 |entryStore (va:Bool) (m:Nat)
 |Q8 (szi:Nat)
 |IX
 |KW (ka:Bool) (ks:List Kd) (va:Bool) (n:Nat)
 |KX (ka:Bool) (ks:List Kd)
 |Yk (sz len:Nat) (zero:List Value) (places:List Nat)
 |ixB (sz:Nat)
 |KZ
 |fB
 deriving Inhabited
structure CK where
 dst:Option Nat
 k:K
 args:List Operand
 guard:Option (Nat×Bool)
 deriving Inhabited
def iP{α:Type}(l:List α)(off:Nat)(p:List α):List α:=l.take off++p++l.drop (off+p.length)
inductive oD where
 |normal
 |exit (id:Nat)
 |ret
 deriving Inhabited,DecidableEq
def uv(op:BinOp):Value->Value->Option Value
 |.int k a,.int k' b=>
  match op with
  |.shl=>if b<0 then none else some (.int k (k.wrap (a*2^(min b.toNat k.bits))))
  |.shr=>if b<0 then none else some (.int k (a.fdiv (2^(min b.toNat k.bits))))
  |op=>if k=k' then
   (match op with
   |.add=>some (.int k (k.wrap (a+b)))
   |.sub=>some (.int k (k.wrap (a-b)))
   |.mul=>some (.int k (k.wrap (a*b)))
   |.quo=>if b=0 then none else some (.int k (k.wrap (a.tdiv b)))
   |.rem=>if b=0 then none else some (.int k (a.tmod b))
   |.and=>some (.int k (k.wrap (ba k.bits a&&&ba k.bits b).toNat))
   |.or=>some (.int k (k.wrap (ba k.bits a|||ba k.bits b).toNat))
   |.xor=>some (.int k (k.wrap (ba k.bits a^^^ba k.bits b).toNat))
   |.andNot=>some (.int k (k.wrap (ba k.bits a&&&~~~ba k.bits b).toNat))
   |.eql=>some (.bool (a==b))
   |.neq=>some (.bool (a !=b))
   |.lss=>some (.bool (a<b))
   |.leq=>some (.bool (a<=b))
   |.gtr=>some (.bool (a>b))
   |.geq=>some (.bool (a>=b))
   |_=>none)else none
 |.float k a,.float k' b=>
  if k=k' then
   match op with|.add=>(k.format.add a b).map (.float k)|.sub=>(k.format.sub a b).map (.float k)|.mul=>(k.format.mul a b).map (.float k)|.quo=>(k.format.div a b).map (.float k)|.eql=>some (.bool (k.format.order a b==some .eq))|.neq=>some (.bool (k.format.order a b !=some .eq))|.lss=>some (.bool (k.format.order a b==some .lt))|.leq=>some (.bool (k.format.order a b==some .lt||k.format.order a b==some .eq))|.gtr=>some (.bool (k.format.order a b==some .gt))|.geq=>some (.bool (k.format.order a b==some .gt||k.format.order a b==some .eq))|_=>none
  else none
 |.string x,.string y=>match op with|.add=>if((x.size+y.size:Nat):Int)>IntKind.i64.max then none else some (.string (x++y))|.eql=>some (.bool (x.toList==y.toList))|.neq=>some (.bool !(x.toList==y.toList))|.lss=>some (.bool (Op.bytesLess x.toList y.toList))|.leq=>some (.bool (Op.bytesLess x.toList y.toList||x.toList==y.toList))|.gtr=>some (.bool !(Op.bytesLess x.toList y.toList||x.toList==y.toList))|.geq=>some (.bool !(Op.bytesLess x.toList y.toList))|_=>none
 |_,_=>none
def zn(k:FloatKind):Nat:=match k with|.f32=>0x7fc00000|.f64=>0x7ff8000000000001
def Oc(op:BinOp):Value->Value->Option Value
 |.float k a,.float k' b=>
  if k=k' then
   match op with|.add=>if k.format.add a b=none then some (.float k (zn k))else none|.sub=>if k.format.sub a b=none then some (.float k (zn k))else none|.mul=>if k.format.mul a b=none then some (.float k (zn k))else none|.quo=>if k.format.div a b=none then some (.float k (zn k))else none|_=>none
  else none
 |_,_=>none
def vh(op:BinOp)(x y:Value):Option Value:=match uv op x y with|some v=>some v|none=>Oc op x y
def YO(op:UnOp):Value->Option Value
 |.bool b=>match op with|.not=>some (.bool !b)|_=>none
 |.int k n=>match op with|.neg=>some (.int k (k.wrap (0-n)))|.xor=>some (.int k (k.wrap (ba k.bits (if k.signed then-1 else k.max)^^^ba k.bits n).toNat))|_=>none
 |.float k b=>match op with|.neg=>some (.float k (Op.negFloat k b))|_=>none
 |_=>none
def Pg:Kd->Value->Value->Option Bool
 |.i q,.int k a,.int k' b=>if k=q/\k'=q then some (a==b)else none
 |.b,.bool a,.bool b=>some (a==b)
 |.s,.string a,.string b=>some (a==b)
 |_,_,_=>none
def mJ:List Kd->List Value->List Value->Option Bool
 |[],[],[]=>some true
 |k::ks,x::xs,y::ys=>match Pg k x y,mJ ks xs ys with|some a,some b=>some (a&&b)|_,_=>none
 |_,_,_=>none
def Ow:Kd->Value->Bool
 |.i q,.int k _=>decide (k=q)
 |.b,.bool _=>true
 |.s,.string _=>true
 |_,_=>false
def I4:List Kd->List Value->Bool
 |[],[]=>true
 |k::ks,x::xs=>Ow k x&&I4 ks xs
 |_,_=>false
def xY(a b:List Nat×List Nat):Bool:=a.2.all (fun i=>!b.1.contains i&&!b.2.contains i)&&b.2.all (fun i=>!a.1.contains i)
def Co:Nat:=1000000
def dK(P:Program)(t:TypeId):Option Nat:=(P.info? t).map (·.size)
def eS(P:Program)(t:TypeId):Option Bool:=(P.underlying t).map fun|.struct _|.array _ _=>true|_=>false
def gY(P:Program)(t:TypeId):Option (List Value):=match(P.info? t).bind (·.zero)with|some z=>if z.cells.toList.all plain then some z.cells.toList else none|none=>none
abbrev C5:=FuncId->Bool×List Bool
def kW(P:Program)(fields:Array Field):List Nat->Option (List (Nat×Nat))
 |[]=>some []
 |i::r=>
  match fields[i]?,kW P fields r with
  |some f,some l=>match dK P f.type with|some n=>some ((f.offset,n)::l)|none=>none
  |_,_=>none
def oM:Nat->Value
 |0=>.slice none 0 0
 |1=>.pointer none
 |_=>.nilFunc
def xH:Nat->Operand->Bool
 |0,.const (.slice none 0 0)|1,.const (.pointer none)|2,.const .nilFunc=>true
 |_,_=>false
def WZ(P:Program)(g:TypeId->Option (List Kd)):List Field->Nat->Option (List Kd)
 |[],_=>some []
 |f::r,o=>
  if f.offset=o/\f.name≠ "_" then
   match g f.type with|some ks=>if dK P f.type=some ks.length then(match WZ P g r (o+ks.length)with|some l=>some (ks++l)|none=>none)else none|none=>none
  else none
def CM(P:Program):Nat->TypeId->Option (List Kd)
 |0,_=>none
 |d+1,t=>
  match P.underlying t with
  |some .bool=>if dK P t=some 1 then some [.b]else none
  |some (.int q)=>if dK P t=some 1 then some [.i q]else none
  |some .string=>if dK P t=some 1 then some [.s]else none
  |some (.array n e)=>match CM P d e with|some ks=>if dK P e=some ks.length/\dK P t=some (n*ks.length)then some (ay n ks).flatten else none|none=>none
  |some (.struct fs)=>match WZ P (CM P d) fs.toList 0 with|some ks=>if P.stoodInHeld t=false/\dK P t=some ks.length then some ks else none|none=>none
  |_=>none
def C7(P:Program)(t:TypeId):Option Bool:=((P.info? t).bind (·.zero)).map fun|.agg _=>true|_=>false
def B9(P:Program)(k e:TypeId):Option (Bool×List Kd×Bool×List Value):=match eS P k,CM P 8 k,eS P e,gY P e with|some ka,some ks,some va,some z=>if C7 P e=some va then some (ka,ks,va,z)else none|_,_,_,_=>none
def o9(kind:Nat)(neg:Bool)(x y:Operand):K×List Operand:=if xH kind y then(.Jn kind neg,[x])else if xH kind x then(.Jn kind neg,[y])else(.fB,[])
def wK(P:Program)(op:BinOp)(t:TypeId)(x y:Operand):K×List Operand:=
 match op with
 |.eql|.neq=>
  match P.underlying t with
  |some .bool=>(.Eg (op==.neq),[x,y])
  |some (.int _)|some (.float _)|some .string=>(.G8 op,[x,y])
  |some (.slice _)=>o9 0 (op==.neq) x y
  |some (.pointer _)=>o9 1 (op==.neq) x y
  |some (.func _ _ _)=>o9 2 (op==.neq) x y
  |some (.struct _)|some (.array _ _)=>match CM P 8 t with|some ks=>if P.eqGuardType P.depth t=false then(.FZ (op==.neq) ks,[x,y])else(.fB,[])|none=>(.fB,[])
  |_=>(.fB,[])
 |op=>(.G8 op,[x,y])
def yV(P:Program)(e:TypeId):Bool:=match P.info? e with|some i=>decide (i.bytes<=8)|none=>false
def qA(P:Program)(e:TypeId):Bool:=match P.info? e with|some i=>decide (0<i.bytes)&&decide (i.bytes<=16384)|none=>false
def ptE(P:Program)(e:TypeId):Bool:=match P.underlying e with|some (.struct fs)=>fs.any fun f=>(match P.underlying f.type with|some (.pointer _)=>true|_=>false)|_=>false
def j6(P:Program)(b:Builtin)(args:List Operand)(ts:List TypeId):K×List Operand:=
 match b,ts with
 |.len,[t]=>match P.underlying t with|some .string=>(.len true,args)|some (.slice _)=>(.len false,args)|some (.map _ _)=>(.KZ,args)|_=>(.fB,[])
 |.max,_=>(.Bw true,args)
 |.min,_=>(.Bw false,args)
 |.append,[s,x]=>
  match P.underlying s,P.underlying x with
  |some (.slice e),some (.slice _)=>match dK P e,gY P e with|some (n+1),some z=>if qA P e=true/\z.length=n+1 then(.append (n+1) (yV P e),args)else(.fB,[])|_,_=>(.fB,[])
  |some (.slice e),some (.int _)=>match dK P e,gY P e with|some (n+1),some z=>if qA P e=true/\z.length=n+1 then(.apm z,args)else(.fB,[])|_,_=>(.fB,[])
  |_,_=>(.fB,[])
 |.cap,[t]=>match P.underlying t with|some (.slice _)=>(.afy,args)|_=>(.fB,[])
 |.copy,[d,_]=>
  match P.underlying d with
  |some (.slice e)=>match dK P e with|some (n+1)=>(.copy (n+1),args)|_=>(.fB,[])
  |_=>(.fB,[])
 |.delete,[m,_]=>
  match P.underlying m with
  |some (.map kt e)=>match B9 P kt e with|some (ka,ks,_,_)=>(.KX ka ks,args)|none=>(.fB,[])
  |_=>(.fB,[])
 |.clear,[s]=>
  match P.underlying s with
  |some (.slice e)=>match dK P e,gY P e with|some (n+1),some z=>if z.length=n+1 then(.clear z,args)else(.fB,[])|_,_=>(.fB,[])
  |_=>(.fB,[])
 |_,_=>(.fB,[])
def abX(P:Program)(f:FuncId):Bool:=
 match P.funcs[f]?with
 |some fn=>
  !(fn.name== "runtime.NumGoroutine")&&fn.body.isNone&&(Extern.findNext fn).isNone&&(Extern.allGenericRows.lookup fn.name).isNone&&(Extern.allTypedRows.lookup fn.name).isNone&&(Extern.allRows.lookup fn.name).isNone&&fn.origin== "slices.overlaps" &&
  (match fn.params.toList with
   |t::_=>(match P.underlying t with|some (.slice e)=>(match dK P e with|some (_+1)=>true|_=>false)|_=>false)
   |[]=>false)
 |none=>false
def DZ:List Value->Bool
 |[.slice none 0 0]=>true
 |_=>false
def Wh(P:Program)(aS:C5)(e:TypeId)(z:List Value):Option Nat:=if(aS 1000000000).1=true/\DZ z=true then(match P.underlying e with|some (.slice ee)=>(match dK P ee with|some (m+1)=>some (m+1)|_=>none)|_=>none)else none
def K0(P:Program)(t:TypeId):Bool:=match P.underlying t with|some (.slice _)=>true|_=>false
def yT(P:Program)(aS:C5):Op->K×List Operand
 |.move x|.assign x=>(.mv,[x])
 |.pick c a b=>(.pick,[c,a,b])
 |.alloc e=>match gY P e with|some z=>(.alloc z,[])|none=>(.fB,[])
 |.box _ x=>(.box,[x])
 |.build t parts=>
  match P.underlying t,gY P t with
  |some (.struct fields),some z=>match kW P fields (parts.toList.map (·.1))with|some pl=>if fields.toList.all (fun f=>(dK P f.type).isSome)then(.build z pl,parts.toList.map (·.2))else(.fB,[])|none=>(.fB,[])
  |some (.array _ e),some z=>match dK P e with|some n=>(.build z (parts.toList.map fun p=>(p.1*n,n)),parts.toList.map (·.2))|none=>(.fB,[])
  |_,_=>(.fB,[])
 |.buildSlice t len parts=>
  match P.underlying t with
  |some (.slice e)=>match dK P e,gY P e with|some (n+1),some z=>if len*(n+1)<=4096/\z.length=n+1/\ptE P e=true then(.Yk (n+1) len ((aK (len*(n+1))).map fun i=>z.getD (i %(n+1)) undef) (parts.toList.map (·.1)),parts.toList.map (·.2))else if len*(n+1)<=4096/\z.length=n+1 then(.buildSlice (n+1) len ((aK (len*(n+1))).map fun i=>z.getD (i %(n+1)) undef) (parts.toList.map (·.1)),parts.toList.map (·.2))else(.fB,[])|_,_=>(.fB,[])
  |_=>(.fB,[])
 |.load t a=>match eS P t,dK P t with|some g,some n=>(if(aS 1000000000).1=true/\K0 P t=true/\g=false/\n=1 then .IX else .load g n,[a])|_,_=>(.fB,[])
 |.store t a x=>match dK P t with|some n=>(.store n,[a,x])|none=>(.fB,[])
 |.nilCheck x=>(.nilCheck,[x])
 |.binOp op t x y _=>wK P op t x y
 |.unOp op _ x=>(.un op,[x])
 |.convert s d x=>match P.underlying s,P.underlying d with|some (.int _),some (.int k)=>(.C0 k,[x])|some (.int _),some (.float k)=>(.MP k,[x])|some .string,some .string=>(.AW,[x])|_,_=>(.fB,[])
 |.makeFunc (.func f) first captured=>if first.isEmpty then(.Uq f,captured.toList)else(.fB,[])
 |.makeSlice t l c=>
  match P.underlying t with
  |some (.slice e)=>match dK P e,gY P e with|some (n+1),some z=>if z.length=n+1/\qA P e=true then(match Wh P aS e z with|some m=>.Q8 m|none=>.makeSlice z,[l,c])else(.fB,[])|_,_=>(.fB,[])
  |_=>(.fB,[])
 |.slice t x lo hi none=>
  match P.underlying t with
  |some .string=>(.slice true 1 lo.isSome hi.isSome,x::lo.toList++hi.toList)
  |some (.slice e)=>match dK P e with|some n=>(.slice false n lo.isSome hi.isSome,x::lo.toList++hi.toList)|none=>(.fB,[])
  |_=>(.fB,[])
 |.slice t x (some l) (some u) (some m)=>
  match P.underlying t with
  |some (.slice e)=>match dK P e with|some n=>(.Xe n,[x,l,u,m])|none=>(.fB,[])
  |_=>(.fB,[])
 |.fieldAddr s x f=>
  match P.underlying s with
  |some (.struct fields)=>match fields[f]?with|some fl=>(match dK P fl.type with|some (m+1)=>(.fieldAddr fl.offset (m+1),[x])|_=>(.fB,[]))|none=>(.fB,[])
  |_=>(.fB,[])
 |.field s x f=>
  match P.underlying s with
  |some (.struct fields)=>match fields[f]?with|some fl=>(match eS P fl.type,dK P fl.type with|some g,some n=>(.field g fl.offset n,[x])|_,_=>(.fB,[]))|none=>(.fB,[])
  |_=>(.fB,[])
 |.indexAddr t x i=>
  match P.underlying t with
  |some (.slice e)=>match dK P e with|some n=>if ptE P e=true then(.ixB n,[x,i])else(.indexAddr none n,[x,i])|none=>(.fB,[])
  |some (.array len e)=>match dK P e with|some n=>(.indexAddr (some len) n,[x,i])|none=>(.fB,[])
  |_=>(.fB,[])
 |.index t x i=>
  match P.underlying t with
  |some .string=>(.AL,[x,i])
  |some (.array len e)=>match eS P e,dK P e with|some g,some n=>(.index g len n,[x,i])|_,_=>(.fB,[])
  |_=>(.fB,[])
 |.extract x i=>(.extract i,[x])
 |.makeMap t none=>
  match P.underlying t with
  |some (.map k e)=>match eS P k,eS P e with|some ka,some va=>(.makeMap ka va,[])|_,_=>(.fB,[])
  |_=>(.fB,[])
 |.lookup t x ix ok=>
  match P.underlying t with
  |some (.map k e)=>match B9 P k e with|some (ka,ks,va,z)=>(.lookup ka ks va z ok,[x,ix])|none=>(.fB,[])
  |_=>(.fB,[])
 |.mapEntry t m k=>
  match P.underlying t with
  |some (.map kt e)=>match B9 P kt e with|some (ka,ks,va,z)=>(.mapEntry ka ks va z,[m,k])|none=>(.fB,[])
  |_=>(.fB,[])
 |.mapUpdate t m k x=>
  match P.underlying t with
  |some (.map kt e)=>match B9 P kt e with|some (ka,ks,va,z)=>(.KW ka ks va z.length,[m,k,x])|none=>(.fB,[])
  |_=>(.fB,[])
 |.entryStore t m s x=>
  match P.underlying t with
  |some (.map kt e)=>match B9 P kt e with|some (_,_,va,z)=>(.entryStore va z.length,[m,s,x])|none=>(.fB,[])
  |_=>(.fB,[])
 |.call c=>match c.callee with|.builtin b=>j6 P b c.args.toList c.argTypes.toList|.value (.func f)=>if(aS f).2.length=9 then(if abX P f=true then(.ovl,c.args.toList)else(.fB,[]))else(.call (aS f).1 (aS f).2,.func f::c.args.toList)|.value f=>(.call false [],f::c.args.toList)|.invoke _ _=>(.fB,[])
 |_=>(.fB,[])
def b9(P:Program)(aS:C5)(nt:Nat)(all:Array Oper)(o:Oper):CK:=
 {dst:=o.dst
  k:=if(match o.dst with|some d=>decide (d<nt)|none=>true)then(yT P aS o.op).1 else .fB
  args:=(yT P aS o.op).2
  guard:=match o.guard with|none=>none|some (j,b)=>some (((all[j]?).bind (·.dst)).getD 1000000000,b)}
def Cz:K->Nat
 |.mv|.pick|.build _ _|.nilCheck|.G8 _|.Eg _|.Jn _ _|.FZ _ _|.un _|.C0 _|.MP _|.AW|.Uq _|.fieldAddr _ _|.field _ _ _
 |.indexAddr _ _|.ixB _|.AL|.index _ _ _|.extract _|.len _|.Bw _|.fB=>0
 |.load _ _|.lookup _ _ _ _ _|.slice _ _ _ _|.KZ=>1
 |_=>2
def tY(acc:List Nat):List Edge->Nat
 |[]=>0
 |e::r=>if Region.binds .any e then(tY acc r)|||2^e.on|||acc.getD e.on 0 else tY acc r
def SO:List Oper->List Nat->List Nat
 |[],acc=>acc
 |o::r,acc=>SO r (acc++[tY acc o.after.toList])
def B3(m:List Nat):List Oper->Nat->Bool
 |[],_=>true
 |o::r,i=>m.getD i 0==tY m o.after.toList&&o.after.toList.all (fun e=>!(Region.binds .any e)||decide (e.on<i))&&B3 m r (i+1)
def fR(m:List Nat)(i j:Nat):Bool:=(m.getD j 0).testBit i
def opT:Operand->Option Nat
 |.tmp t=>some t
 |_=>none
def GM(o:CK):List Nat:=o.args.filterMap opT++(match o.guard with|some (t,_)=>[t]|none=>[])
def OE(d:Option Nat)(l:List Nat):Bool:=match d with|some d=>l.contains d|none=>false
def Eo(a b:CK):Bool:=OE a.dst (GM b)||OE b.dst (GM a)||OE a.dst b.dst.toList
def Af(m:List Nat)(i:Nat)(a:CK):List CK->Nat->Bool
 |[],_=>true
 |b::r,j=>(fR m i j||!Eo a b)&&Af m i a r (j+1)
def B1(m:List Nat):List CK->Nat->Bool
 |[],_=>true
 |a::r,i=>Af m i a r (i+1)&&B1 m r (i+1)
def Xj:Value->Value->Bool
 |.int k a,.int k' b=>decide (k=k')&&decide (a=b)
 |.bool a,.bool b=>decide (a=b)
 |.string a,.string b=>decide (a.toList=b.toList)
 |.float k a,.float k' b=>decide (k=k')&&decide (a=b)
 |.slice none 0 0,.slice none 0 0|.pointer none,.pointer none|.map none,.map none|.nilFunc,.nilFunc|.nilIface,.nilIface=>true
 |_,_=>false
def V1:List Value->List Value->Bool
 |[],[]=>true
 |x::xs,y::ys=>Xj x y&&V1 xs ys
 |_,_=>false
def HQ:K->K->Bool
 |.lookup ka ks va z false,.mapEntry ka' ks' va' z'=>decide (ka=ka')&&decide (ks=ks')&&decide (va=va')&&V1 z z'
 |_,_=>false
def BJ(m:List Nat)(i:Nat)(a:CK):List CK->Nat->List (Nat×Nat)
 |[],_=>[]
 |b::r,j=>if fR m i j||Cz b.k==0||Cz b.k+Cz a.k<=2 then BJ m i a r (j+1)else(i,if HQ a.k b.k then 1000+j else j)::BJ m i a r (j+1)
def wG(m:List Nat):List CK->Nat->List (Nat×Nat)
 |[],_=>[]
 |a::r,i=>(if Cz a.k==0 then[]else BJ m i a r (i+1))++wG m r (i+1)
inductive Sl(α:Type)where
 |nil
 |mk (l:List α)
 deriving Inhabited,DecidableEq
def Sl.l{α:Type}:Sl α->List α
 |.nil=>[]
 |.mk l=>l
def Sl.od{α:Type}:Sl α->Bool
 |.nil=>true
 |.mk _=>false
abbrev wr(k:IntKind)(n:Int):Int:=k.wrap n
def og(k:IntKind)(a b:Int):Int:=k.wrap (ba k.bits a&&&ba k.bits b).toNat
def WD:{f:IntKind->Int->Int->Int//f=og}:=Classical.choice ⟨⟨_,rfl⟩⟩
def qO(k:IntKind)(a b:Int):Int:=WD.1 k a b
theorem o_:qO=og:=funext fun k=>funext fun a=>funext fun b=>congrFun (congrFun (congrFun WD.2 k) a) b
def Fe(k:IntKind)(a b:Int):Int:=k.wrap (ba k.bits a|||ba k.bits b).toNat
def Yn:{f:IntKind->Int->Int->Int//f=Fe}:=Classical.choice ⟨⟨_,rfl⟩⟩
def A9(k:IntKind)(a b:Int):Int:=Yn.1 k a b
theorem xW:A9=Fe:=funext fun k=>funext fun a=>funext fun b=>congrFun (congrFun (congrFun Yn.2 k) a) b
def WC(k:IntKind)(a b:Int):Int:=k.wrap (ba k.bits a^^^ba k.bits b).toNat
def WB:{f:IntKind->Int->Int->Int//f=WC}:=Classical.choice ⟨⟨_,rfl⟩⟩
def Ym(k:IntKind)(a b:Int):Int:=WB.1 k a b
theorem VD:Ym=WC:=funext fun k=>funext fun a=>funext fun b=>congrFun (congrFun (congrFun WB.2 k) a) b
def mn(k:IntKind)(a b:Int):Int:=k.wrap (ba k.bits a&&&~~~ba k.bits b).toNat
def Ez:{f:IntKind->Int->Int->Int//f=mn}:=Classical.choice ⟨⟨_,rfl⟩⟩
def gC(k:IntKind)(a b:Int):Int:=Ez.1 k a b
theorem kB:gC=mn:=funext fun k=>funext fun a=>funext fun b=>congrFun (congrFun (congrFun Ez.2 k) a) b
def afA(k:IntKind)(a:Int):Int:=k.wrap (ba k.bits (if k.signed then-1 else k.max)^^^ba k.bits a).toNat
def te(k:IntKind)(a b:Int):Int:=k.wrap (a*2^(min b.toNat k.bits))
def oT(k:IntKind)(a b:Int):Int:=a.fdiv (2^(min b.toNat k.bits))
def X3(k:IntKind)(a b:Int):Option Int:=if b=0 then none else some (k.wrap (a.tdiv b))
def Qo(_:IntKind)(a b:Int):Option Int:=if b=0 then none else some (a.tmod b)
def zd(k:IntKind)(a b:Int):Option Int:=if b<0 then none else some (te k a b)
def yt(k:IntKind)(a b:Int):Option Int:=if b<0 then none else some (oT k a b)
def Ye(a b:ByteArray):Option ByteArray:=if((a.size+b.size:Nat):Int)>IntKind.i64.max then none else some (a++b)
def atS(s:ByteArray)(i:Int):Option Int:=if 0<=i then s[i.toNat]?.map fun b=>(b.toNat:Int)else none
def Df(s:ByteArray)(lo hi:Int):Option ByteArray:=if 0<=lo/\lo<=hi/\hi<=s.size then some (s.extract lo.toNat hi.toNat)else none
def zQ{α:Type}(z:α)(l c:Int):Option (List α):=if 0<=l/\l<=c/\c<=2147483648 then some (ay l.toNat z)else none
def Sl.to{α:Type}(s:Sl α)(r:List α):Sl α:=match s with|.nil=>.nil|.mk _=>.mk r
def cH(i:Int)(n:Nat):Option Nat:=if 0<=i/\i<n then some i.toNat else none
theorem nq{i:Int}{n m:Nat}:cH i n=some m<->i=m/\m<n:=by
 unfold cH;split
 .simp only[fo];omega
 .simp only[reduceCtorEq,false_iff];omega
theorem bV{i n:Nat}(h:i<n):cH (i:Int) n=some i:=nq.2 ⟨rfl,h⟩
def gt{α:Type}[Inhabited α](l:List α)(n:Nat):α:=l.getD n default
theorem RE{α:Type}[Inhabited α]{l:List α}{n:Nat}(h:n<l.length):l[n]?=some (gt l n):=by simp[gt,List.getD,h]
theorem dc{α:Type}[Inhabited α]{l:List α}{n:Nat}(h:n<l.length):gt l n=l[n]:=by simp[gt,List.getD,h]
def g_{α:Type}(l:List α):Option (List α):=if l.length<=2147483648 then some l else none
theorem vQ{α:Type}{l m:List α}:g_ l=some m<->l=m/\l.length<=2147483648:=by
 unfold g_;split
 .simp_all
 .rename_i hl;simp only[reduceCtorEq,false_iff,not_and];rintro rfl;omega
theorem nX{α:Type}{l:List α}(h:l.length<=2147483648):g_ l=some l:=vQ.2 ⟨rfl,h⟩
def Vq{α:Type}(l:List α):Option (List α):=if l.length<=17592186044416 then some l else none
theorem BR{α:Type}{l m:List α}:Vq l=some m<->l=m/\l.length<=17592186044416:=by
 unfold Vq;split
 .simp_all
 .rename_i hl;simp only[reduceCtorEq,false_iff,not_and];rintro rfl;omega
def ou{α:Type}(l:List α)(lo hi:Int):Option (List α):=if 0<=lo/\lo<=hi/\hi<=l.length then some ((l.drop lo.toNat).take (hi.toNat-lo.toNat))else none
theorem uh{α β:Type}{x:Option α}{f:α->Option β}{r:β}(h:x.bind f=some r):∃a,x=some a/\f a=some r:=Option.bind_eq_some_iff.1 h
section
variable{α:Type}{l:List α}{κ ν:Type}
theorem vM{l r:List α}{lo hi:Int}:ou l lo hi=some r<->(0<=lo/\lo<=hi/\hi<=l.length)/\(l.drop lo.toNat).take (hi.toNat-lo.toNat)=r:=by
 unfold ou;split
 .rename_i h;simp[h]
 .rename_i h;simp[h]
def CI(l:List α)(off n:Nat)(x:List α):List α:=iP l off (x.take n)
def I2(a b:List α):Option Unit:=if a.length=b.length then some ()else none
theorem FQ{a b:List α}{u:Unit}:I2 a b=some u<->a.length=b.length:=by unfold I2;split<;>simp_all
end
structure Mp(K V:Type)where
 es:List (K×V×Nat)
 ce:Nat
def Mp.none{K V:Type}:Mp K V:=⟨[],0⟩
instance{K V:Type}:Inhabited (Mp K V):=⟨.none⟩
section
variable{κ ν:Type}
def dA[DecidableEq κ](k:κ):List (κ×ν×Nat)->Nat->Option (Nat×κ×ν×Nat)
 |[],_=>none
 |e::r,i=>if k=e.1 then some (i,e)else dA k r (i+1)
def kF[DecidableEq κ](m:Mp κ ν)(z:ν)(k:κ):ν:=match dA k m.es 0 with|some (_,e)=>e.2.1|none=>z
def DN[DecidableEq κ](m:Mp κ ν)(k:κ):Bool:=(dA k m.es 0).isSome
def l_[DecidableEq κ](m:Mp κ ν)(z:ν)(k:κ):Mp κ ν×ν×Int:=match dA k m.es 0 with|some (_,e)=>(m,e.2.1,e.2.2)|none=>(⟨m.es++[(k,z,m.ce)],m.ce+1⟩,z,m.ce)
def nk:List (κ×ν×Nat)->Nat->ν->List (κ×ν×Nat)
 |[],_,_=>[]
 |e::r,0,v=>(e.1,v,e.2.2)::r
 |e::r,i+1,v=>e::nk r i v
def DM(m:Mp κ ν)(s:Int)(v:ν):Option (Mp κ ν):=(m.es.findIdx? (fun e=>decide ((e.2.2:Int)=s))).map fun i=>⟨nk m.es i v,m.ce⟩
def xA[DecidableEq κ](m:Mp κ ν)(k:κ)(v:ν):Mp κ ν:=match dA k m.es 0 with|some (i,_)=>⟨nk m.es i v,m.ce⟩|none=>⟨m.es++[(k,v,m.ce)],m.ce+1⟩
def tQ[DecidableEq κ](m:Mp κ ν)(k:κ):Mp κ ν:=match dA k m.es 0 with|some (i,_)=>⟨m.es.eraseIdx i,m.ce⟩|none=>m
theorem lr[DecidableEq κ]{k:κ}:∀{l:List (κ×ν×Nat)}{i j:Nat}{e:κ×ν×Nat},dA k l i=some (j,e)->i<=j/\l[j-i]?=some e/\e.1=k:=by
 intro l;induction l with
 |nil=>intro i j e h;simp[dA]at h
 |cons x l ih=>
  intro i j e h;simp only[dA]at h;split at h
  .rename_i hk;obtain⟨rfl,rfl⟩:i=j/\x=e:=by simpa using h
   exact⟨Nat.le_refl _,by simp,hk.symm⟩
  .obtain ⟨h1,h2,h3⟩:=ih h;have e1:j-i=(j-(i+1))+1:=by omega
   exact⟨by omega,by rw[e1];simpa using h2,h3⟩
end
def ol{α β:Type}(f:α->Option (α⊕β)):Nat->α->Option β
 |0,_=>none
 |n+1,a=>match f a with|some (.inl a')=>ol f n a'|some (.inr b)=>some b|none=>none
theorem B2{α β:Type}{f:α->Option (α⊕β)}:∀{n m:Nat}{a:α}{b:β},n<=m->ol f n a=some b->ol f m a=some b:=by
 intro n;induction n with
 |zero=>intro m a b _ h;simp[ol]at h
 |succ n ih=>
  intro m a b hm h;cases m with
  |zero=>omega
  |succ m=>
   simp only[ol]at h|-;split at h
   .exact ih (by omega) h
   .exact h
   .simp at h
open Classical in
def aU{α β:Type}(f:α->Option (α⊕β))(a:α):Option β:=if h:∃n b,ol f n a=some b then some (oc (gX h))else none
theorem sT{α β:Type}{f:α->Option (α⊕β)}{a:α}{b:β}:aU f a=some b<->∃n,ol f n a=some b:=by
 constructor
 .intro h;unfold aU at h;split at h
  .rename_i hx;refine⟨oc hx,?_⟩;rw[gX (gX hx)];exact h
  .simp at h
 .rintro ⟨n,hn⟩;have hx:∃n b,ol f n a=some b:=⟨n,b,hn⟩
  unfold aU;rw[dif_pos hx];have h2:=gX (gX hx);have h3:=B2 (Nat.le_max_left n (oc hx)) hn;have h4:=B2 (Nat.le_max_right n (oc hx)) h2;rw[h3]at h4;rw[<-h4]
theorem IV{α β:Type}(f:α->Option (α⊕β))(a:α):aU f a=match f a with
  |some (.inl a')=>aU f a'
  |some (.inr b)=>some b
  |none=>none:=by
 apply Option.ext;intro b;rw[sT];constructor
 .rintro ⟨n,hn⟩;cases n with
  |zero=>simp[ol]at hn
  |succ n=>
   simp only[ol]at hn;split at hn
   .exact sT.2 ⟨n,hn⟩
   .exact hn
   .simp at hn
 .intro h;split at h
  .rename_i a' ha;obtain⟨n,hn⟩:=sT.1 h;exact⟨n+1,by simp only[ol,ha];exact hn⟩
  .rename_i b' ha;exact⟨1,by simp only[ol,ha];exact h⟩
  .simp at h
theorem fA{α β:Type}{f:α->Option (α⊕β)}{a a':α}(h:f a=some (.inl a')):aU f a=aU f a':=by rw[IV,h]
theorem cQ{α β:Type}{f:α->Option (α⊕β)}{a:α}{b:β}(h:f a=some (.inr b)):aU f a=some b:=by rw[IV,h]
inductive Ty where
 |i (k:IntKind)
 |b
 |s
 |f (k:FloatKind)
 |sl (t:Ty)
 |mp (k v:Ty)
 |un
 |pr (a c:Ty)
 |st (t:Ty)
 |ar (n:Nat) (t:Ty)
 |o (k:Nat)
 deriving Inhabited,DecidableEq
def G4{α:Type}(wd:Bool)(t:Ty)(l:List α):Option (List α):=match wd,t with|true,.f _=>Vq l|_,_=>g_ l
theorem O1{α:Type}{wd:Bool}{t:Ty}{l m:List α}(h:G4 wd t l=some m):l=m/\(l.length<=2147483648\/(wd=true/\l.length<=17592186044416)):=by
 unfold G4 at h;split at h
 .exact ⟨(BR.1 h).1,.inr ⟨rfl,(BR.1 h).2⟩⟩
 .exact ⟨(vQ.1 h).1,.inl (vQ.1 h).2⟩
def Arr(n:Nat)(α:Type):Type:={l:List α//l.length=n}
def Arr.set{n:Nat}{α:Type}(v:Arr n α)(k:Nat)(x:α):Arr n α:=⟨v.1.set k x,by rw[List.length_set];exact v.2⟩
instance{n:Nat}{α:Type}[Inhabited α]:Inhabited (Arr n α):=⟨⟨ay n default,bo⟩⟩
instance{n:Nat}{α:Type}[DecidableEq α]:DecidableEq (Arr n α):=inferInstanceAs (DecidableEq {l:List α//l.length=n})
@[reducible] def El:Ty->Type
 |.i _=>Int
 |.b=>Bool
 |.s=>ByteArray
 |.f _=>Nat
 |.sl t=>Sl (El t)
 |.mp k v=>Mp (El k) (El v)
 |.un=>Unit
 |.pr a c=>El a×El c
 |.st t=>El t
 |.ar n t=>Arr n (El t)
 |.o _=>Unit
instance MN:(t:Ty)->Inhabited (El t)
 |.i _=>⟨(0:Int)⟩
 |.b=>⟨false⟩
 |.s=>⟨(default:ByteArray)⟩
 |.f _=>⟨(0:Nat)⟩
 |.sl _=>⟨Sl.nil⟩
 |.mp _ _=>⟨Mp.none⟩
 |.un=>⟨()⟩
 |.pr a c=>⟨((MN a).default,(MN c).default)⟩
 |.st t=>MN t
 |.ar n t=>⟨⟨ay n (MN t).default,bo⟩⟩
 |.o _=>⟨()⟩
def qK:(t:Ty)->El t
 |.i _=>(0:Int)
 |.b=>false
 |.s=>(pf)
 |.f _=>(0:Nat)
 |.sl _=>Sl.nil
 |.mp _ _=>Mp.none
 |.un=>()
 |.pr a c=>(qK a,qK c)
 |.st t=>qK t
 |.ar n t=>⟨ay n (qK t),bo⟩
 |.o _=>()
def dV(t u:Ty)(v:El t):Option (El u):=if h:t=u then some (h▸v)else none
def dh:Ty->Nat
 |.un=>0
 |.pr a c=>dh a+dh c
 |.st t=>dh t
 |.ar n t=>n*dh t
 |_=>1
def lq:Ty->Bool
 |.o _|.mp _ _=>false
 |.pr a c=>lq a&&lq c
 |.st t|.ar _ t|.sl t=>lq t
 |_=>true
def iN:Ty->Bool
 |.st _|.ar _ _=>true
 |_=>false
inductive Pe where
 |fd (i:Nat)
 |ix (n:Nat)
abbrev sK:=List Pe
inductive V where
 |x (t:Ty) (v:El t)
 |kb (c:Bool)
 |nl (k:Nat)
 |so (id:Nat)
 |sr (id:Nat)
 |sb (id ver lo:Nat) (t:Ty) (r:Sl (El t))
 |op (id:Nat) (t:Ty) (p:sK)
 |ep (id n:Nat) (t:Ty) (p:sK)
 |pt (t:Ty) (v:El t)
 |fn (z:Bool) (f:Nat) (caps:V)
 |om (id:Nat)
 |vs (id:Nat) (t:Ty)
 |rc (l:V)
 |tp (l:V)
 |ni
 |co (a r:V)
 |fl (l:List Value)
 |no
 |gn
inductive O where
 |ar (t:Ty) (s:Sl (El t)) (ver:Nat)
 |im (t:Ty) (s:Sl (El t)) (ver:Nat)
 |bx (t:Ty) (c:V)
 |ib (t:Ty) (v:El t)
 |mp (k v:Ty) (m:Mp (El k) (El v))
 |rw(t:Ty) (s:Sl (Sl (El t))) (ln:Option (Nat×Nat))
abbrev H2:=List (Nat×Option O)
def fO(h:H2)(id:Nat):Option O:=(gI h id).join
def BE:(t:Ty)->El t->Nat->Option V
 |.pr a _,v,0=>some (.x a v.1)
 |.pr _ c,v,n+1=>BE c v.2 n
 |t,v,0=>some (.x t v)
 |_,_,_=>none
def E_:Ty->Nat->Option Ty
 |.pr a _,0=>some a
 |.pr _ c,n+1=>E_ c n
 |t,0=>some t
 |_,_=>none
def EL:Ty->Nat->Nat
 |.pr _ _,0=>0
 |.pr a c,n+1=>dh a+EL c n
 |_,_=>0
def PF:(t:Ty)->El t->V
 |.pr a c,v=>.co (.x a v.1) (PF c v.2)
 |t,v=>.co (.x t v) .ni
def acb(k:IntKind):List Value->Option (Int×List Value)
 |.int k' n::r=>if k'=k then some (n,r)else none
 |_=>none
def acd:List Value->Option (Bool×List Value)
 |.bool c::r=>some (c,r)
 |_=>none
def ab_:List Value->Option (ByteArray×List Value)
 |.string c::r=>some (c,r)
 |_=>none
def Ws(k:FloatKind):List Value->Option (Nat×List Value)
 |.float k' n::r=>if k'=k then some (n,r)else none
 |_=>none
def aca{α:Type}:List Value->Option (Sl α×List Value)
 |.slice none 0 0::r=>some (Sl.nil,r)
 |_=>none
def Sa{α:Type}(f:List Value->Option (α×List Value)):(m:Nat)->List Value->Option (Arr m α×List Value)
 |0,l=>some (⟨[],rfl⟩,l)
 |m+1,l=>match f l with|some (x,l)=>(match Sa f m l with|some (v,l)=>some (⟨x::v.1,by rw[List.length_cons,v.2]⟩,l)|none=>none)|none=>none
def AS:(t:Ty)->List Value->Option (El t×List Value)
 |.i k=>acb k
 |.b=>acd
 |.s=>ab_
 |.f k=>Ws k
 |.sl _=>aca
 |.pr a c=>fun l=>match AS a l with|some (x,l)=>(match AS c l with|some (y,l)=>some ((x,y),l)|none=>none)|none=>none
 |.st t=>AS t
 |.ar n t=>Sa (AS t) n
 |.mp _ _|.un|.o _=>fun _=>none
def qy(u:Ty):V->Option (El u)
 |.x t v=>dV t u v
 |.kb c=>dV .b u c
 |.nl 0=>(match u with|.sl _=>some Sl.nil|_=>none)
 |.fl l=>bif iN u then(match AS u l with|some (x,[])=>some x|_=>none)else none
 |_=>none
def P5:(t:Ty)->El t->Nat->V->Option (El t)
 |.pr a _,v,0,w=>match qy a w with|some y=>some (y,v.2)|none=>none
 |.pr _ c,v,n+1,w=>match P5 c v.2 n w with|some y=>some (v.1,y)|none=>none
 |t,_,0,w=>qy t w
 |_,_,_,_=>none
def xz:V->Nat->Option V
 |.co a _,0=>some a
 |.co _ r,n+1=>xz r n
 |_,_=>none
def Gs:V->Nat->V->V
 |.co _ r,0,w=>.co w r
 |.co a r,n+1,w=>.co a (Gs r n w)
 |l,_,_=>l
def ul:V->sK->Option V
 |v,[]=>some v
 |.x (.st t) v,.fd i::p=>match BE t v i with|some w=>ul w p|none=>none
 |.x (.ar _ t) v,.ix k::p=>ul (.x t (gt v.1 k)) p
 |.rc l,.fd i::p=>match xz l i with|some w=>ul w p|none=>none
 |_,_=>none
def qM:V->sK->V->Option V
 |_,[],w=>some w
 |.x (.st t) v,.fd i::p,w=>
  match BE t v i with
  |some y=>match qM y p w with|some y'=>(match P5 t v i y' with|some v'=>some (.x (.st t) v')|none=>some (.rc (Gs (PF t v) i y')))|none=>none
  |none=>none
 |.x (.ar n t) v,.ix k::p,w=>match qM (.x t (gt v.1 k)) p w with|some y=>(match qy t y with|some y'=>some (.x (.ar n t) (v.set k y'))|none=>none)|none=>none
 |.rc l,.fd i::p,w=>match xz l i with|some y=>(match qM y p w with|some y'=>some (.rc (Gs l i y'))|none=>none)|none=>none
 |_,_,_=>none
def yY:Ty->sK->Option Ty
 |t,[]=>some t
 |.st t,.fd i::p=>match E_ t i with|some u=>yY u p|none=>none
 |.ar _ t,.ix _::p=>yY t p
 |_,_=>none
def wZ:Ty->sK->Nat
 |.st t,.fd i::p=>EL t i+(match E_ t i with|some u=>wZ u p|none=>0)
 |.ar _ t,.ix k::p=>k*dh t+wZ t p
 |_,_=>0
def N_:Ty->sK->Prop
 |.st t,.fd i::p=>∃u,E_ t i=some u/\N_ u p
 |.ar n t,.ix k::p=>k<n/\N_ t p
 |_,[]=>True
 |_,_=>False
def F_:Ty->V×V
 |.pr a c=>(.no,.co (F_ a).1 (F_ c).2)
 |.st t=>(bif lq t then .x (.st t) (qK t)else .rc (F_ t).2,.co (bif lq t then .x (.st t) (qK t)else .rc (F_ t).2) .ni)
 |.o k=>(.nl k,.co (.nl k) .ni)
 |.mp _ _=>(.nl 3,.co (.nl 3) .ni)
 |.sl t=>(bif lq t then .x (.sl t) Sl.nil else .nl 0,.co (bif lq t then .x (.sl t) Sl.nil else .nl 0) .ni)
 |.ar n t=>(bif lq t then .x (.ar n t) (qK (.ar n t))else .no,.co (bif lq t then .x (.ar n t) (qK (.ar n t))else .no) .ni)
 |.un=>(.x .un (),.co (.x .un ()) .ni)
 |.i k=>(.x (.i k) (0:Int),.co (.x (.i k) (0:Int)) .ni)
 |.b=>(.x .b false,.co (.x .b false) .ni)
 |.s=>(.x .s pf,.co (.x .s pf) .ni)
 |.f k=>(.x (.f k) (0:Nat),.co (.x (.f k) (0:Nat)) .ni)
abbrev LI(t:Ty):V:=(F_ t).1
def yn:V->Bool
 |.x t _=>iN t
 |.rc _|.fl _=>true
 |_=>false
deriving instance DecidableEq for Mp
instance Eh:(t:Ty)->DecidableEq (El t)
 |.i _=>inferInstanceAs (DecidableEq Int)
 |.b=>inferInstanceAs (DecidableEq Bool)
 |.s=>inferInstanceAs (DecidableEq ByteArray)
 |.f _=>inferInstanceAs (DecidableEq Nat)
 |.sl t=>@instDecidableEqSl (El t) (Eh t)
 |.mp k v=>@instDecidableEqMp (El k) (El v) (Eh k) (Eh v)
 |.un=>inferInstanceAs (DecidableEq Unit)
 |.pr a c=>@instDecidableEqProd (El a) (El c) (Eh a) (Eh c)
 |.st t=>Eh t
 |.ar n t=>@instDecidableEqArr n (El t) (Eh t)
 |.o _=>inferInstanceAs (DecidableEq Unit)
structure S2 where
 ii:List (Nat×V)
 heap:H2
 next:Nat
 wo:List Nat
 gh:V
structure OP where
 o:CK
 t:Ty
 fi:List Nat
def Hv:Ty->Nat
 |.pr _ c=>Hv c+1
 |_=>1
def nfT:Ty->Nat
 |.st u=>Hv u
 |_=>0
def J4(t:Ty):Nat->Ty
 |0=>t
 |n+1=>.pr t (J4 t n)
def JM:V->Bool
 |.pt t _=>lq t
 |.ni=>true
 |.co a r=>JM a&&JM r
 |_=>false
def pD(h:H2):V->Bool
 |.x t _=>lq t
 |.pt t _=>lq t
 |.kb _|.nl _=>true
 |.op id _ _|.ep id _ _ _|.om id|.vs id _=>(match fO h id with|some _=>true|none=>false)
 |.so id=>(match fO h id with|some (.ar _ _ _)|some (.im _ _ _)=>true|_=>false)
 |.sr id=>(match fO h id with|some (.rw _ _ _)=>true|_=>false)
 |.sb id ver _ t _=>lq t&&(match fO h id with|some (.ar _ _ v)|some (.im _ _ v)=>v==ver|_=>false)
 |.fn true _ l=>JM l
 |.fn false _ l=>pD h l
 |.rc l|.tp l=>pD h l
 |.fl l=>l.all plain
 |.ni=>true
 |.co a r=>pD h a&&pD h r
 |.no|.gn=>false
def YI:Value->Option V
 |.bool c=>some (.kb c)
 |.int k n=>some (.x (.i k) n)
 |.float k n=>some (.x (.f k) n)
 |.string s=>some (.x .s s)
 |.pointer none=>some (.nl 1)
 |.slice none 0 0=>some (.nl 0)
 |.nilFunc=>some (.nl 2)
 |.map none=>some (.nl 3)
 |.nilIface=>some (.nl 4)
 |.agg cs=>if cs.toList.all plain then some (.fl cs.toList)else none
 |_=>none
def UP:Nat->Option V:=fun _ => none
def N6(e:List (Nat×V))(h:H2):Operand->Option V
 |.tmp t=>match gI e t with|some v=>bif pD h v then some v else none|none=>none
 |.const c=>YI c
 |.global g=>(match UP g with|some v=>bif JM v then some v else none|none=>none)
 |.func f=>some (.fn true f .ni)
def Ft:V->Nat
 |.x t _=>dh t
 |.rc l=>Ft l
 |.co a r=>Ft a+Ft r
 |.ni=>0
 |.fl l=>l.length
 |_=>1
def YG:V->Nat->Nat
 |.co a r,n+1=>Ft a+YG r n
 |_,_=>0
def eP:List V->V
 |[]=>.ni
 |v::r=>.co v (eP r)
def iK:V->List V
 |.co a r=>a::iK r
 |_=>[]
def sc:V->Bool->(u:Ty)->Option (El u)
 |.rc l,false,.st u=>sc l true u
 |.co a r,true,.pr t u=>match sc a false t,sc r true u with|some x,some y=>some (x,y)|_,_=>none
 |.co a .ni,true,u=>sc a false u
 |.ni,_,_=>none
 |v,false,u=>qy u v
 |_,_,_=>none
abbrev us(u:Ty)(v:V):Option (El u):=sc v false u
def dJ:V->Bool->Ty->Bool
 |.x u _,false,t=>decide (u=t)
 |.rc l,false,.st t=>dJ l true t
 |.co a r,true,.pr t u=>dJ a false t&&dJ r true u
 |.co a .ni,true,t=>dJ a false t
 |.kb _,false,.b=>true
 |.nl 0,false,.sl _|.so _,false,.sl _|.sr _,false,.sl _|.sb _ _ _ _ _,false,.sl _=>true
 |.nl 3,false,.mp _ _|.om _,false,.mp _ _=>true
 |.nl _,false,.o _|.op _ _ _,false,.o _|.ep _ _ _ _,false,.o _|.pt _ _,false,.o _|.fn _ _ _,false,.o _=>true
 |_,_,_=>false
def J2(t:Ty)(v:V):Option V:=match(bif lq t then qy t v else none)with|some y=>some (.x t y)|none=>bif dJ v false t then some v else none
def HR(h:H2):V->Option ((t:Ty)×Sl (El t)×List Nat)
 |.x (.sl t) s=>some ⟨t,s,[]⟩
 |.so id=>(match fO h id with|some (.ar t s _)|some (.im t s _)=>some ⟨t,s,[id]⟩|_=>none)
 |.sb id _ _ t r=>some ⟨t,r,[id]⟩
 |_=>none
def S7(t:Ty)(h:H2):V->Option ((t:Ty)×Sl (El t)×List Nat)
 |.nl 0=>some ⟨t,Sl.nil,[]⟩
 |v=>HR h v
def uq(h:H2):V->Option (V×List Nat)
 |.so id=>match HR h (.so id)with|some ⟨t,s,l⟩=>some (.x (.sl t) s,l)|none=>none
 |.sr id=>match fO h id with|some (.rw t s none)=>some (.x (.sl (.sl t)) s,[id])|_=>none
 |.sb id ver lo t r=>match HR h (.sb id ver lo t r)with|some ⟨t,s,l⟩=>some (.x (.sl t) s,l)|none=>none
 |.rc l=>match uq h l with|some (w,l)=>some (.rc w,l)|none=>none
 |.co a r=>match uq h a,uq h r with|some (x,l),some (y,m)=>some (.co x y,l++m)|_,_=>none
 |.x t v=>some (.x t v,[])
 |.kb c=>some (.kb c,[])
 |.nl k=>some (.nl k,[])
 |.fl l=>some (.fl l,[])
 |.ni=>some (.ni,[])
 |.fn true f l=>some (.fn true f l,[])
 |.pt t v=>some (.pt t v,[])
 |_=>none
def mgV(c:Bool):V->V->Option V
 |.kb a,.kb b=>some (.x .b (bif c then a else b))
 |.x t a,w=>match us t w with|some b=>some (.x t (bif c then a else b))|none=>none
 |w,.x t b=>match us t w with|some a=>some (.x t (bif c then a else b))|none=>none
 |_,_=>none
def vEq:Value->Value->Bool
 |.bool a,.bool b=>a==b
 |.int k a,.int k' b=>decide (k=k')&&a==b
 |.float k a,.float k' b=>decide (k=k')&&a==b
 |.string a,.string b=>decide (a=b)
 |.pointer none,.pointer none|.slice none 0 0,.slice none 0 0|.nilFunc,.nilFunc|.map none,.map none|.nilIface,.nilIface=>true
 |_,_=>false
def ui:List Value->List Value->Bool
 |[],[]=>true
 |a::r,b::s=>vEq a b&&ui r s
 |_,_=>false
def ya:Ty->List Value
 |.i k=>[.int k 0]
 |.b=>[.bool false]
 |.s=>[.string pf]
 |.f k=>[.float k 0]
 |.sl _=>[.slice none 0 0]
 |.mp _ _=>[.map none]
 |.un=>[]
 |.pr a c=>ya a++ya c
 |.st t=>ya t
 |.ar n t=>(ay n (ya t)).flatten
 |.o k=>[match k with|0=>.slice none 0 0|1=>.pointer none|2=>.nilFunc|3=>.map none|_=>.nilIface]
def BA:Ty->Option (List Kd)
 |.i k=>some [.i k]
 |.b=>some [.b]
 |.s=>some [.s]
 |.pr a c=>match BA a,BA c with|some x,some y=>some (x++y)|_,_=>none
 |.st t=>BA t
 |.ar n t=>match BA t with|some x=>some ((ay n x).flatten)|none=>none
 |_=>none
def afk:List Nat->Bool
 |[1]=>true
 |_=>false
def SC(z c:Bool)(op:BinOp)(k k':IntKind)(a b:Int):Option V:=
 match op with
 |.shl=>bif z then some (.x (.i k) (te k a b))else none
 |.shr=>bif z then some (.x (.i k) (oT k a b))else none
 |op=>bif decide (k=k')then(match op with
  |.add=>some (.x (.i k) (wr k (a+b)))
  |.sub=>some (.x (.i k) (wr k (a-b)))
  |.mul=>some (.x (.i k) (wr k (a*b)))
  |.quo=>bif z then some (.x (.i k) (wr k (a.tdiv b)))else none
  |.rem=>bif z then some (.x (.i k) (a.tmod b))else none
  |.and=>some (.x (.i k) (bif c then og k a b else qO k a b))
  |.or=>some (.x (.i k) (A9 k a b))
  |.xor=>some (.x (.i k) (Ym k a b))
  |.andNot=>some (.x (.i k) (gC k a b))
  |.eql=>some (.x .b (a==b))
  |.neq=>some (.x .b (a !=b))
  |.lss=>some (.x .b (decide (a<b)))
  |.leq=>some (.x .b (decide (a<=b)))
  |.gtr=>some (.x .b (decide (a>b)))
  |.geq=>some (.x .b (decide (a>=b)))
  |_=>none)else none
theorem aco{c:Bool}{k:IntKind}{a b:Int}:(bif c then og k a b else qO k a b)=qO k a b:=by cases c<;>first|rfl|(rw[o_];rfl)
def GS(k:FloatKind)(a b:Nat):Nat:=(k.format.add a b).getD (zn k)
def afq(k:FloatKind)(a b:Nat):Nat:=(k.format.sub a b).getD (zn k)
def afr(k:FloatKind)(a b:Nat):Nat:=(k.format.mul a b).getD (zn k)
def afs(k:FloatKind)(a b:Nat):Nat:=(k.format.div a b).getD (zn k)
def Jk(k:FloatKind)(a b:Nat):Bool:=k.format.order a b==some .eq
def RU(k:FloatKind)(a b:Nat):Bool:=k.format.order a b==some .lt
def MJ(k:FloatKind)(a b:Nat):Bool:=k.format.order a b==some .gt
def BH(k:FloatKind)(a b:Nat):Nat:=match k.format.order a b with|none=>zn k|some .lt=>a|some .gt=>b|some .eq=>if(k.decode a).neg then a else b
def Fa(k:FloatKind)(a b:Nat):Nat:=match k.format.order a b with|none=>zn k|some .lt=>b|some .gt=>a|some .eq=>if(k.decode a).neg then b else a
def M3(op:BinOp)(k k':FloatKind)(a b:Nat):Option V:=
 bif decide (k=k')then(match op with
  |.add=>some (.x (.f k) (GS k a b))
  |.sub=>some (.x (.f k) (afq k a b))
  |.mul=>some (.x (.f k) (afr k a b))
  |.quo=>some (.x (.f k) (afs k a b))
  |.eql=>some (.x .b (Jk k a b))
  |.neq=>some (.x .b (!(Jk k a b)))
  |.lss=>some (.x .b (RU k a b))
  |.leq=>some (.x .b (RU k a b||Jk k a b))
  |.gtr=>some (.x .b (MJ k a b))
  |.geq=>some (.x .b (MJ k a b||Jk k a b))
  |_=>none)else none
def Yl(op:BinOp)(x y:ByteArray):Option V:=match op with|.eql=>some (.x .b (x.toList==y.toList))|.neq=>some (.x .b (!(x.toList==y.toList)))|.lss=>some (.x .b (Op.bytesLess x.toList y.toList))|.leq=>some (.x .b (Op.bytesLess x.toList y.toList||x.toList==y.toList))|.gtr=>some (.x .b (!(Op.bytesLess x.toList y.toList||x.toList==y.toList)))|.geq=>some (.x .b (!(Op.bytesLess x.toList y.toList)))|_=>none
def Xn:List Operand->Bool
 |[_,.const (.int _ n)]=>decide (n>0)
 |_=>false
def mmI(m:Bool)(k:IntKind):Int->List V->Option Int
 |x,[]=>some x
 |x,.x (.i k') y::r=>bif decide (k'=k)then mmI m k (bif m then(if y>x then y else x)else(if y<x then y else x)) r else none
 |_,_=>none
def Q6(m:Bool)(k:FloatKind):Nat->List V->Option Nat
 |x,[]=>some x
 |x,.x (.f k') y::r=>bif decide (k'=k)then Q6 m k (bif m then Fa k x y else BH k x y) r else none
 |_,_=>none
def AD(h:H2):V->Option (V×List Nat)
 |.pt t v=>some (.x t v,[])
 |.op id t p=>(match fO h id with
  |some (.bx u c)=>bif decide (u=t)then(match ul c p with|some w=>some (w,[id])|none=>none)else none
  |some (.ib u v)=>bif decide (u=t)then(match ul (.x u v) p with|some w=>some (w,[id])|none=>none)else none
  |_=>none)
 |.ep id n t p=>(match fO h id with
  |some (.ar u s _)|some (.im u s _)=>bif decide (u=t)then(match ul (.x u (gt s.l n)) p with|some w=>some (w,[id])|none=>none)else none
  |_=>none)
 |_=>none
def KN(h:H2)(kind:Nat):V->Option V
 |.nl k=>bif(k==kind)&&gL k 3 then some (.kb true)else none
 |.pt _ _|.op _ _ _|.ep _ _ _ _=>bif kind==1 then some (.kb false)else none
 |.fn _ _ _=>bif kind==2 then some (.kb false)else none
 |v=>bif kind==0 then(match HR h v with|some ⟨_,s,_⟩=>some (.x .b s.od)|none=>none)else none
def Q0:V->V
 |.kb c=>.kb (!c)
 |.x .b c=>.x .b (!c)
 |v=>v
def K_(off n:Nat)(i:Nat):V->Option V
 |.op id t p=>(match yY t p with
  |some (.st u)=>(match E_ u i with|some w=>bif(EL u i==off)&&(dh w==n)then some (.op id t (p++[.fd i]))else none|none=>none)
  |_=>none)
 |.ep id m t p=>(match yY t p with
  |some (.st u)=>(match E_ u i with|some w=>bif(EL u i==off)&&(dh w==n)then some (.ep id m t (p++[.fd i]))else none|none=>none)
  |_=>none)
 |.pt (.st u) v=>(match BE u v i with|some (.x w y)=>bif(EL u i==off)&&(dh w==n)then some (.pt w y)else none|_=>none)
 |_=>none
def J3(h:H2)(g:Bool)(n:Nat)(w:V):Bool:=(yn w==g)&&(Ft w==n)&&(g||n==1)&&pD h w
def Q_(h:H2):V->Option ((k:Ty)×(v:Ty)×Mp (El k) (El v)×List Nat)
 |.om id=>(match fO h id with|some (.mp k v m)=>some ⟨k,v,m,[id]⟩|_=>none)
 |_=>none
def JG(t:Ty):List Nat->List (Nat×Nat)->List V->V->Option V
 |[],[],[],c=>some c
 |i::is,(off,n)::ps,w::ws,c=>
  match t with
  |.st u=>(match E_ u i with
   |some a=>bif(EL u i==off)&&(dh a==n)then(match J2 a w with|some w=>(match qM c [.fd i] w with|some c=>bif dJ c false t then JG t is ps ws c else none|none=>none)|none=>none)else none
   |none=>none)
  |.ar m u=>bif(i*dh u==off)&&(dh u==n)&&decide (i<m)then(match J2 u w with|some w=>(match qM c [.ix i] w with|some c=>bif dJ c false t then JG t is ps ws c else none|none=>none)|none=>none)else none
  |_=>none
 |_,_,_,_=>none
def O2:V->Bool
 |.tp _|.no|.gn|.ni|.co _ _=>false
 |v=>!yn v
def xa(o:OP)(vs:List V)(h:H2):Option (V×List Nat):=
 match o.o.k,vs with
 |.mv,[v]=>some (v,[])
 |.nilCheck,[v]=>(match v with|.pt _ _|.fn _ _ _|.ep _ _ _ _|.op _ _ _=>some (v,[])|_=>none)
 |.G8 op,[.x (.i k) a,.x (.i k') b]=>(match SC (Xn o.o.args) (afk o.fi) op k k' a b with|some v=>some (v,[])|none=>none)
 |.G8 op,[.x (.f k) a,.x (.f k') b]=>(match M3 op k k' a b with|some v=>some (v,[])|none=>none)
 |.G8 op,[.x .s a,.x .s b]=>(match Yl op a b with|some v=>some (v,[])|none=>none)
 |.Eg neg,[x,y]=>(match us .b x,us .b y with|some a,some b=>some (.x .b (bif neg then !(a==b)else a==b),[])|_,_=>none)
 |.Jn kind neg,[x]=>(match KN h kind x with|some v=>some (bif neg then Q0 v else v,[])|none=>none)
 |.FZ neg ks,[.x t a,y]=>(match us t y with|some b=>bif iN t&&decide (BA t=some ks)then some (.x .b (bif neg then !(decide (a=b))else decide (a=b)),[])else none|none=>none)
 |.un .not,[.kb c]=>some (.kb (!c),[])
 |.un .not,[.x .b c]=>some (.x .b (!c),[])
 |.un .neg,[.x (.i k) n]=>some (.x (.i k) (wr k (0-n)),[])
 |.un .neg,[.x (.f k) n]=>some (.x (.f k) (Op.negFloat k n),[])
 |.un .xor,[.x (.i k) n]=>some (.x (.i k) (afA k n),[])
 |.C0 k,[.x (.i _) n]=>some (.x (.i k) (wr k n),[])
 |.MP k,[.x (.i _) n]=>some (.x (.f k) (k.nearest n),[])
 |.AW,[.x .s s]=>some (.x .s s,[])
 |.Uq f,vs=>bif vs.all O2 then some (.fn false f (eP vs),[])else none
 |.load g n,[p]=>(match AD h p with|some (w,l)=>bif J3 h g n w then some (w,l)else none|none=>none)
 |.IX,[p]=>(match AD h p with|some (w,l)=>bif J3 h false 1 w then some (w,l)else none|none=>none)
 |.fieldAddr off n,[p]=>(match o.fi with|[i]=>(match K_ off n i p with|some w=>some (w,[])|none=>none)|_=>none)
 |.field g off n,[.x (.st u) v]=>(match o.fi with|[i]=>(match BE u v i with|some w=>bif(EL u i==off)&&J3 h g n w then some (w,[])else none|none=>none)|_=>none)
 |.field g off n,[.rc l]=>(match o.fi with|[i]=>(match xz l i with|some w=>bif(YG l i==off)&&J3 h g n w then some (w,[])else none|none=>none)|_=>none)
 |.extract i,[.tp l]=>(match xz l i with|some w=>some (w,[])|none=>none)
 |.len true,[.x .s s]=>some (.x (.i .i64) (s.size:Int),[])
 |.len false,[.nl 0]=>some (.x (.i .i64) (0:Int),[])
 |.len false,[.vs _ t]=>some (.x (.i .i64) (nfT t:Int),[])
 |.len false,[.sr id]=>(match fO h id with|some (.rw _ s _)=>some (.x (.i .i64) (s.l.length:Int),[])|_=>none)
 |.len false,[v]=>(match HR h v with|some ⟨_,s,_⟩=>some (.x (.i .i64) (s.l.length:Int),[])|none=>none)
 |.KZ,[.om id]=>(match fO h id with|some (.mp _ _ m)=>some (.x (.i .i64) (m.es.length:Int),[id])|_=>none)
 |.ixB m,[.vs id (.st u),.x (.i _) i]=>(match E_ u i.toNat with|some _=>bif decide (0<=i)&&gL i.toNat (Hv u)&&(EL u i.toNat==i.toNat*m)then some (.op id (.st u) [.fd i.toNat],[])else none|none=>none)
 |.KZ,[.nl 3]=>some (.x (.i .i64) (0:Int),[])
 |.Bw m,.x (.i k) x::r=>(match mmI m k x r with|some y=>some (.x (.i k) y,[])|none=>none)
 |.Bw m,.x (.f k) x::r=>(match Q6 m k x r with|some y=>some (.x (.f k) y,[])|none=>none)
 |.build z ps,vs=>bif ui (ya o.t) z&&iN o.t&&dJ (LI o.t) false o.t then(match JG o.t o.fi ps vs (LI o.t)with|some v=>some (v,[])|none=>none)else none
 |.lookup ka ks va z ok,[m,kv]=>(match Q_ h m with
  |some ⟨kt,vt,mp,l⟩=>(match us kt kv with
   |some k=>bif(iN kt==ka)&&(iN vt==va)&&decide (BA kt=some ks)&&ui (ya vt) z&&lq vt&&(va||dh vt==1)then
     some (bif ok then .tp (.co (.x vt (kF mp (qK vt) k)) (.co (.x .b (DN mp k)) .ni))else .x vt (kF mp (qK vt) k),l)else none
   |none=>none)
  |none=>none)
 |_,_=>none
def BT{α:Type}(s:Sl α)(x r:List α):Sl α:=match x with|[]=>(match s with|.nil=>.nil|.mk _=>.mk r)|_::_=>.mk r
def m8{α:Type}:Sl α->Sl α->Option Unit
 |.nil,.nil=>some ()
 |.mk a,.mk b=>I2 a b
 |_,_=>none
def pw(s:S2)(o:O):S2:=⟨s.ii,(s.next,some o)::s.heap,s.next+1,s.next::s.wo,s.gh⟩
def iq(s:S2)(id:Nat)(o:Option O):S2:=⟨s.ii,(id,o)::s.heap,s.next,id::s.wo,s.gh⟩
def OK(h:H2)(id:Nat):Option O:=match fO h id with|some (.ar t s v)|some (.im t s v)=>some (.im t s v)|some (.ib t v)=>some (.ib t v)|some (.bx t c)=>bif lq t&&gL (dh t) 300 then(match uq h c with|some (_,[])=>(match us t c with|some v=>some (.ib t v)|none=>none)|_=>none)else none|_=>none
def u_(h:H2):List Nat->S2->Option S2
 |[],s=>some s
 |id::r,s=>match fO h id with|some (.rw _ _ none)=>(match u_ h r s with|some s=>some (iq s id none)|none=>none)|_=>(match OK h id,u_ h r s with|some o,some s=>some (iq s id (some o))|_,_=>none)
def B4(t:Ty):Bool:=lq t&&gL 0 (dh t)
def Dp(h:H2)(t:Ty)(len:Nat):Nat->List Nat->List V->Option (List (El t)×List Nat)
 |m,[],[]=>some (ay (len-m) (qK t),[])
 |m,i::is,v::vs=>
  match uq h v with
  |some (w,a)=>(match us t w with
   |some y=>bif Nat.ble m i&&gL i len then(match Dp h t len (i+1) is vs with|some (l,b)=>some (ay (i-m) (qK t)++y::l,a++b)|none=>none)else none
   |none=>none)
  |none=>none
 |_,_,_=>none
def oQ:List V->Option (List Int)
 |[]=>some []
 |.x (.i _) n::r=>match oQ r with|some l=>some (n::l)|none=>none
 |_=>none
def Oq(h:H2):V->Option Int
 |.nl 0=>some 0
 |v=>match HR h v with|some ⟨_,v,_⟩=>some (v.l.length:Int)|none=>none
def afx{α:Type}(w:Sl α)(lo n:Nat)(z:α):Option (Sl α):=match w with|.nil=>none|.mk l=>some (.mk (CI l lo n (ay n z)))
def OR{β:Type}(sz:Nat)(h:H2)(x:V)(l u:Int)(k:V->Option β):Option β:=
 match x with
 |.x (.sl t) v=>bif dh t==sz then(ou v.l l u).bind fun y=>k (.x (.sl t) (v.to y))else none
 |.so id=>(match fO h id with
  |some (.ar t v ver)=>bif dh t==sz then(ou v.l l u).bind fun y=>k (.sb id ver l.toNat t (v.to y))else none
  |some (.im t v ver)=>bif dh t==sz then(ou v.l l u).bind fun y=>k (.sb id ver l.toNat t (v.to y))else none
  |_=>none)
 |.sb id ver lo t v=>bif dh t==sz then(ou v.l l u).bind fun y=>k (.sb id ver (lo+l.toNat) t (v.to y))else none
 |.nl 0=>(ou ([]:List Unit) l u).bind fun _=>k (.nl 0)
 |_=>none
def afz{β:Type}(t:Ty)(sz len:Nat)(z:List Value)(pl:List Nat)(vs:List V)(s:S2)(k:V->S2->List Nat->Option β):Option β:=
 bif(dh t==sz)&&ui ((ay len (ya t)).flatten) z&&B4 t then
  (match Dp s.heap t len 0 pl vs with
  |some (l,a)=>(match u_ s.heap a s with|some s'=>k (.so s.next) (pw s' (.ar t (.mk l) 0)) a|none=>none)
  |none=>none)else none
def PZ(ln:Option (Nat×Nat))(m:Nat):Bool:=match ln with|none=>true|some (m',_)=>lR m' m
def Ka{β:Type}(id m:Nat)(t:Ty)(p:sK)(w:V)(s:S2)(k:S2->List Nat->Option β):Option β:=
 match fO s.heap id with
 |some (.rw u v ln)=>(match p,w with
  |[],.so id2=>(match fO s.heap id2 with
   |some (.ar u2 r _)=>(match dV (.sl u2) (.sl u) r with
    |some r=>bif decide (t=.sl u)&&!(id2==id)&&PZ ln m then k (iq (iq s id2 none) id (some (.rw u (.mk (v.l.set m r)) none))) [id,id2]else none
    |none=>none)
   |_=>none)
  |_,_=>none)
 |some (.ar u l ver)=>(match uq s.heap w with
  |some (w,a)=>bif decide (u=t)then(match yY u p with
   |some q=>(match us q w with
    |some y=>(match qM (.x u (gt l.l m)) p (.x q y)with
     |some c=>(match qy u c with
      |some y=>(match u_ s.heap a s with|some s=>bif !a.contains id then k (iq s id (some (.ar u (.mk (l.l.set m y)) (ver+1)))) (id::a)else none|none=>none)
      |none=>none)
     |none=>none)
    |none=>none)
   |none=>none)else none
  |none=>none)
 |_=>none
def part{β:Type}(o:OP)(vs:List V)(s:S2)(k:V->S2->List Nat->Option β):Option β:=
 match o.o.k,vs with
 |.G8 .quo,[.x (.i q) a,.x (.i q') b]=>bif decide (q=q')then(X3 q a b).bind fun x=>k (.x (.i q) x) s []else none
 |.G8 .rem,[.x (.i q) a,.x (.i q') b]=>bif decide (q=q')then(Qo q a b).bind fun x=>k (.x (.i q) x) s []else none
 |.G8 .shl,[.x (.i q) a,.x (.i _) b]=>(zd q a b).bind fun x=>k (.x (.i q) x) s []
 |.G8 .shr,[.x (.i q) a,.x (.i _) b]=>(yt q a b).bind fun x=>k (.x (.i q) x) s []
 |.G8 .add,[.x .s a,.x .s b]=>(Ye a b).bind fun x=>k (.x .s x) s []
 |.alloc z,[]=>bif ui (ya o.t) z&&dJ (LI o.t) false o.t then k (.op s.next o.t []) (pw s (.bx o.t (LI o.t))) []else none
 |.box,[v]=>(match J2 o.t v with|some w=>k (.op s.next o.t []) (pw s (.bx o.t w)) []|none=>none)
 |.buildSlice sz len z pl,vs=>afz o.t sz len z pl vs s k
 |.Yk sz (n+1) _ pl,vs=>bif(dh o.t==sz)&&decide (pl=aK (n+1))&&dJ (.rc (eP vs)) false (.st (J4 o.t n))&&lR (Hv (J4 o.t n)) (n+1)&&gL 0 sz then k (.vs s.next (.st (J4 o.t n))) (pw s (.bx (.st (J4 o.t n)) (.rc (eP vs)))) []else none
 |.store n,[.op id t p,w]=>bif(Ft w==n)then(match fO s.heap id with
  |some (.bx u c)=>bif decide (u=t)then(match yY t p with
   |some a=>(match J2 a w with
    |some w=>(match qM c p w with|some c=>bif dJ c false t then k (.tp .ni) (iq s id (some (.bx t c))) [id]else none|none=>none)
    |none=>none)
   |none=>none)else none
  |_=>none)else none
 |.IX,[.ep id m u []]=>(match fO s.heap id with
  |some (.rw t v none)=>bif decide (u=.sl t)then k (.so s.next) (pw (iq s id (some (.rw t v (some (m,s.next))))) (.ar t (gt v.l m) 0)) [id]else none
  |_=>none)
 |.Q8 szi,[.x (.i _) l,.x (.i _) c]=>(match o.t with
  |.sl t=>bif(dh t==szi)&&B4 t then(zQ (Sl.nil:Sl (El t)) l c).bind fun r=>k (.sr s.next) (pw s (.rw t (.mk r) none)) []else none
  |_=>none)
 |.store n,[.ep id m t p,w]=>bif(Ft w==n)then Ka id m t p w s (fun s l=>k (.tp .ni) s l)else none
 |.makeSlice z,[.x (.i _) l,.x (.i _) c]=>bif ui (ya o.t) z&&B4 o.t then(zQ (qK o.t) l c).bind fun r=>k (.so s.next) (pw s (.ar o.t (.mk r) 0)) []else none
 |.slice true _ lo hi,.x .s x::r=>(match lo,hi,oQ r with
  |false,false,some []=>(Df x 0 x.size).bind fun y=>k (.x .s y) s []
  |true,false,some [l]=>(Df x l x.size).bind fun y=>k (.x .s y) s []
  |false,true,some [u]=>(Df x 0 u).bind fun y=>k (.x .s y) s []
  |true,true,some [l,u]=>(Df x l u).bind fun y=>k (.x .s y) s []
  |_,_,_=>none)
 |.slice false sz lo hi,x::r=>
  (match lo,hi,oQ r,Oq s.heap x with
  |false,false,some [],some n=>OR sz s.heap x 0 n fun v=>k v s []
  |true,false,some [l],some n=>OR sz s.heap x l n fun v=>k v s []
  |false,true,some [u],some _=>OR sz s.heap x 0 u fun v=>k v s []
  |true,true,some [l,u],some _=>OR sz s.heap x l u fun v=>k v s []
  |_,_,_,_=>none)
 |.indexAddr none sz,[x,.x (.i _) i]=>(match x with
  |.x (.sl t) v=>bif dh t==sz then(cH i v.l.length).bind fun m=>k (.pt t (gt v.l m)) s []else none
  |.so id=>(match HR s.heap (.so id)with|some ⟨t,v,_⟩=>bif dh t==sz then(cH i v.l.length).bind fun m=>k (.ep id m t []) s []else none|none=>none)
  |.sb id _ lo t v=>bif dh t==sz then(cH i v.l.length).bind fun m=>k (.ep id (lo+m) t []) s []else none
  |.sr id=>(match fO s.heap id with|some (.rw t v _)=>bif 1==sz then(cH i v.l.length).bind fun m=>k (.ep id m (.sl t) []) s []else none|_=>none)
  |_=>none)
 |.indexAddr (some n) sz,[x,.x (.i _) i]=>(match x with
  |.op id t p=>(match yY t p with|some (.ar n' u)=>bif(n'==n)&&(dh u==sz)then(cH i n).bind fun m=>k (.op id t (p++[.ix m])) s []else none|_=>none)
  |.ep id q t p=>(match yY t p with|some (.ar n' u)=>bif(n'==n)&&(dh u==sz)then(cH i n).bind fun m=>k (.ep id q t (p++[.ix m])) s []else none|_=>none)
  |.pt (.ar n' u) v=>bif(n'==n)&&(dh u==sz)then(cH i n).bind fun m=>k (.pt u (gt v.1 m)) s []else none
  |_=>none)
 |.AL,[.x .s x,.x (.i _) i]=>(atS x i).bind fun c=>k (.x (.i .u8) c) s []
 |.index g n sz,[.x (.ar n' u) v,.x (.i _) i]=>bif(n'==n)&&(dh u==sz)&&(iN u==g)&&lq u&&(g||sz==1)then(cH i n).bind fun m=>k (.x u (gt v.1 m)) s []else none
 |.append sz wd,[a,x]=>
  (match S7 o.t s.heap x with
  |some ⟨t,m,ids⟩=>bif(dh t==sz)&&B4 t then(match a with
   |.nl 0=>(G4 wd t ([]++m.l)).bind fun r=>k (.so s.next) (pw s (.ar t (BT Sl.nil m.l r) 0)) ids
   |.x (.sl _) v=>bif Sl.od v then((G4 wd t ([]++m.l)).bind fun r=>k (.so s.next) (pw s (.ar t (BT Sl.nil m.l r) 0)) ids)else none
   |.so id=>(match fO s.heap id with
    |some (.ar u v _)=>(match dV (.sl t) (.sl u) m with
     |some m=>(G4 wd u (v.l++m.l)).bind fun r=>k (.so s.next) (pw (iq s id none) (.ar u (BT v m.l r) 0)) (id::ids)
     |none=>none)
    |_=>none)
   |.sb id _ lo u v=>(match fO s.heap id,dV (.sl t) (.sl u) m with
    |some (.ar _ s0 _),some m=>bif Nat.ble s0.l.length (lo+(v.l.length+m.l.length))then((G4 wd u (v.l++m.l)).bind fun r=>k (.so s.next) (pw (iq s id none) (.ar u (BT v m.l r) 0)) (id::ids))else none
    |_,_=>none)
   |_=>none)else none
  |none=>none)
 |.copy sz,[a,x]=>
  (match S7 o.t s.heap x with
  |some ⟨t,m,ids⟩=>bif dh t==sz then(match a with
   |.nl 0=>k (.x (.i .i64) (0:Int)) s ids
   |.so id=>(match fO s.heap id with
    |some (.ar u v ver)=>(match dV (.sl t) (.sl u) m with
     |some m=>k (.x (.i .i64) ((min m.l.length v.l.length:Nat):Int)) (iq s id (some (.ar u (v.to (CI v.l 0 v.l.length m.l)) (ver+1)))) (id::ids)
     |none=>none)
    |_=>none)
   |.sb id ver lo _ v=>(match fO s.heap id with
    |some (.ar u w ver')=>(match dV (.sl t) (.sl u) m with
     |some m=>bif ver'==ver then k (.x (.i .i64) ((min m.l.length v.l.length:Nat):Int)) (iq s id (some (.ar u (w.to (CI w.l lo v.l.length m.l)) (ver+1)))) (id::ids)else none
     |none=>none)
    |_=>none)
   |_=>none)else none
  |none=>none)
 |.clear zz,[a]=>(match a with
  |.sb id ver lo _ v=>(match fO s.heap id with
   |some (.ar u w ver')=>bif(ver'==ver)&&ui (ya u) zz&&B4 u then(afx w lo v.l.length (qK u)).bind fun w=>k (.tp .ni) (iq s id (some (.ar u w (ver+1)))) [id]else none
   |_=>none)
  |_=>none)
 |.makeMap ka va,[]=>(match o.t with
  |.mp kt vt=>bif(iN kt==ka)&&(iN vt==va)&&lq vt&&(BA kt).isSome then k (.om s.next) (pw s (.mp kt vt Mp.none)) []else none
  |_=>none)
 |.mapEntry ka ks va z,[.om id,kv]=>(match fO s.heap id with
  |some (.mp kt vt m)=>(match us kt kv with
   |some q=>bif(iN kt==ka)&&(iN vt==va)&&decide (BA kt=some ks)&&ui (ya vt) z&&lq vt&&(va||dh vt==1)then
     k (.tp (.co (.x vt (l_ m (qK vt) q).2.1) (.co (.x (.i .i64) (l_ m (qK vt) q).2.2) .ni))) (iq s id (some (.mp kt vt (l_ m (qK vt) q).1))) [id]else none
   |none=>none)
  |_=>none)
 |.entryStore va n,[.om id,.x (.i _) st,w]=>(match fO s.heap id with
  |some (.mp kt vt m)=>(match us vt w with
   |some y=>bif(iN vt==va)&&(dh vt==n)&&lq vt then(DM m st y).bind fun m=>k (.tp .ni) (iq s id (some (.mp kt vt m))) [id]else none
   |none=>none)
  |_=>none)
 |.KW ka ks va n,[.om id,kv,w]=>(match fO s.heap id with
  |some (.mp kt vt m)=>(match us kt kv with
   |some q=>(match us vt w with
    |some y=>bif(iN kt==ka)&&(iN vt==va)&&decide (BA kt=some ks)&&(dh vt==n)&&lq vt then k (.tp .ni) (iq s id (some (.mp kt vt (xA m q y)))) [id]else none
    |none=>none)
   |none=>none)
  |_=>none)
 |.KX ka ks,[.om id,kv]=>(match fO s.heap id with
  |some (.mp kt vt m)=>(match us kt kv with
   |some q=>bif(iN kt==ka)&&decide (BA kt=some ks)then k (.tp .ni) (iq s id (some (.mp kt vt (tQ m q)))) [id]else none
   |none=>none)
  |_=>none)
 |_,_=>none
@[reducible] def yF:List Ty->Type
 |[]=>Unit
 |a::r=>SX a r
where SX:Ty->List Ty->Type
 |a,[]=>El a
 |a,c::r=>El a×SX c r
def Eu(u:Ty):V->Option (El u)
 |.x t v=>dV t u v
 |_=>none
def W0{α β:Type}:Option α->Option β->Option (α×β)
 |some x,some y=>some (x,y)
 |_,_=>none
def Nl:(a:Ty)->(r:List Ty)->List V->Option (yF.SX a r)
 |a,[],l=>(match l with|[v]=>Eu a v|_=>none)
 |a,c::r,l=>(match l with|v::l=>W0 (Eu a v) (Nl c r l)|[]=>none)
def xg:(cs:List Ty)->List V->Option (yF cs)
 |[],[]=>some ()
 |a::r,l=>Nl a r l
 |_,_=>none
def Te:(a:Ty)->(r:List Ty)->yF.SX a r->List V
 |a,[],v=>[.x a v]
 |a,c::r,v=>.x a v.1::Te c r v.2
def vW:(cs:List Ty)->yF cs->List V
 |[],_=>[]
 |a::r,v=>Te a r v
inductive Sh where
 | x (t : Ty)            -- data
 | pt (t : Ty)           -- a pointer to data
 | os (t : Ty)           -- a slice of its Ht
 | rw (t : Ty)           -- a eP of Qg of its Ht
 | mp (k v : Ty)         -- a map of its Ht
 | pb (t : Ty) (c : Sh)  -- a pointer to a box of its Ht
 |st (c:Sh)
 |pr (a c:Sh)
 |nl (k:Nat)
 |fn (f:Nat) (l:Sh)
 |ni
 |gn
 deriving Inhabited,DecidableEq
def Ya:Sh->List Ty
 |.x t|.pt t=>[t]
 |.os t=>[.sl t]
 |.rw t=>[.sl (.sl t)]
 |.mp k v=>[.mp k v]
 |.pb _ c|.st c|.fn _ c=>Ya c
 |.pr a c=>Ya a++Ya c
 |_=>[]
def p7:List Sh->List Ty
 |[]=>[]
 |a::r=>Ya a++p7 r
abbrev Wy:=List (List Sh×List Sh)
@[reducible] def yD:Wy->Type
 |[]=>Empty
 |(r,o)::w=>O7 r o w
where O7:List Sh->List Sh->Wy->Type
 |r,o,[]=>yF (p7 r++p7 o)
 |r,o,(r',o')::w=>yF (p7 r++p7 o)⊕O7 r' o' w
def Ps{β:Type}(k:List Sh->List Sh->List V->Option β):(r o:List Sh)->(w:Wy)->yD.O7 r o w->Option β
 |r,o,[],z=>k r o (vW (p7 r++p7 o) z)
 |r,o,(r',o')::w,z=>match z with|.inl z=>k r o (vW (p7 r++p7 o) z)|.inr z=>Ps k r' o' w z
def WS{β:Type}(k:List Sh->List Sh->List V->Option β):(w:Wy)->yD w->Option β
 |[],z=>nomatch z
 |(r,o)::w,z=>Ps k r o w z
structure dG where
 ps:List (Bool×Sh)
 al:Wy
 ro:Bool
 yv:List Bool
 fn:yF (p7 (ps.map (·.2)))->Option (yD al)
structure Hk where
 run:{β:Type}->V->List V->H2->Nat->(V->List (Nat×Option O)->Nat->List Nat->Option β)->Option β
inductive TE where
 |sp (s:dG)
 |hk (h:Hk)
abbrev Ff:=List (Nat×TE)
def Hb(h:H2):Sh->V->Option (List V×List Nat)
 |.x t,v=>match uq h v with|some (w,l)=>(match us t w with|some y=>some ([.x t y],l)|none=>none)|none=>none
 |.pt t,.pt u v=>match dV u t v with|some y=>some ([.x t y],[])|none=>none
 |.pt t,.op id u []=>(match fO h id with
  |some (.bx w c)=>bif decide (w=u)&&pD h c then(match uq h c with|some (c,l)=>(match us t c with|some y=>some ([.x t y],id::l)|none=>none)|none=>none)else none
  |some (.ib w v)=>bif decide (w=u)then(match dV w t v with|some y=>some ([.x t y],[id])|none=>none)else none
  |_=>none)
 |.pt t,.ep id n u []=>(match fO h id with
  |some (.ar w s _)|some (.im w s _)=>bif decide (w=u)then(match dV w t (gt s.l n)with|some y=>some ([.x t y],[id])|none=>none)else none
  |_=>none)
 |.nl k,.nl k'=>bif k==k' then some ([],[])else none
 |.fn f c,.fn _ f' l=>bif f==f' then Hb h c l else none
 |.pr a c,.co x r=>match Hb h a x,Hb h c r with|some (l,i),some (m,j)=>some (l++m,i++j)|_,_=>none
 |.ni,.ni=>some ([],[])
 |_,_=>none
def Ui(t:Ty){u:Ty}(v:El (.sl u)):Option (List V×List Nat):=match(v:Sl (El u))with|.nil=>some ([.x (.sl t) Sl.nil],[])|.mk _=>none
def TD(h:H2)(t:Ty)(id ver:Nat){u:Ty}(r:Sl (El u)):Option (List V×List Nat):=match fO h id with|some (.ar _ _ v)=>bif v==ver then(match dV (.sl u) (.sl t) r with|some s=>some ([.x (.sl t) s],[id])|none=>none)else none|_=>none
def vS(h:H2):Sh->Bool->V->Option (List V×List Nat)
 |.os t,false,.so id=>(match fO h id with|some (.ar u s _)=>(match dV (.sl u) (.sl t) s with|some s=>some ([.x (.sl t) s],[id])|none=>none)|_=>none)
 |.os t,false,.nl 0=>some ([.x (.sl t) Sl.nil],[])
 |.rw t,false,.sr id=>(match fO h id with|some (.rw u s none)=>(match dV (.sl (.sl u)) (.sl (.sl t)) s with|some s=>some ([.x (.sl (.sl t)) s],[id])|none=>none)|_=>none)
 |.rw t,false,.nl 0=>some ([.x (.sl (.sl t)) Sl.nil],[])
 |.mp k v,false,.om id=>(match fO h id with|some (.mp k' v' m)=>(match dV (.mp k' v') (.mp k v) m with|some m=>some ([.x (.mp k v) m],[id])|none=>none)|_=>none)
 |.pb t c,false,.op id u []=>(match fO h id with|some (.bx w v)=>bif decide (w=u)&&decide (u=t)then(match vS h c false v with|some (l,i)=>some (l,id::i)|none=>none)else none|_=>none)
 |.nl k,false,.nl k'=>bif k==k' then some ([],[])else none
 |.x t,false,v=>match us t v with|some y=>some ([.x t y],[])|none=>none
 |.st c,false,.rc l=>vS h c true l
 |.st c,false,.x (.st u) v=>vS h c true (PF u v)
 |.pr a c,true,.co x r=>match(match a,x with|.os t,.x (.sl _) v=>Ui t v|.os t,.sb id ver _ _ r=>TD h t id ver r|_,_=>vS h a false x),vS h c true r with|some (l,i),some (m,j)=>some (l++m,i++j)|_,_=>none
 |.ni,true,.ni=>some ([],[])
 |_,_,_=>none
def CX:Sh->Bool->List V->S2->Option (V×List V×S2)
 |.x t,false,.x u v::l,s=>bif decide (u=t)&&lq t then some (.x u v,l,{s with next:=s.next+dh t})else none
 |.os t,false,.x (.sl u) v::l,s=>bif decide (u=t)&&B4 t then some (.so s.next,l,pw s (.ar u v 0))else none
 |.rw t,false,.x (.sl (.sl u)) v::l,s=>bif decide (u=t)&&B4 t then some (.sr s.next,l,pw s (.rw u v none))else none
 |.mp k v,false,.x (.mp k' v') m::l,s=>bif decide (k'=k)&&decide (v'=v)&&lq v&&(BA k).isSome then some (.om s.next,l,pw s (.mp k' v' m))else none
 |.pb t c,false,l,s=>
  match CX c false l {s with next:=s.next+1}with
  |some (w,l,s')=>bif dJ w false t then some (.op s.next t [],l,iq s' s.next (some (.bx t w)))else none
  |none=>none
 |.nl k,false,l,s=>some (.nl k,l,{s with next:=s.next+1})
 |.st c,false,l,s=>match CX c true l s with|some (w,l,s)=>some (.rc w,l,s)|none=>none
 |.pr a c,true,l,s=>match CX a false l s with|some (x,l,s)=>(match CX c true l s with|some (r,l,s)=>some (.co x r,l,s)|none=>none)|none=>none
 |.ni,true,l,s=>some (.ni,l,s)
 |_,_,_,_=>none
def DO:List Sh->List V->S2->Option (List V×List V×S2)
 |[],l,s=>some ([],l,s)
 |a::r,l,s=>match CX a false l s with|some (x,l,s)=>(match DO r l s with|some (xs,l,s)=>some (x::xs,l,s)|none=>none)|none=>none
def xX(h:H2):List (Bool×Sh)->List V->Option (List V×List Nat×List (V×List Nat))
 |[],[]=>some ([],[],[])
 |(b,c)::r,v::vs=>
  match xX h r vs with
  |some (m,j,q)=>
   bif b then(match vS h c false v with|some (l,i)=>some (l++m,j,(v,i)::q)|none=>none)
   else(match Hb h c v with|some (l,i)=>some (l++m,i++j,q)|none=>none)
  |none=>none
 |_,_=>none
def yR(h:H2)(f:Nat)(vs:List V):Ff->Option (dG×List V×List Nat×List (V×List Nat))
 |[]=>none
 |(g,.sp sp)::r=>bif g==f then(match xX h sp.ps vs with|some (l,i,q)=>some (sp,l,i,q)|none=>yR h f vs r)else yR h f vs r
 |(_,.hk _)::r=>yR h f vs r
def Ji(f:Nat):Ff->Option Hk
 |[]=>none
 |(g,.hk k)::r=>bif g==f then some k else Ji f r
 |(_,.sp _)::r=>Ji f r
def mT:List Nat->S2->S2
 |[],s=>s
 |id::r,s=>iq (mT r s) id none
def uN{β:Type}:List Sh->List (V×List Nat)->List V->S2->(S2->Option β)->Option β
 |[],[],[],s,k=>k s
 |.nl _::r,(_,[])::q,l,s,k=>uN r q l s k
 |.gn::r,(_,i)::q,l,s,k=>uN r q l (mT i s) k
 |.os t::r,(.nl 0,[])::q,.x (.sl u) v::l,s,k=>(match dV (.sl u) (.sl t) v with|some v=>(m8 v (Sl.nil:Sl (El t))).bind fun _=>uN r q l s k|none=>none)
 |.os t::r,(.so id,_)::q,.x (.sl u) v::l,s,k=>(match fO s.heap id,dV (.sl u) (.sl t) v with
  |some (.ar w old ver),some v=>(match dV (.sl t) (.sl w) v with
   |some v=>(m8 v old).bind fun _=>uN r q l (iq s id (some (.ar w v (ver+1)))) k
   |none=>none)
  |_,_=>none)
 |.rw t::r,(.nl 0,[])::q,.x (.sl (.sl u)) v::l,s,k=>(match dV (.sl (.sl u)) (.sl (.sl t)) v with|some v=>(m8 (v:Sl (Sl (El t))) (Sl.nil:Sl (Sl (El t)))).bind fun _=>uN r q l s k|none=>none)
 |.rw t::r,(.sr id,_)::q,.x (.sl (.sl u)) v::l,s,k=>(match fO s.heap id,dV (.sl (.sl u)) (.sl (.sl t)) v with
  |some (.rw w old _),some v=>(match dV (.sl (.sl t)) (.sl (.sl w)) v with
   |some v=>(m8 (v:Sl (Sl (El w))) old).bind fun _=>uN r q l (iq s id (some (.rw w v none))) k
   |none=>none)
  |_,_=>none)
 |.pb t c::r,(.op id u [],i)::q,l,s,k=>(match fO s.heap id with
  |some _=>(match CX c false l s with
   |some (w,l,s)=>bif dJ w false t&&decide (u=t)then uN r q l (iq (mT i s) id (some (.bx t w))) k else none
   |none=>none)
  |none=>none)
 |_,_,_,_,_=>none
def Qi:List V->V
 |[v]=>v
 |l=>.tp (eP l)
def DI:List Nat->Bool
 |[]=>true
 |a::r=>!r.contains a&&DI r
def xf:V->Option (List V)
 |.ni=>some []
 |.co a r=>bif(Ft a==1)&&!yn a then(match xf r with|some l=>some (a::l)|none=>none)else none
 |_=>none
def AR{β:Type}(tb:Ff)(ro:Bool)(yv:List Bool)(f:V)(vs:List V)(s:S2)(k:V->S2->List Nat->Option β):Option β:=
 match f with
 |.fn _ fid caps=>match Ji fid tb with
  |some hk=>hk.run f vs s.heap s.next fun v u n l=>k v ⟨s.ii,u++s.heap,n,u.map (·.1)++s.wo,s.gh⟩ l
  |none=>
  match(match xf caps with|some cs=>yR s.heap fid (vs++cs) tb|none=>none)with
  |some (sp,pay,ids,q)=>
   bif(!ro||sp.ro)&&decide (sp.yv=yv)&&DI (q.flatMap (·.2))&&(q.flatMap (·.2)).all (fun i=>!ids.contains i)then
    match xg (p7 (sp.ps.map (·.2))) pay with
    |some p=>(sp.fn p).bind fun z=>WS (fun rs os l=>
     match(bif ro then some s else u_ s.heap ids s)with
     |some s0=>uN os q (l.drop (p7 rs).length) s0 fun s1=>
      (match DO rs (l.take (p7 rs).length) s1 with
      |some (xs,_,s2)=>k (Qi xs) s2 (ids++q.flatMap (·.2))
      |none=>none)
     |none=>none) sp.al z
    |none=>none
   else none
  |none=>none
 |_=>none
structure Rg where
 kn:List (Nat×Bool)
 cd:List (Nat×Nat×Bool×V)
def knG(kn:List (Nat×Bool))(g:Nat):Option Bool:=gI kn g
def T4(s:S2)(q:Rg)(gc:Option (Nat×Bool)):Operand->Option V
 |.tmp t=>match gI q.cd t with|some (g,b,v)=>bif decide (gc=some (g,b))||decide (knG q.kn g=some b)then(bif pD s.heap v then some v else none)else none|none=>N6 s.ii s.heap (.tmp t)
 |o=>N6 s.ii s.heap o
def QF(s:S2)(q:Rg)(gc:Option (Nat×Bool)):List Operand->Option (List V)
 |[]=>some []
 |a::r=>match T4 s q gc a,QF s q gc r with|some x,some y=>some (x::y)|_,_=>none
inductive GV where
 |run
 |skip
 |VW (g:Nat) (b:Bool) (c:Bool)
def gdV(e:List (Nat×V))(kn:List (Nat×Bool)):Option (Nat×Bool)->Option GV
 |none=>some .run
 |some (g,b)=>
  match knG kn g with
  |some c=>some (bif c==b then .run else .skip)
  |none=>(match gI e g with
   |some (.kb c)=>some (bif c==b then .run else .skip)
   |some (.x .b c)=>some (.VW g b c)
   |some .no=>some .skip
   |_=>none)
def QA(s:S2)(q:Rg)(gc:Option (Nat×Bool)):List Operand->Option V
 |[.tmp g,a,b]=>match knG q.kn g,gI s.ii g with|some c,_=>T4 s q gc (bif c then a else b)|none,some (.kb c)=>T4 s q gc (bif c then a else b)|none,some (.x .b c)=>(match T4 s q (some (g,true)) a,T4 s q (some (g,false)) b with|some x,some y=>mgV c x y|_,_=>none)|_,_=>none
 |[.const (.bool c),a,b]=>T4 s q gc (bif c then a else b)
 |_=>none
def zA:K->Bool
 |.pick=>true
 |_=>false
def Tq(o:OP)(s:S2)(q:Rg)(gc:Option (Nat×Bool)):Option (V×List Nat):=
 bif zA o.o.k then(match QA s q gc o.o.args with|some v=>some (v,[])|none=>none)
 else(match QF s q gc o.o.args with|some vs=>xa o vs s.heap|none=>none)
def vB(s:S2)(d:Option Nat)(v:V):S2:=match d with|some d=>{s with ii:=(d,v)::s.ii}|none=>s
def Ww(q:Rg)(d:Option Nat):Option Rg:=match d with|none=>some q|some d=>bif q.cd.any (fun e=>e.2.1==d)||q.kn.any (fun e=>e.1==d)then none else some ⟨q.kn,q.cd.filter (fun e=>!(e.1==d))⟩
abbrev Pk:=List (List Nat×List Nat)
def YH{β:Type}(tb:Ff)(o:OP)(s:S2)(q:Rg)(gc:Option (Nat×Bool))(k:V->S2->List Nat->Option β):Option β:=
 match Tq o s q gc with
 |some (v,l)=>k v s l
 |none=>
  match QF s q gc o.o.args with
  |some vs=>
   (match o.o.k,vs with
   |.call ro yv,f::vs=>AR tb ro yv f vs s k
   |_,vs=>part o vs s k)
  |none=>none
def sJ(dr:Option Nat)(i:Nat)(s:S2):S2:=match dr with|some b=>{s with next:=b+Co*i}|none=>s
def inB(dr:Option Nat)(i:Nat)(s:S2):Bool:=match dr with|some b=>Nat.ble s.next (b+Co*(i+1))|none=>true
def VS(d:Option Nat)(r:List OP):Bool:=
 match d with
 |some d=>r.any fun o=>match o.o.guard with|some (g,_)=>lR g d|none=>false
 |none=>false
def ve{β:Type}(tb:Ff)(dr:Option Nat):List OP->Nat->S2->Rg->Pk->(S2->Pk->Option β)->Option β
 |[],_,s,_,tr,k=>k s tr
 |o::r,i,s0,q,tr,k=>
  let s:=sJ dr i s0
  let go:Rg->Option β:=fun q=>YH tb o s q o.o.guard fun v s1 l=>
   bif inB dr i s1 then(match Ww q o.o.dst with
    |some q=>ve tb dr r (i+1) (vB s1 o.o.dst v) q (tr++[(l,s1.wo.take (s1.wo.length-s.wo.length))]) k
    |none=>none)else none
  let no:Rg->Option β:=fun q=>match Ww q o.o.dst with|some q=>ve tb dr r (i+1) (vB s o.o.dst .no) q (tr++[([],[])]) k|none=>none
  match gdV s.ii q.kn o.o.guard with
  |none=>none
  |some .run=>go q
  |some .skip=>no q
  |some (.VW g b c)=>
   match(bif VS o.o.dst r then none else Tq o s q (some (g,b)))with
   |some (v,l)=>
    (match Ww q o.o.dst,o.o.dst with
    |some q,some d=>bif lR g d then none else ve tb dr r (i+1) (vB s (some d) .gn) ⟨q.kn,(d,g,b,v)::q.cd⟩ (tr++[(l,[])]) k
    |_,_=>none)
   |none=>(match b with
    |true=>bif c then go ⟨(g,true)::q.kn,q.cd⟩else no ⟨(g,false)::q.kn,q.cd⟩
    |false=>bif c then no ⟨(g,true)::q.kn,q.cd⟩else go ⟨(g,false)::q.kn,q.cd⟩)
inductive JV where
 |x (t:Ty)
 |pt (t:Ty)
 |so (j:Nat)
 |sr (j:Nat)
 |om (j:Nat)
 |op (j:Nat) (t:Ty) (p:List Nat)
 |nl (k:Nat)
 |fn (z:Bool) (f:Nat) (l:JV)
 |rc (l:JV)
 |ni
 |co (a r:JV)
 |sm
 |gn
 deriving Inhabited
inductive JO where
 |ar (t:Ty)
 |bx (t:Ty) (c:JV)
 |mp (k v:Ty)
 |rw(t:Ty)
 deriving Inhabited
structure J where
 vs:List (Nat×JV):=[]
 gs:JV:=.sm
 os:List JO:=[]
 kl:List Nat:=[]
 deriving Inhabited
def OV:JV->List Ty
 |.x t|.pt t=>[t]
 |.fn _ _ l|.rc l=>OV l
 |.co a r=>OV a++OV r
 |_=>[]
def Wu:List (Nat×JV)->List Ty
 |[]=>[]
 |(_,a)::r=>OV a++Wu r
def afw:JO->List Ty
 |.ar t=>[.sl t]
 |.bx _ c=>OV c
 |.mp k v=>[.mp k v]
 |.rw t=>[.sl (.sl t)]
def Wv:List JO->List Ty
 |[]=>[]
 |a::r=>afw a++Wv r
def qN(j:J):List Ty:=Wu j.vs++(OV j.gs++Wv j.os)
structure Bd where
 j:Nat
 id:Option Nat
def Cg:List Bd->Nat->Option Bd
 |[],_=>none
 |b::r,j=>bif b.j==j then some b else Cg r j
def vR(m:List Bd)(b:Bd):Option (List Bd):=
 match Cg m b.j with
 |none=>bif(match b.id with|some i=>m.all (fun c=>match c.id with|some i'=>!(i'==i)|none=>true)|none=>true)then some (b::m)else none
 |some c=>(match b.id,c.id with
  |some i,some i'=>bif i==i' then some m else none
  |_,_=>none)
def L9:sK->Option (List Nat)
 |[]=>some []
 |.fd i::p=>match L9 p with|some l=>some (i::l)|none=>none
 |.ix _::_=>none
def AZ:JV->Bool->V->List Bd->Option (List V×List Bd)
 |.x t,false,v,m=>match us t v with|some y=>some ([.x t y],m)|none=>none
 |.pt t,false,.pt u v,m=>match dV u t v with|some y=>some ([.x t y],m)|none=>none
 |.so j,false,.so id,m=>match vR m ⟨j,some id⟩with|some m=>some ([],m)|none=>none
 |.so j,false,.nl 0,m=>match vR m ⟨j,none⟩with|some m=>some ([],m)|none=>none
 |.so j,false,.x (.sl _) v,m=>bif Sl.od v then(match vR m ⟨j,none⟩with|some m=>some ([],m)|none=>none)else none
 |.sr j,false,.sr id,m=>match vR m ⟨j,some id⟩with|some m=>some ([],m)|none=>none
 |.om j,false,.om id,m=>match vR m ⟨j,some id⟩with|some m=>some ([],m)|none=>none
 |.op j t p,false,.op id u q,m=>bif decide (u=t)&&decide (L9 q=some p)then(match vR m ⟨j,some id⟩with|some m=>some ([],m)|none=>none)else none
 |.nl k,false,.nl k',m=>bif k==k' then some ([],m)else none
 |.fn z f l,false,.fn z' f' l',m=>bif(z==z')&&(f==f')then AZ l true l' m else none
 |.rc l,false,.rc l',m=>AZ l true l' m
 |.rc l,false,.x (.st t) v,m=>AZ l true (PF t v) m
 |.ni,true,.ni,m=>some ([],m)
 |.co a r,true,.co x y,m=>match AZ a false x m with|some (l,m)=>(match AZ r true y m with|some (l',m)=>some (l++l',m)|none=>none)|none=>none
 |_,_,_,_=>none
def MU(s:S2):List (Nat×JV)->List Bd->Option (List V×List Bd)
 |[],m=>some ([],m)
 |(t,a)::r,m=>match N6 s.ii s.heap (.tmp t)with|some v=>(match AZ a false v m with|some (l,m)=>(match MU s r m with|some (l',m)=>some (l++l',m)|none=>none)|none=>none)|none=>none
def Yf(h:H2)(j:Nat)(o:JO)(m:List Bd):Option (List V×List Bd):=
 match Cg m j with
 |some b=>(match o,b.id with
  |.ar t,none=>bif B4 t then some ([.x (.sl t) Sl.nil],m)else none
  |.ar t,some id=>(match fO h id with|some (.ar u s _)=>(match dV (.sl u) (.sl t) s with|some s=>some ([.x (.sl t) s],m)|none=>none)|_=>none)
  |.rw t,some id=>(match fO h id with|some (.rw u s none)=>(match dV (.sl (.sl u)) (.sl (.sl t)) s with|some s=>some ([.x (.sl (.sl t)) s],m)|none=>none)|_=>none)
  |.bx t c,some id=>(match fO h id with|some (.bx u v)=>bif decide (u=t)then AZ c false v m else none|_=>none)
  |.mp k v,some id=>(match fO h id with|some (.mp k' v' y)=>(match dV (.mp k' v') (.mp k v) y with|some y=>some ([.x (.mp k v) y],m)|none=>none)|_=>none)
  |_,_=>none)
 |none=>none
def MW(h:H2):List JO->Nat->List Bd->Option (List V×List Bd)
 |[],_,m=>some ([],m)
 |o::r,j,m=>match Yf h j o m with|some (l,m)=>(match MW h r (j+1) m with|some (l',m)=>some (l++l',m)|none=>none)|none=>none
def HY:V->V->Bool
 |.so i,.so j=>i==j
 |.sr i,.sr j=>i==j
 |.op i t [],.op j u []=>(i==j)&&decide (t=u)
 |.nl k,.nl l=>k==l
 |.gn,.gn=>true
 |_,_=>false
def HZ:V->V->Bool
 |.ni,.ni=>true
 |.co a r,.co x y=>HY a x&&HZ r y
 |_,_=>false
def JA(h:H2):JV->V->V->List Bd->Option (List V×List Bd)
 |.sm,g0,g,m=>bif HZ g0 g then some ([],m)else none
 |.ni,.ni,.ni,m=>some ([],m)
 |.co a r,.co x0 y0,.co x y,m=>match a with|.sm=>bif HY x0 x then JA h r y0 y m else none|.gn=>JA h r y0 y m|a=>bif pD h x then(match AZ a false x m with|some (l,m)=>(match JA h r y0 y m with|some (l',m)=>some (l++l',m)|none=>none)|none=>none)else none
 |_,_,_,_=>none
def Fd:List (Nat×JV)->S2->S2
 |[],s=>s
 |(t,.so _)::r,s=>(match gI s.ii t with
  |some (.sb id ver _ u x)=>(match fO s.heap id with
   |some (.ar _ _ v)=>bif lq u&&v==ver then Fd r ⟨(t,.so s.next)::s.ii,(s.next,some (.ar u x 0))::(id,none)::s.heap,s.next+1,s.next::id::s.wo,s.gh⟩else Fd r s
   |_=>Fd r s)
  |_=>Fd r s)
 |_::r,s=>Fd r s
def MX(j:J)(s0:S2)(s:S2):Option (List V):=
 match MU s j.vs []with
 |some (l1,m)=>match JA s.heap j.gs s0.gh s.gh m with
  |some (l2,m)=>(match MW s.heap j.os 0 m with
   |some (l3,m)=>bif s.wo.all (fun i=>Nat.ble s0.next i||j.kl.contains i)&&m.all (fun b=>gL b.j j.os.length&&(match b.id with|some i=>Nat.ble s0.next i||j.kl.contains i|none=>true))then some (l1++(l2++l3))else none
   |none=>none)
  |none=>none
 |none=>none
def w6(j:J)(s0:S2)(s:S2):Option (List V):=match Fd j.vs s with|⟨e,h,n,w,g⟩=>MX j s0 ⟨e,h,n,w,g⟩
def sg(b:Nat):JV->Bool->List V->V->Option (V×List V)
 |.x t,false,.x u v::l,_=>bif decide (u=t)&&lq u then some (.x u v,l)else none
 |.pt t,false,.x u v::l,_=>bif decide (u=t)&&lq u then some (.pt u v,l)else none
 |.so j,false,l,_=>some (.so (b+j),l)
 |.sr j,false,l,_=>some (.sr (b+j),l)
 |.om j,false,l,_=>some (.om (b+j),l)
 |.op j t p,false,l,_=>some (.op (b+j) t (p.map .fd),l)
 |.nl k,false,l,_=>some (.nl k,l)
 |.fn z f c,false,l,_=>match sg b c true l .ni with|some (w,l)=>some (.fn z f w,l)|none=>none
 |.rc c,false,l,_=>match sg b c true l .ni with|some (w,l)=>some (.rc w,l)|none=>none
 |.ni,true,l,_=>some (.ni,l)
 |.co a r,true,l,.co x y=>match sg b a false l x with|some (v,l)=>(match sg b r true l y with|some (w,l)=>some (.co v w,l)|none=>none)|none=>none
 |.co a r,true,l,_=>match sg b a false l .gn with|some (v,l)=>(match sg b r true l .ni with|some (w,l)=>some (.co v w,l)|none=>none)|none=>none
 |.sm,_,l,v=>some (v,l)
 |.gn,false,l,_=>some (.gn,l)
 |_,_,_,_=>none
def LY(b:Nat):List (Nat×JV)->List V->Option (List (Nat×V)×List V)
 |[],l=>some ([],l)
 |(t,a)::r,l=>match sg b a false l .gn with|some (v,l)=>(match LY b r l with|some (e,l)=>some ((t,v)::e,l)|none=>none)|none=>none
def aac(b:Nat):JO->List V->Option (O×List V)
 |.ar t,.x (.sl u) v::l=>bif decide (u=t)then some (.ar u v 0,l)else none
 |.rw t,.x (.sl (.sl u)) v::l=>bif decide (u=t)&&B4 t then some (.rw u v none,l)else none
 |.bx t c,l=>match sg b c false l .gn with|some (w,l)=>bif dJ w false t then some (.bx t w,l)else none|none=>none
 |.mp k v,.x (.mp k' v') m::l=>bif decide (k'=k)&&decide (v'=v)then some (.mp k' v' m,l)else none
 |_,_=>none
def LZ(b:Nat):List JO->Nat->List V->Option (H2×List V)
 |[],_,l=>some ([],l)
 |o::r,j,l=>match aac b o l with|some (o,l)=>(match LZ b r (j+1) l with|some (h,l)=>some ((b+j,some o)::h,l)|none=>none)|none=>none
def wi(j:J)(ds:List Nat)(s0:S2)(l:List V):Option S2:=
 match LY s0.next j.vs l with
 |some (e,l)=>(match sg s0.next j.gs true l s0.gh with
  |some (g,l)=>(match LZ s0.next j.os 0 l with
   |some (h,_)=>some ⟨e++ds.map (fun t=>(t,V.gn))++s0.ii,h++j.kl.map (fun i=>(i,none))++s0.heap,s0.next+j.os.length,h.map (·.1)++j.kl++s0.wo,g⟩
   |none=>none)
  |none=>none)
 |none=>none
abbrev Ex:=List (oD×J)
@[reducible] def JR:Ex->Type
 |[]=>Empty
 |(_,j)::r=>O6 j r
where O6:J->Ex->Type
 |j,[]=>yF (qN j)
 |j,(_,j')::r=>yF (qN j)⊕O6 j' r
def UE(s0:S2)(o:oD)(s:S2):(o':oD)->(j:J)->(r:Ex)->Option (JR.O6 j r)
 |o',j,[]=>bif decide (o=o')then(match w6 j s0 s with|some l=>xg (qN j) l|none=>none)else none
 |o',j,(o2,j2)::r=>bif decide (o=o')then(match w6 j s0 s with|some l=>(match xg (qN j) l with|some p=>some (.inl p)|none=>none)|none=>none)
  else(match UE s0 o s o2 j2 r with|some x=>some (.inr x)|none=>none)
def I7(s0:S2)(o:oD)(s:S2):(e:Ex)->Option (JR e)
 |[]=>none
 |(o',j)::r=>UE s0 o s o' j r
def Xp{β:Type}(ds:List Nat)(s0:S2)(k:oD->S2->Option β):(o:oD)->(j:J)->(r:Ex)->JR.O6 j r->Option β
 |o,j,[],p=>match wi j ds s0 (vW (qN j) p)with|some s=>k o s|none=>none
 |o,j,(o2,j2)::r,x=>match x with|.inl p=>(match wi j ds s0 (vW (qN j) p)with|some s=>k o s|none=>none)|.inr y=>Xp ds s0 k o2 j2 r y
def Iy{β:Type}(ds:List Nat)(s0:S2)(k:oD->S2->Option β):(e:Ex)->JR e->Option β
 |[],x=>nomatch x
 |(o,j)::r,x=>Xp ds s0 k o j r x
inductive C2 where
 |skip
 |YF (ops:List OP) (dr:Option (List (Nat×Nat))) (jn:Option J)
 |seq (a b:C2) (e:Ex)
 |cond (c:Operand) (a b:C2)
 |block (id:Nat) (a:C2)
 |loop (j:J) (e:Ex) (a:C2)
 |unr (n:Nat) (a:C2)
 |exit (id:Nat)
 |ret
 |fB
 deriving Inhabited
def ot:C2->List Nat
 |.YF ops _ _=>ops.filterMap (·.o.dst)
 |.seq a b _|.cond _ a b=>ot a++ot b
 |.block _ a|.loop _ _ a|.unr _ a=>ot a
 |_=>[]
def afm:K->Bool
 |.lookup _ _ _ _ _=>true
 |_=>false
def VZ(ops:List OP)(tr:Pk)(i j:Nat):Bool:=
 match ops[i]?,tr[i]?with
 |some o,some ([id],[])=>afm o.o.k&&((tr.take j).drop (i+1)).all (fun x=>!x.2.contains id)
 |_,_=>false
def ab8(ops:List OP)(tr:Pk)(dyn:List (Nat×Nat)):Bool:=
 dyn.all fun p=>bif Nat.ble 1000 p.2 then(match tr[p.1]?,tr[p.2-1000]?with|some a,some b=>xY a b||VZ ops tr p.1 (p.2-1000)|_,_=>true)
  else(match tr[p.1]?,tr[p.2]?with|some a,some b=>xY a b|_,_=>true)
def Ys(s:S2)(id:Nat):Option S2:=
 match fO s.heap id with
 |some (.rw t v (some (m,id2)))=>(match fO s.heap id2 with
  |some (.ar u r _)=>(match dV (.sl u) (.sl t) r with
   |some r=>some (iq (iq s id2 none) id (some (.rw t (v.to (v.l.set m r)) none)))
   |none=>none)
  |_=>none)
 |_=>some s
def He:List Nat->S2->Option S2
 |[],s=>some s
 |id::r,s=>match Ys s id with|some s=>He r s|none=>none
def acq(s s':S2):Option S2:=He (s'.wo.take (s'.wo.length-s.wo.length)) s'
def AQ{β:Type}(tb:Ff)(ops:List OP)(dr:Option (List (Nat×Nat)))(s:S2)(k:S2->Option β):Option β:=match dr with|none=>ve tb none ops 0 s ⟨[],[]⟩ [] fun s' _=>(acq s s').bind k|some dyn=>ve tb (some s.next) ops 0 s ⟨[],[]⟩ [] fun s' tr=>bif ab8 ops tr dyn then(acq s {s' with next:=s.next+Co*ops.length}).bind k else none
structure Lp where
 run:{α β:Type}->(α->Option (α⊕β))->α->Option β
 ok:∀{α β:Type}{f:α->Option (α⊕β)}{a:α}{b:β},run f a=some b->∃n,ol f n a=some b
def ek:Lp:=⟨aU,fun h=>sT.1 h⟩
def WW{β:Type}(f:S2->(oD->S2->Option β)->Option β):Nat->S2->(oD->S2->Option β)->Option β
 |0,_,_=>none
 |n+1,s,k=>f s fun o s'=>match o with|.normal=>WW f n s' k|o=>k o s'
def yS{β:Type}(lp:Lp)(tb:Ff):C2->S2->(oD->S2->Option β)->Option β
 |.skip,s,k=>k .normal s
 |.YF ops dr none,s,k=>AQ tb ops dr s fun s=>k .normal s
 |.YF ops dr (some j),s,k=>(AQ tb ops dr {s with wo:=[]} fun s'=>match w6 j s s' with|some l=>xg (qN j) l|none=>none).bind fun p=>match wi j (ops.filterMap (·.o.dst)) s (vW (qN j) p)with|some s=>k .normal s|none=>none
 |.seq a b [],s,k=>yS lp tb a s fun o s=>match o with|.normal=>yS lp tb b s k|o=>k o s
 |.seq a b (e::r),s,k=>(yS lp tb a {s with wo:=[]} fun o s'=>I7 s o s' (e::r)).bind fun x=>Iy (ot a) s (fun o s=>match o with|.normal=>yS lp tb b s k|o=>k o s) (e::r) x
 |.cond c a b,s,k=>(match N6 s.ii s.heap c with
  |some (.kb t)=>bif t then yS lp tb a s k else yS lp tb b s k
  |some (.x .b t)=>bif t then yS lp tb a s k else yS lp tb b s k
  |_=>none)
 |.block id a,s,k=>yS lp tb a s fun o s=>match o with|.exit i=>k (bif i==id then .normal else .exit i) s|o=>k o s
 |.loop j e a,s,k=>
  bif e.all (fun x=>j.kl.all fun i=>x.2.kl.contains i)then(match w6 j s {s with wo:=[]}with
  |some l=>(match xg (qN j) l with
   |some p0=>(lp.run (fun p=>match wi j (ot a) s (vW (qN j) p)with
     |some s1=>yS lp tb a {s1 with wo:=[]} fun o s'=>(match o with
      |.normal=>(match w6 j s s' with|some l=>(match xg (qN j) l with|some q=>some (Sum.inl q)|none=>none)|none=>none)
      |o=>(match I7 s o s' e with|some x=>some (Sum.inr x)|none=>none))
     |none=>none) p0).bind fun x=>Iy (ot a) s k e x
   |none=>none)
  |none=>none)else none
 |.unr n a,s,k=>WW (fun s k=>yS lp tb a s k) n s k
 |.exit id,s,k=>k (.exit id) s
 |.ret,s,k=>k .ret s
 |.fB,_,_=>none
inductive RV where
 |tmp (t:Nat)
 |cell (t:Nat) (agg:Bool) (n:Nat)
 deriving Inhabited
def Xk(P:Program):ResultVar->Option RV
 |.tmp t=>some (.tmp t)
 |.cell a t=>match eS P t,dK P t with|some g,some n=>some (.cell a g n)|_,_=>none
def H3(P:Program):List ResultVar->Option (List RV)
 |[]=>some []
 |r::rs=>match Xk P r,H3 P rs with|some x,some xs=>some (x::xs)|_,_=>none
def gG(P:Program):Nat->TypeId->Ty
 |0,_=>.o 9
 |n+1,t=>match P.underlying t with|some (.int k)=>.i k|some .bool=>.b|some .string=>.s|some (.float k)=>.f k|some (.slice e)=>.sl (gG P n e)|some (.map k v)=>.mp (gG P n k) (gG P n v)|some (.struct fs)=>.st (chn (fs.toList.map fun f=>gG P n f.type))|some (.array m e)=>.ar m (gG P n e)|some (.pointer _)=>.o 1|some (.func ..)=>.o 2|_=>.o 4
where chn:List Ty->Ty
 |[]=>.un
 |[t]=>t
 |t::r=>.pr t (chn r)
def R8:Nat:=12
def X2(P:Program)(t:TypeId):Ty:=match P.underlying t with|some (.slice e)=>gG P R8 e|some (.array _ e)=>gG P R8 e|_=>.o 9
def Wk(P:Program):Op->Ty×List Nat
 |.alloc e=>(gG P R8 e,[])
 |.box t _=>(gG P R8 t,[])
 |.build t parts=>(gG P R8 t,parts.toList.map (·.1))
 |.buildSlice t _ parts=>(X2 P t,parts.toList.map (·.1))
 |.fieldAddr _ _ f=>(.o 9,[f])
 |.field _ _ f=>(.o 9,[f])
 |.makeSlice t _ _=>(X2 P t,[])
 |.makeMap t _=>(gG P R8 t,[])
 |.call c=>(match c.callee,c.argTypes.toList with|.builtin _,t::_=>X2 P t|_,_=>.o 9,[])
 |_=>(.o 9,[])
def u5(P:Program)(aS:C5)(nt:Nat)(all:Array Oper)(o:Oper):OP:=⟨b9 P aS nt all o,(Wk P o.op).1,match o.op with|.binOp .and _ _ _ _=>(bif(aS 1000000002).1 then[1]else[])|op=>(Wk P op).2⟩
structure An where
 j:Option J:=none
 e:Ex:=[]
 u:Nat:=0
 deriving Inhabited
def oe(P:Program)(aS:C5)(nt:Nat)(an:List (Nat×An)):Code->Nat->C2×Nat
 |.skip,n=>(.skip,n)
 |.region _ ops draw,n=>
  (if draw then(if B3 (SO ops.toList []) ops.toList 0&&B1 (SO ops.toList []) (ops.toList.map (b9 P aS nt ops)) 0&&decide (ops.toList.length<=1000)
   then .YF (ops.toList.map (u5 P aS nt ops)) (some (wG (SO ops.toList []) (ops.toList.map (b9 P aS nt ops)) 0)) ((gI an n).bind (·.j))else .fB)
   else .YF (ops.toList.map (u5 P aS nt ops)) none ((gI an n).bind (·.j)),n+1)
 |.seq a b,n=>
  let x:=oe P aS nt an a (n+1);let y:=oe P aS nt an b x.2
  (.seq x.1 y.1 (match gI an n with|some w=>w.e|none=>[]),y.2)
 |.cond c a b,n=>let x:=oe P aS nt an a n;let y:=oe P aS nt an b x.2;(.cond c x.1 y.1,y.2)
 |.block id a,n=>let x:=oe P aS nt an a n;(.block id x.1,x.2)
 |.loop a,n=>
  let x:=oe P aS nt an a (n+1)
  (match gI an n with|some ⟨some j,e,_⟩=>.loop j e x.1|some ⟨none,_,u+1⟩=>.unr (u+1) x.1|_=>.fB,x.2)
 |.scope a,n=>oe P aS nt an a n
 |.label _,n=>(.skip,n)
 |.exit id,n=>(.exit id,n)
 |.ret,n=>(.ret,n)
 |_,n=>(.fB,n)
structure F2 where
 np:Nat
 wc:List RV
 body:C2
def MR(P:Program)(aS:C5)(f np:Nat)(an:List (Nat×An)):Option F2:=
 match P.funcs[f]?with
 |none=>none
 |some g=>
  match g.body with
  |none=>none
  |some code=>
   if(g.name== "runtime.NumGoroutine")=false/\np<=g.ntmps/\g.ntmps<1000000000 then
    match H3 P g.results.toList with|some wc=>some ⟨np,wc,(oe P aS g.ntmps an code 0).1⟩|none=>none
   else none
def Px:Sh->List V->Option (V×List V)
 |.ni,l=>some (.ni,l)
 |.pr (.pt t) c,.x u v::l=>bif decide (u=t)&&lq t then(match Px c l with|some (w,l)=>some (.co (.pt u v) w,l)|none=>none)else none
 |_,_=>none
def BI:List (Bool×Sh)->Nat->List V->S2->Option (List (Nat×V)×S2)
 |[],_,[],s=>some ([],s)
 |(false,.x t)::r,i,.x u v::l,s=>bif decide (u=t)&&lq t then(match BI r (i+1) l s with|some (e,s)=>some ((i,.x u v)::e,s)|none=>none)else none
 |(false,.pt t)::r,i,.x u v::l,s=>bif decide (u=t)&&lq t then(match BI r (i+1) l s with|some (e,s)=>some ((i,.pt u v)::e,s)|none=>none)else none
 |(false,.nl k)::r,i,l,s=>(match BI r (i+1) l s with|some (e,s)=>some ((i,.nl k)::e,s)|none=>none)
 |(false,.fn f c)::r,i,l,s=>(match Px c l with|some (w,l)=>(match BI r (i+1) l s with|some (e,s)=>some ((i,.fn true f w)::e,s)|none=>none)|none=>none)
 |(true,c)::r,i,l,s=>(match CX c false l s with
  |some (w,l,s)=>(match BI r (i+1) l s with|some (e,s)=>some ((i,w)::e,{s with gh:=.co w s.gh})|none=>none)
  |none=>none)
 |_,_,_,_=>none
def X1(ps:List (Bool×Sh))(l:List V):Option S2:=
 match BI ps 0 l ⟨[],[],0,[],.ni⟩with
 |some (e,s)=>some {s with ii:=e}
 |none=>none
def TK(s:S2):RV->Option V
 |.tmp t=>N6 s.ii s.heap (.tmp t)
 |.cell t g n=>match N6 s.ii s.heap (.tmp t)with|some p=>(match AD s.heap p with|some (w,_)=>bif J3 s.heap g n w then some w else none|none=>none)|none=>none
def aaf(h:H2):Sh->V->Option (List V×List Nat)
 |.x t,v=>match uq h v with|some (w,l)=>(match us t w with|some y=>some ([.x t y],l)|none=>none)|none=>none
 |.os t,.sb id _ _ u r=>(match fO h id with|some (.ar _ _ _)=>(match dV (.sl u) (.sl t) r with|some s=>some ([.x (.sl t) s],[id])|none=>none)|_=>none)
 |c,v=>vS h c false v
def aae(h:H2):Sh->V->Option (List V×List Nat)
 |.gn,_=>some ([],[])
 |c,v=>bif pD h v then vS h c false v else none
def L0(h:H2):List Sh->List V->Option (List V×List Nat)
 |[],[]=>some ([],[])
 |c::r,v::vs=>match aaf h c v,L0 h r vs with|some (l,i),some (m,j)=>some (l++m,i++j)|_,_=>none
 |_,_=>none
def FC(h:H2):List Sh->List V->Option (List V×List Nat)
 |[],[]=>some ([],[])
 |c::r,v::vs=>match aae h c v,FC h r vs with|some (l,i),some (m,j)=>some (l++m,i++j)|_,_=>none
 |_,_=>none
def Oj{α β:Type}(f:α->Option β):List α->Option (List β)
 |[]=>some []
 |a::r=>match f a,Oj f r with|some x,some y=>some (x::y)|_,_=>none
def OO(wc:List RV)(rs os:List Sh)(s:S2):Option (List V):=
 match Oj (TK s) wc with
 |some vs=>match L0 s.heap rs vs,FC s.heap os (iK s.gh)with|some (l,i),some (m,j)=>bif DI (i++j)then some (l++m)else none|_,_=>none
 |none=>none
def RR(wc:List RV)(s:S2):(r o:List Sh)->(w:Wy)->Option (yD.O7 r o w)
 |r,o,[]=>match OO wc r o s with|some l=>xg (p7 r++p7 o) l|none=>none
 |r,o,(r',o')::w=>match OO wc r o s with|some l=>(match xg (p7 r++p7 o) l with|some z=>some (.inl z)|none=>none)|none=>(match RR wc s r' o' w with|some z=>some (.inr z)|none=>none)
def XZ(wc:List RV)(s:S2):(w:Wy)->Option (yD w)
 |[]=>none
 |(r,o)::w=>RR wc s r o w
def evF(lp:Lp)(tb:Ff)(F:Option F2)(ps:List (Bool×Sh))(al:Wy)(p:yF (p7 (ps.map (·.2)))):Option (yD al):=
 match F with
 |some F=>
  match X1 ps (vW _ p)with
  |some s=>yS lp tb F.body s fun o s=>match o with|.exit _=>none|_=>XZ F.wc s al
  |none=>none
 |none=>none
end Go.Ev
