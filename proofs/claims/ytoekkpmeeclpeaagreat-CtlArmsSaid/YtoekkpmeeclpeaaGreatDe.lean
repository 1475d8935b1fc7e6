/- Operations as they are carried out, compiled from the program. Conditions: none, these are definitions. -/
import Derived.Orders
import Derived.Scope
import Derived.Laws.CopyRow
open BitVec renaming ofInt->bc
open ByteArray renaming empty->oz
open Classical renaming choose->nv,choose_spec->gP
open List renaming length_replicate->bp,range->aK,replicate->ay
open Nat renaming beq->ly,blt->gE
open Option.some renaming injEq->fh
noncomputable section
namespace Go.Ev
def plain:Value->Bool
 |.bool _|.int _ _|.float _ _|.string _|.pointer none|.slice none 0 0|.map none|.nilFunc|.nilIface=>true
 |_=>false
def gB{α:Type}:List (Nat×α)->Nat->Option α
 |[],_=>none
 |(a,x)::r,k=>bif a==k then some x else gB r k
inductive Kd where
 |b
 |i (k:IntKind)
 |s
 deriving Inhabited,DecidableEq
inductive K where
 |mv
 |pick
 |alloc (zero:List Value)
 |box
 |build (zero:List Value) (places:List (Nat×Nat))
 |buildSlice (sz len:Nat) (zero:List Value) (places:List Nat)
 |load (agg:Bool) (n:Nat)
 |store (n:Nat)
 |nilCheck
 |Gv (op:BinOp)
 |DF (neg:Bool)
 |IK (kind:Nat) (neg:Bool)
 |Fo (neg:Bool) (ks:List Kd)
 |un (op:UnOp)
 |Cr (k:IntKind)
 |Ma (k:FloatKind)
 |Aa
 |TM (f:FuncId)
 |makeSlice (zero:List Value)
 |slice (str:Bool) (sz:Nat) (lo hi:Bool)
 |fieldAddr (off n:Nat)
 |field (agg:Bool) (off n:Nat)
 |indexAddr (bz:Option Nat) (sz:Nat)
 |zS
 |index (agg:Bool) (len sz:Nat)
 |extract (i:Nat)
 |len (str:Bool)
 |AR (isMax:Bool)
 |append (sz:Nat) (wd:Bool)
 |copy (sz:Nat)
 |clear (zero:List Value)
 |WD (sz:Nat)
 |ae1
 |apm (zero:List Value)
 |ovl
 |call (ro:Bool) (xM:List Bool)
 |makeMap (ka va:Bool)
 |lookup (ka:Bool) (ks:List Kd) (va:Bool) (zero:List Value) (ok:Bool)
 |mapEntry (ka:Bool) (ks:List Kd) (va:Bool) (zero:List Value)
 |entryStore (va:Bool) (m:Nat)
 |Qt (szi:Nat)
 |Ii
 |Kj (ka:Bool) (ks:List Kd) (va:Bool) (n:Nat)
 |Kk (ka:Bool) (ks:List Kd)
 |XO (sz len:Nat) (zero:List Value) (places:List Nat)
 |ixB (sz:Nat)
 |Km
 |fw
 deriving Inhabited
structure Cc where
 dst:Option Nat
 k:K
 args:List Operand
 guard:Option (Nat×Bool)
 deriving Inhabited
def iF{α:Type}(l:List α)(off:Nat)(p:List α):List α:=l.take off++p++l.drop (off+p.length)
inductive og where
 |normal
 |exit (id:Nat)
 |ret
 deriving Inhabited,DecidableEq
def tH(op:BinOp):Value->Value->Option Value
 |.int k a,.int k' b=>
  match op with
  |.shl=>if b<0 then none else some (.int k (k.wrap (a*2^(min b.toNat k.bits))))
  |.shr=>if b<0 then none else some (.int k (a.fdiv (2^(min b.toNat k.bits))))
  |op=>if k=k' then
   (match op with
   |.add=>some (.int k (k.wrap (a+b)))
   |.sub=>some (.int k (k.wrap (a-b)))
   |.mul=>some (.int k (k.wrap (a*b)))
   |.quo=>if b=0 then none else some (.int k (k.wrap (a.tdiv b)))
   |.rem=>if b=0 then none else some (.int k (a.tmod b))
   |.and=>some (.int k (k.wrap (bc k.bits a&&&bc k.bits b).toNat))
   |.or=>some (.int k (k.wrap (bc k.bits a|||bc k.bits b).toNat))
   |.xor=>some (.int k (k.wrap (bc k.bits a^^^bc k.bits b).toNat))
   |.andNot=>some (.int k (k.wrap (bc k.bits a&&&~~~bc k.bits b).toNat))
   |.eql=>some (.bool (a==b))
   |.neq=>some (.bool (a !=b))
   |.lss=>some (.bool (a<b))
   |.leq=>some (.bool (a<=b))
   |.gtr=>some (.bool (a>b))
   |.geq=>some (.bool (a>=b))
   |_=>none)else none
 |.float k a,.float k' b=>
  if k=k' then
   match op with|.add=>(k.format.add a b).map (.float k)|.sub=>(k.format.sub a b).map (.float k)|.mul=>(k.format.mul a b).map (.float k)|.quo=>(k.format.div a b).map (.float k)|.eql=>some (.bool (k.format.order a b==some .eq))|.neq=>some (.bool (k.format.order a b !=some .eq))|.lss=>some (.bool (k.format.order a b==some .lt))|.leq=>some (.bool (k.format.order a b==some .lt||k.format.order a b==some .eq))|.gtr=>some (.bool (k.format.order a b==some .gt))|.geq=>some (.bool (k.format.order a b==some .gt||k.format.order a b==some .eq))|_=>none
  else none
 |.string x,.string y=>match op with|.add=>if((x.size+y.size:Nat):Int)>IntKind.i64.max then none else some (.string (x++y))|.eql=>some (.bool (x.toList==y.toList))|.neq=>some (.bool !(x.toList==y.toList))|.lss=>some (.bool (Op.bytesLess x.toList y.toList))|.leq=>some (.bool (Op.bytesLess x.toList y.toList||x.toList==y.toList))|.gtr=>some (.bool !(Op.bytesLess x.toList y.toList||x.toList==y.toList))|.geq=>some (.bool !(Op.bytesLess x.toList y.toList))|_=>none
 |_,_=>none
def yw(k:FloatKind):Nat:=match k with|.f32=>0x7fc00000|.f64=>0x7ff8000000000001
def Nz(op:BinOp):Value->Value->Option Value
 |.float k a,.float k' b=>
  if k=k' then
   match op with|.add=>if k.format.add a b=none then some (.float k (yw k))else none|.sub=>if k.format.sub a b=none then some (.float k (yw k))else none|.mul=>if k.format.mul a b=none then some (.float k (yw k))else none|.quo=>if k.format.div a b=none then some (.float k (yw k))else none|_=>none
  else none
 |_,_=>none
def uC(op:BinOp)(x y:Value):Option Value:=match tH op x y with|some v=>some v|none=>Nz op x y
def Yh(op:UnOp):Value->Option Value
 |.bool b=>match op with|.not=>some (.bool !b)|_=>none
 |.int k n=>match op with|.neg=>some (.int k (k.wrap (0-n)))|.xor=>some (.int k (k.wrap (bc k.bits (if k.signed then-1 else k.max)^^^bc k.bits n).toNat))|_=>none
 |.float k b=>match op with|.neg=>some (.float k (Op.negFloat k b))|_=>none
 |_=>none
def OE:Kd->Value->Value->Option Bool
 |.i q,.int k a,.int k' b=>if k=q/\k'=q then some (a==b)else none
 |.b,.bool a,.bool b=>some (a==b)
 |.s,.string a,.string b=>some (a==b)
 |_,_,_=>none
def lZ:List Kd->List Value->List Value->Option Bool
 |[],[],[]=>some true
 |k::ks,x::xs,y::ys=>match OE k x y,lZ ks xs ys with|some a,some b=>some (a&&b)|_,_=>none
 |_,_,_=>none
def NO:Kd->Value->Bool
 |.i q,.int k _=>decide (k=q)
 |.b,.bool _=>true
 |.s,.string _=>true
 |_,_=>false
def Ir:List Kd->List Value->Bool
 |[],[]=>true
 |k::ks,x::xs=>NO k x&&Ir ks xs
 |_,_=>false
def xm(a b:List Nat×List Nat):Bool:=a.2.all (fun i=>!b.1.contains i&&!b.2.contains i)&&b.2.all (fun i=>!a.1.contains i)
def BR:Nat:=1000000
def dG(P:Program)(t:TypeId):Option Nat:=(P.info? t).map (·.size)
def eN(P:Program)(t:TypeId):Option Bool:=(P.underlying t).map fun|.struct _|.array _ _=>true|_=>false
def gQ(P:Program)(t:TypeId):Option (List Value):=match(P.info? t).bind (·.zero)with|some z=>if z.cells.toList.all plain then some z.cells.toList else none|none=>none
abbrev Cu:=FuncId->Bool×List Bool
def kI(P:Program)(fields:Array Field):List Nat->Option (List (Nat×Nat))
 |[]=>some []
 |i::r=>
  match fields[i]?,kI P fields r with
  |some f,some l=>match dG P f.type with|some n=>some ((f.offset,n)::l)|none=>none
  |_,_=>none
def nU:Nat->Value
 |0=>.slice none 0 0
 |1=>.pointer none
 |_=>.nilFunc
def w7:Nat->Operand->Bool
 |0,.const (.slice none 0 0)|1,.const (.pointer none)|2,.const .nilFunc=>true
 |_,_=>false
def Wp(P:Program)(g:TypeId->Option (List Kd)):List Field->Nat->Option (List Kd)
 |[],_=>some []
 |f::r,o=>
  if f.offset=o/\f.name≠ "_" then
   match g f.type with|some ks=>if dG P f.type=some ks.length then(match Wp P g r (o+ks.length)with|some l=>some (ks++l)|none=>none)else none|none=>none
  else none
def Cd(P:Program):Nat->TypeId->Option (List Kd)
 |0,_=>none
 |d+1,t=>
  match P.underlying t with
  |some .bool=>if dG P t=some 1 then some [.b]else none
  |some (.int q)=>if dG P t=some 1 then some [.i q]else none
  |some .string=>if dG P t=some 1 then some [.s]else none
  |some (.array n e)=>match Cd P d e with|some ks=>if dG P e=some ks.length/\dG P t=some (n*ks.length)then some (ay n ks).flatten else none|none=>none
  |some (.struct fs)=>match Wp P (Cd P d) fs.toList 0 with|some ks=>if P.stoodInHeld t=false/\dG P t=some ks.length then some ks else none|none=>none
  |_=>none
def Cw(P:Program)(t:TypeId):Option Bool:=((P.info? t).bind (·.zero)).map fun|.agg _=>true|_=>false
def BA(P:Program)(k e:TypeId):Option (Bool×List Kd×Bool×List Value):=match eN P k,Cd P 8 k,eN P e,gQ P e with|some ka,some ks,some va,some z=>if Cw P e=some va then some (ka,ks,va,z)else none|_,_,_,_=>none
def ou(kind:Nat)(neg:Bool)(x y:Operand):K×List Operand:=if w7 kind y then(.IK kind neg,[x])else if w7 kind x then(.IK kind neg,[y])else(.fw,[])
def vV(P:Program)(op:BinOp)(t:TypeId)(x y:Operand):K×List Operand:=
 match op with
 |.eql|.neq=>
  match P.underlying t with
  |some .bool=>(.DF (op==.neq),[x,y])
  |some (.int _)|some (.float _)|some .string=>(.Gv op,[x,y])
  |some (.slice _)=>ou 0 (op==.neq) x y
  |some (.pointer _)=>ou 1 (op==.neq) x y
  |some (.func _ _ _)=>ou 2 (op==.neq) x y
  |some (.struct _)|some (.array _ _)=>match Cd P 8 t with|some ks=>if P.eqGuardType P.depth t=false then(.Fo (op==.neq) ks,[x,y])else(.fw,[])|none=>(.fw,[])
  |_=>(.fw,[])
 |op=>(.Gv op,[x,y])
def yi(P:Program)(e:TypeId):Bool:=match P.info? e with|some i=>decide (i.bytes<=8)|none=>false
def pK(P:Program)(e:TypeId):Bool:=match P.info? e with|some i=>decide (0<i.bytes)&&decide (i.bytes<=16384)|none=>false
def ptE(P:Program)(e:TypeId):Bool:=match P.underlying e with|some (.struct fs)=>fs.any fun f=>(match P.underlying f.type with|some (.pointer _)=>true|_=>false)|_=>false
def jR(P:Program)(b:Builtin)(args:List Operand)(ts:List TypeId):K×List Operand:=
 match b,ts with
 |.len,[t]=>match P.underlying t with|some .string=>(.len true,args)|some (.slice _)=>(.len false,args)|some (.map _ _)=>(.Km,args)|_=>(.fw,[])
 |.max,_=>(.AR true,args)
 |.min,_=>(.AR false,args)
 |.append,[s,x]=>
  match P.underlying s,P.underlying x with
  |some (.slice e),some (.slice _)=>match dG P e,gQ P e with|some (n+1),some z=>if pK P e=true/\z.length=n+1 then(.append (n+1) (yi P e),args)else(.fw,[])|_,_=>(.fw,[])
  |some (.slice e),some (.int _)=>match dG P e,gQ P e with|some (n+1),some z=>if pK P e=true/\z.length=n+1 then(.apm z,args)else(.fw,[])|_,_=>(.fw,[])
  |_,_=>(.fw,[])
 |.cap,[t]=>match P.underlying t with|some (.slice _)=>(.ae1,args)|_=>(.fw,[])
 |.copy,[d,_]=>
  match P.underlying d with
  |some (.slice e)=>match dG P e with|some (n+1)=>(.copy (n+1),args)|_=>(.fw,[])
  |_=>(.fw,[])
 |.delete,[m,_]=>
  match P.underlying m with
  |some (.map kt e)=>match BA P kt e with|some (ka,ks,_,_)=>(.Kk ka ks,args)|none=>(.fw,[])
  |_=>(.fw,[])
 |.clear,[s]=>
  match P.underlying s with
  |some (.slice e)=>match dG P e,gQ P e with|some (n+1),some z=>if z.length=n+1 then(.clear z,args)else(.fw,[])|_,_=>(.fw,[])
  |_=>(.fw,[])
 |_,_=>(.fw,[])
def abo(P:Program)(f:FuncId):Bool:=
 match P.funcs[f]?with
 |some fn=>
  !(fn.name== "runtime.NumGoroutine")&&fn.body.isNone&&(Extern.findNext fn).isNone&&(Extern.allGenericRows.lookup fn.name).isNone&&(Extern.allTypedRows.lookup fn.name).isNone&&(Extern.allRows.lookup fn.name).isNone&&fn.origin== "slices.overlaps" &&
  (match fn.params.toList with
   |t::_=>(match P.underlying t with|some (.slice e)=>(match dG P e with|some (_+1)=>true|_=>false)|_=>false)
   |[]=>false)
 |none=>false
def Dp:List Value->Bool
 |[.slice none 0 0]=>true
 |_=>false
def VG(P:Program)(aR:Cu)(e:TypeId)(z:List Value):Option Nat:=if(aR 1000000000).1=true/\Dp z=true then(match P.underlying e with|some (.slice ee)=>(match dG P ee with|some (m+1)=>some (m+1)|_=>none)|_=>none)else none
def Kn(P:Program)(t:TypeId):Bool:=match P.underlying t with|some (.slice _)=>true|_=>false
def yg(P:Program)(aR:Cu):Op->K×List Operand
 |.move x|.assign x=>(.mv,[x])
 |.pick c a b=>(.pick,[c,a,b])
 |.alloc e=>match gQ P e with|some z=>(.alloc z,[])|none=>(.fw,[])
 |.box _ x=>(.box,[x])
 |.build t parts=>
  match P.underlying t,gQ P t with
  |some (.struct fields),some z=>match kI P fields (parts.toList.map (·.1))with|some pl=>if fields.toList.all (fun f=>(dG P f.type).isSome)then(.build z pl,parts.toList.map (·.2))else(.fw,[])|none=>(.fw,[])
  |some (.array _ e),some z=>match dG P e with|some n=>(.build z (parts.toList.map fun p=>(p.1*n,n)),parts.toList.map (·.2))|none=>(.fw,[])
  |_,_=>(.fw,[])
 |.buildSlice t len parts=>
  match P.underlying t with
  |some (.slice e)=>match dG P e,gQ P e with|some (n+1),some z=>if len*(n+1)<=4096/\z.length=n+1/\ptE P e=true then(.XO (n+1) len ((aK (len*(n+1))).map fun i=>z.getD (i %(n+1)) undef) (parts.toList.map (·.1)),parts.toList.map (·.2))else if len*(n+1)<=4096/\z.length=n+1 then(.buildSlice (n+1) len ((aK (len*(n+1))).map fun i=>z.getD (i %(n+1)) undef) (parts.toList.map (·.1)),parts.toList.map (·.2))else(.fw,[])|_,_=>(.fw,[])
  |_=>(.fw,[])
 |.load t a=>match eN P t,dG P t with|some g,some n=>(if(aR 1000000000).1=true/\Kn P t=true/\g=false/\n=1 then .Ii else .load g n,[a])|_,_=>(.fw,[])
 |.store t a x=>match dG P t with|some n=>(.store n,[a,x])|none=>(.fw,[])
 |.nilCheck x=>(.nilCheck,[x])
 |.binOp op t x y _=>vV P op t x y
 |.unOp op _ x=>(.un op,[x])
 |.convert s d x=>match P.underlying s,P.underlying d with|some (.int _),some (.int k)=>(.Cr k,[x])|some (.int _),some (.float k)=>(.Ma k,[x])|some .string,some .string=>(.Aa,[x])|_,_=>(.fw,[])
 |.makeFunc (.func f) first captured=>if first.isEmpty then(.TM f,captured.toList)else(.fw,[])
 |.makeSlice t l c=>
  match P.underlying t with
  |some (.slice e)=>match dG P e,gQ P e with|some (n+1),some z=>if z.length=n+1/\pK P e=true then(match VG P aR e z with|some m=>.Qt m|none=>.makeSlice z,[l,c])else(.fw,[])|_,_=>(.fw,[])
  |_=>(.fw,[])
 |.slice t x lo hi none=>
  match P.underlying t with
  |some .string=>(.slice true 1 lo.isSome hi.isSome,x::lo.toList++hi.toList)
  |some (.slice e)=>match dG P e with|some n=>(.slice false n lo.isSome hi.isSome,x::lo.toList++hi.toList)|none=>(.fw,[])
  |_=>(.fw,[])
 |.slice t x (some l) (some u) (some m)=>
  match P.underlying t with
  |some (.slice e)=>match dG P e with|some n=>(.WD n,[x,l,u,m])|none=>(.fw,[])
  |_=>(.fw,[])
 |.fieldAddr s x f=>
  match P.underlying s with
  |some (.struct fields)=>match fields[f]?with|some fl=>(match dG P fl.type with|some (m+1)=>(.fieldAddr fl.offset (m+1),[x])|_=>(.fw,[]))|none=>(.fw,[])
  |_=>(.fw,[])
 |.field s x f=>
  match P.underlying s with
  |some (.struct fields)=>match fields[f]?with|some fl=>(match eN P fl.type,dG P fl.type with|some g,some n=>(.field g fl.offset n,[x])|_,_=>(.fw,[]))|none=>(.fw,[])
  |_=>(.fw,[])
 |.indexAddr t x i=>
  match P.underlying t with
  |some (.slice e)=>match dG P e with|some n=>if ptE P e=true then(.ixB n,[x,i])else(.indexAddr none n,[x,i])|none=>(.fw,[])
  |some (.array len e)=>match dG P e with|some n=>(.indexAddr (some len) n,[x,i])|none=>(.fw,[])
  |_=>(.fw,[])
 |.index t x i=>
  match P.underlying t with
  |some .string=>(.zS,[x,i])
  |some (.array len e)=>match eN P e,dG P e with|some g,some n=>(.index g len n,[x,i])|_,_=>(.fw,[])
  |_=>(.fw,[])
 |.extract x i=>(.extract i,[x])
 |.makeMap t none=>
  match P.underlying t with
  |some (.map k e)=>match eN P k,eN P e with|some ka,some va=>(.makeMap ka va,[])|_,_=>(.fw,[])
  |_=>(.fw,[])
 |.lookup t x ix ok=>
  match P.underlying t with
  |some (.map k e)=>match BA P k e with|some (ka,ks,va,z)=>(.lookup ka ks va z ok,[x,ix])|none=>(.fw,[])
  |_=>(.fw,[])
 |.mapEntry t m k=>
  match P.underlying t with
  |some (.map kt e)=>match BA P kt e with|some (ka,ks,va,z)=>(.mapEntry ka ks va z,[m,k])|none=>(.fw,[])
  |_=>(.fw,[])
 |.mapUpdate t m k x=>
  match P.underlying t with
  |some (.map kt e)=>match BA P kt e with|some (ka,ks,va,z)=>(.Kj ka ks va z.length,[m,k,x])|none=>(.fw,[])
  |_=>(.fw,[])
 |.entryStore t m s x=>
  match P.underlying t with
  |some (.map kt e)=>match BA P kt e with|some (_,_,va,z)=>(.entryStore va z.length,[m,s,x])|none=>(.fw,[])
  |_=>(.fw,[])
 |.call c=>match c.callee with|.builtin b=>jR P b c.args.toList c.argTypes.toList|.value (.func f)=>if(aR f).2.length=9 then(if abo P f=true then(.ovl,c.args.toList)else(.fw,[]))else(.call (aR f).1 (aR f).2,.func f::c.args.toList)|.value f=>(.call false [],f::c.args.toList)|.invoke _ _=>(.fw,[])
 |_=>(.fw,[])
def b9(P:Program)(aR:Cu)(nt:Nat)(all:Array Oper)(o:Oper):Cc:=
 {dst:=o.dst
  k:=if(match o.dst with|some d=>decide (d<nt)|none=>true)then(yg P aR o.op).1 else .fw
  args:=(yg P aR o.op).2
  guard:=match o.guard with|none=>none|some (j,b)=>some (((all[j]?).bind (·.dst)).getD 1000000000,b)}
def B1:K->Nat
 |.mv|.pick|.build _ _|.nilCheck|.Gv _|.DF _|.IK _ _|.Fo _ _|.un _|.Cr _|.Ma _|.Aa|.TM _|.fieldAddr _ _|.field _ _ _
 |.indexAddr _ _|.ixB _|.zS|.index _ _ _|.extract _|.len _|.AR _|.fw=>0
 |.load _ _|.lookup _ _ _ _ _|.slice _ _ _ _|.Km=>1
 |_=>2
def sU(acc:List Nat):List Edge->Nat
 |[]=>0
 |e::r=>if Region.binds .any e then(sU acc r)|||2^e.on|||acc.getD e.on 0 else sU acc r
def R3:List Oper->List Nat->List Nat
 |[],acc=>acc
 |o::r,acc=>R3 r (acc++[sU acc o.after.toList])
def Bu(m:List Nat):List Oper->Nat->Bool
 |[],_=>true
 |o::r,i=>m.getD i 0==sU m o.after.toList&&o.after.toList.all (fun e=>!(Region.binds .any e)||decide (e.on<i))&&Bu m r (i+1)
def fK(m:List Nat)(i j:Nat):Bool:=(m.getD j 0).testBit i
def opT:Operand->Option Nat
 |.tmp t=>some t
 |_=>none
def F_(o:Cc):List Nat:=o.args.filterMap opT++(match o.guard with|some (t,_)=>[t]|none=>[])
def NW(d:Option Nat)(l:List Nat):Bool:=match d with|some d=>l.contains d|none=>false
def DM(a b:Cc):Bool:=NW a.dst (F_ b)||NW b.dst (F_ a)||NW a.dst b.dst.toList
def zp(m:List Nat)(i:Nat)(a:Cc):List Cc->Nat->Bool
 |[],_=>true
 |b::r,j=>(fK m i j||!DM a b)&&zp m i a r (j+1)
def Bs(m:List Nat):List Cc->Nat->Bool
 |[],_=>true
 |a::r,i=>zp m i a r (i+1)&&Bs m r (i+1)
def WI:Value->Value->Bool
 |.int k a,.int k' b=>decide (k=k')&&decide (a=b)
 |.bool a,.bool b=>decide (a=b)
 |.string a,.string b=>decide (a.toList=b.toList)
 |.float k a,.float k' b=>decide (k=k')&&decide (a=b)
 |.slice none 0 0,.slice none 0 0|.pointer none,.pointer none|.map none,.map none|.nilFunc,.nilFunc|.nilIface,.nilIface=>true
 |_,_=>false
def Vr:List Value->List Value->Bool
 |[],[]=>true
 |x::xs,y::ys=>WI x y&&Vr xs ys
 |_,_=>false
def G0:K->K->Bool
 |.lookup ka ks va z false,.mapEntry ka' ks' va' z'=>decide (ka=ka')&&decide (ks=ks')&&decide (va=va')&&Vr z z'
 |_,_=>false
def A4(m:List Nat)(i:Nat)(a:Cc):List Cc->Nat->List (Nat×Nat)
 |[],_=>[]
 |b::r,j=>if fK m i j||B1 b.k==0||B1 b.k+B1 a.k<=2 then A4 m i a r (j+1)else(i,if G0 a.k b.k then 1000+j else j)::A4 m i a r (j+1)
def vQ(m:List Nat):List Cc->Nat->List (Nat×Nat)
 |[],_=>[]
 |a::r,i=>(if B1 a.k==0 then[]else A4 m i a r (i+1))++vQ m r (i+1)
inductive Sl(α:Type)where
 |nil
 |mk (l:List α)
 deriving Inhabited,DecidableEq
def Sl.l{α:Type}:Sl α->List α
 |.nil=>[]
 |.mk l=>l
def Sl.nw{α:Type}:Sl α->Bool
 |.nil=>true
 |.mk _=>false
abbrev wr(k:IntKind)(n:Int):Int:=k.wrap n
def pL(k:IntKind)(a b:Int):Int:=k.wrap (bc k.bits a&&&bc k.bits b).toNat
def V0:{f:IntKind->Int->Int->Int//f=pL}:=Classical.choice ⟨⟨_,rfl⟩⟩
def p7(k:IntKind)(a b:Int):Int:=V0.1 k a b
theorem se:p7=pL:=funext fun k=>funext fun a=>funext fun b=>congrFun (congrFun (congrFun V0.2 k) a) b
def KP(k:IntKind)(a b:Int):Int:=k.wrap (bc k.bits a|||bc k.bits b).toNat
def XR:{f:IntKind->Int->Int->Int//f=KP}:=Classical.choice ⟨⟨_,rfl⟩⟩
def As(k:IntKind)(a b:Int):Int:=XR.1 k a b
theorem Bh:As=KP:=funext fun k=>funext fun a=>funext fun b=>congrFun (congrFun (congrFun XR.2 k) a) b
def VZ(k:IntKind)(a b:Int):Int:=k.wrap (bc k.bits a^^^bc k.bits b).toNat
def VY:{f:IntKind->Int->Int->Int//f=VZ}:=Classical.choice ⟨⟨_,rfl⟩⟩
def XQ(k:IntKind)(a b:Int):Int:=VY.1 k a b
theorem U2:XQ=VZ:=funext fun k=>funext fun a=>funext fun b=>congrFun (congrFun (congrFun VY.2 k) a) b
def tg(k:IntKind)(a b:Int):Int:=k.wrap (bc k.bits a&&&~~~bc k.bits b).toNat
def DT:{f:IntKind->Int->Int->Int//f=tg}:=Classical.choice ⟨⟨_,rfl⟩⟩
def gu(k:IntKind)(a b:Int):Int:=DT.1 k a b
theorem qF:gu=tg:=funext fun k=>funext fun a=>funext fun b=>congrFun (congrFun (congrFun DT.2 k) a) b
def ae3(k:IntKind)(a:Int):Int:=k.wrap (bc k.bits (if k.signed then-1 else k.max)^^^bc k.bits a).toNat
def sd(k:IntKind)(a b:Int):Int:=k.wrap (a*2^(min b.toNat k.bits))
def od(k:IntKind)(a b:Int):Int:=a.fdiv (2^(min b.toNat k.bits))
def Xw(k:IntKind)(a b:Int):Option Int:=if b=0 then none else some (k.wrap (a.tdiv b))
def PJ(_:IntKind)(a b:Int):Option Int:=if b=0 then none else some (a.tmod b)
def AF(k:IntKind)(a b:Int):Option Int:=if b<0 then none else some (sd k a b)
def AB(k:IntKind)(a b:Int):Option Int:=if b<0 then none else some (od k a b)
def XI(a b:ByteArray):Option ByteArray:=if((a.size+b.size:Nat):Int)>IntKind.i64.max then none else some (a++b)
def atS(s:ByteArray)(i:Int):Option Int:=if 0<=i then s[i.toNat]?.map fun b=>(b.toNat:Int)else none
def CG(s:ByteArray)(lo hi:Int):Option ByteArray:=if 0<=lo/\lo<=hi/\hi<=s.size then some (s.extract lo.toNat hi.toNat)else none
def yT{α:Type}(z:α)(l c:Int):Option (List α):=if 0<=l/\l<=c/\c<=2147483648 then some (ay l.toNat z)else none
def Sl.to{α:Type}(s:Sl α)(r:List α):Sl α:=match s with|.nil=>.nil|.mk _=>.mk r
def cD(i:Int)(n:Nat):Option Nat:=if 0<=i/\i<n then some i.toNat else none
theorem mJ{i:Int}{n m:Nat}:cD i n=some m<->i=m/\m<n:=by
 unfold cD;split
 .simp only[fh];omega
 .simp only[reduceCtorEq,false_iff];omega
theorem bS{i n:Nat}(h:i<n):cD (i:Int) n=some i:=mJ.2 ⟨rfl,h⟩
def gt{α:Type}[Inhabited α](l:List α)(n:Nat):α:=l.getD n default
theorem QW{α:Type}[Inhabited α]{l:List α}{n:Nat}(h:n<l.length):l[n]?=some (gt l n):=by simp[gt,List.getD,h]
theorem cU{α:Type}[Inhabited α]{l:List α}{n:Nat}(h:n<l.length):gt l n=l[n]:=by simp[gt,List.getD,h]
def ic{α:Type}(l:List α):Option (List α):=if l.length<=2147483648 then some l else none
theorem u_{α:Type}{l m:List α}:ic l=some m<->l=m/\l.length<=2147483648:=by
 unfold ic;split
 .simp_all
 .rename_i hl;simp only[reduceCtorEq,false_iff,not_and];rintro rfl;omega
theorem nm{α:Type}{l:List α}(h:l.length<=2147483648):ic l=some l:=u_.2 ⟨rfl,h⟩
def UP{α:Type}(l:List α):Option (List α):=if l.length<=17592186044416 then some l else none
theorem Bf{α:Type}{l m:List α}:UP l=some m<->l=m/\l.length<=17592186044416:=by
 unfold UP;split
 .simp_all
 .rename_i hl;simp only[reduceCtorEq,false_iff,not_and];rintro rfl;omega
def nD{α:Type}(l:List α)(lo hi:Int):Option (List α):=if 0<=lo/\lo<=hi/\hi<=l.length then some ((l.drop lo.toNat).take (hi.toNat-lo.toNat))else none
theorem tn{α β:Type}{x:Option α}{f:α->Option β}{r:β}(h:x.bind f=some r):∃a,x=some a/\f a=some r:=Option.bind_eq_some_iff.1 h
section
variable{α:Type}{l:List α}{κ ν:Type}
theorem u5{l r:List α}{lo hi:Int}:nD l lo hi=some r<->(0<=lo/\lo<=hi/\hi<=l.length)/\(l.drop lo.toNat).take (hi.toNat-lo.toNat)=r:=by
 unfold nD;split
 .rename_i h;simp[h]
 .rename_i h;simp[h]
def B_(l:List α)(off n:Nat)(x:List α):List α:=iF l off (x.take n)
def Ip(a b:List α):Option Unit:=if a.length=b.length then some ()else none
theorem Fd{a b:List α}{u:Unit}:Ip a b=some u<->a.length=b.length:=by unfold Ip;split<;>simp_all
end
structure Mp(K V:Type)where
 es:List (K×V×Nat)
 ce:Nat
def Mp.none{K V:Type}:Mp K V:=⟨[],0⟩
instance{K V:Type}:Inhabited (Mp K V):=⟨.none⟩
section
variable{κ ν:Type}
def dx[DecidableEq κ](k:κ):List (κ×ν×Nat)->Nat->Option (Nat×κ×ν×Nat)
 |[],_=>none
 |e::r,i=>if k=e.1 then some (i,e)else dx k r (i+1)
def kp[DecidableEq κ](m:Mp κ ν)(z:ν)(k:κ):ν:=match dx k m.es 0 with|some (_,e)=>e.2.1|none=>z
def Df[DecidableEq κ](m:Mp κ ν)(k:κ):Bool:=(dx k m.es 0).isSome
def lG[DecidableEq κ](m:Mp κ ν)(z:ν)(k:κ):Mp κ ν×ν×Int:=match dx k m.es 0 with|some (_,e)=>(m,e.2.1,e.2.2)|none=>(⟨m.es++[(k,z,m.ce)],m.ce+1⟩,z,m.ce)
def mH:List (κ×ν×Nat)->Nat->ν->List (κ×ν×Nat)
 |[],_,_=>[]
 |e::r,0,v=>(e.1,v,e.2.2)::r
 |e::r,i+1,v=>e::mH r i v
def De(m:Mp κ ν)(s:Int)(v:ν):Option (Mp κ ν):=(m.es.findIdx? (fun e=>decide ((e.2.2:Int)=s))).map fun i=>⟨mH m.es i v,m.ce⟩
def wV[DecidableEq κ](m:Mp κ ν)(k:κ)(v:ν):Mp κ ν:=match dx k m.es 0 with|some (i,_)=>⟨mH m.es i v,m.ce⟩|none=>⟨m.es++[(k,v,m.ce)],m.ce+1⟩
def wb[DecidableEq κ](m:Mp κ ν)(k:κ):Mp κ ν:=match dx k m.es 0 with|some (i,_)=>⟨m.es.eraseIdx i,m.ce⟩|none=>m
theorem kU[DecidableEq κ]{k:κ}:∀{l:List (κ×ν×Nat)}{i j:Nat}{e:κ×ν×Nat},dx k l i=some (j,e)->i<=j/\l[j-i]?=some e/\e.1=k:=by
 intro l;induction l with
 |nil=>intro i j e h;simp[dx]at h
 |cons x l ih=>
  intro i j e h;simp only[dx]at h;split at h
  .rename_i hk;obtain⟨rfl,rfl⟩:i=j/\x=e:=by simpa using h
   exact⟨Nat.le_refl _,by simp,hk.symm⟩
  .obtain ⟨h1,h2,h3⟩:=ih h;have e1:j-i=(j-(i+1))+1:=by omega
   exact⟨by omega,by rw[e1];simpa using h2,h3⟩
end
def oF{α β:Type}(f:α->Option (α⊕β)):Nat->α->Option β
 |0,_=>none
 |n+1,a=>match f a with|some (.inl a')=>oF f n a'|some (.inr b)=>some b|none=>none
theorem Bt{α β:Type}{f:α->Option (α⊕β)}:∀{n m:Nat}{a:α}{b:β},n<=m->oF f n a=some b->oF f m a=some b:=by
 intro n;induction n with
 |zero=>intro m a b _ h;simp[oF]at h
 |succ n ih=>
  intro m a b hm h;cases m with
  |zero=>omega
  |succ m=>
   simp only[oF]at h|-;split at h
   .exact ih (by omega) h
   .exact h
   .simp at h
open Classical in
def aU{α β:Type}(f:α->Option (α⊕β))(a:α):Option β:=if h:∃n b,oF f n a=some b then some (nv (gP h))else none
theorem rT{α β:Type}{f:α->Option (α⊕β)}{a:α}{b:β}:aU f a=some b<->∃n,oF f n a=some b:=by
 constructor
 .intro h;unfold aU at h;split at h
  .rename_i hx;refine⟨nv hx,?_⟩;rw[gP (gP hx)];exact h
  .simp at h
 .rintro ⟨n,hn⟩;have hx:∃n b,oF f n a=some b:=⟨n,b,hn⟩
  unfold aU;rw[dif_pos hx];have h2:=gP (gP hx);have h3:=Bt (Nat.le_max_left n (nv hx)) hn;have h4:=Bt (Nat.le_max_right n (nv hx)) h2;rw[h3]at h4;rw[<-h4]
theorem Ig{α β:Type}(f:α->Option (α⊕β))(a:α):aU f a=match f a with
  |some (.inl a')=>aU f a'
  |some (.inr b)=>some b
  |none=>none:=by
 apply Option.ext;intro b;rw[rT];constructor
 .rintro ⟨n,hn⟩;cases n with
  |zero=>simp[oF]at hn
  |succ n=>
   simp only[oF]at hn;split at hn
   .exact rT.2 ⟨n,hn⟩
   .exact hn
   .simp at hn
 .intro h;split at h
  .rename_i a' ha;obtain⟨n,hn⟩:=rT.1 h;exact⟨n+1,by simp only[oF,ha];exact hn⟩
  .rename_i b' ha;exact⟨1,by simp only[oF,ha];exact h⟩
  .simp at h
theorem fu{α β:Type}{f:α->Option (α⊕β)}{a a':α}(h:f a=some (.inl a')):aU f a=aU f a':=by rw[Ig,h]
theorem cM{α β:Type}{f:α->Option (α⊕β)}{a:α}{b:β}(h:f a=some (.inr b)):aU f a=some b:=by rw[Ig,h]
inductive Ty where
 |i (k:IntKind)
 |b
 |s
 |f (k:FloatKind)
 |sl (t:Ty)
 |mp (k v:Ty)
 |un
 |pr (a c:Ty)
 |st (t:Ty)
 |ar (n:Nat) (t:Ty)
 |o (k:Nat)
 deriving Inhabited,DecidableEq
def Gr{α:Type}(wd:Bool)(t:Ty)(l:List α):Option (List α):=match wd,t with|true,.f _=>UP l|_,_=>ic l
theorem Og{α:Type}{wd:Bool}{t:Ty}{l m:List α}(h:Gr wd t l=some m):l=m/\(l.length<=2147483648\/(wd=true/\l.length<=17592186044416)):=by
 unfold Gr at h;split at h
 .exact ⟨(Bf.1 h).1,.inr ⟨rfl,(Bf.1 h).2⟩⟩
 .exact ⟨(u_.1 h).1,.inl (u_.1 h).2⟩
def Arr(n:Nat)(α:Type):Type:={l:List α//l.length=n}
def Arr.set{n:Nat}{α:Type}(v:Arr n α)(k:Nat)(x:α):Arr n α:=⟨v.1.set k x,by rw[List.length_set];exact v.2⟩
instance{n:Nat}{α:Type}[Inhabited α]:Inhabited (Arr n α):=⟨⟨ay n default,bp⟩⟩
instance{n:Nat}{α:Type}[DecidableEq α]:DecidableEq (Arr n α):=inferInstanceAs (DecidableEq {l:List α//l.length=n})
@[reducible] def El:Ty->Type
 |.i _=>Int
 |.b=>Bool
 |.s=>ByteArray
 |.f _=>Nat
 |.sl t=>Sl (El t)
 |.mp k v=>Mp (El k) (El v)
 |.un=>Unit
 |.pr a c=>El a×El c
 |.st t=>El t
 |.ar n t=>Arr n (El t)
 |.o _=>Unit
instance L9:(t:Ty)->Inhabited (El t)
 |.i _=>⟨(0:Int)⟩
 |.b=>⟨false⟩
 |.s=>⟨(default:ByteArray)⟩
 |.f _=>⟨(0:Nat)⟩
 |.sl _=>⟨Sl.nil⟩
 |.mp _ _=>⟨Mp.none⟩
 |.un=>⟨()⟩
 |.pr a c=>⟨((L9 a).default,(L9 c).default)⟩
 |.st t=>L9 t
 |.ar n t=>⟨⟨ay n (L9 t).default,bp⟩⟩
 |.o _=>⟨()⟩
def pV:(t:Ty)->El t
 |.i _=>(0:Int)
 |.b=>false
 |.s=>(oz)
 |.f _=>(0:Nat)
 |.sl _=>Sl.nil
 |.mp _ _=>Mp.none
 |.un=>()
 |.pr a c=>(pV a,pV c)
 |.st t=>pV t
 |.ar n t=>⟨ay n (pV t),bp⟩
 |.o _=>()
def dR(t u:Ty)(v:El t):Option (El u):=if h:t=u then some (h▸v)else none
def df:Ty->Nat
 |.un=>0
 |.pr a c=>df a+df c
 |.st t=>df t
 |.ar n t=>n*df t
 |_=>1
def kS:Ty->Bool
 |.o _|.mp _ _=>false
 |.pr a c=>kS a&&kS c
 |.st t|.ar _ t|.sl t=>kS t
 |_=>true
def iD:Ty->Bool
 |.st _|.ar _ _=>true
 |_=>false
inductive Pe where
 |fd (i:Nat)
 |ix (n:Nat)
abbrev rI:=List Pe
inductive V where
 |x (t:Ty) (v:El t)
 |kb (c:Bool)
 |nl (k:Nat)
 |so (id:Nat)
 |sr (id:Nat)
 |sb (id ver lo:Nat) (t:Ty) (r:Sl (El t))
 |op (id:Nat) (t:Ty) (p:rI)
 |ep (id n:Nat) (t:Ty) (p:rI)
 |pt (t:Ty) (v:El t)
 |fn (z:Bool) (f:Nat) (caps:V)
 |om (id:Nat)
 |vs (id:Nat) (t:Ty)
 |rc (l:V)
 |tp (l:V)
 |ni
 |co (a r:V)
 |fl (l:List Value)
 |no
 |gn
inductive O where
 |ar (t:Ty) (s:Sl (El t)) (ver:Nat)
 |im (t:Ty) (s:Sl (El t)) (ver:Nat)
 |bx (t:Ty) (c:V)
 |ib (t:Ty) (v:El t)
 |mp (k v:Ty) (m:Mp (El k) (El v))
 |rw(t:Ty) (s:Sl (Sl (El t))) (ln:Option (Nat×Nat))
abbrev H2:=List (Nat×Option O)
def fO(h:H2)(id:Nat):Option O:=(gB h id).join
def AZ:(t:Ty)->El t->Nat->Option V
 |.pr a _,v,0=>some (.x a v.1)
 |.pr _ c,v,n+1=>AZ c v.2 n
 |t,v,0=>some (.x t v)
 |_,_,_=>none
def Ey:Ty->Nat->Option Ty
 |.pr a _,0=>some a
 |.pr _ c,n+1=>Ey c n
 |t,0=>some t
 |_,_=>none
def D6:Ty->Nat->Nat
 |.pr _ _,0=>0
 |.pr a c,n+1=>df a+D6 c n
 |_,_=>0
def O1:(t:Ty)->El t->V
 |.pr a c,v=>.co (.x a v.1) (O1 c v.2)
 |t,v=>.co (.x t v) .ni
def abE(k:IntKind):List Value->Option (Int×List Value)
 |.int k' n::r=>if k'=k then some (n,r)else none
 |_=>none
def abF:List Value->Option (Bool×List Value)
 |.bool c::r=>some (c,r)
 |_=>none
def abC:List Value->Option (ByteArray×List Value)
 |.string c::r=>some (c,r)
 |_=>none
def VQ(k:FloatKind):List Value->Option (Nat×List Value)
 |.float k' n::r=>if k'=k then some (n,r)else none
 |_=>none
def abD{α:Type}:List Value->Option (Sl α×List Value)
 |.slice none 0 0::r=>some (Sl.nil,r)
 |_=>none
def Ro{α:Type}(f:List Value->Option (α×List Value)):(m:Nat)->List Value->Option (Arr m α×List Value)
 |0,l=>some (⟨[],rfl⟩,l)
 |m+1,l=>match f l with|some (x,l)=>(match Ro f m l with|some (v,l)=>some (⟨x::v.1,by rw[List.length_cons,v.2]⟩,l)|none=>none)|none=>none
def zZ:(t:Ty)->List Value->Option (El t×List Value)
 |.i k=>abE k
 |.b=>abF
 |.s=>abC
 |.f k=>VQ k
 |.sl _=>abD
 |.pr a c=>fun l=>match zZ a l with|some (x,l)=>(match zZ c l with|some (y,l)=>some ((x,y),l)|none=>none)|none=>none
 |.st t=>zZ t
 |.ar n t=>Ro (zZ t) n
 |.mp _ _|.un|.o _=>fun _=>none
def pI(u:Ty):V->Option (El u)
 |.x t v=>dR t u v
 |.kb c=>dR .b u c
 |.nl 0=>(match u with|.sl _=>some Sl.nil|_=>none)
 |.fl l=>bif iD u then(match zZ u l with|some (x,[])=>some x|_=>none)else none
 |_=>none
def Ps:(t:Ty)->El t->Nat->V->Option (El t)
 |.pr a _,v,0,w=>match pI a w with|some y=>some (y,v.2)|none=>none
 |.pr _ c,v,n+1,w=>match Ps c v.2 n w with|some y=>some (v.1,y)|none=>none
 |t,_,0,w=>pI t w
 |_,_,_,_=>none
def wU:V->Nat->Option V
 |.co a _,0=>some a
 |.co _ r,n+1=>wU r n
 |_,_=>none
def FP:V->Nat->V->V
 |.co _ r,0,w=>.co w r
 |.co a r,n+1,w=>.co a (FP r n w)
 |l,_,_=>l
def tA:V->rI->Option V
 |v,[]=>some v
 |.x (.st t) v,.fd i::p=>match AZ t v i with|some w=>tA w p|none=>none
 |.x (.ar _ t) v,.ix k::p=>tA (.x t (gt v.1 k)) p
 |.rc l,.fd i::p=>match wU l i with|some w=>tA w p|none=>none
 |_,_=>none
def pY:V->rI->V->Option V
 |_,[],w=>some w
 |.x (.st t) v,.fd i::p,w=>
  match AZ t v i with
  |some y=>match pY y p w with|some y'=>(match Ps t v i y' with|some v'=>some (.x (.st t) v')|none=>some (.rc (FP (O1 t v) i y')))|none=>none
  |none=>none
 |.x (.ar n t) v,.ix k::p,w=>match pY (.x t (gt v.1 k)) p w with|some y=>(match pI t y with|some y'=>some (.x (.ar n t) (v.set k y'))|none=>none)|none=>none
 |.rc l,.fd i::p,w=>match wU l i with|some y=>(match pY y p w with|some y'=>some (.rc (FP l i y'))|none=>none)|none=>none
 |_,_,_=>none
def zb:Ty->rI->Option Ty
 |t,[]=>some t
 |.st t,.fd i::p=>match Ey t i with|some u=>zb u p|none=>none
 |.ar _ t,.ix _::p=>zb t p
 |_,_=>none
def wm:Ty->rI->Nat
 |.st t,.fd i::p=>D6 t i+(match Ey t i with|some u=>wm u p|none=>0)
 |.ar _ t,.ix k::p=>k*df t+wm t p
 |_,_=>0
def Nv:Ty->rI->Prop
 |.st t,.fd i::p=>∃u,Ey t i=some u/\Nv u p
 |.ar n t,.ix k::p=>k<n/\Nv t p
 |_,[]=>True
 |_,_=>False
def Fy:Ty->V×V
 |.pr a c=>(.no,.co (Fy a).1 (Fy c).2)
 |.st t=>(bif kS t then .x (.st t) (pV t)else .rc (Fy t).2,.co (bif kS t then .x (.st t) (pV t)else .rc (Fy t).2) .ni)
 |.o k=>(.nl k,.co (.nl k) .ni)
 |.mp _ _=>(.nl 3,.co (.nl 3) .ni)
 |.sl t=>(bif kS t then .x (.sl t) Sl.nil else .nl 0,.co (bif kS t then .x (.sl t) Sl.nil else .nl 0) .ni)
 |.ar n t=>(bif kS t then .x (.ar n t) (pV (.ar n t))else .no,.co (bif kS t then .x (.ar n t) (pV (.ar n t))else .no) .ni)
 |.un=>(.x .un (),.co (.x .un ()) .ni)
 |.i k=>(.x (.i k) (0:Int),.co (.x (.i k) (0:Int)) .ni)
 |.b=>(.x .b false,.co (.x .b false) .ni)
 |.s=>(.x .s oz,.co (.x .s oz) .ni)
 |.f k=>(.x (.f k) (0:Nat),.co (.x (.f k) (0:Nat)) .ni)
abbrev K4(t:Ty):V:=(Fy t).1
def xF:V->Bool
 |.x t _=>iD t
 |.rc _|.fl _=>true
 |_=>false
deriving instance DecidableEq for Mp
instance DG:(t:Ty)->DecidableEq (El t)
 |.i _=>inferInstanceAs (DecidableEq Int)
 |.b=>inferInstanceAs (DecidableEq Bool)
 |.s=>inferInstanceAs (DecidableEq ByteArray)
 |.f _=>inferInstanceAs (DecidableEq Nat)
 |.sl t=>@instDecidableEqSl (El t) (DG t)
 |.mp k v=>@instDecidableEqMp (El k) (El v) (DG k) (DG v)
 |.un=>inferInstanceAs (DecidableEq Unit)
 |.pr a c=>@instDecidableEqProd (El a) (El c) (DG a) (DG c)
 |.st t=>DG t
 |.ar n t=>@instDecidableEqArr n (El t) (DG t)
 |.o _=>inferInstanceAs (DecidableEq Unit)
structure S2 where
 gX:List (Nat×V)
 heap:H2
 next:Nat
 wo:List Nat
 gh:V
structure OP where
 o:Cc
 t:Ty
 fi:List Nat
def GN:Ty->Nat
 |.pr _ c=>GN c+1
 |_=>1
def nfT:Ty->Nat
 |.st u=>GN u
 |_=>0
def Jo(t:Ty):Nat->Ty
 |0=>t
 |n+1=>.pr t (Jo t n)
def I_:V->Bool
 |.pt t _=>kS t
 |.ni=>true
 |.co a r=>I_ a&&I_ r
 |_=>false
def oN(h:H2):V->Bool
 |.x t _=>kS t
 |.pt t _=>kS t
 |.kb _|.nl _=>true
 |.op id _ _|.ep id _ _ _|.om id|.vs id _=>(match fO h id with|some _=>true|none=>false)
 |.so id=>(match fO h id with|some (.ar _ _ _)|some (.im _ _ _)=>true|_=>false)
 |.sr id=>(match fO h id with|some (.rw _ _ _)=>true|_=>false)
 |.sb id ver _ t _=>kS t&&(match fO h id with|some (.ar _ _ v)|some (.im _ _ v)=>v==ver|_=>false)
 |.fn true _ l=>I_ l
 |.fn false _ l=>oN h l
 |.rc l|.tp l=>oN h l
 |.fl l=>l.all plain
 |.ni=>true
 |.co a r=>oN h a&&oN h r
 |.no|.gn=>false
def Yb:Value->Option V
 |.bool c=>some (.kb c)
 |.int k n=>some (.x (.i k) n)
 |.float k n=>some (.x (.f k) n)
 |.string s=>some (.x .s s)
 |.pointer none=>some (.nl 1)
 |.slice none 0 0=>some (.nl 0)
 |.nilFunc=>some (.nl 2)
 |.map none=>some (.nl 3)
 |.nilIface=>some (.nl 4)
 |.agg cs=>if cs.toList.all plain then some (.fl cs.toList)else none
 |_=>none
def Uc:Nat->Option V:=fun _ => none
def Nr(e:List (Nat×V))(h:H2):Operand->Option V
 |.tmp t=>match gB e t with|some v=>bif oN h v then some v else none|none=>none
 |.const c=>Yb c
 |.global g=>(match Uc g with|some v=>bif I_ v then some v else none|none=>none)
 |.func f=>some (.fn true f .ni)
def EP:V->Nat
 |.x t _=>df t
 |.rc l=>EP l
 |.co a r=>EP a+EP r
 |.ni=>0
 |.fl l=>l.length
 |_=>1
def X_:V->Nat->Nat
 |.co a r,n+1=>EP a+X_ r n
 |_,_=>0
def eO:List V->V
 |[]=>.ni
 |v::r=>.co v (eO r)
def iA:V->List V
 |.co a r=>a::iA r
 |_=>[]
def rf:V->Bool->(u:Ty)->Option (El u)
 |.rc l,false,.st u=>rf l true u
 |.co a r,true,.pr t u=>match rf a false t,rf r true u with|some x,some y=>some (x,y)|_,_=>none
 |.co a .ni,true,u=>rf a false u
 |.ni,_,_=>none
 |v,false,u=>pI u v
 |_,_,_=>none
abbrev tF(u:Ty)(v:V):Option (El u):=rf v false u
def dF:V->Bool->Ty->Bool
 |.x u _,false,t=>decide (u=t)
 |.rc l,false,.st t=>dF l true t
 |.co a r,true,.pr t u=>dF a false t&&dF r true u
 |.co a .ni,true,t=>dF a false t
 |.kb _,false,.b=>true
 |.nl 0,false,.sl _|.so _,false,.sl _|.sr _,false,.sl _|.sb _ _ _ _ _,false,.sl _=>true
 |.nl 3,false,.mp _ _|.om _,false,.mp _ _=>true
 |.nl _,false,.o _|.op _ _ _,false,.o _|.ep _ _ _ _,false,.o _|.pt _ _,false,.o _|.fn _ _ _,false,.o _=>true
 |_,_,_=>false
def Jm(t:Ty)(v:V):Option V:=match(bif kS t then pI t v else none)with|some y=>some (.x t y)|none=>bif dF v false t then some v else none
def G1(h:H2):V->Option ((t:Ty)×Sl (El t)×List Nat)
 |.x (.sl t) s=>some ⟨t,s,[]⟩
 |.so id=>(match fO h id with|some (.ar t s _)|some (.im t s _)=>some ⟨t,s,[id]⟩|_=>none)
 |.sb id _ _ t r=>some ⟨t,r,[id]⟩
 |_=>none
def Sg(t:Ty)(h:H2):V->Option ((t:Ty)×Sl (El t)×List Nat)
 |.nl 0=>some ⟨t,Sl.nil,[]⟩
 |v=>G1 h v
def tD(h:H2):V->Option (V×List Nat)
 |.so id=>match G1 h (.so id)with|some ⟨t,s,l⟩=>some (.x (.sl t) s,l)|none=>none
 |.sr id=>match fO h id with|some (.rw t s none)=>some (.x (.sl (.sl t)) s,[id])|_=>none
 |.sb id ver lo t r=>match G1 h (.sb id ver lo t r)with|some ⟨t,s,l⟩=>some (.x (.sl t) s,l)|none=>none
 |.rc l=>match tD h l with|some (w,l)=>some (.rc w,l)|none=>none
 |.co a r=>match tD h a,tD h r with|some (x,l),some (y,m)=>some (.co x y,l++m)|_,_=>none
 |.x t v=>some (.x t v,[])
 |.kb c=>some (.kb c,[])
 |.nl k=>some (.nl k,[])
 |.fl l=>some (.fl l,[])
 |.ni=>some (.ni,[])
 |.fn true f l=>some (.fn true f l,[])
 |.pt t v=>some (.pt t v,[])
 |_=>none
def mgV(c:Bool):V->V->Option V
 |.kb a,.kb b=>some (.x .b (bif c then a else b))
 |.x t a,w=>match tF t w with|some b=>some (.x t (bif c then a else b))|none=>none
 |w,.x t b=>match tF t w with|some a=>some (.x t (bif c then a else b))|none=>none
 |_,_=>none
def vEq:Value->Value->Bool
 |.bool a,.bool b=>a==b
 |.int k a,.int k' b=>decide (k=k')&&a==b
 |.float k a,.float k' b=>decide (k=k')&&a==b
 |.string a,.string b=>decide (a=b)
 |.pointer none,.pointer none|.slice none 0 0,.slice none 0 0|.nilFunc,.nilFunc|.map none,.map none|.nilIface,.nilIface=>true
 |_,_=>false
def tq:List Value->List Value->Bool
 |[],[]=>true
 |a::r,b::s=>vEq a b&&tq r s
 |_,_=>false
def xo:Ty->List Value
 |.i k=>[.int k 0]
 |.b=>[.bool false]
 |.s=>[.string oz]
 |.f k=>[.float k 0]
 |.sl _=>[.slice none 0 0]
 |.mp _ _=>[.map none]
 |.un=>[]
 |.pr a c=>xo a++xo c
 |.st t=>xo t
 |.ar n t=>(ay n (xo t)).flatten
 |.o k=>[match k with|0=>.slice none 0 0|1=>.pointer none|2=>.nilFunc|3=>.map none|_=>.nilIface]
def AV:Ty->Option (List Kd)
 |.i k=>some [.i k]
 |.b=>some [.b]
 |.s=>some [.s]
 |.pr a c=>match AV a,AV c with|some x,some y=>some (x++y)|_,_=>none
 |.st t=>AV t
 |.ar n t=>match AV t with|some x=>some ((ay n x).flatten)|none=>none
 |_=>none
def aeM:List Nat->Bool
 |[1]=>true
 |_=>false
def RK(z c:Bool)(op:BinOp)(k k':IntKind)(a b:Int):Option V:=
 match op with
 |.shl=>bif z then some (.x (.i k) (sd k a b))else none
 |.shr=>bif z then some (.x (.i k) (od k a b))else none
 |op=>bif decide (k=k')then(match op with
  |.add=>some (.x (.i k) (wr k (a+b)))
  |.sub=>some (.x (.i k) (wr k (a-b)))
  |.mul=>some (.x (.i k) (wr k (a*b)))
  |.quo=>bif z then some (.x (.i k) (wr k (a.tdiv b)))else none
  |.rem=>bif z then some (.x (.i k) (a.tmod b))else none
  |.and=>some (.x (.i k) (bif c then pL k a b else p7 k a b))
  |.or=>some (.x (.i k) (As k a b))
  |.xor=>some (.x (.i k) (XQ k a b))
  |.andNot=>some (.x (.i k) (gu k a b))
  |.eql=>some (.x .b (a==b))
  |.neq=>some (.x .b (a !=b))
  |.lss=>some (.x .b (decide (a<b)))
  |.leq=>some (.x .b (decide (a<=b)))
  |.gtr=>some (.x .b (decide (a>b)))
  |.geq=>some (.x .b (decide (a>=b)))
  |_=>none)else none
theorem abP{c:Bool}{k:IntKind}{a b:Int}:(bif c then pL k a b else p7 k a b)=p7 k a b:=by cases c<;>first|rfl|(rw[se];rfl)
def Ge(k:FloatKind)(a b:Nat):Nat:=(k.format.add a b).getD (yw k)
def aeT(k:FloatKind)(a b:Nat):Nat:=(k.format.sub a b).getD (yw k)
def aeU(k:FloatKind)(a b:Nat):Nat:=(k.format.mul a b).getD (yw k)
def aeV(k:FloatKind)(a b:Nat):Nat:=(k.format.div a b).getD (yw k)
def IH(k:FloatKind)(a b:Nat):Bool:=k.format.order a b==some .eq
def Q_(k:FloatKind)(a b:Nat):Bool:=k.format.order a b==some .lt
def L5(k:FloatKind)(a b:Nat):Bool:=k.format.order a b==some .gt
def A2(k:FloatKind)(a b:Nat):Nat:=match k.format.order a b with|none=>yw k|some .lt=>a|some .gt=>b|some .eq=>if(k.decode a).neg then a else b
def Ez(k:FloatKind)(a b:Nat):Nat:=match k.format.order a b with|none=>yw k|some .lt=>b|some .gt=>a|some .eq=>if(k.decode a).neg then b else a
def Mo(op:BinOp)(k k':FloatKind)(a b:Nat):Option V:=
 bif decide (k=k')then(match op with
  |.add=>some (.x (.f k) (Ge k a b))
  |.sub=>some (.x (.f k) (aeT k a b))
  |.mul=>some (.x (.f k) (aeU k a b))
  |.quo=>some (.x (.f k) (aeV k a b))
  |.eql=>some (.x .b (IH k a b))
  |.neq=>some (.x .b (!(IH k a b)))
  |.lss=>some (.x .b (Q_ k a b))
  |.leq=>some (.x .b (Q_ k a b||IH k a b))
  |.gtr=>some (.x .b (L5 k a b))
  |.geq=>some (.x .b (L5 k a b||IH k a b))
  |_=>none)else none
def XP(op:BinOp)(x y:ByteArray):Option V:=match op with|.eql=>some (.x .b (x.toList==y.toList))|.neq=>some (.x .b (!(x.toList==y.toList)))|.lss=>some (.x .b (Op.bytesLess x.toList y.toList))|.leq=>some (.x .b (Op.bytesLess x.toList y.toList||x.toList==y.toList))|.gtr=>some (.x .b (!(Op.bytesLess x.toList y.toList||x.toList==y.toList)))|.geq=>some (.x .b (!(Op.bytesLess x.toList y.toList)))|_=>none
def WN:List Operand->Bool
 |[_,.const (.int _ n)]=>decide (n>0)
 |_=>false
def mmI(m:Bool)(k:IntKind):Int->List V->Option Int
 |x,[]=>some x
 |x,.x (.i k') y::r=>bif decide (k'=k)then mmI m k (bif m then(if y>x then y else x)else(if y<x then y else x)) r else none
 |_,_=>none
def Qr(m:Bool)(k:FloatKind):Nat->List V->Option Nat
 |x,[]=>some x
 |x,.x (.f k') y::r=>bif decide (k'=k)then Qr m k (bif m then Ez k x y else A2 k x y) r else none
 |_,_=>none
def zL(h:H2):V->Option (V×List Nat)
 |.pt t v=>some (.x t v,[])
 |.op id t p=>(match fO h id with
  |some (.bx u c)=>bif decide (u=t)then(match tA c p with|some w=>some (w,[id])|none=>none)else none
  |some (.ib u v)=>bif decide (u=t)then(match tA (.x u v) p with|some w=>some (w,[id])|none=>none)else none
  |_=>none)
 |.ep id n t p=>(match fO h id with
  |some (.ar u s _)|some (.im u s _)=>bif decide (u=t)then(match tA (.x u (gt s.l n)) p with|some w=>some (w,[id])|none=>none)else none
  |_=>none)
 |_=>none
def J9(h:H2)(kind:Nat):V->Option V
 |.nl k=>bif(k==kind)&&gE k 3 then some (.kb true)else none
 |.pt _ _|.op _ _ _|.ep _ _ _ _=>bif kind==1 then some (.kb false)else none
 |.fn _ _ _=>bif kind==2 then some (.kb false)else none
 |v=>bif kind==0 then(match G1 h v with|some ⟨_,s,_⟩=>some (.x .b s.nw)|none=>none)else none
def Ql:V->V
 |.kb c=>.kb (!c)
 |.x .b c=>.x .b (!c)
 |v=>v
def Kx(off n:Nat)(i:Nat):V->Option V
 |.op id t p=>(match zb t p with
  |some (.st u)=>(match Ey u i with|some w=>bif(D6 u i==off)&&(df w==n)then some (.op id t (p++[.fd i]))else none|none=>none)
  |_=>none)
 |.ep id m t p=>(match zb t p with
  |some (.st u)=>(match Ey u i with|some w=>bif(D6 u i==off)&&(df w==n)then some (.ep id m t (p++[.fd i]))else none|none=>none)
  |_=>none)
 |.pt (.st u) v=>(match AZ u v i with|some (.x w y)=>bif(D6 u i==off)&&(df w==n)then some (.pt w y)else none|_=>none)
 |_=>none
def Jn(h:H2)(g:Bool)(n:Nat)(w:V):Bool:=(xF w==g)&&(EP w==n)&&(g||n==1)&&oN h w
def Qv(h:H2):V->Option ((k:Ty)×(v:Ty)×Mp (El k) (El v)×List Nat)
 |.om id=>(match fO h id with|some (.mp k v m)=>some ⟨k,v,m,[id]⟩|_=>none)
 |_=>none
def I4(t:Ty):List Nat->List (Nat×Nat)->List V->V->Option V
 |[],[],[],c=>some c
 |i::is,(off,n)::ps,w::ws,c=>
  match t with
  |.st u=>(match Ey u i with
   |some a=>bif(D6 u i==off)&&(df a==n)then(match Jm a w with|some w=>(match pY c [.fd i] w with|some c=>bif dF c false t then I4 t is ps ws c else none|none=>none)|none=>none)else none
   |none=>none)
  |.ar m u=>bif(i*df u==off)&&(df u==n)&&decide (i<m)then(match Jm u w with|some w=>(match pY c [.ix i] w with|some c=>bif dF c false t then I4 t is ps ws c else none|none=>none)|none=>none)else none
  |_=>none
 |_,_,_,_=>none
def Oh:V->Bool
 |.tp _|.no|.gn|.ni|.co _ _=>false
 |v=>!xF v
def wB(o:OP)(vs:List V)(h:H2):Option (V×List Nat):=
 match o.o.k,vs with
 |.mv,[v]=>some (v,[])
 |.nilCheck,[v]=>(match v with|.pt _ _|.fn _ _ _|.ep _ _ _ _|.op _ _ _=>some (v,[])|_=>none)
 |.Gv op,[.x (.i k) a,.x (.i k') b]=>(match RK (WN o.o.args) (aeM o.fi) op k k' a b with|some v=>some (v,[])|none=>none)
 |.Gv op,[.x (.f k) a,.x (.f k') b]=>(match Mo op k k' a b with|some v=>some (v,[])|none=>none)
 |.Gv op,[.x .s a,.x .s b]=>(match XP op a b with|some v=>some (v,[])|none=>none)
 |.DF neg,[x,y]=>(match tF .b x,tF .b y with|some a,some b=>some (.x .b (bif neg then !(a==b)else a==b),[])|_,_=>none)
 |.IK kind neg,[x]=>(match J9 h kind x with|some v=>some (bif neg then Ql v else v,[])|none=>none)
 |.Fo neg ks,[.x t a,y]=>(match tF t y with|some b=>bif iD t&&decide (AV t=some ks)then some (.x .b (bif neg then !(decide (a=b))else decide (a=b)),[])else none|none=>none)
 |.un .not,[.kb c]=>some (.kb (!c),[])
 |.un .not,[.x .b c]=>some (.x .b (!c),[])
 |.un .neg,[.x (.i k) n]=>some (.x (.i k) (wr k (0-n)),[])
 |.un .neg,[.x (.f k) n]=>some (.x (.f k) (Op.negFloat k n),[])
 |.un .xor,[.x (.i k) n]=>some (.x (.i k) (ae3 k n),[])
 |.Cr k,[.x (.i _) n]=>some (.x (.i k) (wr k n),[])
 |.Ma k,[.x (.i _) n]=>some (.x (.f k) (k.nearest n),[])
 |.Aa,[.x .s s]=>some (.x .s s,[])
 |.TM f,vs=>bif vs.all Oh then some (.fn false f (eO vs),[])else none
 |.load g n,[p]=>(match zL h p with|some (w,l)=>bif Jn h g n w then some (w,l)else none|none=>none)
 |.Ii,[p]=>(match zL h p with|some (w,l)=>bif Jn h false 1 w then some (w,l)else none|none=>none)
 |.fieldAddr off n,[p]=>(match o.fi with|[i]=>(match Kx off n i p with|some w=>some (w,[])|none=>none)|_=>none)
 |.field g off n,[.x (.st u) v]=>(match o.fi with|[i]=>(match AZ u v i with|some w=>bif(D6 u i==off)&&Jn h g n w then some (w,[])else none|none=>none)|_=>none)
 |.field g off n,[.rc l]=>(match o.fi with|[i]=>(match wU l i with|some w=>bif(X_ l i==off)&&Jn h g n w then some (w,[])else none|none=>none)|_=>none)
 |.extract i,[.tp l]=>(match wU l i with|some w=>some (w,[])|none=>none)
 |.len true,[.x .s s]=>some (.x (.i .i64) (s.size:Int),[])
 |.len false,[.nl 0]=>some (.x (.i .i64) (0:Int),[])
 |.len false,[.vs _ t]=>some (.x (.i .i64) (nfT t:Int),[])
 |.len false,[.sr id]=>(match fO h id with|some (.rw _ s _)=>some (.x (.i .i64) (s.l.length:Int),[])|_=>none)
 |.len false,[v]=>(match G1 h v with|some ⟨_,s,_⟩=>some (.x (.i .i64) (s.l.length:Int),[])|none=>none)
 |.Km,[.om id]=>(match fO h id with|some (.mp _ _ m)=>some (.x (.i .i64) (m.es.length:Int),[id])|_=>none)
 |.ixB m,[.vs id (.st u),.x (.i _) i]=>(match Ey u i.toNat with|some _=>bif decide (0<=i)&&gE i.toNat (GN u)&&(D6 u i.toNat==i.toNat*m)then some (.op id (.st u) [.fd i.toNat],[])else none|none=>none)
 |.Km,[.nl 3]=>some (.x (.i .i64) (0:Int),[])
 |.AR m,.x (.i k) x::r=>(match mmI m k x r with|some y=>some (.x (.i k) y,[])|none=>none)
 |.AR m,.x (.f k) x::r=>(match Qr m k x r with|some y=>some (.x (.f k) y,[])|none=>none)
 |.build z ps,vs=>bif tq (xo o.t) z&&iD o.t&&dF (K4 o.t) false o.t then(match I4 o.t o.fi ps vs (K4 o.t)with|some v=>some (v,[])|none=>none)else none
 |.lookup ka ks va z ok,[m,kv]=>(match Qv h m with
  |some ⟨kt,vt,mp,l⟩=>(match tF kt kv with
   |some k=>bif(iD kt==ka)&&(iD vt==va)&&decide (AV kt=some ks)&&tq (xo vt) z&&kS vt&&(va||df vt==1)then
     some (bif ok then .tp (.co (.x vt (kp mp (pV vt) k)) (.co (.x .b (Df mp k)) .ni))else .x vt (kp mp (pV vt) k),l)else none
   |none=>none)
  |none=>none)
 |_,_=>none
def Bi{α:Type}(s:Sl α)(x r:List α):Sl α:=match x with|[]=>(match s with|.nil=>.nil|.mk _=>.mk r)|_::_=>.mk r
def my{α:Type}:Sl α->Sl α->Option Unit
 |.nil,.nil=>some ()
 |.mk a,.mk b=>Ip a b
 |_,_=>none
def oH(s:S2)(o:O):S2:=⟨s.gX,(s.next,some o)::s.heap,s.next+1,s.next::s.wo,s.gh⟩
def g_(s:S2)(id:Nat)(o:Option O):S2:=⟨s.gX,(id,o)::s.heap,s.next,id::s.wo,s.gh⟩
def N1(h:H2)(id:Nat):Option O:=match fO h id with|some (.ar t s v)|some (.im t s v)=>some (.im t s v)|some (.ib t v)=>some (.ib t v)|some (.bx t c)=>bif kS t&&gE (df t) 300 then(match tD h c with|some (_,[])=>(match tF t c with|some v=>some (.ib t v)|none=>none)|_=>none)else none|_=>none
def uv(h:H2):List Nat->S2->Option S2
 |[],s=>some s
 |id::r,s=>match fO h id with|some (.rw _ _ none)=>(match uv h r s with|some s=>some (g_ s id none)|none=>none)|_=>(match N1 h id,uv h r s with|some o,some s=>some (g_ s id (some o))|_,_=>none)
def Bv(t:Ty):Bool:=kS t&&gE 0 (df t)
def CR(h:H2)(t:Ty)(len:Nat):Nat->List Nat->List V->Option (List (El t)×List Nat)
 |m,[],[]=>some (ay (len-m) (pV t),[])
 |m,i::is,v::vs=>
  match tD h v with
  |some (w,a)=>(match tF t w with
   |some y=>bif Nat.ble m i&&gE i len then(match CR h t len (i+1) is vs with|some (l,b)=>some (ay (i-m) (pV t)++y::l,a++b)|none=>none)else none
   |none=>none)
  |none=>none
 |_,_,_=>none
def nX:List V->Option (List Int)
 |[]=>some []
 |.x (.i _) n::r=>match nX r with|some l=>some (n::l)|none=>none
 |_=>none
def NK(h:H2):V->Option Int
 |.nl 0=>some 0
 |v=>match G1 h v with|some ⟨_,v,_⟩=>some (v.l.length:Int)|none=>none
def ae0{α:Type}(w:Sl α)(lo n:Nat)(z:α):Option (Sl α):=match w with|.nil=>none|.mk l=>some (.mk (B_ l lo n (ay n z)))
def N7{β:Type}(sz:Nat)(h:H2)(x:V)(l u:Int)(k:V->Option β):Option β:=
 match x with
 |.x (.sl t) v=>bif df t==sz then(nD v.l l u).bind fun y=>k (.x (.sl t) (v.to y))else none
 |.so id=>(match fO h id with
  |some (.ar t v ver)=>bif df t==sz then(nD v.l l u).bind fun y=>k (.sb id ver l.toNat t (v.to y))else none
  |some (.im t v ver)=>bif df t==sz then(nD v.l l u).bind fun y=>k (.sb id ver l.toNat t (v.to y))else none
  |_=>none)
 |.sb id ver lo t v=>bif df t==sz then(nD v.l l u).bind fun y=>k (.sb id ver (lo+l.toNat) t (v.to y))else none
 |.nl 0=>(nD ([]:List Unit) l u).bind fun _=>k (.nl 0)
 |_=>none
def ae2{β:Type}(t:Ty)(sz len:Nat)(z:List Value)(pl:List Nat)(vs:List V)(s:S2)(k:V->S2->List Nat->Option β):Option β:=
 bif(df t==sz)&&tq ((ay len (xo t)).flatten) z&&Bv t then
  (match CR s.heap t len 0 pl vs with
  |some (l,a)=>(match uv s.heap a s with|some s'=>k (.so s.next) (oH s' (.ar t (.mk l) 0)) a|none=>none)
  |none=>none)else none
def Pm(ln:Option (Nat×Nat))(m:Nat):Bool:=match ln with|none=>true|some (m',_)=>ly m' m
def Jw{β:Type}(id m:Nat)(t:Ty)(p:rI)(w:V)(s:S2)(k:S2->List Nat->Option β):Option β:=
 match fO s.heap id with
 |some (.rw u v ln)=>(match p,w with
  |[],.so id2=>(match fO s.heap id2 with
   |some (.ar u2 r _)=>(match dR (.sl u2) (.sl u) r with
    |some r=>bif decide (t=.sl u)&&!(id2==id)&&Pm ln m then k (g_ (g_ s id2 none) id (some (.rw u (.mk (v.l.set m r)) none))) [id,id2]else none
    |none=>none)
   |_=>none)
  |_,_=>none)
 |some (.ar u l ver)=>(match tD s.heap w with
  |some (w,a)=>bif decide (u=t)then(match zb u p with
   |some q=>(match tF q w with
    |some y=>(match pY (.x u (gt l.l m)) p (.x q y)with
     |some c=>(match pI u c with
      |some y=>(match uv s.heap a s with|some s=>bif !a.contains id then k (g_ s id (some (.ar u (.mk (l.l.set m y)) (ver+1)))) (id::a)else none|none=>none)
      |none=>none)
     |none=>none)
    |none=>none)
   |none=>none)else none
  |none=>none)
 |_=>none
def part{β:Type}(o:OP)(vs:List V)(s:S2)(k:V->S2->List Nat->Option β):Option β:=
 match o.o.k,vs with
 |.Gv .quo,[.x (.i q) a,.x (.i q') b]=>bif decide (q=q')then(Xw q a b).bind fun x=>k (.x (.i q) x) s []else none
 |.Gv .rem,[.x (.i q) a,.x (.i q') b]=>bif decide (q=q')then(PJ q a b).bind fun x=>k (.x (.i q) x) s []else none
 |.Gv .shl,[.x (.i q) a,.x (.i _) b]=>(AF q a b).bind fun x=>k (.x (.i q) x) s []
 |.Gv .shr,[.x (.i q) a,.x (.i _) b]=>(AB q a b).bind fun x=>k (.x (.i q) x) s []
 |.Gv .add,[.x .s a,.x .s b]=>(XI a b).bind fun x=>k (.x .s x) s []
 |.alloc z,[]=>bif tq (xo o.t) z&&dF (K4 o.t) false o.t then k (.op s.next o.t []) (oH s (.bx o.t (K4 o.t))) []else none
 |.box,[v]=>(match Jm o.t v with|some w=>k (.op s.next o.t []) (oH s (.bx o.t w)) []|none=>none)
 |.buildSlice sz len z pl,vs=>ae2 o.t sz len z pl vs s k
 |.XO sz (n+1) _ pl,vs=>bif(df o.t==sz)&&decide (pl=aK (n+1))&&dF (.rc (eO vs)) false (.st (Jo o.t n))&&ly (GN (Jo o.t n)) (n+1)&&gE 0 sz then k (.vs s.next (.st (Jo o.t n))) (oH s (.bx (.st (Jo o.t n)) (.rc (eO vs)))) []else none
 |.store n,[.op id t p,w]=>bif(EP w==n)then(match fO s.heap id with
  |some (.bx u c)=>bif decide (u=t)then(match zb t p with
   |some a=>(match Jm a w with
    |some w=>(match pY c p w with|some c=>bif dF c false t then k (.tp .ni) (g_ s id (some (.bx t c))) [id]else none|none=>none)
    |none=>none)
   |none=>none)else none
  |_=>none)else none
 |.Ii,[.ep id m u []]=>(match fO s.heap id with
  |some (.rw t v none)=>bif decide (u=.sl t)then k (.so s.next) (oH (g_ s id (some (.rw t v (some (m,s.next))))) (.ar t (gt v.l m) 0)) [id]else none
  |_=>none)
 |.Qt szi,[.x (.i _) l,.x (.i _) c]=>(match o.t with
  |.sl t=>bif(df t==szi)&&Bv t then(yT (Sl.nil:Sl (El t)) l c).bind fun r=>k (.sr s.next) (oH s (.rw t (.mk r) none)) []else none
  |_=>none)
 |.store n,[.ep id m t p,w]=>bif(EP w==n)then Jw id m t p w s (fun s l=>k (.tp .ni) s l)else none
 |.makeSlice z,[.x (.i _) l,.x (.i _) c]=>bif tq (xo o.t) z&&Bv o.t then(yT (pV o.t) l c).bind fun r=>k (.so s.next) (oH s (.ar o.t (.mk r) 0)) []else none
 |.slice true _ lo hi,.x .s x::r=>(match lo,hi,nX r with
  |false,false,some []=>(CG x 0 x.size).bind fun y=>k (.x .s y) s []
  |true,false,some [l]=>(CG x l x.size).bind fun y=>k (.x .s y) s []
  |false,true,some [u]=>(CG x 0 u).bind fun y=>k (.x .s y) s []
  |true,true,some [l,u]=>(CG x l u).bind fun y=>k (.x .s y) s []
  |_,_,_=>none)
 |.slice false sz lo hi,x::r=>
  (match lo,hi,nX r,NK s.heap x with
  |false,false,some [],some n=>N7 sz s.heap x 0 n fun v=>k v s []
  |true,false,some [l],some n=>N7 sz s.heap x l n fun v=>k v s []
  |false,true,some [u],some _=>N7 sz s.heap x 0 u fun v=>k v s []
  |true,true,some [l,u],some _=>N7 sz s.heap x l u fun v=>k v s []
  |_,_,_,_=>none)
 |.indexAddr none sz,[x,.x (.i _) i]=>(match x with
  |.x (.sl t) v=>bif df t==sz then(cD i v.l.length).bind fun m=>k (.pt t (gt v.l m)) s []else none
  |.so id=>(match G1 s.heap (.so id)with|some ⟨t,v,_⟩=>bif df t==sz then(cD i v.l.length).bind fun m=>k (.ep id m t []) s []else none|none=>none)
  |.sb id _ lo t v=>bif df t==sz then(cD i v.l.length).bind fun m=>k (.ep id (lo+m) t []) s []else none
  |.sr id=>(match fO s.heap id with|some (.rw t v _)=>bif 1==sz then(cD i v.l.length).bind fun m=>k (.ep id m (.sl t) []) s []else none|_=>none)
  |_=>none)
 |.indexAddr (some n) sz,[x,.x (.i _) i]=>(match x with
  |.op id t p=>(match zb t p with|some (.ar n' u)=>bif(n'==n)&&(df u==sz)then(cD i n).bind fun m=>k (.op id t (p++[.ix m])) s []else none|_=>none)
  |.ep id q t p=>(match zb t p with|some (.ar n' u)=>bif(n'==n)&&(df u==sz)then(cD i n).bind fun m=>k (.ep id q t (p++[.ix m])) s []else none|_=>none)
  |.pt (.ar n' u) v=>bif(n'==n)&&(df u==sz)then(cD i n).bind fun m=>k (.pt u (gt v.1 m)) s []else none
  |_=>none)
 |.zS,[.x .s x,.x (.i _) i]=>(atS x i).bind fun c=>k (.x (.i .u8) c) s []
 |.index g n sz,[.x (.ar n' u) v,.x (.i _) i]=>bif(n'==n)&&(df u==sz)&&(iD u==g)&&kS u&&(g||sz==1)then(cD i n).bind fun m=>k (.x u (gt v.1 m)) s []else none
 |.append sz wd,[a,x]=>
  (match Sg o.t s.heap x with
  |some ⟨t,m,ids⟩=>bif(df t==sz)&&Bv t then(match a with
   |.nl 0=>(Gr wd t ([]++m.l)).bind fun r=>k (.so s.next) (oH s (.ar t (Bi Sl.nil m.l r) 0)) ids
   |.x (.sl _) v=>bif Sl.nw v then((Gr wd t ([]++m.l)).bind fun r=>k (.so s.next) (oH s (.ar t (Bi Sl.nil m.l r) 0)) ids)else none
   |.so id=>(match fO s.heap id with
    |some (.ar u v _)=>(match dR (.sl t) (.sl u) m with
     |some m=>(Gr wd u (v.l++m.l)).bind fun r=>k (.so s.next) (oH (g_ s id none) (.ar u (Bi v m.l r) 0)) (id::ids)
     |none=>none)
    |_=>none)
   |.sb id _ lo u v=>(match fO s.heap id,dR (.sl t) (.sl u) m with
    |some (.ar _ s0 _),some m=>bif Nat.ble s0.l.length (lo+(v.l.length+m.l.length))then((Gr wd u (v.l++m.l)).bind fun r=>k (.so s.next) (oH (g_ s id none) (.ar u (Bi v m.l r) 0)) (id::ids))else none
    |_,_=>none)
   |_=>none)else none
  |none=>none)
 |.copy sz,[a,x]=>
  (match Sg o.t s.heap x with
  |some ⟨t,m,ids⟩=>bif df t==sz then(match a with
   |.nl 0=>k (.x (.i .i64) (0:Int)) s ids
   |.so id=>(match fO s.heap id with
    |some (.ar u v ver)=>(match dR (.sl t) (.sl u) m with
     |some m=>k (.x (.i .i64) ((min m.l.length v.l.length:Nat):Int)) (g_ s id (some (.ar u (v.to (B_ v.l 0 v.l.length m.l)) (ver+1)))) (id::ids)
     |none=>none)
    |_=>none)
   |.sb id ver lo _ v=>(match fO s.heap id with
    |some (.ar u w ver')=>(match dR (.sl t) (.sl u) m with
     |some m=>bif ver'==ver then k (.x (.i .i64) ((min m.l.length v.l.length:Nat):Int)) (g_ s id (some (.ar u (w.to (B_ w.l lo v.l.length m.l)) (ver+1)))) (id::ids)else none
     |none=>none)
    |_=>none)
   |_=>none)else none
  |none=>none)
 |.clear zz,[a]=>(match a with
  |.sb id ver lo _ v=>(match fO s.heap id with
   |some (.ar u w ver')=>bif(ver'==ver)&&tq (xo u) zz&&Bv u then(ae0 w lo v.l.length (pV u)).bind fun w=>k (.tp .ni) (g_ s id (some (.ar u w (ver+1)))) [id]else none
   |_=>none)
  |_=>none)
 |.makeMap ka va,[]=>(match o.t with
  |.mp kt vt=>bif(iD kt==ka)&&(iD vt==va)&&kS vt&&(AV kt).isSome then k (.om s.next) (oH s (.mp kt vt Mp.none)) []else none
  |_=>none)
 |.mapEntry ka ks va z,[.om id,kv]=>(match fO s.heap id with
  |some (.mp kt vt m)=>(match tF kt kv with
   |some q=>bif(iD kt==ka)&&(iD vt==va)&&decide (AV kt=some ks)&&tq (xo vt) z&&kS vt&&(va||df vt==1)then
     k (.tp (.co (.x vt (lG m (pV vt) q).2.1) (.co (.x (.i .i64) (lG m (pV vt) q).2.2) .ni))) (g_ s id (some (.mp kt vt (lG m (pV vt) q).1))) [id]else none
   |none=>none)
  |_=>none)
 |.entryStore va n,[.om id,.x (.i _) st,w]=>(match fO s.heap id with
  |some (.mp kt vt m)=>(match tF vt w with
   |some y=>bif(iD vt==va)&&(df vt==n)&&kS vt then(De m st y).bind fun m=>k (.tp .ni) (g_ s id (some (.mp kt vt m))) [id]else none
   |none=>none)
  |_=>none)
 |.Kj ka ks va n,[.om id,kv,w]=>(match fO s.heap id with
  |some (.mp kt vt m)=>(match tF kt kv with
   |some q=>(match tF vt w with
    |some y=>bif(iD kt==ka)&&(iD vt==va)&&decide (AV kt=some ks)&&(df vt==n)&&kS vt then k (.tp .ni) (g_ s id (some (.mp kt vt (wV m q y)))) [id]else none
    |none=>none)
   |none=>none)
  |_=>none)
 |.Kk ka ks,[.om id,kv]=>(match fO s.heap id with
  |some (.mp kt vt m)=>(match tF kt kv with
   |some q=>bif(iD kt==ka)&&decide (AV kt=some ks)then k (.tp .ni) (g_ s id (some (.mp kt vt (wb m q)))) [id]else none
   |none=>none)
  |_=>none)
 |_,_=>none
@[reducible] def xV:List Ty->Type
 |[]=>Unit
 |a::r=>Sa a r
where Sa:Ty->List Ty->Type
 |a,[]=>El a
 |a,c::r=>El a×Sa c r
def DQ(u:Ty):V->Option (El u)
 |.x t v=>dR t u v
 |_=>none
def Wr{α β:Type}:Option α->Option β->Option (α×β)
 |some x,some y=>some (x,y)
 |_,_=>none
def MG:(a:Ty)->(r:List Ty)->List V->Option (xV.Sa a r)
 |a,[],l=>(match l with|[v]=>DQ a v|_=>none)
 |a,c::r,l=>(match l with|v::l=>Wr (DQ a v) (MG c r l)|[]=>none)
def wG:(cs:List Ty)->List V->Option (xV cs)
 |[],[]=>some ()
 |a::r,l=>MG a r l
 |_,_=>none
def Sr:(a:Ty)->(r:List Ty)->xV.Sa a r->List V
 |a,[],v=>[.x a v]
 |a,c::r,v=>.x a v.1::Sr c r v.2
def vg:(cs:List Ty)->xV cs->List V
 |[],_=>[]
 |a::r,v=>Sr a r v
inductive Sh where
 | x (t : Ty)            -- data
 | pt (t : Ty)           -- a pointer to data
 | os (t : Ty)           -- a slice of its HI
 | rw (t : Ty)           -- a eO of SU of its HI
 | mp (k v : Ty)         -- a map of its HI
 | pb (t : Ty) (c : Sh)  -- a pointer to a box of its HI
 |st (c:Sh)
 |pr (a c:Sh)
 |nl (k:Nat)
 |fn (f:Nat) (l:Sh)
 |ni
 |gn
 deriving Inhabited,DecidableEq
def XE:Sh->List Ty
 |.x t|.pt t=>[t]
 |.os t=>[.sl t]
 |.rw t=>[.sl (.sl t)]
 |.mp k v=>[.mp k v]
 |.pb _ c|.st c|.fn _ c=>XE c
 |.pr a c=>XE a++XE c
 |_=>[]
def pe:List Sh->List Ty
 |[]=>[]
 |a::r=>XE a++pe r
abbrev Wy:=List (List Sh×List Sh)
@[reducible] def xT:Wy->Type
 |[]=>Empty
 |(r,o)::w=>Ou r o w
where Ou:List Sh->List Sh->Wy->Type
 |r,o,[]=>xV (pe r++pe o)
 |r,o,(r',o')::w=>xV (pe r++pe o)⊕Ou r' o' w
def ON{β:Type}(k:List Sh->List Sh->List V->Option β):(r o:List Sh)->(w:Wy)->xT.Ou r o w->Option β
 |r,o,[],z=>k r o (vg (pe r++pe o) z)
 |r,o,(r',o')::w,z=>match z with|.inl z=>k r o (vg (pe r++pe o) z)|.inr z=>ON k r' o' w z
def Wh{β:Type}(k:List Sh->List Sh->List V->Option β):(w:Wy)->xT w->Option β
 |[],z=>nomatch z
 |(r,o)::w,z=>ON k r o w z
structure dC where
 ps:List (Bool×Sh)
 al:Wy
 ro:Bool
 xM:List Bool
 fn:xV (pe (ps.map (·.2)))->Option (xT al)
structure Hk where
 run:{β:Type}->V->List V->H2->Nat->(V->List (Nat×Option O)->Nat->List Nat->Option β)->Option β
inductive TE where
 |sp (s:dC)
 |hk (h:Hk)
abbrev EE:=List (Nat×TE)
def GA(h:H2):Sh->V->Option (List V×List Nat)
 |.x t,v=>match tD h v with|some (w,l)=>(match tF t w with|some y=>some ([.x t y],l)|none=>none)|none=>none
 |.pt t,.pt u v=>match dR u t v with|some y=>some ([.x t y],[])|none=>none
 |.pt t,.op id u []=>(match fO h id with
  |some (.bx w c)=>bif decide (w=u)&&oN h c then(match tD h c with|some (c,l)=>(match tF t c with|some y=>some ([.x t y],id::l)|none=>none)|none=>none)else none
  |some (.ib w v)=>bif decide (w=u)then(match dR w t v with|some y=>some ([.x t y],[id])|none=>none)else none
  |_=>none)
 |.pt t,.ep id n u []=>(match fO h id with
  |some (.ar w s _)|some (.im w s _)=>bif decide (w=u)then(match dR w t (gt s.l n)with|some y=>some ([.x t y],[id])|none=>none)else none
  |_=>none)
 |.nl k,.nl k'=>bif k==k' then some ([],[])else none
 |.fn f c,.fn _ f' l=>bif f==f' then GA h c l else none
 |.pr a c,.co x r=>match GA h a x,GA h c r with|some (l,i),some (m,j)=>some (l++m,i++j)|_,_=>none
 |.ni,.ni=>some ([],[])
 |_,_=>none
def TF(t:Ty){u:Ty}(v:El (.sl u)):Option (List V×List Nat):=match(v:Sl (El u))with|.nil=>some ([.x (.sl t) Sl.nil],[])|.mk _=>none
def SO(h:H2)(t:Ty)(id ver:Nat){u:Ty}(r:Sl (El u)):Option (List V×List Nat):=match fO h id with|some (.ar _ _ v)=>bif v==ver then(match dR (.sl u) (.sl t) r with|some s=>some ([.x (.sl t) s],[id])|none=>none)else none|_=>none
def ve(h:H2):Sh->Bool->V->Option (List V×List Nat)
 |.os t,false,.so id=>(match fO h id with|some (.ar u s _)=>(match dR (.sl u) (.sl t) s with|some s=>some ([.x (.sl t) s],[id])|none=>none)|_=>none)
 |.os t,false,.nl 0=>some ([.x (.sl t) Sl.nil],[])
 |.rw t,false,.sr id=>(match fO h id with|some (.rw u s none)=>(match dR (.sl (.sl u)) (.sl (.sl t)) s with|some s=>some ([.x (.sl (.sl t)) s],[id])|none=>none)|_=>none)
 |.rw t,false,.nl 0=>some ([.x (.sl (.sl t)) Sl.nil],[])
 |.mp k v,false,.om id=>(match fO h id with|some (.mp k' v' m)=>(match dR (.mp k' v') (.mp k v) m with|some m=>some ([.x (.mp k v) m],[id])|none=>none)|_=>none)
 |.pb t c,false,.op id u []=>(match fO h id with|some (.bx w v)=>bif decide (w=u)&&decide (u=t)then(match ve h c false v with|some (l,i)=>some (l,id::i)|none=>none)else none|_=>none)
 |.nl k,false,.nl k'=>bif k==k' then some ([],[])else none
 |.x t,false,v=>match tF t v with|some y=>some ([.x t y],[])|none=>none
 |.st c,false,.rc l=>ve h c true l
 |.st c,false,.x (.st u) v=>ve h c true (O1 u v)
 |.pr a c,true,.co x r=>match(match a,x with|.os t,.x (.sl _) v=>TF t v|.os t,.sb id ver _ _ r=>SO h t id ver r|_,_=>ve h a false x),ve h c true r with|some (l,i),some (m,j)=>some (l++m,i++j)|_,_=>none
 |.ni,true,.ni=>some ([],[])
 |_,_,_=>none
def Co:Sh->Bool->List V->S2->Option (V×List V×S2)
 |.x t,false,.x u v::l,s=>bif decide (u=t)&&kS t then some (.x u v,l,{s with next:=s.next+df t})else none
 |.os t,false,.x (.sl u) v::l,s=>bif decide (u=t)&&Bv t then some (.so s.next,l,oH s (.ar u v 0))else none
 |.rw t,false,.x (.sl (.sl u)) v::l,s=>bif decide (u=t)&&Bv t then some (.sr s.next,l,oH s (.rw u v none))else none
 |.mp k v,false,.x (.mp k' v') m::l,s=>bif decide (k'=k)&&decide (v'=v)&&kS v&&(AV k).isSome then some (.om s.next,l,oH s (.mp k' v' m))else none
 |.pb t c,false,l,s=>
  match Co c false l {s with next:=s.next+1}with
  |some (w,l,s')=>bif dF w false t then some (.op s.next t [],l,g_ s' s.next (some (.bx t w)))else none
  |none=>none
 |.nl k,false,l,s=>some (.nl k,l,{s with next:=s.next+1})
 |.st c,false,l,s=>match Co c true l s with|some (w,l,s)=>some (.rc w,l,s)|none=>none
 |.pr a c,true,l,s=>match Co a false l s with|some (x,l,s)=>(match Co c true l s with|some (r,l,s)=>some (.co x r,l,s)|none=>none)|none=>none
 |.ni,true,l,s=>some (.ni,l,s)
 |_,_,_,_=>none
def Dg:List Sh->List V->S2->Option (List V×List V×S2)
 |[],l,s=>some ([],l,s)
 |a::r,l,s=>match Co a false l s with|some (x,l,s)=>(match Dg r l s with|some (xs,l,s)=>some (x::xs,l,s)|none=>none)|none=>none
def xl(h:H2):List (Bool×Sh)->List V->Option (List V×List Nat×List (V×List Nat))
 |[],[]=>some ([],[],[])
 |(b,c)::r,v::vs=>
  match xl h r vs with
  |some (m,j,q)=>
   bif b then(match ve h c false v with|some (l,i)=>some (l++m,j,(v,i)::q)|none=>none)
   else(match GA h c v with|some (l,i)=>some (l++m,i++j,q)|none=>none)
  |none=>none
 |_,_=>none
def yd(h:H2)(f:Nat)(vs:List V):EE->Option (dC×List V×List Nat×List (V×List Nat))
 |[]=>none
 |(g,.sp sp)::r=>bif g==f then(match xl h sp.ps vs with|some (l,i,q)=>some (sp,l,i,q)|none=>yd h f vs r)else yd h f vs r
 |(_,.hk _)::r=>yd h f vs r
def IF(f:Nat):EE->Option Hk
 |[]=>none
 |(g,.hk k)::r=>bif g==f then some k else IF f r
 |(_,.sp _)::r=>IF f r
def mj:List Nat->S2->S2
 |[],s=>s
 |id::r,s=>g_ (mj r s) id none
def t7{β:Type}:List Sh->List (V×List Nat)->List V->S2->(S2->Option β)->Option β
 |[],[],[],s,k=>k s
 |.nl _::r,(_,[])::q,l,s,k=>t7 r q l s k
 |.gn::r,(_,i)::q,l,s,k=>t7 r q l (mj i s) k
 |.os t::r,(.nl 0,[])::q,.x (.sl u) v::l,s,k=>(match dR (.sl u) (.sl t) v with|some v=>(my v (Sl.nil:Sl (El t))).bind fun _=>t7 r q l s k|none=>none)
 |.os t::r,(.so id,_)::q,.x (.sl u) v::l,s,k=>(match fO s.heap id,dR (.sl u) (.sl t) v with
  |some (.ar w old ver),some v=>(match dR (.sl t) (.sl w) v with
   |some v=>(my v old).bind fun _=>t7 r q l (g_ s id (some (.ar w v (ver+1)))) k
   |none=>none)
  |_,_=>none)
 |.rw t::r,(.nl 0,[])::q,.x (.sl (.sl u)) v::l,s,k=>(match dR (.sl (.sl u)) (.sl (.sl t)) v with|some v=>(my (v:Sl (Sl (El t))) (Sl.nil:Sl (Sl (El t)))).bind fun _=>t7 r q l s k|none=>none)
 |.rw t::r,(.sr id,_)::q,.x (.sl (.sl u)) v::l,s,k=>(match fO s.heap id,dR (.sl (.sl u)) (.sl (.sl t)) v with
  |some (.rw w old _),some v=>(match dR (.sl (.sl t)) (.sl (.sl w)) v with
   |some v=>(my (v:Sl (Sl (El w))) old).bind fun _=>t7 r q l (g_ s id (some (.rw w v none))) k
   |none=>none)
  |_,_=>none)
 |.pb t c::r,(.op id u [],i)::q,l,s,k=>(match fO s.heap id with
  |some _=>(match Co c false l s with
   |some (w,l,s)=>bif dF w false t&&decide (u=t)then t7 r q l (g_ (mj i s) id (some (.bx t w))) k else none
   |none=>none)
  |none=>none)
 |_,_,_,_,_=>none
def PE:List V->V
 |[v]=>v
 |l=>.tp (eO l)
def Da:List Nat->Bool
 |[]=>true
 |a::r=>!r.contains a&&Da r
def wF:V->Option (List V)
 |.ni=>some []
 |.co a r=>bif(EP a==1)&&!xF a then(match wF r with|some l=>some (a::l)|none=>none)else none
 |_=>none
def zY{β:Type}(tb:EE)(ro:Bool)(xM:List Bool)(f:V)(vs:List V)(s:S2)(k:V->S2->List Nat->Option β):Option β:=
 match f with
 |.fn _ fid caps=>match IF fid tb with
  |some hk=>hk.run f vs s.heap s.next fun v u n l=>k v ⟨s.gX,u++s.heap,n,u.map (·.1)++s.wo,s.gh⟩ l
  |none=>
  match(match wF caps with|some cs=>yd s.heap fid (vs++cs) tb|none=>none)with
  |some (sp,pay,ids,q)=>
   bif(!ro||sp.ro)&&decide (sp.xM=xM)&&Da (q.flatMap (·.2))&&(q.flatMap (·.2)).all (fun i=>!ids.contains i)then
    match wG (pe (sp.ps.map (·.2))) pay with
    |some p=>(sp.fn p).bind fun z=>Wh (fun rs os l=>
     match(bif ro then some s else uv s.heap ids s)with
     |some s0=>t7 os q (l.drop (pe rs).length) s0 fun s1=>
      (match Dg rs (l.take (pe rs).length) s1 with
      |some (xs,_,s2)=>k (PE xs) s2 (ids++q.flatMap (·.2))
      |none=>none)
     |none=>none) sp.al z
    |none=>none
   else none
  |none=>none
 |_=>none
structure Rg where
 kn:List (Nat×Bool)
 cd:List (Nat×Nat×Bool×V)
def knG(kn:List (Nat×Bool))(g:Nat):Option Bool:=gB kn g
def Th(s:S2)(q:Rg)(gc:Option (Nat×Bool)):Operand->Option V
 |.tmp t=>match gB q.cd t with|some (g,b,v)=>bif decide (gc=some (g,b))||decide (knG q.kn g=some b)then(bif oN s.heap v then some v else none)else none|none=>Nr s.gX s.heap (.tmp t)
 |o=>Nr s.gX s.heap o
def P1(s:S2)(q:Rg)(gc:Option (Nat×Bool)):List Operand->Option (List V)
 |[]=>some []
 |a::r=>match Th s q gc a,P1 s q gc r with|some x,some y=>some (x::y)|_,_=>none
inductive GV where
 |run
 |skip
 |Vm (g:Nat) (b:Bool) (c:Bool)
def gdV(e:List (Nat×V))(kn:List (Nat×Bool)):Option (Nat×Bool)->Option GV
 |none=>some .run
 |some (g,b)=>
  match knG kn g with
  |some c=>some (bif c==b then .run else .skip)
  |none=>(match gB e g with
   |some (.kb c)=>some (bif c==b then .run else .skip)
   |some (.x .b c)=>some (.Vm g b c)
   |some .no=>some .skip
   |_=>none)
def PW(s:S2)(q:Rg)(gc:Option (Nat×Bool)):List Operand->Option V
 |[.tmp g,a,b]=>match knG q.kn g,gB s.gX g with|some c,_=>Th s q gc (bif c then a else b)|none,some (.kb c)=>Th s q gc (bif c then a else b)|none,some (.x .b c)=>(match Th s q (some (g,true)) a,Th s q (some (g,false)) b with|some x,some y=>mgV c x y|_,_=>none)|_,_=>none
 |[.const (.bool c),a,b]=>Th s q gc (bif c then a else b)
 |_=>none
def yG:K->Bool
 |.pick=>true
 |_=>false
def SD(o:OP)(s:S2)(q:Rg)(gc:Option (Nat×Bool)):Option (V×List Nat):=
 bif yG o.o.k then(match PW s q gc o.o.args with|some v=>some (v,[])|none=>none)
 else(match P1 s q gc o.o.args with|some vs=>wB o vs s.heap|none=>none)
def uO(s:S2)(d:Option Nat)(v:V):S2:=match d with|some d=>{s with gX:=(d,v)::s.gX}|none=>s
def VU(q:Rg)(d:Option Nat):Option Rg:=match d with|none=>some q|some d=>bif q.cd.any (fun e=>e.2.1==d)||q.kn.any (fun e=>e.1==d)then none else some ⟨q.kn,q.cd.filter (fun e=>!(e.1==d))⟩
abbrev OF:=List (List Nat×List Nat)
def Ya{β:Type}(tb:EE)(o:OP)(s:S2)(q:Rg)(gc:Option (Nat×Bool))(k:V->S2->List Nat->Option β):Option β:=
 match SD o s q gc with
 |some (v,l)=>k v s l
 |none=>
  match P1 s q gc o.o.args with
  |some vs=>
   (match o.o.k,vs with
   |.call ro xM,f::vs=>zY tb ro xM f vs s k
   |_,vs=>part o vs s k)
  |none=>none
def rH(dr:Option Nat)(i:Nat)(s:S2):S2:=match dr with|some b=>{s with next:=b+BR*i}|none=>s
def inB(dr:Option Nat)(i:Nat)(s:S2):Bool:=match dr with|some b=>Nat.ble s.next (b+BR*(i+1))|none=>true
def Vi(d:Option Nat)(r:List OP):Bool:=
 match d with
 |some d=>r.any fun o=>match o.o.guard with|some (g,_)=>ly g d|none=>false
 |none=>false
def ux{β:Type}(tb:EE)(dr:Option Nat):List OP->Nat->S2->Rg->OF->(S2->OF->Option β)->Option β
 |[],_,s,_,tr,k=>k s tr
 |o::r,i,s0,q,tr,k=>
  let s:=rH dr i s0
  let go:Rg->Option β:=fun q=>Ya tb o s q o.o.guard fun v s1 l=>
   bif inB dr i s1 then(match VU q o.o.dst with
    |some q=>ux tb dr r (i+1) (uO s1 o.o.dst v) q (tr++[(l,s1.wo.take (s1.wo.length-s.wo.length))]) k
    |none=>none)else none
  let no:Rg->Option β:=fun q=>match VU q o.o.dst with|some q=>ux tb dr r (i+1) (uO s o.o.dst .no) q (tr++[([],[])]) k|none=>none
  match gdV s.gX q.kn o.o.guard with
  |none=>none
  |some .run=>go q
  |some .skip=>no q
  |some (.Vm g b c)=>
   match(bif Vi o.o.dst r then none else SD o s q (some (g,b)))with
   |some (v,l)=>
    (match VU q o.o.dst,o.o.dst with
    |some q,some d=>bif ly g d then none else ux tb dr r (i+1) (uO s (some d) .gn) ⟨q.kn,(d,g,b,v)::q.cd⟩ (tr++[(l,[])]) k
    |_,_=>none)
   |none=>(match b with
    |true=>bif c then go ⟨(g,true)::q.kn,q.cd⟩else no ⟨(g,false)::q.kn,q.cd⟩
    |false=>bif c then no ⟨(g,true)::q.kn,q.cd⟩else go ⟨(g,false)::q.kn,q.cd⟩)
inductive JV where
 |x (t:Ty)
 |pt (t:Ty)
 |so (j:Nat)
 |sr (j:Nat)
 |om (j:Nat)
 |op (j:Nat) (t:Ty) (p:List Nat)
 |nl (k:Nat)
 |fn (z:Bool) (f:Nat) (l:JV)
 |rc (l:JV)
 |ni
 |co (a r:JV)
 |sm
 |gn
 deriving Inhabited
inductive JO where
 |ar (t:Ty)
 |bx (t:Ty) (c:JV)
 |mp (k v:Ty)
 |rw(t:Ty)
 deriving Inhabited
structure J where
 vs:List (Nat×JV):=[]
 gs:JV:=.sm
 os:List JO:=[]
 kl:List Nat:=[]
 deriving Inhabited
def Oa:JV->List Ty
 |.x t|.pt t=>[t]
 |.fn _ _ l|.rc l=>Oa l
 |.co a r=>Oa a++Oa r
 |_=>[]
def VS:List (Nat×JV)->List Ty
 |[]=>[]
 |(_,a)::r=>Oa a++VS r
def aeZ:JO->List Ty
 |.ar t=>[.sl t]
 |.bx _ c=>Oa c
 |.mp k v=>[.mp k v]
 |.rw t=>[.sl (.sl t)]
def VT:List JO->List Ty
 |[]=>[]
 |a::r=>aeZ a++VT r
def pZ(j:J):List Ty:=VS j.vs++(Oa j.gs++VT j.os)
structure Bd where
 j:Nat
 id:Option Nat
def BI:List Bd->Nat->Option Bd
 |[],_=>none
 |b::r,j=>bif b.j==j then some b else BI r j
def vd(m:List Bd)(b:Bd):Option (List Bd):=
 match BI m b.j with
 |none=>bif(match b.id with|some i=>m.all (fun c=>match c.id with|some i'=>!(i'==i)|none=>true)|none=>true)then some (b::m)else none
 |some c=>(match b.id,c.id with
  |some i,some i'=>bif i==i' then some m else none
  |_,_=>none)
def Lu:rI->Option (List Nat)
 |[]=>some []
 |.fd i::p=>match Lu p with|some l=>some (i::l)|none=>none
 |.ix _::_=>none
def Ad:JV->Bool->V->List Bd->Option (List V×List Bd)
 |.x t,false,v,m=>match tF t v with|some y=>some ([.x t y],m)|none=>none
 |.pt t,false,.pt u v,m=>match dR u t v with|some y=>some ([.x t y],m)|none=>none
 |.so j,false,.so id,m=>match vd m ⟨j,some id⟩with|some m=>some ([],m)|none=>none
 |.so j,false,.nl 0,m=>match vd m ⟨j,none⟩with|some m=>some ([],m)|none=>none
 |.so j,false,.x (.sl _) v,m=>bif Sl.nw v then(match vd m ⟨j,none⟩with|some m=>some ([],m)|none=>none)else none
 |.sr j,false,.sr id,m=>match vd m ⟨j,some id⟩with|some m=>some ([],m)|none=>none
 |.om j,false,.om id,m=>match vd m ⟨j,some id⟩with|some m=>some ([],m)|none=>none
 |.op j t p,false,.op id u q,m=>bif decide (u=t)&&decide (Lu q=some p)then(match vd m ⟨j,some id⟩with|some m=>some ([],m)|none=>none)else none
 |.nl k,false,.nl k',m=>bif k==k' then some ([],m)else none
 |.fn z f l,false,.fn z' f' l',m=>bif(z==z')&&(f==f')then Ad l true l' m else none
 |.rc l,false,.rc l',m=>Ad l true l' m
 |.rc l,false,.x (.st t) v,m=>Ad l true (O1 t v) m
 |.ni,true,.ni,m=>some ([],m)
 |.co a r,true,.co x y,m=>match Ad a false x m with|some (l,m)=>(match Ad r true y m with|some (l',m)=>some (l++l',m)|none=>none)|none=>none
 |_,_,_,_=>none
def Mf(s:S2):List (Nat×JV)->List Bd->Option (List V×List Bd)
 |[],m=>some ([],m)
 |(t,a)::r,m=>match Nr s.gX s.heap (.tmp t)with|some v=>(match Ad a false v m with|some (l,m)=>(match Mf s r m with|some (l',m)=>some (l++l',m)|none=>none)|none=>none)|none=>none
def XJ(h:H2)(j:Nat)(o:JO)(m:List Bd):Option (List V×List Bd):=
 match BI m j with
 |some b=>(match o,b.id with
  |.ar t,none=>bif Bv t then some ([.x (.sl t) Sl.nil],m)else none
  |.ar t,some id=>(match fO h id with|some (.ar u s _)=>(match dR (.sl u) (.sl t) s with|some s=>some ([.x (.sl t) s],m)|none=>none)|_=>none)
  |.rw t,some id=>(match fO h id with|some (.rw u s none)=>(match dR (.sl (.sl u)) (.sl (.sl t)) s with|some s=>some ([.x (.sl (.sl t)) s],m)|none=>none)|_=>none)
  |.bx t c,some id=>(match fO h id with|some (.bx u v)=>bif decide (u=t)then Ad c false v m else none|_=>none)
  |.mp k v,some id=>(match fO h id with|some (.mp k' v' y)=>(match dR (.mp k' v') (.mp k v) y with|some y=>some ([.x (.mp k v) y],m)|none=>none)|_=>none)
  |_,_=>none)
 |none=>none
def Mh(h:H2):List JO->Nat->List Bd->Option (List V×List Bd)
 |[],_,m=>some ([],m)
 |o::r,j,m=>match XJ h j o m with|some (l,m)=>(match Mh h r (j+1) m with|some (l',m)=>some (l++l',m)|none=>none)|none=>none
def G4:V->V->Bool
 |.so i,.so j=>i==j
 |.sr i,.sr j=>i==j
 |.op i t [],.op j u []=>(i==j)&&decide (t=u)
 |.nl k,.nl l=>k==l
 |.gn,.gn=>true
 |_,_=>false
def G5:V->V->Bool
 |.ni,.ni=>true
 |.co a r,.co x y=>G4 a x&&G5 r y
 |_,_=>false
def IY(h:H2):JV->V->V->List Bd->Option (List V×List Bd)
 |.sm,g0,g,m=>bif G5 g0 g then some ([],m)else none
 |.ni,.ni,.ni,m=>some ([],m)
 |.co a r,.co x0 y0,.co x y,m=>match a with|.sm=>bif G4 x0 x then IY h r y0 y m else none|.gn=>IY h r y0 y m|a=>bif oN h x then(match Ad a false x m with|some (l,m)=>(match IY h r y0 y m with|some (l',m)=>some (l++l',m)|none=>none)|none=>none)else none
 |_,_,_,_=>none
def EC:List (Nat×JV)->S2->S2
 |[],s=>s
 |(t,.so _)::r,s=>(match gB s.gX t with
  |some (.sb id ver _ u x)=>(match fO s.heap id with
   |some (.ar _ _ v)=>bif kS u&&v==ver then EC r ⟨(t,.so s.next)::s.gX,(s.next,some (.ar u x 0))::(id,none)::s.heap,s.next+1,s.next::id::s.wo,s.gh⟩else EC r s
   |_=>EC r s)
  |_=>EC r s)
 |_::r,s=>EC r s
def Mi(j:J)(s0:S2)(s:S2):Option (List V):=
 match Mf s j.vs []with
 |some (l1,m)=>match IY s.heap j.gs s0.gh s.gh m with
  |some (l2,m)=>(match Mh s.heap j.os 0 m with
   |some (l3,m)=>bif s.wo.all (fun i=>Nat.ble s0.next i||j.kl.contains i)&&m.all (fun b=>gE b.j j.os.length&&(match b.id with|some i=>Nat.ble s0.next i||j.kl.contains i|none=>true))then some (l1++(l2++l3))else none
   |none=>none)
  |none=>none
 |none=>none
def ww(j:J)(s0:S2)(s:S2):Option (List V):=match EC j.vs s with|⟨e,h,n,w,g⟩=>Mi j s0 ⟨e,h,n,w,g⟩
def rm(b:Nat):JV->Bool->List V->V->Option (V×List V)
 |.x t,false,.x u v::l,_=>bif decide (u=t)&&kS u then some (.x u v,l)else none
 |.pt t,false,.x u v::l,_=>bif decide (u=t)&&kS u then some (.pt u v,l)else none
 |.so j,false,l,_=>some (.so (b+j),l)
 |.sr j,false,l,_=>some (.sr (b+j),l)
 |.om j,false,l,_=>some (.om (b+j),l)
 |.op j t p,false,l,_=>some (.op (b+j) t (p.map .fd),l)
 |.nl k,false,l,_=>some (.nl k,l)
 |.fn z f c,false,l,_=>match rm b c true l .ni with|some (w,l)=>some (.fn z f w,l)|none=>none
 |.rc c,false,l,_=>match rm b c true l .ni with|some (w,l)=>some (.rc w,l)|none=>none
 |.ni,true,l,_=>some (.ni,l)
 |.co a r,true,l,.co x y=>match rm b a false l x with|some (v,l)=>(match rm b r true l y with|some (w,l)=>some (.co v w,l)|none=>none)|none=>none
 |.co a r,true,l,_=>match rm b a false l .gn with|some (v,l)=>(match rm b r true l .ni with|some (w,l)=>some (.co v w,l)|none=>none)|none=>none
 |.sm,_,l,v=>some (v,l)
 |.gn,false,l,_=>some (.gn,l)
 |_,_,_,_=>none
def Lh(b:Nat):List (Nat×JV)->List V->Option (List (Nat×V)×List V)
 |[],l=>some ([],l)
 |(t,a)::r,l=>match rm b a false l .gn with|some (v,l)=>(match Lh b r l with|some (e,l)=>some ((t,v)::e,l)|none=>none)|none=>none
def ZF(b:Nat):JO->List V->Option (O×List V)
 |.ar t,.x (.sl u) v::l=>bif decide (u=t)then some (.ar u v 0,l)else none
 |.rw t,.x (.sl (.sl u)) v::l=>bif decide (u=t)&&Bv t then some (.rw u v none,l)else none
 |.bx t c,l=>match rm b c false l .gn with|some (w,l)=>bif dF w false t then some (.bx t w,l)else none|none=>none
 |.mp k v,.x (.mp k' v') m::l=>bif decide (k'=k)&&decide (v'=v)then some (.mp k' v' m,l)else none
 |_,_=>none
def Li(b:Nat):List JO->Nat->List V->Option (H2×List V)
 |[],_,l=>some ([],l)
 |o::r,j,l=>match ZF b o l with|some (o,l)=>(match Li b r (j+1) l with|some (h,l)=>some ((b+j,some o)::h,l)|none=>none)|none=>none
def vz(j:J)(ds:List Nat)(s0:S2)(l:List V):Option S2:=
 match Lh s0.next j.vs l with
 |some (e,l)=>(match rm s0.next j.gs true l s0.gh with
  |some (g,l)=>(match Li s0.next j.os 0 l with
   |some (h,_)=>some ⟨e++ds.map (fun t=>(t,V.gn))++s0.gX,h++j.kl.map (fun i=>(i,none))++s0.heap,s0.next+j.os.length,h.map (·.1)++j.kl++s0.wo,g⟩
   |none=>none)
  |none=>none)
 |none=>none
abbrev Ex:=List (og×J)
@[reducible] def Jc:Ex->Type
 |[]=>Empty
 |(_,j)::r=>Ot j r
where Ot:J->Ex->Type
 |j,[]=>xV (pZ j)
 |j,(_,j')::r=>xV (pZ j)⊕Ot j' r
def T3(s0:S2)(o:og)(s:S2):(o':og)->(j:J)->(r:Ex)->Option (Jc.Ot j r)
 |o',j,[]=>bif decide (o=o')then(match ww j s0 s with|some l=>wG (pZ j) l|none=>none)else none
 |o',j,(o2,j2)::r=>bif decide (o=o')then(match ww j s0 s with|some l=>(match wG (pZ j) l with|some p=>some (.inl p)|none=>none)|none=>none)
  else(match T3 s0 o s o2 j2 r with|some x=>some (.inr x)|none=>none)
def It(s0:S2)(o:og)(s:S2):(e:Ex)->Option (Jc e)
 |[]=>none
 |(o',j)::r=>T3 s0 o s o' j r
def WP{β:Type}(ds:List Nat)(s0:S2)(k:og->S2->Option β):(o:og)->(j:J)->(r:Ex)->Jc.Ot j r->Option β
 |o,j,[],p=>match vz j ds s0 (vg (pZ j) p)with|some s=>k o s|none=>none
 |o,j,(o2,j2)::r,x=>match x with|.inl p=>(match vz j ds s0 (vg (pZ j) p)with|some s=>k o s|none=>none)|.inr y=>WP ds s0 k o2 j2 r y
def HJ{β:Type}(ds:List Nat)(s0:S2)(k:og->S2->Option β):(e:Ex)->Jc e->Option β
 |[],x=>nomatch x
 |(o,j)::r,x=>WP ds s0 k o j r x
inductive C2 where
 |skip
 |X9 (ops:List OP) (dr:Option (List (Nat×Nat))) (jn:Option J)
 |seq (a b:C2) (e:Ex)
 |cond (c:Operand) (a b:C2)
 |block (id:Nat) (a:C2)
 |loop (j:J) (e:Ex) (a:C2)
 |unr (n:Nat) (a:C2)
 |exit (id:Nat)
 |ret
 |fw
 deriving Inhabited
def nC:C2->List Nat
 |.X9 ops _ _=>ops.filterMap (·.o.dst)
 |.seq a b _|.cond _ a b=>nC a++nC b
 |.block _ a|.loop _ _ a|.unr _ a=>nC a
 |_=>[]
def aeO:K->Bool
 |.lookup _ _ _ _ _=>true
 |_=>false
def Vp(ops:List OP)(tr:OF)(i j:Nat):Bool:=
 match ops[i]?,tr[i]?with
 |some o,some ([id],[])=>aeO o.o.k&&((tr.take j).drop (i+1)).all (fun x=>!x.2.contains id)
 |_,_=>false
def abA(ops:List OP)(tr:OF)(dyn:List (Nat×Nat)):Bool:=
 dyn.all fun p=>bif Nat.ble 1000 p.2 then(match tr[p.1]?,tr[p.2-1000]?with|some a,some b=>xm a b||Vp ops tr p.1 (p.2-1000)|_,_=>true)
  else(match tr[p.1]?,tr[p.2]?with|some a,some b=>xm a b|_,_=>true)
def XW(s:S2)(id:Nat):Option S2:=
 match fO s.heap id with
 |some (.rw t v (some (m,id2)))=>(match fO s.heap id2 with
  |some (.ar u r _)=>(match dR (.sl u) (.sl t) r with
   |some r=>some (g_ (g_ s id2 none) id (some (.rw t (v.to (v.l.set m r)) none)))
   |none=>none)
  |_=>none)
 |_=>some s
def GB:List Nat->S2->Option S2
 |[],s=>some s
 |id::r,s=>match XW s id with|some s=>GB r s|none=>none
def abR(s s':S2):Option S2:=GB (s'.wo.take (s'.wo.length-s.wo.length)) s'
def zX{β:Type}(tb:EE)(ops:List OP)(dr:Option (List (Nat×Nat)))(s:S2)(k:S2->Option β):Option β:=match dr with|none=>ux tb none ops 0 s ⟨[],[]⟩ [] fun s' _=>(abR s s').bind k|some dyn=>ux tb (some s.next) ops 0 s ⟨[],[]⟩ [] fun s' tr=>bif abA ops tr dyn then(abR s {s' with next:=s.next+BR*ops.length}).bind k else none
structure Lp where
 run:{α β:Type}->(α->Option (α⊕β))->α->Option β
 ok:∀{α β:Type}{f:α->Option (α⊕β)}{a:α}{b:β},run f a=some b->∃n,oF f n a=some b
def eg:Lp:=⟨aU,fun h=>rT.1 h⟩
def Wm{β:Type}(f:S2->(og->S2->Option β)->Option β):Nat->S2->(og->S2->Option β)->Option β
 |0,_,_=>none
 |n+1,s,k=>f s fun o s'=>match o with|.normal=>Wm f n s' k|o=>k o s'
def yf{β:Type}(lp:Lp)(tb:EE):C2->S2->(og->S2->Option β)->Option β
 |.skip,s,k=>k .normal s
 |.X9 ops dr none,s,k=>zX tb ops dr s fun s=>k .normal s
 |.X9 ops dr (some j),s,k=>(zX tb ops dr {s with wo:=[]} fun s'=>match ww j s s' with|some l=>wG (pZ j) l|none=>none).bind fun p=>match vz j (ops.filterMap (·.o.dst)) s (vg (pZ j) p)with|some s=>k .normal s|none=>none
 |.seq a b [],s,k=>yf lp tb a s fun o s=>match o with|.normal=>yf lp tb b s k|o=>k o s
 |.seq a b (e::r),s,k=>(yf lp tb a {s with wo:=[]} fun o s'=>It s o s' (e::r)).bind fun x=>HJ (nC a) s (fun o s=>match o with|.normal=>yf lp tb b s k|o=>k o s) (e::r) x
 |.cond c a b,s,k=>(match Nr s.gX s.heap c with
  |some (.kb t)=>bif t then yf lp tb a s k else yf lp tb b s k
  |some (.x .b t)=>bif t then yf lp tb a s k else yf lp tb b s k
  |_=>none)
 |.block id a,s,k=>yf lp tb a s fun o s=>match o with|.exit i=>k (bif i==id then .normal else .exit i) s|o=>k o s
 |.loop j e a,s,k=>
  bif e.all (fun x=>j.kl.all fun i=>x.2.kl.contains i)then(match ww j s {s with wo:=[]}with
  |some l=>(match wG (pZ j) l with
   |some p0=>(lp.run (fun p=>match vz j (nC a) s (vg (pZ j) p)with
     |some s1=>yf lp tb a {s1 with wo:=[]} fun o s'=>(match o with
      |.normal=>(match ww j s s' with|some l=>(match wG (pZ j) l with|some q=>some (Sum.inl q)|none=>none)|none=>none)
      |o=>(match It s o s' e with|some x=>some (Sum.inr x)|none=>none))
     |none=>none) p0).bind fun x=>HJ (nC a) s k e x
   |none=>none)
  |none=>none)else none
 |.unr n a,s,k=>Wm (fun s k=>yf lp tb a s k) n s k
 |.exit id,s,k=>k (.exit id) s
 |.ret,s,k=>k .ret s
 |.fw,_,_=>none
inductive RV where
 |tmp (t:Nat)
 |cell (t:Nat) (agg:Bool) (n:Nat)
 deriving Inhabited
def WJ(P:Program):ResultVar->Option RV
 |.tmp t=>some (.tmp t)
 |.cell a t=>match eN P t,dG P t with|some g,some n=>some (.cell a g n)|_,_=>none
def G6(P:Program):List ResultVar->Option (List RV)
 |[]=>some []
 |r::rs=>match WJ P r,G6 P rs with|some x,some xs=>some (x::xs)|_,_=>none
def gz(P:Program):Nat->TypeId->Ty
 |0,_=>.o 9
 |n+1,t=>match P.underlying t with|some (.int k)=>.i k|some .bool=>.b|some .string=>.s|some (.float k)=>.f k|some (.slice e)=>.sl (gz P n e)|some (.map k v)=>.mp (gz P n k) (gz P n v)|some (.struct fs)=>.st (chn (fs.toList.map fun f=>gz P n f.type))|some (.array m e)=>.ar m (gz P n e)|some (.pointer _)=>.o 1|some (.func ..)=>.o 2|_=>.o 4
where chn:List Ty->Ty
 |[]=>.un
 |[t]=>t
 |t::r=>.pr t (chn r)
def Rl:Nat:=12
def Xv(P:Program)(t:TypeId):Ty:=match P.underlying t with|some (.slice e)=>gz P Rl e|some (.array _ e)=>gz P Rl e|_=>.o 9
def VJ(P:Program):Op->Ty×List Nat
 |.alloc e=>(gz P Rl e,[])
 |.box t _=>(gz P Rl t,[])
 |.build t parts=>(gz P Rl t,parts.toList.map (·.1))
 |.buildSlice t _ parts=>(Xv P t,parts.toList.map (·.1))
 |.fieldAddr _ _ f=>(.o 9,[f])
 |.field _ _ f=>(.o 9,[f])
 |.makeSlice t _ _=>(Xv P t,[])
 |.makeMap t _=>(gz P Rl t,[])
 |.call c=>(match c.callee,c.argTypes.toList with|.builtin _,t::_=>Xv P t|_,_=>.o 9,[])
 |_=>(.o 9,[])
def ur(P:Program)(aR:Cu)(nt:Nat)(all:Array Oper)(o:Oper):OP:=⟨b9 P aR nt all o,(VJ P o.op).1,match o.op with|.binOp .and _ _ _ _=>(bif(aR 1000000002).1 then[1]else[])|op=>(VJ P op).2⟩
structure An where
 j:Option J:=none
 e:Ex:=[]
 u:Nat:=0
 deriving Inhabited
def ny(P:Program)(aR:Cu)(nt:Nat)(an:List (Nat×An)):Code->Nat->C2×Nat
 |.skip,n=>(.skip,n)
 |.region _ ops draw,n=>
  (if draw then(if Bu (R3 ops.toList []) ops.toList 0&&Bs (R3 ops.toList []) (ops.toList.map (b9 P aR nt ops)) 0&&decide (ops.toList.length<=1000)
   then .X9 (ops.toList.map (ur P aR nt ops)) (some (vQ (R3 ops.toList []) (ops.toList.map (b9 P aR nt ops)) 0)) ((gB an n).bind (·.j))else .fw)
   else .X9 (ops.toList.map (ur P aR nt ops)) none ((gB an n).bind (·.j)),n+1)
 |.seq a b,n=>
  let x:=ny P aR nt an a (n+1);let y:=ny P aR nt an b x.2
  (.seq x.1 y.1 (match gB an n with|some w=>w.e|none=>[]),y.2)
 |.cond c a b,n=>let x:=ny P aR nt an a n;let y:=ny P aR nt an b x.2;(.cond c x.1 y.1,y.2)
 |.block id a,n=>let x:=ny P aR nt an a n;(.block id x.1,x.2)
 |.loop a,n=>
  let x:=ny P aR nt an a (n+1)
  (match gB an n with|some ⟨some j,e,_⟩=>.loop j e x.1|some ⟨none,_,u+1⟩=>.unr (u+1) x.1|_=>.fw,x.2)
 |.scope a,n=>ny P aR nt an a n
 |.label _,n=>(.skip,n)
 |.exit id,n=>(.exit id,n)
 |.ret,n=>(.ret,n)
 |_,n=>(.fw,n)
structure F2 where
 np:Nat
 vu:List RV
 body:C2
def Mc(P:Program)(aR:Cu)(f np:Nat)(an:List (Nat×An)):Option F2:=
 match P.funcs[f]?with
 |none=>none
 |some g=>
  match g.body with
  |none=>none
  |some code=>
   if(g.name== "runtime.NumGoroutine")=false/\np<=g.ntmps/\g.ntmps<1000000000 then
    match G6 P g.results.toList with|some vu=>some ⟨np,vu,(ny P aR g.ntmps an code 0).1⟩|none=>none
   else none
def OT:Sh->List V->Option (V×List V)
 |.ni,l=>some (.ni,l)
 |.pr (.pt t) c,.x u v::l=>bif decide (u=t)&&kS t then(match OT c l with|some (w,l)=>some (.co (.pt u v) w,l)|none=>none)else none
 |_,_=>none
def A3:List (Bool×Sh)->Nat->List V->S2->Option (List (Nat×V)×S2)
 |[],_,[],s=>some ([],s)
 |(false,.x t)::r,i,.x u v::l,s=>bif decide (u=t)&&kS t then(match A3 r (i+1) l s with|some (e,s)=>some ((i,.x u v)::e,s)|none=>none)else none
 |(false,.pt t)::r,i,.x u v::l,s=>bif decide (u=t)&&kS t then(match A3 r (i+1) l s with|some (e,s)=>some ((i,.pt u v)::e,s)|none=>none)else none
 |(false,.nl k)::r,i,l,s=>(match A3 r (i+1) l s with|some (e,s)=>some ((i,.nl k)::e,s)|none=>none)
 |(false,.fn f c)::r,i,l,s=>(match OT c l with|some (w,l)=>(match A3 r (i+1) l s with|some (e,s)=>some ((i,.fn true f w)::e,s)|none=>none)|none=>none)
 |(true,c)::r,i,l,s=>(match Co c false l s with
  |some (w,l,s)=>(match A3 r (i+1) l s with|some (e,s)=>some ((i,w)::e,{s with gh:=.co w s.gh})|none=>none)
  |none=>none)
 |_,_,_,_=>none
def Xu(ps:List (Bool×Sh))(l:List V):Option S2:=
 match A3 ps 0 l ⟨[],[],0,[],.ni⟩with
 |some (e,s)=>some {s with gX:=e}
 |none=>none
def SW(s:S2):RV->Option V
 |.tmp t=>Nr s.gX s.heap (.tmp t)
 |.cell t g n=>match Nr s.gX s.heap (.tmp t)with|some p=>(match zL s.heap p with|some (w,_)=>bif Jn s.heap g n w then some w else none|none=>none)|none=>none
def ZI(h:H2):Sh->V->Option (List V×List Nat)
 |.x t,v=>match tD h v with|some (w,l)=>(match tF t w with|some y=>some ([.x t y],l)|none=>none)|none=>none
 |.os t,.sb id _ _ u r=>(match fO h id with|some (.ar _ _ _)=>(match dR (.sl u) (.sl t) r with|some s=>some ([.x (.sl t) s],[id])|none=>none)|_=>none)
 |c,v=>ve h c false v
def ZH(h:H2):Sh->V->Option (List V×List Nat)
 |.gn,_=>some ([],[])
 |c,v=>bif oN h v then ve h c false v else none
def Lj(h:H2):List Sh->List V->Option (List V×List Nat)
 |[],[]=>some ([],[])
 |c::r,v::vs=>match ZI h c v,Lj h r vs with|some (l,i),some (m,j)=>some (l++m,i++j)|_,_=>none
 |_,_=>none
def EY(h:H2):List Sh->List V->Option (List V×List Nat)
 |[],[]=>some ([],[])
 |c::r,v::vs=>match ZH h c v,EY h r vs with|some (l,i),some (m,j)=>some (l++m,i++j)|_,_=>none
 |_,_=>none
def NF{α β:Type}(f:α->Option β):List α->Option (List β)
 |[]=>some []
 |a::r=>match f a,NF f r with|some x,some y=>some (x::y)|_,_=>none
def N5(vu:List RV)(rs os:List Sh)(s:S2):Option (List V):=
 match NF (SW s) vu with
 |some vs=>match Lj s.heap rs vs,EY s.heap os (iA s.gh)with|some (l,i),some (m,j)=>bif Da (i++j)then some (l++m)else none|_,_=>none
 |none=>none
def Q8(vu:List RV)(s:S2):(r o:List Sh)->(w:Wy)->Option (xT.Ou r o w)
 |r,o,[]=>match N5 vu r o s with|some l=>wG (pe r++pe o) l|none=>none
 |r,o,(r',o')::w=>match N5 vu r o s with|some l=>(match wG (pe r++pe o) l with|some z=>some (.inl z)|none=>none)|none=>(match Q8 vu s r' o' w with|some z=>some (.inr z)|none=>none)
def Xs(vu:List RV)(s:S2):(w:Wy)->Option (xT w)
 |[]=>none
 |(r,o)::w=>Q8 vu s r o w
def evF(lp:Lp)(tb:EE)(F:Option F2)(ps:List (Bool×Sh))(al:Wy)(p:xV (pe (ps.map (·.2)))):Option (xT al):=
 match F with
 |some F=>
  match Xu ps (vg _ p)with
  |some s=>yf lp tb F.body s fun o s=>match o with|.exit _=>none|_=>Xs F.vu s al
  |none=>none
 |none=>none
end Go.Ev
