/- Operations as they are carried out, compiled from the program. Conditions: none, these are definitions. -/
import Derived.Orders
import Derived.Scope
import Derived.Laws.CopyRow
open BitVec renaming ofInt->aW
open Classical renaming choose->jN,choose_spec->fZ
open List renaming length_replicate->bz,range->aG,replicate->az
open Nat renaming beq->nG,blt->iu
open Option.some renaming injEq->eZ
noncomputable section
namespace Go.Ev
def plain:Value->Bool
 |.bool _|.int _ _|.float _ _|.string _|.pointer none|.slice none 0 0|.map none|.nilFunc|.nilIface=>true
 |_=>false
def iV{α:Type}:List (Nat×α)->Nat->Option α
 |[],_=>none
 |(a,x)::r,k=>bif a==k then some x else iV r k
inductive Kd where
 |b
 |i (k:IntKind)
 |s
 deriving Inhabited,DecidableEq
inductive K where
 |mv
 |pick
 |alloc (zero:List Value)
 |box
 |build (zero:List Value) (places:List (Nat×Nat))
 |buildSlice (sz len:Nat) (zero:List Value) (places:List Nat)
 |load (agg:Bool) (n:Nat)
 |store (n:Nat)
 |nilCheck
 |NK (op:BinOp)
 |Kr (neg:Bool)
 |P_ (kind:Nat) (neg:Bool)
 |Mj (neg:Bool) (ks:List Kd)
 |un (op:UnOp)
 |I1 (k:IntKind)
 |T_ (k:FloatKind)
 |Gs
 |aci (f:FuncId)
 |makeSlice (zero:List Value)
 |slice (str:Bool) (sz:Nat) (lo hi:Bool)
 |fieldAddr (off n:Nat)
 |field (agg:Bool) (off n:Nat)
 |indexAddr (cr:Option Nat) (sz:Nat)
 |Gb
 |index (agg:Bool) (len sz:Nat)
 |extract (i:Nat)
 |len (str:Bool)
 |G3 (isMax:Bool)
 |append (sz:Nat) (wd:Bool)
 |copy (sz:Nat)
 |clear (zero:List Value)
 |afn (sz:Nat)
 |aq8
 |apm (zero:List Value)
 |ovl
 |call (ro:Bool) (D2:List Bool)
 |makeMap (ka va:Bool)
 |lookup (ka:Bool) (ks:List Kd) (va:Bool) (zero:List Value) (ok:Bool)
 |mapEntry (ka:Bool) (ks:List Kd) (va:Bool) (zero:List Value)
 |entryStore (va:Bool) (m:Nat)
 |Y8 (szi:Nat)
 |PC
 |RS (ka:Bool) (ks:List Kd) (va:Bool) (n:Nat)
 |RU (ka:Bool) (ks:List Kd)
 |agB (sz len:Nat) (zero:List Value) (places:List Nat)
 |ixB (sz:Nat)
 |RY
 |gY
 deriving Inhabited
structure IM where
 dst:Option Nat
 k:K
 args:List Operand
 guard:Option (Nat×Bool)
 deriving Inhabited
def kV{α:Type}(l:List α)(off:Nat)(p:List α):List α:=l.take off++p++l.drop (off+p.length)
inductive ik where
 |normal
 |exit (id:Nat)
 |ret
 deriving Inhabited,DecidableEq
def zP(op:BinOp):Value->Value->Option Value
 |.int k a,.int k' b=>
  match op with
  |.shl=>if b<0 then none else some (.int k (k.wrap (a*2^(min b.toNat k.bits))))
  |.shr=>if b<0 then none else some (.int k (a.fdiv (2^(min b.toNat k.bits))))
  |op=>if k=k' then
   (match op with
   |.add=>some (.int k (k.wrap (a+b)))
   |.sub=>some (.int k (k.wrap (a-b)))
   |.mul=>some (.int k (k.wrap (a*b)))
   |.quo=>if b=0 then none else some (.int k (k.wrap (a.tdiv b)))
   |.rem=>if b=0 then none else some (.int k (a.tmod b))
   |.and=>some (.int k (k.wrap (aW k.bits a&&&aW k.bits b).toNat))
   |.or=>some (.int k (k.wrap (aW k.bits a|||aW k.bits b).toNat))
   |.xor=>some (.int k (k.wrap (aW k.bits a^^^aW k.bits b).toNat))
   |.andNot=>some (.int k (k.wrap (aW k.bits a&&&~~~aW k.bits b).toNat))
   |.eql=>some (.bool (a==b))
   |.neq=>some (.bool (a !=b))
   |.lss=>some (.bool (a<b))
   |.leq=>some (.bool (a<=b))
   |.gtr=>some (.bool (a>b))
   |.geq=>some (.bool (a>=b))
   |_=>none)else none
 |.float k a,.float k' b=>
  if k=k' then
   match op with|.add=>(k.format.add a b).map (.float k)|.sub=>(k.format.sub a b).map (.float k)|.mul=>(k.format.mul a b).map (.float k)|.quo=>(k.format.div a b).map (.float k)|.eql=>some (.bool (k.format.order a b==some .eq))|.neq=>some (.bool (k.format.order a b !=some .eq))|.lss=>some (.bool (k.format.order a b==some .lt))|.leq=>some (.bool (k.format.order a b==some .lt||k.format.order a b==some .eq))|.gtr=>some (.bool (k.format.order a b==some .gt))|.geq=>some (.bool (k.format.order a b==some .gt||k.format.order a b==some .eq))|_=>none
  else none
 |.string x,.string y=>match op with|.add=>if((x.size+y.size:Nat):Int)>IntKind.i64.max then none else some (.string (x++y))|.eql=>some (.bool (x.toList==y.toList))|.neq=>some (.bool !(x.toList==y.toList))|.lss=>some (.bool (Op.bytesLess x.toList y.toList))|.leq=>some (.bool (Op.bytesLess x.toList y.toList||x.toList==y.toList))|.gtr=>some (.bool !(Op.bytesLess x.toList y.toList||x.toList==y.toList))|.geq=>some (.bool !(Op.bytesLess x.toList y.toList))|_=>none
 |_,_=>none
def EO(k:FloatKind):Nat:=match k with|.f32=>0x7fc00000|.f64=>0x7ff8000000000001
def VA(op:BinOp):Value->Value->Option Value
 |.float k a,.float k' b=>
  if k=k' then
   match op with|.add=>if k.format.add a b=none then some (.float k (EO k))else none|.sub=>if k.format.sub a b=none then some (.float k (EO k))else none|.mul=>if k.format.mul a b=none then some (.float k (EO k))else none|.quo=>if k.format.div a b=none then some (.float k (EO k))else none|_=>none
  else none
 |_,_=>none
def AY(op:BinOp)(x y:Value):Option Value:=match zP op x y with|some v=>some v|none=>VA op x y
def unV(op:UnOp):Value->Option Value
 |.bool b=>match op with|.not=>some (.bool !b)|_=>none
 |.int k n=>match op with|.neg=>some (.int k (k.wrap (0-n)))|.xor=>some (.int k (k.wrap (aW k.bits (if k.signed then-1 else k.max)^^^aW k.bits n).toNat))|_=>none
 |.float k b=>match op with|.neg=>some (.float k (Op.negFloat k b))|_=>none
 |_=>none
def WN:Kd->Value->Value->Option Bool
 |.i q,.int k a,.int k' b=>if k=q/\k'=q then some (a==b)else none
 |.b,.bool a,.bool b=>some (a==b)
 |.s,.string a,.string b=>some (a==b)
 |_,_,_=>none
def pQ:List Kd->List Value->List Value->Option Bool
 |[],[],[]=>some true
 |k::ks,x::xs,y::ys=>match WN k x y,pQ ks xs ys with|some a,some b=>some (a&&b)|_,_=>none
 |_,_,_=>none
def VR:Kd->Value->Bool
 |.i q,.int k _=>decide (k=q)
 |.b,.bool _=>true
 |.s,.string _=>true
 |_,_=>false
def PL:List Kd->List Value->Bool
 |[],[]=>true
 |k::ks,x::xs=>VR k x&&PL ks xs
 |_,_=>false
def Dw(a b:List Nat×List Nat):Bool:=a.2.all (fun i=>!b.1.contains i&&!b.2.contains i)&&b.2.all (fun i=>!a.1.contains i)
def AI:Nat:=1000000
def fh(P:Program)(t:TypeId):Option Nat:=(P.info? t).map (·.size)
def gx(P:Program)(t:TypeId):Option Bool:=(P.underlying t).map fun|.struct _|.array _ _=>true|_=>false
def jH(P:Program)(t:TypeId):Option (List Value):=match(P.info? t).bind (·.zero)with|some z=>if z.cells.toList.all plain then some z.cells.toList else none|none=>none
abbrev II:=FuncId->Bool×List Bool
def gb(P:Program)(fields:Array Field):List Nat->Option (List (Nat×Nat))
 |[]=>some []
 |i::r=>
  match fields[i]?,gb P fields r with
  |some f,some l=>match fh P f.type with|some n=>some ((f.offset,n)::l)|none=>none
  |_,_=>none
def sj:Nat->Value
 |0=>.slice none 0 0
 |1=>.pointer none
 |_=>.nilFunc
def Di:Nat->Operand->Bool
 |0,.const (.slice none 0 0)|1,.const (.pointer none)|2,.const .nilFunc=>true
 |_,_=>false
def tyF(P:Program)(g:TypeId->Option (List Kd)):List Field->Nat->Option (List Kd)
 |[],_=>some []
 |f::r,o=>
  if f.offset=o/\f.name≠ "_" then
   match g f.type with|some ks=>if fh P f.type=some ks.length then(match tyF P g r (o+ks.length)with|some l=>some (ks++l)|none=>none)else none|none=>none
  else none
def IN(P:Program):Nat->TypeId->Option (List Kd)
 |0,_=>none
 |d+1,t=>
  match P.underlying t with
  |some .bool=>if fh P t=some 1 then some [.b]else none
  |some (.int q)=>if fh P t=some 1 then some [.i q]else none
  |some .string=>if fh P t=some 1 then some [.s]else none
  |some (.array n e)=>match IN P d e with|some ks=>if fh P e=some ks.length/\fh P t=some (n*ks.length)then some (az n ks).flatten else none|none=>none
  |some (.struct fs)=>match tyF P (IN P d) fs.toList 0 with|some ks=>if P.stoodInHeld t=false/\fh P t=some ks.length then some ks else none|none=>none
  |_=>none
def I9(P:Program)(t:TypeId):Option Bool:=((P.info? t).bind (·.zero)).map fun|.agg _=>true|_=>false
def H7(P:Program)(k e:TypeId):Option (Bool×List Kd×Bool×List Value):=match gx P k,IN P 8 k,gx P e,jH P e with|some ka,some ks,some va,some z=>if I9 P e=some va then some (ka,ks,va,z)else none|_,_,_,_=>none
def s_(kind:Nat)(neg:Bool)(x y:Operand):K×List Operand:=if Di kind y then(.P_ kind neg,[x])else if Di kind x then(.P_ kind neg,[y])else(.gY,[])
def Co(P:Program)(op:BinOp)(t:TypeId)(x y:Operand):K×List Operand:=
 match op with
 |.eql|.neq=>
  match P.underlying t with
  |some .bool=>(.Kr (op==.neq),[x,y])
  |some (.int _)|some (.float _)|some .string=>(.NK op,[x,y])
  |some (.slice _)=>s_ 0 (op==.neq) x y
  |some (.pointer _)=>s_ 1 (op==.neq) x y
  |some (.func _ _ _)=>s_ 2 (op==.neq) x y
  |some (.struct _)|some (.array _ _)=>match IN P 8 t with|some ks=>if P.eqGuardType P.depth t=false then(.Mj (op==.neq) ks,[x,y])else(.gY,[])|none=>(.gY,[])
  |_=>(.gY,[])
 |op=>(.NK op,[x,y])
def Ew(P:Program)(e:TypeId):Bool:=match P.info? e with|some i=>decide (i.bytes<=8)|none=>false
def vg(P:Program)(e:TypeId):Bool:=match P.info? e with|some i=>decide (0<i.bytes)&&decide (i.bytes<=16384)|none=>false
def ptE(P:Program)(e:TypeId):Bool:=match P.underlying e with|some (.struct fs)=>fs.any fun f=>(match P.underlying f.type with|some (.pointer _)=>true|_=>false)|_=>false
def mQ(P:Program)(b:Builtin)(args:List Operand)(ts:List TypeId):K×List Operand:=
 match b,ts with
 |.len,[t]=>match P.underlying t with|some .string=>(.len true,args)|some (.slice _)=>(.len false,args)|some (.map _ _)=>(.RY,args)|_=>(.gY,[])
 |.max,_=>(.G3 true,args)
 |.min,_=>(.G3 false,args)
 |.append,[s,x]=>
  match P.underlying s,P.underlying x with
  |some (.slice e),some (.slice _)=>match fh P e,jH P e with|some (n+1),some z=>if vg P e=true/\z.length=n+1 then(.append (n+1) (Ew P e),args)else(.gY,[])|_,_=>(.gY,[])
  |some (.slice e),some (.int _)=>match fh P e,jH P e with|some (n+1),some z=>if vg P e=true/\z.length=n+1 then(.apm z,args)else(.gY,[])|_,_=>(.gY,[])
  |_,_=>(.gY,[])
 |.cap,[t]=>match P.underlying t with|some (.slice _)=>(.aq8,args)|_=>(.gY,[])
 |.copy,[d,_]=>
  match P.underlying d with
  |some (.slice e)=>match fh P e with|some (n+1)=>(.copy (n+1),args)|_=>(.gY,[])
  |_=>(.gY,[])
 |.delete,[m,_]=>
  match P.underlying m with
  |some (.map kt e)=>match H7 P kt e with|some (ka,ks,_,_)=>(.RU ka ks,args)|none=>(.gY,[])
  |_=>(.gY,[])
 |.clear,[s]=>
  match P.underlying s with
  |some (.slice e)=>match fh P e,jH P e with|some (n+1),some z=>if z.length=n+1 then(.clear z,args)else(.gY,[])|_,_=>(.gY,[])
  |_=>(.gY,[])
 |_,_=>(.gY,[])
def anj(P:Program)(f:FuncId):Bool:=
 match P.funcs[f]?with
 |some fn=>
  !(fn.name== "runtime.NumGoroutine")&&fn.body.isNone&&(Extern.findNext fn).isNone&&(Extern.allGenericRows.lookup fn.name).isNone&&(Extern.allTypedRows.lookup fn.name).isNone&&(Extern.allRows.lookup fn.name).isNone&&fn.origin== "slices.overlaps" &&
  (match fn.params.toList with
   |t::_=>(match P.underlying t with|some (.slice e)=>(match fh P e with|some (_+1)=>true|_=>false)|_=>false)
   |[]=>false)
 |none=>false
def J8:List Value->Bool
 |[.slice none 0 0]=>true
 |_=>false
def aes(P:Program)(bI:II)(e:TypeId)(z:List Value):Option Nat:=if(bI 1000000000).1=true/\J8 z=true then(match P.underlying e with|some (.slice ee)=>(match fh P ee with|some (m+1)=>some (m+1)|_=>none)|_=>none)else none
def R0(P:Program)(t:TypeId):Bool:=match P.underlying t with|some (.slice _)=>true|_=>false
def En(P:Program)(bI:II):Op->K×List Operand
 |.move x|.assign x=>(.mv,[x])
 |.pick c a b=>(.pick,[c,a,b])
 |.alloc e=>match jH P e with|some z=>(.alloc z,[])|none=>(.gY,[])
 |.box _ x=>(.box,[x])
 |.build t parts=>
  match P.underlying t,jH P t with
  |some (.struct fields),some z=>match gb P fields (parts.toList.map (·.1))with|some pl=>if fields.toList.all (fun f=>(fh P f.type).isSome)then(.build z pl,parts.toList.map (·.2))else(.gY,[])|none=>(.gY,[])
  |some (.array _ e),some z=>match fh P e with|some n=>(.build z (parts.toList.map fun p=>(p.1*n,n)),parts.toList.map (·.2))|none=>(.gY,[])
  |_,_=>(.gY,[])
 |.buildSlice t len parts=>
  match P.underlying t with
  |some (.slice e)=>match fh P e,jH P e with|some (n+1),some z=>if len*(n+1)<=4096/\z.length=n+1/\ptE P e=true then(.agB (n+1) len ((aG (len*(n+1))).map fun i=>z.getD (i %(n+1)) undef) (parts.toList.map (·.1)),parts.toList.map (·.2))else if len*(n+1)<=4096/\z.length=n+1 then(.buildSlice (n+1) len ((aG (len*(n+1))).map fun i=>z.getD (i %(n+1)) undef) (parts.toList.map (·.1)),parts.toList.map (·.2))else(.gY,[])|_,_=>(.gY,[])
  |_=>(.gY,[])
 |.load t a=>match gx P t,fh P t with|some g,some n=>(if(bI 1000000000).1=true/\R0 P t=true/\g=false/\n=1 then .PC else .load g n,[a])|_,_=>(.gY,[])
 |.store t a x=>match fh P t with|some n=>(.store n,[a,x])|none=>(.gY,[])
 |.nilCheck x=>(.nilCheck,[x])
 |.binOp op t x y _=>Co P op t x y
 |.unOp op _ x=>(.un op,[x])
 |.convert s d x=>match P.underlying s,P.underlying d with|some (.int _),some (.int k)=>(.I1 k,[x])|some (.int _),some (.float k)=>(.T_ k,[x])|some .string,some .string=>(.Gs,[x])|_,_=>(.gY,[])
 |.makeFunc (.func f) first captured=>if first.isEmpty then(.aci f,captured.toList)else(.gY,[])
 |.makeSlice t l c=>
  match P.underlying t with
  |some (.slice e)=>match fh P e,jH P e with|some (n+1),some z=>if z.length=n+1/\vg P e=true then(match aes P bI e z with|some m=>.Y8 m|none=>.makeSlice z,[l,c])else(.gY,[])|_,_=>(.gY,[])
  |_=>(.gY,[])
 |.slice t x lo hi none=>
  match P.underlying t with
  |some .string=>(.slice true 1 lo.isSome hi.isSome,x::lo.toList++hi.toList)
  |some (.slice e)=>match fh P e with|some n=>(.slice false n lo.isSome hi.isSome,x::lo.toList++hi.toList)|none=>(.gY,[])
  |_=>(.gY,[])
 |.slice t x (some l) (some u) (some m)=>
  match P.underlying t with
  |some (.slice e)=>match fh P e with|some n=>(.afn n,[x,l,u,m])|none=>(.gY,[])
  |_=>(.gY,[])
 |.fieldAddr s x f=>
  match P.underlying s with
  |some (.struct fields)=>match fields[f]?with|some fl=>(match fh P fl.type with|some (m+1)=>(.fieldAddr fl.offset (m+1),[x])|_=>(.gY,[]))|none=>(.gY,[])
  |_=>(.gY,[])
 |.field s x f=>
  match P.underlying s with
  |some (.struct fields)=>match fields[f]?with|some fl=>(match gx P fl.type,fh P fl.type with|some g,some n=>(.field g fl.offset n,[x])|_,_=>(.gY,[]))|none=>(.gY,[])
  |_=>(.gY,[])
 |.indexAddr t x i=>
  match P.underlying t with
  |some (.slice e)=>match fh P e with|some n=>if ptE P e=true then(.ixB n,[x,i])else(.indexAddr none n,[x,i])|none=>(.gY,[])
  |some (.array len e)=>match fh P e with|some n=>(.indexAddr (some len) n,[x,i])|none=>(.gY,[])
  |_=>(.gY,[])
 |.index t x i=>
  match P.underlying t with
  |some .string=>(.Gb,[x,i])
  |some (.array len e)=>match gx P e,fh P e with|some g,some n=>(.index g len n,[x,i])|_,_=>(.gY,[])
  |_=>(.gY,[])
 |.extract x i=>(.extract i,[x])
 |.makeMap t none=>
  match P.underlying t with
  |some (.map k e)=>match gx P k,gx P e with|some ka,some va=>(.makeMap ka va,[])|_,_=>(.gY,[])
  |_=>(.gY,[])
 |.lookup t x ix ok=>
  match P.underlying t with
  |some (.map k e)=>match H7 P k e with|some (ka,ks,va,z)=>(.lookup ka ks va z ok,[x,ix])|none=>(.gY,[])
  |_=>(.gY,[])
 |.mapEntry t m k=>
  match P.underlying t with
  |some (.map kt e)=>match H7 P kt e with|some (ka,ks,va,z)=>(.mapEntry ka ks va z,[m,k])|none=>(.gY,[])
  |_=>(.gY,[])
 |.mapUpdate t m k x=>
  match P.underlying t with
  |some (.map kt e)=>match H7 P kt e with|some (ka,ks,va,z)=>(.RS ka ks va z.length,[m,k,x])|none=>(.gY,[])
  |_=>(.gY,[])
 |.entryStore t m s x=>
  match P.underlying t with
  |some (.map kt e)=>match H7 P kt e with|some (_,_,va,z)=>(.entryStore va z.length,[m,s,x])|none=>(.gY,[])
  |_=>(.gY,[])
 |.call c=>match c.callee with|.builtin b=>mQ P b c.args.toList c.argTypes.toList|.value (.func f)=>if(bI f).2.length=9 then(if anj P f=true then(.ovl,c.args.toList)else(.gY,[]))else(.call (bI f).1 (bI f).2,.func f::c.args.toList)|.value f=>(.call false [],f::c.args.toList)|.invoke _ _=>(.gY,[])
 |_=>(.gY,[])
def df(P:Program)(bI:II)(nt:Nat)(all:Array Oper)(o:Oper):IM:=
 {dst:=o.dst
  k:=if(match o.dst with|some d=>decide (d<nt)|none=>true)then(En P bI o.op).1 else .gY
  args:=(En P bI o.op).2
  guard:=match o.guard with|none=>none|some (j,b)=>some (((all[j]?).bind (·.dst)).getD 1000000000,b)}
def Iu:K->Nat
 |.mv|.pick|.build _ _|.nilCheck|.NK _|.Kr _|.P_ _ _|.Mj _ _|.un _|.I1 _|.T_ _|.Gs|.aci _|.fieldAddr _ _|.field _ _ _
 |.indexAddr _ _|.ixB _|.Gb|.index _ _ _|.extract _|.len _|.G3 _|.gY=>0
 |.load _ _|.lookup _ _ _ _ _|.slice _ _ _ _|.RY=>1
 |_=>2
def zn(acc:List Nat):List Edge->Nat
 |[]=>0
 |e::r=>if Region.binds .any e then(zn acc r)|||2^e.on|||acc.getD e.on 0 else zn acc r
def aaD:List Oper->List Nat->List Nat
 |[],acc=>acc
 |o::r,acc=>aaD r (acc++[zn acc o.after.toList])
def H3(m:List Nat):List Oper->Nat->Bool
 |[],_=>true
 |o::r,i=>m.getD i 0==zn m o.after.toList&&o.after.toList.all (fun e=>!(Region.binds .any e)||decide (e.on<i))&&H3 m r (i+1)
def il(m:List Nat)(i j:Nat):Bool:=(m.getD j 0).testBit i
def opT:Operand->Option Nat
 |.tmp t=>some t
 |_=>none
def Nl(o:IM):List Nat:=o.args.filterMap opT++(match o.guard with|some (t,_)=>[t]|none=>[])
def V1(d:Option Nat)(l:List Nat):Bool:=match d with|some d=>l.contains d|none=>false
def Kz(a b:IM):Bool:=V1 a.dst (Nl b)||V1 b.dst (Nl a)||V1 a.dst b.dst.toList
def FG(m:List Nat)(i:Nat)(a:IM):List IM->Nat->Bool
 |[],_=>true
 |b::r,j=>(il m i j||!Kz a b)&&FG m i a r (j+1)
def HT(m:List Nat):List IM->Nat->Bool
 |[],_=>true
 |a::r,i=>FG m i a r (i+1)&&HT m r (i+1)
def afs:Value->Value->Bool
 |.int k a,.int k' b=>decide (k=k')&&decide (a=b)
 |.bool a,.bool b=>decide (a=b)
 |.string a,.string b=>decide (a.toList=b.toList)
 |.float k a,.float k' b=>decide (k=k')&&decide (a=b)
 |.slice none 0 0,.slice none 0 0|.pointer none,.pointer none|.map none,.map none|.nilFunc,.nilFunc|.nilIface,.nilIface=>true
 |_,_=>false
def adM:List Value->List Value->Bool
 |[],[]=>true
 |x::xs,y::ys=>afs x y&&adM xs ys
 |_,_=>false
def On:K->K->Bool
 |.lookup ka ks va z false,.mapEntry ka' ks' va' z'=>decide (ka=ka')&&decide (ks=ks')&&decide (va=va')&&adM z z'
 |_,_=>false
def Hh(m:List Nat)(i:Nat)(a:IM):List IM->Nat->List (Nat×Nat)
 |[],_=>[]
 |b::r,j=>if il m i j||Iu b.k==0||Iu b.k+Iu a.k<=2 then Hh m i a r (j+1)else(i,if On a.k b.k then 1000+j else j)::Hh m i a r (j+1)
def Cj(m:List Nat):List IM->Nat->List (Nat×Nat)
 |[],_=>[]
 |a::r,i=>(if Iu a.k==0 then[]else Hh m i a r (i+1))++Cj m r (i+1)
inductive Sl(α:Type)where
 |nil
 |mk (l:List α)
 deriving Inhabited,DecidableEq
def Sl.l{α:Type}:Sl α->List α
 |.nil=>[]
 |.mk l=>l
def Sl.rp{α:Type}:Sl α->Bool
 |.nil=>true
 |.mk _=>false
abbrev wr(k:IntKind)(n:Int):Int:=k.wrap n
def qN(k:IntKind)(a b:Int):Int:=k.wrap (aW k.bits a&&&aW k.bits b).toNat
def aax:{f:IntKind->Int->Int->Int//f=qN}:=Classical.choice ⟨⟨_,rfl⟩⟩
def pT(k:IntKind)(a b:Int):Int:=aax.1 k a b
theorem p_:pT=qN:=funext fun k=>funext fun a=>funext fun b=>congrFun (congrFun (congrFun aax.2 k) a) b
def Qs(k:IntKind)(a b:Int):Int:=k.wrap (aW k.bits a|||aW k.bits b).toNat
def agE:{f:IntKind->Int->Int->Int//f=Qs}:=Classical.choice ⟨⟨_,rfl⟩⟩
def CL(k:IntKind)(a b:Int):Int:=agE.1 k a b
theorem Fg:CL=Qs:=funext fun k=>funext fun a=>funext fun b=>congrFun (congrFun (congrFun agE.2 k) a) b
def aeM(k:IntKind)(a b:Int):Int:=k.wrap (aW k.bits a^^^aW k.bits b).toNat
def aeL:{f:IntKind->Int->Int->Int//f=aeM}:=Classical.choice ⟨⟨_,rfl⟩⟩
def agD(k:IntKind)(a b:Int):Int:=aeL.1 k a b
theorem adl:agD=aeM:=funext fun k=>funext fun a=>funext fun b=>congrFun (congrFun (congrFun aeL.2 k) a) b
def sF(k:IntKind)(a b:Int):Int:=k.wrap (aW k.bits a&&&~~~aW k.bits b).toNat
def KJ:{f:IntKind->Int->Int->Int//f=sF}:=Classical.choice ⟨⟨_,rfl⟩⟩
def fQ(k:IntKind)(a b:Int):Int:=KJ.1 k a b
theorem oV:fQ=sF:=funext fun k=>funext fun a=>funext fun b=>congrFun (congrFun (congrFun KJ.2 k) a) b
def aq_(k:IntKind)(a:Int):Int:=k.wrap (aW k.bits (if k.signed then-1 else k.max)^^^aW k.bits a).toNat
def pS(k:IntKind)(a b:Int):Int:=k.wrap (a*2^(min b.toNat k.bits))
def pR(k:IntKind)(a b:Int):Int:=a.fdiv (2^(min b.toNat k.bits))
def Wf(k:IntKind)(a b:Int):Option Int:=if b=0 then none else some (k.wrap (a.tdiv b))
def X7(_:IntKind)(a b:Int):Option Int:=if b=0 then none else some (a.tmod b)
def GP(k:IntKind)(a b:Int):Option Int:=if b<0 then none else some (pS k a b)
def FB(k:IntKind)(a b:Int):Option Int:=if b<0 then none else some (pR k a b)
def agx(a b:ByteArray):Option ByteArray:=if((a.size+b.size:Nat):Int)>IntKind.i64.max then none else some (a++b)
def atS(s:ByteArray)(i:Int):Option Int:=if 0<=i then s[i.toNat]?.map fun b=>(b.toNat:Int)else none
def Jj(s:ByteArray)(lo hi:Int):Option ByteArray:=if 0<=lo/\lo<=hi/\hi<=s.size then some (s.extract lo.toNat hi.toNat)else none
def Fm{α:Type}(z:α)(l c:Int):Option (List α):=if 0<=l/\l<=c/\c<=2147483648 then some (az l.toNat z)else none
def Sl.to{α:Type}(s:Sl α)(r:List α):Sl α:=match s with|.nil=>.nil|.mk _=>.mk r
def bS(i:Int)(n:Nat):Option Nat:=if 0<=i/\i<n then some i.toNat else none
theorem jy{i:Int}{n m:Nat}:bS i n=some m<->i=m/\m<n:=by
 unfold bS;split
 .simp only[eZ];omega
 .simp only[reduceCtorEq,false_iff];omega
theorem aY{i n:Nat}(h:i<n):bS (i:Int) n=some i:=jy.2 ⟨rfl,h⟩
def gt{α:Type}[Inhabited α](l:List α)(n:Nat):α:=l.getD n default
theorem ZA{α:Type}[Inhabited α]{l:List α}{n:Nat}(h:n<l.length):l[n]?=some (gt l n):=by simp[gt,List.getD,h]
theorem dx{α:Type}[Inhabited α]{l:List α}{n:Nat}(h:n<l.length):gt l n=l[n]:=by simp[gt,List.getD,h]
def fA{α:Type}(l:List α):Option (List α):=if l.length<=2147483648 then some l else none
theorem mz{α:Type}{l m:List α}:fA l=some m<->l=m/\l.length<=2147483648:=by
 unfold fA;split
 .simp_all
 .rename_i hl;simp only[reduceCtorEq,false_iff,not_and];rintro rfl;omega
theorem kz{α:Type}{l:List α}(h:l.length<=2147483648):fA l=some l:=mz.2 ⟨rfl,h⟩
def adc{α:Type}(l:List α):Option (List α):=if l.length<=17592186044416 then some l else none
theorem Hv{α:Type}{l m:List α}:adc l=some m<->l=m/\l.length<=17592186044416:=by
 unfold adc;split
 .simp_all
 .rename_i hl;simp only[reduceCtorEq,false_iff,not_and];rintro rfl;omega
def rG{α:Type}(l:List α)(lo hi:Int):Option (List α):=if 0<=lo/\lo<=hi/\hi<=l.length then some ((l.drop lo.toNat).take (hi.toNat-lo.toNat))else none
theorem zF{α β:Type}{x:Option α}{f:α->Option β}{r:β}(h:x.bind f=some r):∃a,x=some a/\f a=some r:=Option.bind_eq_some_iff.1 h
section
variable{α:Type}{l:List α}{κ ν:Type}
theorem By{l r:List α}{lo hi:Int}:rG l lo hi=some r<->(0<=lo/\lo<=hi/\hi<=l.length)/\(l.drop lo.toNat).take (hi.toNat-lo.toNat)=r:=by
 unfold rG;split
 .rename_i h;simp[h]
 .rename_i h;simp[h]
def IG(l:List α)(off n:Nat)(x:List α):List α:=kV l off (x.take n)
def PH(a b:List α):Option Unit:=if a.length=b.length then some ()else none
theorem Mb{a b:List α}{u:Unit}:PH a b=some u<->a.length=b.length:=by unfold PH;split<;>simp_all
end
structure Mp(K V:Type)where
 es:List (K×V×Nat)
 c_:Nat
def Mp.none{K V:Type}:Mp K V:=⟨[],0⟩
instance{K V:Type}:Inhabited (Mp K V):=⟨.none⟩
section
variable{κ ν:Type}
def d_[DecidableEq κ](k:κ):List (κ×ν×Nat)->Nat->Option (Nat×κ×ν×Nat)
 |[],_=>none
 |e::r,i=>if k=e.1 then some (i,e)else d_ k r (i+1)
def lS[DecidableEq κ](m:Mp κ ν)(z:ν)(k:κ):ν:=match d_ k m.es 0 with|some (_,e)=>e.2.1|none=>z
def Db[DecidableEq κ](m:Mp κ ν)(k:κ):Bool:=(d_ k m.es 0).isSome
def pp[DecidableEq κ](m:Mp κ ν)(z:ν)(k:κ):Mp κ ν×ν×Int:=match d_ k m.es 0 with|some (_,e)=>(m,e.2.1,e.2.2)|none=>(⟨m.es++[(k,z,m.c_)],m.c_+1⟩,z,m.c_)
def qJ:List (κ×ν×Nat)->Nat->ν->List (κ×ν×Nat)
 |[],_,_=>[]
 |e::r,0,v=>(e.1,v,e.2.2)::r
 |e::r,i+1,v=>e::qJ r i v
def JW(m:Mp κ ν)(s:Int)(v:ν):Option (Mp κ ν):=(m.es.findIdx? (fun e=>decide ((e.2.2:Int)=s))).map fun i=>⟨qJ m.es i v,m.c_⟩
def Cw[DecidableEq κ](m:Mp κ ν)(k:κ)(v:ν):Mp κ ν:=match d_ k m.es 0 with|some (i,_)=>⟨qJ m.es i v,m.c_⟩|none=>⟨m.es++[(k,v,m.c_)],m.c_+1⟩
def Br[DecidableEq κ](m:Mp κ ν)(k:κ):Mp κ ν:=match d_ k m.es 0 with|some (i,_)=>⟨m.es.eraseIdx i,m.c_⟩|none=>m
theorem kg[DecidableEq κ]{k:κ}:∀{l:List (κ×ν×Nat)}{i j:Nat}{e:κ×ν×Nat},d_ k l i=some (j,e)->i<=j/\l[j-i]?=some e/\e.1=k:=by
 intro l;induction l with
 |nil=>intro i j e h;simp[d_]at h
 |cons x l ih=>
  intro i j e h;simp only[d_]at h;split at h
  .rename_i hk;obtain⟨rfl,rfl⟩:i=j/\x=e:=by simpa using h
   exact⟨Nat.le_refl _,by simp,hk.symm⟩
  .obtain ⟨h1,h2,h3⟩:=ih h;have e1:j-i=(j-(i+1))+1:=by omega
   exact⟨by omega,by rw[e1];simpa using h2,h3⟩
end
def tz{α β:Type}(f:α->Option (α⊕β)):Nat->α->Option β
 |0,_=>none
 |n+1,a=>match f a with|some (.inl a')=>tz f n a'|some (.inr b)=>some b|none=>none
theorem HV{α β:Type}{f:α->Option (α⊕β)}:∀{n m:Nat}{a:α}{b:β},n<=m->tz f n a=some b->tz f m a=some b:=by
 intro n;induction n with
 |zero=>intro m a b _ h;simp[tz]at h
 |succ n ih=>
  intro m a b hm h;cases m with
  |zero=>omega
  |succ m=>
   simp only[tz]at h|-;split at h
   .exact ih (by omega) h
   .exact h
   .simp at h
open Classical in
def aJ{α β:Type}(f:α->Option (α⊕β))(a:α):Option β:=if h:∃n b,tz f n a=some b then some (jN (fZ h))else none
theorem yb{α β:Type}{f:α->Option (α⊕β)}{a:α}{b:β}:aJ f a=some b<->∃n,tz f n a=some b:=by
 constructor
 .intro h;unfold aJ at h;split at h
  .rename_i hx;refine⟨jN hx,?_⟩;rw[fZ (fZ hx)];exact h
  .simp at h
 .rintro ⟨n,hn⟩;have hx:∃n b,tz f n a=some b:=⟨n,b,hn⟩
  unfold aJ;rw[dif_pos hx];have h2:=fZ (fZ hx);have h3:=HV (Nat.le_max_left n (jN hx)) hn;have h4:=HV (Nat.le_max_right n (jN hx)) h2;rw[h3]at h4;rw[<-h4]
theorem PA{α β:Type}(f:α->Option (α⊕β))(a:α):aJ f a=match f a with
  |some (.inl a')=>aJ f a'
  |some (.inr b)=>some b
  |none=>none:=by
 apply Option.ext;intro b;rw[yb];constructor
 .rintro ⟨n,hn⟩;cases n with
  |zero=>simp[tz]at hn
  |succ n=>
   simp only[tz]at hn;split at hn
   .exact yb.2 ⟨n,hn⟩
   .exact hn
   .simp at hn
 .intro h;split at h
  .rename_i a' ha;obtain⟨n,hn⟩:=yb.1 h;exact⟨n+1,by simp only[tz,ha];exact hn⟩
  .rename_i b' ha;exact⟨1,by simp only[tz,ha];exact h⟩
  .simp at h
theorem dD{α β:Type}{f:α->Option (α⊕β)}{a a':α}(h:f a=some (.inl a')):aJ f a=aJ f a':=by rw[PA,h]
theorem bW{α β:Type}{f:α->Option (α⊕β)}{a:α}{b:β}(h:f a=some (.inr b)):aJ f a=some b:=by rw[PA,h]
inductive Ty where
 |i (k:IntKind)
 |b
 |s
 |f (k:FloatKind)
 |sl (t:Ty)
 |mp (k v:Ty)
 |un
 |pr (a c:Ty)
 |st (t:Ty)
 |ar (n:Nat) (t:Ty)
 |o (k:Nat)
 deriving Inhabited,DecidableEq
def NF{α:Type}(wd:Bool)(t:Ty)(l:List α):Option (List α):=match wd,t with|true,.f _=>adc l|_,_=>fA l
theorem Wu{α:Type}{wd:Bool}{t:Ty}{l m:List α}(h:NF wd t l=some m):l=m/\(l.length<=2147483648\/(wd=true/\l.length<=17592186044416)):=by
 unfold NF at h;split at h
 .exact ⟨(Hv.1 h).1,.inr ⟨rfl,(Hv.1 h).2⟩⟩
 .exact ⟨(mz.1 h).1,.inl (mz.1 h).2⟩
def Arr(n:Nat)(α:Type):Type:={l:List α//l.length=n}
def Arr.set{n:Nat}{α:Type}(v:Arr n α)(k:Nat)(x:α):Arr n α:=⟨v.1.set k x,by rw[List.length_set];exact v.2⟩
instance{n:Nat}{α:Type}[Inhabited α]:Inhabited (Arr n α):=⟨⟨az n default,bz⟩⟩
instance{n:Nat}{α:Type}[DecidableEq α]:DecidableEq (Arr n α):=inferInstanceAs (DecidableEq {l:List α//l.length=n})
@[reducible] def El:Ty->Type
 |.i _=>Int
 |.b=>Bool
 |.s=>ByteArray
 |.f _=>Nat
 |.sl t=>Sl (El t)
 |.mp k v=>Mp (El k) (El v)
 |.un=>Unit
 |.pr a c=>El a×El c
 |.st t=>El t
 |.ar n t=>Arr n (El t)
 |.o _=>Unit
instance T7:(t:Ty)->Inhabited (El t)
 |.i _=>⟨(0:Int)⟩
 |.b=>⟨false⟩
 |.s=>⟨(default:ByteArray)⟩
 |.f _=>⟨(0:Nat)⟩
 |.sl _=>⟨Sl.nil⟩
 |.mp _ _=>⟨Mp.none⟩
 |.un=>⟨()⟩
 |.pr a c=>⟨((T7 a).default,(T7 c).default)⟩
 |.st t=>T7 t
 |.ar n t=>⟨⟨az n (T7 t).default,bz⟩⟩
 |.o _=>⟨()⟩
def pM:(t:Ty)->El t
 |.i _=>(0:Int)
 |.b=>false
 |.s=>(ByteArray.empty)
 |.f _=>(0:Nat)
 |.sl _=>Sl.nil
 |.mp _ _=>Mp.none
 |.un=>()
 |.pr a c=>(pM a,pM c)
 |.st t=>pM t
 |.ar n t=>⟨az n (pM t),bz⟩
 |.o _=>()
def fF(t u:Ty)(v:El t):Option (El u):=if h:t=u then some (h▸v)else none
def ei:Ty->Nat
 |.un=>0
 |.pr a c=>ei a+ei c
 |.st t=>ei t
 |.ar n t=>n*ei t
 |_=>1
def oq:Ty->Bool
 |.o _|.mp _ _=>false
 |.pr a c=>oq a&&oq c
 |.st t|.ar _ t|.sl t=>oq t
 |_=>true
def kR:Ty->Bool
 |.st _|.ar _ _=>true
 |_=>false
inductive Pe where
 |fd (i:Nat)
 |ix (n:Nat)
abbrev xK:=List Pe
inductive V where
 |x (t:Ty) (v:El t)
 |kb (c:Bool)
 |nl (k:Nat)
 |so (id:Nat)
 |sr (id:Nat)
 |sb (id ver lo:Nat) (t:Ty) (r:Sl (El t))
 |op (id:Nat) (t:Ty) (p:xK)
 |ep (id n:Nat) (t:Ty) (p:xK)
 |pt (t:Ty) (v:El t)
 |fn (z:Bool) (f:Nat) (caps:V)
 |om (id:Nat)
 |vs (id:Nat) (t:Ty)
 |rc (l:V)
 |tp (l:V)
 |ni
 |co (a r:V)
 |fl (l:List Value)
 |no
 |gn
inductive O where
 |ar (t:Ty) (s:Sl (El t)) (ver:Nat)
 |im (t:Ty) (s:Sl (El t)) (ver:Nat)
 |bx (t:Ty) (c:V)
 |ib (t:Ty) (v:El t)
 |mp (k v:Ty) (m:Mp (El k) (El v))
 |rw(t:Ty) (s:Sl (Sl (El t))) (ln:Option (Nat×Nat))
abbrev H2:=List (Nat×Option O)
def fO(h:H2)(id:Nat):Option O:=(iV h id).join
def Ha:(t:Ty)->El t->Nat->Option V
 |.pr a _,v,0=>some (.x a v.1)
 |.pr _ c,v,n+1=>Ha c v.2 n
 |t,v,0=>some (.x t v)
 |_,_,_=>none
def Lm:Ty->Nat->Option Ty
 |.pr a _,0=>some a
 |.pr _ c,n+1=>Lm c n
 |t,0=>some t
 |_,_=>none
def KZ:Ty->Nat->Nat
 |.pr _ _,0=>0
 |.pr a c,n+1=>ei a+KZ c n
 |_,_=>0
def Xh:(t:Ty)->El t->V
 |.pr a c,v=>.co (.x a v.1) (Xh c v.2)
 |t,v=>.co (.x t v) .ni
def anD(k:IntKind):List Value->Option (Int×List Value)
 |.int k' n::r=>if k'=k then some (n,r)else none
 |_=>none
def anF:List Value->Option (Bool×List Value)
 |.bool c::r=>some (c,r)
 |_=>none
def anB:List Value->Option (ByteArray×List Value)
 |.string c::r=>some (c,r)
 |_=>none
def aeD(k:FloatKind):List Value->Option (Nat×List Value)
 |.float k' n::r=>if k'=k then some (n,r)else none
 |_=>none
def anC{α:Type}:List Value->Option (Sl α×List Value)
 |.slice none 0 0::r=>some (Sl.nil,r)
 |_=>none
def Z7{α:Type}(f:List Value->Option (α×List Value)):(m:Nat)->List Value->Option (Arr m α×List Value)
 |0,l=>some (⟨[],rfl⟩,l)
 |m+1,l=>match f l with|some (x,l)=>(match Z7 f m l with|some (v,l)=>some (⟨x::v.1,by rw[List.length_cons,v.2]⟩,l)|none=>none)|none=>none
def Gl:(t:Ty)->List Value->Option (El t×List Value)
 |.i k=>anD k
 |.b=>anF
 |.s=>anB
 |.f k=>aeD k
 |.sl _=>anC
 |.pr a c=>fun l=>match Gl a l with|some (x,l)=>(match Gl c l with|some (y,l)=>some ((x,y),l)|none=>none)|none=>none
 |.st t=>Gl t
 |.ar n t=>Z7 (Gl t) n
 |.mp _ _|.un|.o _=>fun _=>none
def vf(u:Ty):V->Option (El u)
 |.x t v=>fF t u v
 |.kb c=>fF .b u c
 |.nl 0=>(match u with|.sl _=>some Sl.nil|_=>none)
 |.fl l=>bif kR u then(match Gl u l with|some (x,[])=>some x|_=>none)else none
 |_=>none
def XN:(t:Ty)->El t->Nat->V->Option (El t)
 |.pr a _,v,0,w=>match vf a w with|some y=>some (y,v.2)|none=>none
 |.pr _ c,v,n+1,w=>match XN c v.2 n w with|some y=>some (v.1,y)|none=>none
 |t,_,0,w=>vf t w
 |_,_,_,_=>none
def C_:V->Nat->Option V
 |.co a _,0=>some a
 |.co _ r,n+1=>C_ r n
 |_,_=>none
def MW:V->Nat->V->V
 |.co _ r,0,w=>.co w r
 |.co a r,n+1,w=>.co a (MW r n w)
 |l,_,_=>l
def zJ:V->xK->Option V
 |v,[]=>some v
 |.x (.st t) v,.fd i::p=>match Ha t v i with|some w=>zJ w p|none=>none
 |.x (.ar _ t) v,.ix k::p=>zJ (.x t (gt v.1 k)) p
 |.rc l,.fd i::p=>match C_ l i with|some w=>zJ w p|none=>none
 |_,_=>none
def vD:V->xK->V->Option V
 |_,[],w=>some w
 |.x (.st t) v,.fd i::p,w=>
  match Ha t v i with
  |some y=>match vD y p w with|some y'=>(match XN t v i y' with|some v'=>some (.x (.st t) v')|none=>some (.rc (MW (Xh t v) i y')))|none=>none
  |none=>none
 |.x (.ar n t) v,.ix k::p,w=>match vD (.x t (gt v.1 k)) p w with|some y=>(match vf t y with|some y'=>some (.x (.ar n t) (v.set k y'))|none=>none)|none=>none
 |.rc l,.fd i::p,w=>match C_ l i with|some y=>(match vD y p w with|some y'=>some (.rc (MW l i y'))|none=>none)|none=>none
 |_,_,_=>none
def Fw:Ty->xK->Option Ty
 |t,[]=>some t
 |.st t,.fd i::p=>match Lm t i with|some u=>Fw u p|none=>none
 |.ar _ t,.ix _::p=>Fw t p
 |_,_=>none
def CG:Ty->xK->Nat
 |.st t,.fd i::p=>KZ t i+(match Lm t i with|some u=>CG u p|none=>0)
 |.ar _ t,.ix k::p=>k*ei t+CG t p
 |_,_=>0
def Vv:Ty->xK->Prop
 |.st t,.fd i::p=>∃u,Lm t i=some u/\Vv u p
 |.ar n t,.ix k::p=>k<n/\Vv t p
 |_,[]=>True
 |_,_=>False
def Mx:Ty->V×V
 |.pr a c=>(.no,.co (Mx a).1 (Mx c).2)
 |.st t=>(bif oq t then .x (.st t) (pM t)else .rc (Mx t).2,.co (bif oq t then .x (.st t) (pM t)else .rc (Mx t).2) .ni)
 |.o k=>(.nl k,.co (.nl k) .ni)
 |.mp _ _=>(.nl 3,.co (.nl 3) .ni)
 |.sl t=>(bif oq t then .x (.sl t) Sl.nil else .nl 0,.co (bif oq t then .x (.sl t) Sl.nil else .nl 0) .ni)
 |.ar n t=>(bif oq t then .x (.ar n t) (pM (.ar n t))else .no,.co (bif oq t then .x (.ar n t) (pM (.ar n t))else .no) .ni)
 |.un=>(.x .un (),.co (.x .un ()) .ni)
 |.i k=>(.x (.i k) (0:Int),.co (.x (.i k) (0:Int)) .ni)
 |.b=>(.x .b false,.co (.x .b false) .ni)
 |.s=>(.x .s ByteArray.empty,.co (.x .s ByteArray.empty) .ni)
 |.f k=>(.x (.f k) (0:Nat),.co (.x (.f k) (0:Nat)) .ni)
abbrev SL(t:Ty):V:=(Mx t).1
def DW:V->Bool
 |.x t _=>kR t
 |.rc _|.fl _=>true
 |_=>false
deriving instance DecidableEq for Mp
instance Ku:(t:Ty)->DecidableEq (El t)
 |.i _=>inferInstanceAs (DecidableEq Int)
 |.b=>inferInstanceAs (DecidableEq Bool)
 |.s=>inferInstanceAs (DecidableEq ByteArray)
 |.f _=>inferInstanceAs (DecidableEq Nat)
 |.sl t=>@instDecidableEqSl (El t) (Ku t)
 |.mp k v=>@instDecidableEqMp (El k) (El v) (Ku k) (Ku v)
 |.un=>inferInstanceAs (DecidableEq Unit)
 |.pr a c=>@instDecidableEqProd (El a) (El c) (Ku a) (Ku c)
 |.st t=>Ku t
 |.ar n t=>@instDecidableEqArr n (El t) (Ku t)
 |.o _=>inferInstanceAs (DecidableEq Unit)
structure S2 where
 jl:List (Nat×V)
 heap:H2
 next:Nat
 wo:List Nat
 gh:V
structure OP where
 o:IM
 t:Ty
 fi:List Nat
def N1:Ty->Nat
 |.pr _ c=>N1 c+1
 |_=>1
def nfT:Ty->Nat
 |.st u=>N1 u
 |_=>0
def QO(t:Ty):Nat->Ty
 |0=>t
 |n+1=>.pr t (QO t n)
def Qw:V->Bool
 |.pt t _=>oq t
 |.ni=>true
 |.co a r=>Qw a&&Qw r
 |_=>false
def tM(h:H2):V->Bool
 |.x t _=>oq t
 |.pt t _=>oq t
 |.kb _|.nl _=>true
 |.op id _ _|.ep id _ _ _|.om id|.vs id _=>(match fO h id with|some _=>true|none=>false)
 |.so id=>(match fO h id with|some (.ar _ _ _)|some (.im _ _ _)=>true|_=>false)
 |.sr id=>(match fO h id with|some (.rw _ _ _)=>true|_=>false)
 |.sb id ver _ t _=>oq t&&(match fO h id with|some (.ar _ _ v)|some (.im _ _ v)=>v==ver|_=>false)
 |.fn true _ l=>Qw l
 |.fn false _ l=>tM h l
 |.rc l|.tp l=>tM h l
 |.fl l=>l.all plain
 |.ni=>true
 |.co a r=>tM h a&&tM h r
 |.no|.gn=>false
def cvV:Value->Option V
 |.bool c=>some (.kb c)
 |.int k n=>some (.x (.i k) n)
 |.float k n=>some (.x (.f k) n)
 |.string s=>some (.x .s s)
 |.pointer none=>some (.nl 1)
 |.slice none 0 0=>some (.nl 0)
 |.nilFunc=>some (.nl 2)
 |.map none=>some (.nl 3)
 |.nilIface=>some (.nl 4)
 |.agg cs=>if cs.toList.all plain then some (.fl cs.toList)else none
 |_=>none
def acD:Nat->Option V:=fun _ => none
def Vq(e:List (Nat×V))(h:H2):Operand->Option V
 |.tmp t=>match iV e t with|some v=>bif tM h v then some v else none|none=>none
 |.const c=>cvV c
 |.global g=>(match acD g with|some v=>bif Qw v then some v else none|none=>none)
 |.func f=>some (.fn true f .ni)
def LG:V->Nat
 |.x t _=>ei t
 |.rc l=>LG l
 |.co a r=>LG a+LG r
 |.ni=>0
 |.fl l=>l.length
 |_=>1
def foV:V->Nat->Nat
 |.co a r,n+1=>LG a+foV r n
 |_,_=>0
def dK:List V->V
 |[]=>.ni
 |v::r=>.co v (dK r)
def kO:V->List V
 |.co a r=>a::kO r
 |_=>[]
def xi:V->Bool->(u:Ty)->Option (El u)
 |.rc l,false,.st u=>xi l true u
 |.co a r,true,.pr t u=>match xi a false t,xi r true u with|some x,some y=>some (x,y)|_,_=>none
 |.co a .ni,true,u=>xi a false u
 |.ni,_,_=>none
 |v,false,u=>vf u v
 |_,_,_=>none
abbrev zN(u:Ty)(v:V):Option (El u):=xi v false u
def fg:V->Bool->Ty->Bool
 |.x u _,false,t=>decide (u=t)
 |.rc l,false,.st t=>fg l true t
 |.co a r,true,.pr t u=>fg a false t&&fg r true u
 |.co a .ni,true,t=>fg a false t
 |.kb _,false,.b=>true
 |.nl 0,false,.sl _|.so _,false,.sl _|.sr _,false,.sl _|.sb _ _ _ _ _,false,.sl _=>true
 |.nl 3,false,.mp _ _|.om _,false,.mp _ _=>true
 |.nl _,false,.o _|.op _ _ _,false,.o _|.ep _ _ _ _,false,.o _|.pt _ _,false,.o _|.fn _ _ _,false,.o _=>true
 |_,_,_=>false
def QL(t:Ty)(v:V):Option V:=match(bif oq t then vf t v else none)with|some y=>some (.x t y)|none=>bif fg v false t then some v else none
def Oo(h:H2):V->Option ((t:Ty)×Sl (El t)×List Nat)
 |.x (.sl t) s=>some ⟨t,s,[]⟩
 |.so id=>(match fO h id with|some (.ar t s _)|some (.im t s _)=>some ⟨t,s,[id]⟩|_=>none)
 |.sb id _ _ t r=>some ⟨t,r,[id]⟩
 |_=>none
def slX(t:Ty)(h:H2):V->Option ((t:Ty)×Sl (El t)×List Nat)
 |.nl 0=>some ⟨t,Sl.nil,[]⟩
 |v=>Oo h v
def zK(h:H2):V->Option (V×List Nat)
 |.so id=>match Oo h (.so id)with|some ⟨t,s,l⟩=>some (.x (.sl t) s,l)|none=>none
 |.sr id=>match fO h id with|some (.rw t s none)=>some (.x (.sl (.sl t)) s,[id])|_=>none
 |.sb id ver lo t r=>match Oo h (.sb id ver lo t r)with|some ⟨t,s,l⟩=>some (.x (.sl t) s,l)|none=>none
 |.rc l=>match zK h l with|some (w,l)=>some (.rc w,l)|none=>none
 |.co a r=>match zK h a,zK h r with|some (x,l),some (y,m)=>some (.co x y,l++m)|_,_=>none
 |.x t v=>some (.x t v,[])
 |.kb c=>some (.kb c,[])
 |.nl k=>some (.nl k,[])
 |.fl l=>some (.fl l,[])
 |.ni=>some (.ni,[])
 |.fn true f l=>some (.fn true f l,[])
 |.pt t v=>some (.pt t v,[])
 |_=>none
def mgV(c:Bool):V->V->Option V
 |.kb a,.kb b=>some (.x .b (bif c then a else b))
 |.x t a,w=>match zN t w with|some b=>some (.x t (bif c then a else b))|none=>none
 |w,.x t b=>match zN t w with|some a=>some (.x t (bif c then a else b))|none=>none
 |_,_=>none
def vEq:Value->Value->Bool
 |.bool a,.bool b=>a==b
 |.int k a,.int k' b=>decide (k=k')&&a==b
 |.float k a,.float k' b=>decide (k=k')&&a==b
 |.string a,.string b=>decide (a=b)
 |.pointer none,.pointer none|.slice none 0 0,.slice none 0 0|.nilFunc,.nilFunc|.map none,.map none|.nilIface,.nilIface=>true
 |_,_=>false
def zG:List Value->List Value->Bool
 |[],[]=>true
 |a::r,b::s=>vEq a b&&zG r s
 |_,_=>false
def DC:Ty->List Value
 |.i k=>[.int k 0]
 |.b=>[.bool false]
 |.s=>[.string ByteArray.empty]
 |.f k=>[.float k 0]
 |.sl _=>[.slice none 0 0]
 |.mp _ _=>[.map none]
 |.un=>[]
 |.pr a c=>DC a++DC c
 |.st t=>DC t
 |.ar n t=>(az n (DC t)).flatten
 |.o k=>[match k with|0=>.slice none 0 0|1=>.pointer none|2=>.nilFunc|3=>.map none|_=>.nilIface]
def G8:Ty->Option (List Kd)
 |.i k=>some [.i k]
 |.b=>some [.b]
 |.s=>some [.s]
 |.pr a c=>match G8 a,G8 c with|some x,some y=>some (x++y)|_,_=>none
 |.st t=>G8 t
 |.ar n t=>match G8 t with|some x=>some ((az n x).flatten)|none=>none
 |_=>none
def aqT:List Nat->Bool
 |[1]=>true
 |_=>false
def aar(z c:Bool)(op:BinOp)(k k':IntKind)(a b:Int):Option V:=
 match op with
 |.shl=>bif z then some (.x (.i k) (pS k a b))else none
 |.shr=>bif z then some (.x (.i k) (pR k a b))else none
 |op=>bif decide (k=k')then(match op with
  |.add=>some (.x (.i k) (wr k (a+b)))
  |.sub=>some (.x (.i k) (wr k (a-b)))
  |.mul=>some (.x (.i k) (wr k (a*b)))
  |.quo=>bif z then some (.x (.i k) (wr k (a.tdiv b)))else none
  |.rem=>bif z then some (.x (.i k) (a.tmod b))else none
  |.and=>some (.x (.i k) (bif c then qN k a b else pT k a b))
  |.or=>some (.x (.i k) (bif c then Qs k a b else CL k a b))
  |.xor=>some (.x (.i k) (bif c then aeM k a b else agD k a b))
  |.andNot=>some (.x (.i k) (bif c then sF k a b else fQ k a b))
  |.eql=>some (.x .b (a==b))
  |.neq=>some (.x .b (a !=b))
  |.lss=>some (.x .b (decide (a<b)))
  |.leq=>some (.x .b (decide (a<=b)))
  |.gtr=>some (.x .b (decide (a>b)))
  |.geq=>some (.x .b (decide (a>=b)))
  |_=>none)else none
theorem anS{c:Bool}{k:IntKind}{a b:Int}:(bif c then qN k a b else pT k a b)=pT k a b/\(bif c then Qs k a b else CL k a b)=CL k a b/\(bif c then aeM k a b else agD k a b)=agD k a b/\(bif c then sF k a b else fQ k a b)=fQ k a b:=by cases c<;>first|exact⟨rfl,rfl,rfl,rfl⟩|(rw[p_,Fg,adl,oV];exact⟨rfl,rfl,rfl,rfl⟩)
def He(k:FloatKind)(a b:Nat):Nat:=(k.format.add a b).getD (EO k)
def aqZ(k:FloatKind)(a b:Nat):Nat:=(k.format.sub a b).getD (EO k)
def aq0(k:FloatKind)(a b:Nat):Nat:=(k.format.mul a b).getD (EO k)
def aq1(k:FloatKind)(a b:Nat):Nat:=(k.format.div a b).getD (EO k)
def P6(k:FloatKind)(a b:Nat):Bool:=k.format.order a b==some .eq
def ZQ(k:FloatKind)(a b:Nat):Bool:=k.format.order a b==some .lt
def T3(k:FloatKind)(a b:Nat):Bool:=k.format.order a b==some .gt
def Hc(k:FloatKind)(a b:Nat):Nat:=match k.format.order a b with|none=>EO k|some .lt=>a|some .gt=>b|some .eq=>if(k.decode a).neg then a else b
def Ln(k:FloatKind)(a b:Nat):Nat:=match k.format.order a b with|none=>EO k|some .lt=>b|some .gt=>a|some .eq=>if(k.decode a).neg then b else a
def Uk(op:BinOp)(k k':FloatKind)(a b:Nat):Option V:=
 bif decide (k=k')then(match op with
  |.add=>some (.x (.f k) (He k a b))
  |.sub=>some (.x (.f k) (aqZ k a b))
  |.mul=>some (.x (.f k) (aq0 k a b))
  |.quo=>some (.x (.f k) (aq1 k a b))
  |.eql=>some (.x .b (P6 k a b))
  |.neq=>some (.x .b (!(P6 k a b)))
  |.lss=>some (.x .b (ZQ k a b))
  |.leq=>some (.x .b (ZQ k a b||P6 k a b))
  |.gtr=>some (.x .b (T3 k a b))
  |.geq=>some (.x .b (T3 k a b||P6 k a b))
  |_=>none)else none
def agC(op:BinOp)(x y:ByteArray):Option V:=match op with|.eql=>some (.x .b (x.toList==y.toList))|.neq=>some (.x .b (!(x.toList==y.toList)))|.lss=>some (.x .b (Op.bytesLess x.toList y.toList))|.leq=>some (.x .b (Op.bytesLess x.toList y.toList||x.toList==y.toList))|.gtr=>some (.x .b (!(Op.bytesLess x.toList y.toList||x.toList==y.toList)))|.geq=>some (.x .b (!(Op.bytesLess x.toList y.toList)))|_=>none
def afA:List Operand->Bool
 |[_,.const (.int _ n)]=>decide (n>0)
 |_=>false
def mmI(m:Bool)(k:IntKind):Int->List V->Option Int
 |x,[]=>some x
 |x,.x (.i k') y::r=>bif decide (k'=k)then mmI m k (bif m then(if y>x then y else x)else(if y<x then y else x)) r else none
 |_,_=>none
def Y6(m:Bool)(k:FloatKind):Nat->List V->Option Nat
 |x,[]=>some x
 |x,.x (.f k') y::r=>bif decide (k'=k)then Y6 m k (bif m then Ln k x y else Hc k x y) r else none
 |_,_=>none
def F4(h:H2):V->Option (V×List Nat)
 |.pt t v=>some (.x t v,[])
 |.op id t p=>(match fO h id with
  |some (.bx u c)=>bif decide (u=t)then(match zJ c p with|some w=>some (w,[id])|none=>none)else none
  |some (.ib u v)=>bif decide (u=t)then(match zJ (.x u v) p with|some w=>some (w,[id])|none=>none)else none
  |_=>none)
 |.ep id n t p=>(match fO h id with
  |some (.ar u s _)|some (.im u s _)=>bif decide (u=t)then(match zJ (.x u (gt s.l n)) p with|some w=>some (w,[id])|none=>none)else none
  |_=>none)
 |_=>none
def RH(h:H2)(kind:Nat):V->Option V
 |.nl k=>bif(k==kind)&&iu k 3 then some (.kb true)else none
 |.pt _ _|.op _ _ _|.ep _ _ _ _=>bif kind==1 then some (.kb false)else none
 |.fn _ _ _=>bif kind==2 then some (.kb false)else none
 |v=>bif kind==0 then(match Oo h v with|some ⟨_,s,_⟩=>some (.x .b s.rp)|none=>none)else none
def YZ:V->V
 |.kb c=>.kb (!c)
 |.x .b c=>.x .b (!c)
 |v=>v
def R_(off n:Nat)(i:Nat):V->Option V
 |.op id t p=>(match Fw t p with
  |some (.st u)=>(match Lm u i with|some w=>bif(KZ u i==off)&&(ei w==n)then some (.op id t (p++[.fd i]))else none|none=>none)
  |_=>none)
 |.ep id m t p=>(match Fw t p with
  |some (.st u)=>(match Lm u i with|some w=>bif(KZ u i==off)&&(ei w==n)then some (.ep id m t (p++[.fd i]))else none|none=>none)
  |_=>none)
 |.pt (.st u) v=>(match Ha u v i with|some (.x w y)=>bif(KZ u i==off)&&(ei w==n)then some (.pt w y)else none|_=>none)
 |_=>none
def QN(h:H2)(g:Bool)(n:Nat)(w:V):Bool:=(DW w==g)&&(LG w==n)&&(g||n==1)&&tM h w
def Y9(h:H2):V->Option ((k:Ty)×(v:Ty)×Mp (El k) (El v)×List Nat)
 |.om id=>(match fO h id with|some (.mp k v m)=>some ⟨k,v,m,[id]⟩|_=>none)
 |_=>none
def Qq(t:Ty):List Nat->List (Nat×Nat)->List V->V->Option V
 |[],[],[],c=>some c
 |i::is,(off,n)::ps,w::ws,c=>
  match t with
  |.st u=>(match Lm u i with
   |some a=>bif(KZ u i==off)&&(ei a==n)then(match QL a w with|some w=>(match vD c [.fd i] w with|some c=>bif fg c false t then Qq t is ps ws c else none|none=>none)|none=>none)else none
   |none=>none)
  |.ar m u=>bif(i*ei u==off)&&(ei u==n)&&decide (i<m)then(match QL u w with|some w=>(match vD c [.ix i] w with|some c=>bif fg c false t then Qq t is ps ws c else none|none=>none)|none=>none)else none
  |_=>none
 |_,_,_,_=>none
def Wv:V->Bool
 |.tp _|.no|.gn|.ni|.co _ _=>false
 |v=>!DW v
def CK(o:OP)(vs:List V)(h:H2):Option (V×List Nat):=
 match o.o.k,vs with
 |.mv,[v]=>some (v,[])
 |.nilCheck,[v]=>(match v with|.pt _ _|.fn _ _ _|.ep _ _ _ _|.op _ _ _=>some (v,[])|_=>none)
 |.NK op,[.x (.i k) a,.x (.i k') b]=>(match aar (afA o.o.args) (aqT o.fi) op k k' a b with|some v=>some (v,[])|none=>none)
 |.NK op,[.x (.f k) a,.x (.f k') b]=>(match Uk op k k' a b with|some v=>some (v,[])|none=>none)
 |.NK op,[.x .s a,.x .s b]=>(match agC op a b with|some v=>some (v,[])|none=>none)
 |.Kr neg,[x,y]=>(match zN .b x,zN .b y with|some a,some b=>some (.x .b (bif neg then !(a==b)else a==b),[])|_,_=>none)
 |.P_ kind neg,[x]=>(match RH h kind x with|some v=>some (bif neg then YZ v else v,[])|none=>none)
 |.Mj neg ks,[.x t a,y]=>(match zN t y with|some b=>bif kR t&&decide (G8 t=some ks)then some (.x .b (bif neg then !(decide (a=b))else decide (a=b)),[])else none|none=>none)
 |.un .not,[.kb c]=>some (.kb (!c),[])
 |.un .not,[.x .b c]=>some (.x .b (!c),[])
 |.un .neg,[.x (.i k) n]=>some (.x (.i k) (wr k (0-n)),[])
 |.un .neg,[.x (.f k) n]=>some (.x (.f k) (Op.negFloat k n),[])
 |.un .xor,[.x (.i k) n]=>some (.x (.i k) (aq_ k n),[])
 |.I1 k,[.x (.i _) n]=>some (.x (.i k) (wr k n),[])
 |.T_ k,[.x (.i _) n]=>some (.x (.f k) (k.nearest n),[])
 |.Gs,[.x .s s]=>some (.x .s s,[])
 |.aci f,vs=>bif vs.all Wv then some (.fn false f (dK vs),[])else none
 |.load g n,[p]=>(match F4 h p with|some (w,l)=>bif QN h g n w then some (w,l)else none|none=>none)
 |.PC,[p]=>(match F4 h p with|some (w,l)=>bif QN h false 1 w then some (w,l)else none|none=>none)
 |.fieldAddr off n,[p]=>(match o.fi with|[i]=>(match R_ off n i p with|some w=>some (w,[])|none=>none)|_=>none)
 |.field g off n,[.x (.st u) v]=>(match o.fi with|[i]=>(match Ha u v i with|some w=>bif(KZ u i==off)&&QN h g n w then some (w,[])else none|none=>none)|_=>none)
 |.field g off n,[.rc l]=>(match o.fi with|[i]=>(match C_ l i with|some w=>bif(foV l i==off)&&QN h g n w then some (w,[])else none|none=>none)|_=>none)
 |.extract i,[.tp l]=>(match C_ l i with|some w=>some (w,[])|none=>none)
 |.len true,[.x .s s]=>some (.x (.i .i64) (s.size:Int),[])
 |.len false,[.nl 0]=>some (.x (.i .i64) (0:Int),[])
 |.len false,[.vs _ t]=>some (.x (.i .i64) (nfT t:Int),[])
 |.len false,[.sr id]=>(match fO h id with|some (.rw _ s _)=>some (.x (.i .i64) (s.l.length:Int),[])|_=>none)
 |.len false,[v]=>(match Oo h v with|some ⟨_,s,_⟩=>some (.x (.i .i64) (s.l.length:Int),[])|none=>none)
 |.RY,[.om id]=>(match fO h id with|some (.mp _ _ m)=>some (.x (.i .i64) (m.es.length:Int),[id])|_=>none)
 |.ixB m,[.vs id (.st u),.x (.i _) i]=>(match Lm u i.toNat with|some _=>bif decide (0<=i)&&iu i.toNat (N1 u)&&(KZ u i.toNat==i.toNat*m)then some (.op id (.st u) [.fd i.toNat],[])else none|none=>none)
 |.RY,[.nl 3]=>some (.x (.i .i64) (0:Int),[])
 |.G3 m,.x (.i k) x::r=>(match mmI m k x r with|some y=>some (.x (.i k) y,[])|none=>none)
 |.G3 m,.x (.f k) x::r=>(match Y6 m k x r with|some y=>some (.x (.f k) y,[])|none=>none)
 |.build z ps,vs=>bif zG (DC o.t) z&&kR o.t&&fg (SL o.t) false o.t then(match Qq o.t o.fi ps vs (SL o.t)with|some v=>some (v,[])|none=>none)else none
 |.lookup ka ks va z ok,[m,kv]=>(match Y9 h m with
  |some ⟨kt,vt,mp,l⟩=>(match zN kt kv with
   |some k=>bif(kR kt==ka)&&(kR vt==va)&&decide (G8 kt=some ks)&&zG (DC vt) z&&oq vt&&(va||ei vt==1)then
     some (bif ok then .tp (.co (.x vt (lS mp (pM vt) k)) (.co (.x .b (Db mp k)) .ni))else .x vt (lS mp (pM vt) k),l)else none
   |none=>none)
  |none=>none)
 |_,_=>none
def AZ{α:Type}(s:Sl α)(x r:List α):Sl α:=match x with|[]=>(match s with|.nil=>.nil|.mk _=>.mk r)|_::_=>.mk r
def py{α:Type}:Sl α->Sl α->Option Unit
 |.nil,.nil=>some ()
 |.mk a,.mk b=>PH a b
 |_,_=>none
def tE(s:S2)(o:O):S2:=⟨s.jl,(s.next,some o)::s.heap,s.next+1,s.next::s.wo,s.gh⟩
def j8(s:S2)(id:Nat)(o:Option O):S2:=⟨s.jl,(id,o)::s.heap,s.next,id::s.wo,s.gh⟩
def V7(h:H2)(id:Nat):Option O:=match fO h id with|some (.ar t s v)|some (.im t s v)=>some (.im t s v)|some (.ib t v)=>some (.ib t v)|some (.bx t c)=>bif oq t&&iu (ei t) 300 then(match zK h c with|some (_,[])=>(match zN t c with|some v=>some (.ib t v)|none=>none)|_=>none)else none|_=>none
def AR(h:H2):List Nat->S2->Option S2
 |[],s=>some s
 |id::r,s=>match fO h id with|some (.rw _ _ none)=>(match AR h r s with|some s=>some (j8 s id none)|none=>none)|_=>(match V7 h id,AR h r s with|some o,some s=>some (j8 s id (some o))|_,_=>none)
def H4(t:Ty):Bool:=oq t&&iu 0 (ei t)
def Jx(h:H2)(t:Ty)(len:Nat):Nat->List Nat->List V->Option (List (El t)×List Nat)
 |m,[],[]=>some (az (len-m) (pM t),[])
 |m,i::is,v::vs=>
  match zK h v with
  |some (w,a)=>(match zN t w with
   |some y=>bif Nat.ble m i&&iu i len then(match Jx h t len (i+1) is vs with|some (l,b)=>some (az (i-m) (pM t)++y::l,a++b)|none=>none)else none
   |none=>none)
  |none=>none
 |_,_,_=>none
def gM:List V->Option (List Int)
 |[]=>some []
 |.x (.i _) n::r=>match gM r with|some l=>some (n::l)|none=>none
 |_=>none
def VN(h:H2):V->Option Int
 |.nl 0=>some 0
 |v=>match Oo h v with|some ⟨_,v,_⟩=>some (v.l.length:Int)|none=>none
def aq7{α:Type}(w:Sl α)(lo n:Nat)(z:α):Option (Sl α):=match w with|.nil=>none|.mk l=>some (.mk (IG l lo n (az n z)))
def Wg{β:Type}(sz:Nat)(h:H2)(x:V)(l u:Int)(k:V->Option β):Option β:=
 match x with
 |.x (.sl t) v=>bif ei t==sz then(rG v.l l u).bind fun y=>k (.x (.sl t) (v.to y))else none
 |.so id=>(match fO h id with
  |some (.ar t v ver)=>bif ei t==sz then(rG v.l l u).bind fun y=>k (.sb id ver l.toNat t (v.to y))else none
  |some (.im t v ver)=>bif ei t==sz then(rG v.l l u).bind fun y=>k (.sb id ver l.toNat t (v.to y))else none
  |_=>none)
 |.sb id ver lo t v=>bif ei t==sz then(rG v.l l u).bind fun y=>k (.sb id ver (lo+l.toNat) t (v.to y))else none
 |.nl 0=>(rG ([]:List Unit) l u).bind fun _=>k (.nl 0)
 |_=>none
def aq9{β:Type}(t:Ty)(sz len:Nat)(z:List Value)(pl:List Nat)(vs:List V)(s:S2)(k:V->S2->List Nat->Option β):Option β:=
 bif(ei t==sz)&&zG ((az len (DC t)).flatten) z&&H4 t then
  (match Jx s.heap t len 0 pl vs with
  |some (l,a)=>(match AR s.heap a s with|some s'=>k (.so s.next) (tE s' (.ar t (.mk l) 0)) a|none=>none)
  |none=>none)else none
def XG(ln:Option (Nat×Nat))(m:Nat):Bool:=match ln with|none=>true|some (m',_)=>nG m' m
def QT{β:Type}(id m:Nat)(t:Ty)(p:xK)(w:V)(s:S2)(k:S2->List Nat->Option β):Option β:=
 match fO s.heap id with
 |some (.rw u v ln)=>(match p,w with
  |[],.so id2=>(match fO s.heap id2 with
   |some (.ar u2 r _)=>(match fF (.sl u2) (.sl u) r with
    |some r=>bif decide (t=.sl u)&&!(id2==id)&&XG ln m then k (j8 (j8 s id2 none) id (some (.rw u (.mk (v.l.set m r)) none))) [id,id2]else none
    |none=>none)
   |_=>none)
  |_,_=>none)
 |some (.ar u l ver)=>(match zK s.heap w with
  |some (w,a)=>bif decide (u=t)then(match Fw u p with
   |some q=>(match zN q w with
    |some y=>(match vD (.x u (gt l.l m)) p (.x q y)with
     |some c=>(match vf u c with
      |some y=>(match AR s.heap a s with|some s=>bif !a.contains id then k (j8 s id (some (.ar u (.mk (l.l.set m y)) (ver+1)))) (id::a)else none|none=>none)
      |none=>none)
     |none=>none)
    |none=>none)
   |none=>none)else none
  |none=>none)
 |_=>none
def part{β:Type}(o:OP)(vs:List V)(s:S2)(k:V->S2->List Nat->Option β):Option β:=
 match o.o.k,vs with
 |.NK .quo,[.x (.i q) a,.x (.i q') b]=>bif decide (q=q')then(Wf q a b).bind fun x=>k (.x (.i q) x) s []else none
 |.NK .rem,[.x (.i q) a,.x (.i q') b]=>bif decide (q=q')then(X7 q a b).bind fun x=>k (.x (.i q) x) s []else none
 |.NK .shl,[.x (.i q) a,.x (.i _) b]=>(GP q a b).bind fun x=>k (.x (.i q) x) s []
 |.NK .shr,[.x (.i q) a,.x (.i _) b]=>(FB q a b).bind fun x=>k (.x (.i q) x) s []
 |.NK .add,[.x .s a,.x .s b]=>(agx a b).bind fun x=>k (.x .s x) s []
 |.alloc z,[]=>bif zG (DC o.t) z&&fg (SL o.t) false o.t then k (.op s.next o.t []) (tE s (.bx o.t (SL o.t))) []else none
 |.box,[v]=>(match QL o.t v with|some w=>k (.op s.next o.t []) (tE s (.bx o.t w)) []|none=>none)
 |.buildSlice sz len z pl,vs=>aq9 o.t sz len z pl vs s k
 |.agB sz (n+1) _ pl,vs=>bif(ei o.t==sz)&&decide (pl=aG (n+1))&&fg (.rc (dK vs)) false (.st (QO o.t n))&&nG (N1 (QO o.t n)) (n+1)&&iu 0 sz then k (.vs s.next (.st (QO o.t n))) (tE s (.bx (.st (QO o.t n)) (.rc (dK vs)))) []else none
 |.store n,[.op id t p,w]=>bif(LG w==n)then(match fO s.heap id with
  |some (.bx u c)=>bif decide (u=t)then(match Fw t p with
   |some a=>(match QL a w with
    |some w=>(match vD c p w with|some c=>bif fg c false t then k (.tp .ni) (j8 s id (some (.bx t c))) [id]else none|none=>none)
    |none=>none)
   |none=>none)else none
  |_=>none)else none
 |.PC,[.ep id m u []]=>(match fO s.heap id with
  |some (.rw t v none)=>bif decide (u=.sl t)then k (.so s.next) (tE (j8 s id (some (.rw t v (some (m,s.next))))) (.ar t (gt v.l m) 0)) [id]else none
  |_=>none)
 |.Y8 szi,[.x (.i _) l,.x (.i _) c]=>(match o.t with
  |.sl t=>bif(ei t==szi)&&H4 t then(Fm (Sl.nil:Sl (El t)) l c).bind fun r=>k (.sr s.next) (tE s (.rw t (.mk r) none)) []else none
  |_=>none)
 |.store n,[.ep id m t p,w]=>bif(LG w==n)then QT id m t p w s (fun s l=>k (.tp .ni) s l)else none
 |.makeSlice z,[.x (.i _) l,.x (.i _) c]=>bif zG (DC o.t) z&&H4 o.t then(Fm (pM o.t) l c).bind fun r=>k (.so s.next) (tE s (.ar o.t (.mk r) 0)) []else none
 |.slice true _ lo hi,.x .s x::r=>(match lo,hi,gM r with
  |false,false,some []=>(Jj x 0 x.size).bind fun y=>k (.x .s y) s []
  |true,false,some [l]=>(Jj x l x.size).bind fun y=>k (.x .s y) s []
  |false,true,some [u]=>(Jj x 0 u).bind fun y=>k (.x .s y) s []
  |true,true,some [l,u]=>(Jj x l u).bind fun y=>k (.x .s y) s []
  |_,_,_=>none)
 |.slice false sz lo hi,x::r=>
  (match lo,hi,gM r,VN s.heap x with
  |false,false,some [],some n=>Wg sz s.heap x 0 n fun v=>k v s []
  |true,false,some [l],some n=>Wg sz s.heap x l n fun v=>k v s []
  |false,true,some [u],some _=>Wg sz s.heap x 0 u fun v=>k v s []
  |true,true,some [l,u],some _=>Wg sz s.heap x l u fun v=>k v s []
  |_,_,_,_=>none)
 |.indexAddr none sz,[x,.x (.i _) i]=>(match x with
  |.x (.sl t) v=>bif ei t==sz then(bS i v.l.length).bind fun m=>k (.pt t (gt v.l m)) s []else none
  |.so id=>(match Oo s.heap (.so id)with|some ⟨t,v,_⟩=>bif ei t==sz then(bS i v.l.length).bind fun m=>k (.ep id m t []) s []else none|none=>none)
  |.sb id _ lo t v=>bif ei t==sz then(bS i v.l.length).bind fun m=>k (.ep id (lo+m) t []) s []else none
  |.sr id=>(match fO s.heap id with|some (.rw t v _)=>bif 1==sz then(bS i v.l.length).bind fun m=>k (.ep id m (.sl t) []) s []else none|_=>none)
  |_=>none)
 |.indexAddr (some n) sz,[x,.x (.i _) i]=>(match x with
  |.op id t p=>(match Fw t p with|some (.ar n' u)=>bif(n'==n)&&(ei u==sz)then(bS i n).bind fun m=>k (.op id t (p++[.ix m])) s []else none|_=>none)
  |.ep id q t p=>(match Fw t p with|some (.ar n' u)=>bif(n'==n)&&(ei u==sz)then(bS i n).bind fun m=>k (.ep id q t (p++[.ix m])) s []else none|_=>none)
  |.pt (.ar n' u) v=>bif(n'==n)&&(ei u==sz)then(bS i n).bind fun m=>k (.pt u (gt v.1 m)) s []else none
  |_=>none)
 |.Gb,[.x .s x,.x (.i _) i]=>(atS x i).bind fun c=>k (.x (.i .u8) c) s []
 |.index g n sz,[.x (.ar n' u) v,.x (.i _) i]=>bif(n'==n)&&(ei u==sz)&&(kR u==g)&&oq u&&(g||sz==1)then(bS i n).bind fun m=>k (.x u (gt v.1 m)) s []else none
 |.append sz wd,[a,x]=>
  (match slX o.t s.heap x with
  |some ⟨t,m,ids⟩=>bif(ei t==sz)&&H4 t then(match a with
   |.nl 0=>(NF wd t ([]++m.l)).bind fun r=>k (.so s.next) (tE s (.ar t (AZ Sl.nil m.l r) 0)) ids
   |.x (.sl _) v=>bif Sl.rp v then((NF wd t ([]++m.l)).bind fun r=>k (.so s.next) (tE s (.ar t (AZ Sl.nil m.l r) 0)) ids)else none
   |.so id=>(match fO s.heap id with
    |some (.ar u v _)=>(match fF (.sl t) (.sl u) m with
     |some m=>(NF wd u (v.l++m.l)).bind fun r=>k (.so s.next) (tE (j8 s id none) (.ar u (AZ v m.l r) 0)) (id::ids)
     |none=>none)
    |_=>none)
   |.sb id _ lo u v=>(match fO s.heap id,fF (.sl t) (.sl u) m with
    |some (.ar _ s0 _),some m=>bif Nat.ble s0.l.length (lo+(v.l.length+m.l.length))then((NF wd u (v.l++m.l)).bind fun r=>k (.so s.next) (tE (j8 s id none) (.ar u (AZ v m.l r) 0)) (id::ids))else none
    |_,_=>none)
   |_=>none)else none
  |none=>none)
 |.copy sz,[a,x]=>
  (match slX o.t s.heap x with
  |some ⟨t,m,ids⟩=>bif ei t==sz then(match a with
   |.nl 0=>k (.x (.i .i64) (0:Int)) s ids
   |.so id=>(match fO s.heap id with
    |some (.ar u v ver)=>(match fF (.sl t) (.sl u) m with
     |some m=>k (.x (.i .i64) ((min m.l.length v.l.length:Nat):Int)) (j8 s id (some (.ar u (v.to (IG v.l 0 v.l.length m.l)) (ver+1)))) (id::ids)
     |none=>none)
    |_=>none)
   |.sb id ver lo _ v=>(match fO s.heap id with
    |some (.ar u w ver')=>(match fF (.sl t) (.sl u) m with
     |some m=>bif ver'==ver then k (.x (.i .i64) ((min m.l.length v.l.length:Nat):Int)) (j8 s id (some (.ar u (w.to (IG w.l lo v.l.length m.l)) (ver+1)))) (id::ids)else none
     |none=>none)
    |_=>none)
   |_=>none)else none
  |none=>none)
 |.clear zz,[a]=>(match a with
  |.sb id ver lo _ v=>(match fO s.heap id with
   |some (.ar u w ver')=>bif(ver'==ver)&&zG (DC u) zz&&H4 u then(aq7 w lo v.l.length (pM u)).bind fun w=>k (.tp .ni) (j8 s id (some (.ar u w (ver+1)))) [id]else none
   |_=>none)
  |_=>none)
 |.makeMap ka va,[]=>(match o.t with
  |.mp kt vt=>bif(kR kt==ka)&&(kR vt==va)&&oq vt&&(G8 kt).isSome then k (.om s.next) (tE s (.mp kt vt Mp.none)) []else none
  |_=>none)
 |.mapEntry ka ks va z,[.om id,kv]=>(match fO s.heap id with
  |some (.mp kt vt m)=>(match zN kt kv with
   |some q=>bif(kR kt==ka)&&(kR vt==va)&&decide (G8 kt=some ks)&&zG (DC vt) z&&oq vt&&(va||ei vt==1)then
     k (.tp (.co (.x vt (pp m (pM vt) q).2.1) (.co (.x (.i .i64) (pp m (pM vt) q).2.2) .ni))) (j8 s id (some (.mp kt vt (pp m (pM vt) q).1))) [id]else none
   |none=>none)
  |_=>none)
 |.entryStore va n,[.om id,.x (.i _) st,w]=>(match fO s.heap id with
  |some (.mp kt vt m)=>(match zN vt w with
   |some y=>bif(kR vt==va)&&(ei vt==n)&&oq vt then(JW m st y).bind fun m=>k (.tp .ni) (j8 s id (some (.mp kt vt m))) [id]else none
   |none=>none)
  |_=>none)
 |.RS ka ks va n,[.om id,kv,w]=>(match fO s.heap id with
  |some (.mp kt vt m)=>(match zN kt kv with
   |some q=>(match zN vt w with
    |some y=>bif(kR kt==ka)&&(kR vt==va)&&decide (G8 kt=some ks)&&(ei vt==n)&&oq vt then k (.tp .ni) (j8 s id (some (.mp kt vt (Cw m q y)))) [id]else none
    |none=>none)
   |none=>none)
  |_=>none)
 |.RU ka ks,[.om id,kv]=>(match fO s.heap id with
  |some (.mp kt vt m)=>(match zN kt kv with
   |some q=>bif(kR kt==ka)&&decide (G8 kt=some ks)then k (.tp .ni) (j8 s id (some (.mp kt vt (Br m q)))) [id]else none
   |none=>none)
  |_=>none)
 |_,_=>none
@[reducible] def D9:List Ty->Type
 |[]=>Unit
 |a::r=>aaM a r
where aaM:Ty->List Ty->Type
 |a,[]=>El a
 |a,c::r=>El a×aaM c r
def KG(u:Ty):V->Option (El u)
 |.x t v=>fF t u v
 |_=>none
def afc{α β:Type}:Option α->Option β->Option (α×β)
 |some x,some y=>some (x,y)
 |_,_=>none
def UD:(a:Ty)->(r:List Ty)->List V->Option (D9.aaM a r)
 |a,[],l=>(match l with|[v]=>KG a v|_=>none)
 |a,c::r,l=>(match l with|v::l=>afc (KG a v) (UD c r l)|[]=>none)
def CR:(cs:List Ty)->List V->Option (D9 cs)
 |[],[]=>some ()
 |a::r,l=>UD a r l
 |_,_=>none
def aa8:(a:Ty)->(r:List Ty)->D9.aaM a r->List V
 |a,[],v=>[.x a v]
 |a,c::r,v=>.x a v.1::aa8 c r v.2
def BI:(cs:List Ty)->D9 cs->List V
 |[],_=>[]
 |a::r,v=>aa8 a r v
def pkC:Ty->List Ty->Ty
 |a,[]=>a
 |a,c::r=>.pr a (pkC c r)
def pkT:List Ty->Ty
 |[]=>.un
 |a::r=>pkC a r
def pkW:V->List V->V
 |v,[]=>v
 |v,w::r=>match v,pkW w r with|.x t a,.x u b=>.x (.pr t u) (a,b)|_,_=>.no
def pkV:List V->V
 |[]=>.x .un ()
 |v::r=>pkW v r
def aa4:List Ty->V->Option (List V)
 |[],v=>some [v]
 |_::r,.x (.pr t u) y=>(match aa4 r (.x u y.2)with|some l=>some (.x t y.1::l)|none=>none)
 |_,_=>none
def N6:List Ty->V->Option (List V)
 |[],_=>some []
 |_::r,v=>aa4 r v
inductive Sh where
 | x (t : Ty)            -- data
 | pt (t : Ty)           -- a pointer to data
 | os (t : Ty)           -- a slice of its N0
 | rw (t : Ty)           -- a dK of XY of its N0
 | mp (k v : Ty)         -- a map of its N0
 | pb (t : Ty) (c : Sh)  -- a pointer to a box of its N0
 |st (c:Sh)
 |pr (a c:Sh)
 |nl (k:Nat)
 |fn (f:Nat) (l:Sh)
 |ni
 |gn
 deriving Inhabited,DecidableEq
def QM:Sh->List Ty
 |.x t|.pt t=>[t]
 |.os t=>[.sl t]
 |.rw t=>[.sl (.sl t)]
 |.mp k v=>[.mp k v]
 |.pb _ c=>[pkT (QM c)]
 |.st c|.fn _ c=>QM c
 |.pr a c=>QM a++QM c
 |_=>[]
def uk:List Sh->List Ty
 |[]=>[]
 |a::r=>QM a++uk r
abbrev Wy:=List (List Sh×List Sh)
@[reducible] def D7:Wy->Type
 |[]=>Empty
 |(r,o)::w=>WE r o w
where WE:List Sh->List Sh->Wy->Type
 |r,o,[]=>D9 (uk r++uk o)
 |r,o,(r',o')::w=>D9 (uk r++uk o)⊕WE r' o' w
def W0{β:Type}(k:List Sh->List Sh->List V->Option β):(r o:List Sh)->(w:Wy)->D7.WE r o w->Option β
 |r,o,[],z=>k r o (BI (uk r++uk o) z)
 |r,o,(r',o')::w,z=>match z with|.inl z=>k r o (BI (uk r++uk o) z)|.inr z=>W0 k r' o' w z
def ae4{β:Type}(k:List Sh->List Sh->List V->Option β):(w:Wy)->D7 w->Option β
 |[],z=>nomatch z
 |(r,o)::w,z=>W0 k r o w z
structure cR where
 ps:List (Bool×Sh)
 al:Wy
 ro:Bool
 D2:List Bool
 fn:D9 (uk (ps.map (·.2)))->Option (D7 al)
structure Hk where
 run:{β:Type}->V->List V->H2->Nat->(V->List (Nat×Option O)->Nat->List Nat->Option β)->Option β
inductive TE where
 |sp (s:cR)
 |hk (h:Hk)
abbrev Lv:=List (Nat×TE)
def NN(h:H2):Sh->V->Option (List V×List Nat)
 |.x t,v=>match zK h v with|some (w,l)=>(match zN t w with|some y=>some ([.x t y],l)|none=>none)|none=>none
 |.pt t,.pt u v=>match fF u t v with|some y=>some ([.x t y],[])|none=>none
 |.pt t,.op id u []=>(match fO h id with
  |some (.bx w c)=>bif decide (w=u)&&tM h c then(match zK h c with|some (c,l)=>(match zN t c with|some y=>some ([.x t y],id::l)|none=>none)|none=>none)else none
  |some (.ib w v)=>bif decide (w=u)then(match fF w t v with|some y=>some ([.x t y],[id])|none=>none)else none
  |_=>none)
 |.pt t,.ep id n u []=>(match fO h id with
  |some (.ar w s _)|some (.im w s _)=>bif decide (w=u)then(match fF w t (gt s.l n)with|some y=>some ([.x t y],[id])|none=>none)else none
  |_=>none)
 |.nl k,.nl k'=>bif k==k' then some ([],[])else none
 |.fn f c,.fn _ f' l=>bif f==f' then NN h c l else none
 |.pr a c,.co x r=>match NN h a x,NN h c r with|some (l,i),some (m,j)=>some (l++m,i++j)|_,_=>none
 |.ni,.ni=>some ([],[])
 |_,_=>none
def acb(t:Ty){u:Ty}(v:El (.sl u)):Option (List V×List Nat):=match(v:Sl (El u))with|.nil=>some ([.x (.sl t) Sl.nil],[])|.mk _=>none
def sbX(h:H2)(t:Ty)(id ver:Nat){u:Ty}(r:Sl (El u)):Option (List V×List Nat):=match fO h id with|some (.ar _ _ v)=>bif v==ver then(match fF (.sl u) (.sl t) r with|some s=>some ([.x (.sl t) s],[id])|none=>none)else none|_=>none
def zA(h:H2):Sh->Bool->V->Option (List V×List Nat)
 |.os t,false,.so id=>(match fO h id with|some (.ar u s _)=>(match fF (.sl u) (.sl t) s with|some s=>some ([.x (.sl t) s],[id])|none=>none)|_=>none)
 |.os t,false,.nl 0=>some ([.x (.sl t) Sl.nil],[])
 |.rw t,false,.sr id=>(match fO h id with|some (.rw u s none)=>(match fF (.sl (.sl u)) (.sl (.sl t)) s with|some s=>some ([.x (.sl (.sl t)) s],[id])|none=>none)|_=>none)
 |.rw t,false,.nl 0=>some ([.x (.sl (.sl t)) Sl.nil],[])
 |.mp k v,false,.om id=>(match fO h id with|some (.mp k' v' m)=>(match fF (.mp k' v') (.mp k v) m with|some m=>some ([.x (.mp k v) m],[id])|none=>none)|_=>none)
 |.pb t c,false,.op id u []=>(match fO h id with|some (.bx w v)=>bif decide (w=u)&&decide (u=t)then(match zA h c false v with|some (l,i)=>some ([pkV l],id::i)|none=>none)else none|_=>none)
 |.nl k,false,.nl k'=>bif k==k' then some ([],[])else none
 |.x t,false,v=>match zN t v with|some y=>some ([.x t y],[])|none=>none
 |.st c,false,.rc l=>zA h c true l
 |.st c,false,.x (.st u) v=>zA h c true (Xh u v)
 |.pr a c,true,.co x r=>match(match a,x with|.os t,.x (.sl _) v=>acb t v|.os t,.sb id ver _ _ r=>sbX h t id ver r|_,_=>zA h a false x),zA h c true r with|some (l,i),some (m,j)=>some (l++m,i++j)|_,_=>none
 |.ni,true,.ni=>some ([],[])
 |_,_,_=>none
def IW:Sh->Bool->List V->S2->Option (V×List V×S2)
 |.x t,false,.x u v::l,s=>bif decide (u=t)&&oq t then some (.x u v,l,{s with next:=s.next+ei t})else none
 |.os t,false,.x (.sl u) v::l,s=>bif decide (u=t)&&H4 t then some (.so s.next,l,tE s (.ar u v 0))else none
 |.rw t,false,.x (.sl (.sl u)) v::l,s=>bif decide (u=t)&&H4 t then some (.sr s.next,l,tE s (.rw u v none))else none
 |.mp k v,false,.x (.mp k' v') m::l,s=>bif decide (k'=k)&&decide (v'=v)&&oq v&&(G8 k).isSome then some (.om s.next,l,tE s (.mp k' v' m))else none
 |.pb t c,false,v::l,s=>(match N6 (QM c) v with
  |some m=>(match IW c false m {s with next:=s.next+1}with
   |some (w,[],s')=>bif fg w false t then some (.op s.next t [],l,j8 s' s.next (some (.bx t w)))else none
   |_=>none)
  |none=>none)
 |.nl k,false,l,s=>some (.nl k,l,{s with next:=s.next+1})
 |.st c,false,l,s=>match IW c true l s with|some (w,l,s)=>some (.rc w,l,s)|none=>none
 |.pr a c,true,l,s=>match IW a false l s with|some (x,l,s)=>(match IW c true l s with|some (r,l,s)=>some (.co x r,l,s)|none=>none)|none=>none
 |.ni,true,l,s=>some (.ni,l,s)
 |_,_,_,_=>none
def JY:List Sh->List V->S2->Option (List V×List V×S2)
 |[],l,s=>some ([],l,s)
 |a::r,l,s=>match IW a false l s with|some (x,l,s)=>(match JY r l s with|some (xs,l,s)=>some (x::xs,l,s)|none=>none)|none=>none
def Dv(h:H2):List (Bool×Sh)->List V->Option (List V×List Nat×List (V×List Nat))
 |[],[]=>some ([],[],[])
 |(b,c)::r,v::vs=>
  match Dv h r vs with
  |some (m,j,q)=>
   bif b then(match zA h c false v with|some (l,i)=>some (l++m,j,(v,i)::q)|none=>none)
   else(match NN h c v with|some (l,i)=>some (l++m,i++j,q)|none=>none)
  |none=>none
 |_,_=>none
def Ek(h:H2)(f:Nat)(vs:List V):Lv->Option (cR×List V×List Nat×List (V×List Nat))
 |[]=>none
 |(g,.sp sp)::r=>bif g==f then(match Dv h sp.ps vs with|some (l,i,q)=>some (sp,l,i,q)|none=>Ek h f vs r)else Ek h f vs r
 |(_,.hk _)::r=>Ek h f vs r
def P4(f:Nat):Lv->Option Hk
 |[]=>none
 |(g,.hk k)::r=>bif g==f then some k else P4 f r
 |(_,.sp _)::r=>P4 f r
def kx:List Nat->S2->S2
 |[],s=>s
 |id::r,s=>j8 (kx r s) id none
def zy{β:Type}:List Sh->List (V×List Nat)->List V->S2->(S2->Option β)->Option β
 |[],[],[],s,k=>k s
 |.nl _::r,(_,[])::q,l,s,k=>zy r q l s k
 |.gn::r,(_,i)::q,l,s,k=>zy r q l (kx i s) k
 |.os t::r,(.nl 0,[])::q,.x (.sl u) v::l,s,k=>(match fF (.sl u) (.sl t) v with|some v=>(py v (Sl.nil:Sl (El t))).bind fun _=>zy r q l s k|none=>none)
 |.os t::r,(.so id,_)::q,.x (.sl u) v::l,s,k=>(match fO s.heap id,fF (.sl u) (.sl t) v with
  |some (.ar w old ver),some v=>(match fF (.sl t) (.sl w) v with
   |some v=>(py v old).bind fun _=>zy r q l (j8 s id (some (.ar w v (ver+1)))) k
   |none=>none)
  |_,_=>none)
 |.rw t::r,(.nl 0,[])::q,.x (.sl (.sl u)) v::l,s,k=>(match fF (.sl (.sl u)) (.sl (.sl t)) v with|some v=>(py (v:Sl (Sl (El t))) (Sl.nil:Sl (Sl (El t)))).bind fun _=>zy r q l s k|none=>none)
 |.rw t::r,(.sr id,_)::q,.x (.sl (.sl u)) v::l,s,k=>(match fO s.heap id,fF (.sl (.sl u)) (.sl (.sl t)) v with
  |some (.rw w old _),some v=>(match fF (.sl (.sl t)) (.sl (.sl w)) v with
   |some v=>(py (v:Sl (Sl (El w))) old).bind fun _=>zy r q l (j8 s id (some (.rw w v none))) k
   |none=>none)
  |_,_=>none)
 |.pb t c::r,(.op id u [],i)::q,v::l,s,k=>(match N6 (QM c) v with
  |some m=>(match IW c false m s with
   |some (w,[],s')=>bif fg w false t&&decide (u=t)&&iu id s.next then zy r q l (j8 (kx i s') id (some (.bx t w))) k else none
   |_=>none)
  |none=>none)
 |_,_,_,_,_=>none
def X2:List V->V
 |[v]=>v
 |l=>.tp (dK l)
def ET:List Nat->Bool
 |[]=>true
 |a::r=>!r.contains a&&ET r
def CQ:V->Option (List V)
 |.ni=>some []
 |.co a r=>bif(LG a==1)&&!DW a then(match CQ r with|some l=>some (a::l)|none=>none)else none
 |_=>none
def Gj{β:Type}(tb:Lv)(ro:Bool)(D2:List Bool)(f:V)(vs:List V)(s:S2)(k:V->S2->List Nat->Option β):Option β:=
 match f with
 |.fn _ fid caps=>match P4 fid tb with
  |some hk=>hk.run f vs s.heap s.next fun v u n l=>k v ⟨s.jl,u++s.heap,n,u.map (·.1)++s.wo,s.gh⟩ l
  |none=>
  match(match CQ caps with|some cs=>Ek s.heap fid (vs++cs) tb|none=>none)with
  |some (sp,pay,ids,q)=>
   bif(!ro||sp.ro)&&decide (sp.D2=D2)&&ET (q.flatMap (·.2))&&(q.flatMap (·.2)).all (fun i=>!ids.contains i)then
    match CR (uk (sp.ps.map (·.2))) pay with
    |some p=>(sp.fn p).bind fun z=>ae4 (fun rs os l=>
     match(bif ro then some s else AR s.heap ids s)with
     |some s0=>zy os q (l.drop (uk rs).length) s0 fun s1=>
      (match JY rs (l.take (uk rs).length) s1 with
      |some (xs,_,s2)=>k (X2 xs) s2 (ids++q.flatMap (·.2))
      |none=>none)
     |none=>none) sp.al z
    |none=>none
   else none
  |none=>none
 |_=>none
structure Rg where
 kn:List (Nat×Bool)
 cd:List (Nat×Nat×Bool×V)
def knG(kn:List (Nat×Bool))(g:Nat):Option Bool:=iV kn g
def opG(s:S2)(q:Rg)(gc:Option (Nat×Bool)):Operand->Option V
 |.tmp t=>match iV q.cd t with|some (g,b,v)=>bif decide (gc=some (g,b))||decide (knG q.kn g=some b)then(bif tM s.heap v then some v else none)else none|none=>Vq s.jl s.heap (.tmp t)
 |o=>Vq s.jl s.heap o
def Yw(s:S2)(q:Rg)(gc:Option (Nat×Bool)):List Operand->Option (List V)
 |[]=>some []
 |a::r=>match opG s q gc a,Yw s q gc r with|some x,some y=>some (x::y)|_,_=>none
inductive GV where
 |run
 |skip
 |sym (g:Nat) (b:Bool) (c:Bool)
def gdV(e:List (Nat×V))(kn:List (Nat×Bool)):Option (Nat×Bool)->Option GV
 |none=>some .run
 |some (g,b)=>
  match knG kn g with
  |some c=>some (bif c==b then .run else .skip)
  |none=>(match iV e g with
   |some (.kb c)=>some (bif c==b then .run else .skip)
   |some (.x .b c)=>some (.sym g b c)
   |some .no=>some .skip
   |_=>none)
def Yk(s:S2)(q:Rg)(gc:Option (Nat×Bool)):List Operand->Option V
 |[.tmp g,a,b]=>match knG q.kn g,iV s.jl g with|some c,_=>opG s q gc (bif c then a else b)|none,some (.kb c)=>opG s q gc (bif c then a else b)|none,some (.x .b c)=>(match opG s q (some (g,true)) a,opG s q (some (g,false)) b with|some x,some y=>mgV c x y|_,_=>none)|_,_=>none
 |[.const (.bool c),a,b]=>opG s q gc (bif c then a else b)
 |_=>none
def E5:K->Bool
 |.pick=>true
 |_=>false
def abf(o:OP)(s:S2)(q:Rg)(gc:Option (Nat×Bool)):Option (V×List Nat):=
 bif E5 o.o.k then(match Yk s q gc o.o.args with|some v=>some (v,[])|none=>none)
 else(match Yw s q gc o.o.args with|some vs=>CK o vs s.heap|none=>none)
def arY(s:S2)(d:Option Nat)(v:V):S2:=match d with|some d=>{s with jl:=(d,v)::s.jl}|none=>s
def clr(q:Rg)(d:Option Nat):Option Rg:=match d with|none=>some q|some d=>bif q.cd.any (fun e=>e.2.1==d)||q.kn.any (fun e=>e.1==d)then none else some ⟨q.kn,q.cd.filter (fun e=>!(e.1==d))⟩
abbrev WO:=List (List Nat×List Nat)
def exe{β:Type}(tb:Lv)(o:OP)(s:S2)(q:Rg)(gc:Option (Nat×Bool))(k:V->S2->List Nat->Option β):Option β:=
 match abf o s q gc with
 |some (v,l)=>k v s l
 |none=>
  match Yw s q gc o.o.args with
  |some vs=>
   (match o.o.k,vs with
   |.call ro D2,f::vs=>Gj tb ro D2 f vs s k
   |_,vs=>part o vs s k)
  |none=>none
def xJ(dr:Option Nat)(i:Nat)(s:S2):S2:=match dr with|some b=>{s with next:=b+AI*i}|none=>s
def inB(dr:Option Nat)(i:Nat)(s:S2):Bool:=match dr with|some b=>Nat.ble s.next (b+AI*(i+1))|none=>true
def adB(d:Option Nat)(r:List OP):Bool:=
 match d with
 |some d=>r.any fun o=>match o.o.guard with|some (g,_)=>nG g d|none=>false
 |none=>false
def AT{β:Type}(tb:Lv)(dr:Option Nat):List OP->Nat->S2->Rg->WO->(S2->WO->Option β)->Option β
 |[],_,s,_,tr,k=>k s tr
 |o::r,i,s0,q,tr,k=>
  let s:=xJ dr i s0
  let go:Rg->Option β:=fun q=>exe tb o s q o.o.guard fun v s1 l=>
   bif inB dr i s1 then(match clr q o.o.dst with
    |some q=>AT tb dr r (i+1) (arY s1 o.o.dst v) q (tr++[(l,s1.wo.take (s1.wo.length-s.wo.length))]) k
    |none=>none)else none
  let no:Rg->Option β:=fun q=>match clr q o.o.dst with|some q=>AT tb dr r (i+1) (arY s o.o.dst .no) q (tr++[([],[])]) k|none=>none
  match gdV s.jl q.kn o.o.guard with
  |none=>none
  |some .run=>go q
  |some .skip=>no q
  |some (.sym g b c)=>
   match(bif adB o.o.dst r then none else abf o s q (some (g,b)))with
   |some (v,l)=>
    (match clr q o.o.dst,o.o.dst with
    |some q,some d=>bif nG g d then none else AT tb dr r (i+1) (arY s (some d) .gn) ⟨q.kn,(d,g,b,v)::q.cd⟩ (tr++[(l,[])]) k
    |_,_=>none)
   |none=>(match b with
    |true=>bif c then go ⟨(g,true)::q.kn,q.cd⟩else no ⟨(g,false)::q.kn,q.cd⟩
    |false=>bif c then no ⟨(g,true)::q.kn,q.cd⟩else go ⟨(g,false)::q.kn,q.cd⟩)
inductive JV where
 |x (t:Ty)
 |pt (t:Ty)
 |so (j:Nat)
 |sr (j:Nat)
 |om (j:Nat)
 |op (j:Nat) (t:Ty) (p:List Nat)
 |nl (k:Nat)
 |fn (z:Bool) (f:Nat) (l:JV)
 |rc (l:JV)
 |ni
 |co (a r:JV)
 |sm
 |gn
 deriving Inhabited
inductive JO where
 |ar (t:Ty)
 |bx (t:Ty) (c:JV)
 |mp (k v:Ty)
 |rw(t:Ty)
 deriving Inhabited
structure J where
 vs:List (Nat×JV):=[]
 gs:JV:=.sm
 os:List JO:=[]
 kl:List Nat:=[]
 ps:List (Nat×Ty×Sh):=[]
 deriving Inhabited
def Wm:JV->List Ty
 |.x t|.pt t=>[t]
 |.fn _ _ l|.rc l=>Wm l
 |.co a r=>Wm a++Wm r
 |_=>[]
def aeF:List (Nat×JV)->List Ty
 |[]=>[]
 |(_,a)::r=>Wm a++aeF r
def aq6:JO->List Ty
 |.ar t=>[.sl t]
 |.bx _ c=>Wm c
 |.mp k v=>[.mp k v]
 |.rw t=>[.sl (.sl t)]
def aeG:List JO->List Ty
 |[]=>[]
 |a::r=>aq6 a++aeG r
def anI:List (Nat×Ty×Sh)->List Ty
 |[]=>[]
 |(_,_,c)::r=>pkT (QM c)::anI r
def vE(j:J):List Ty:=aeF j.vs++(Wm j.gs++(aeG j.os++anI j.ps))
structure Bd where
 j:Nat
 id:Option Nat
def Hy:List Bd->Nat->Option Bd
 |[],_=>none
 |b::r,j=>bif b.j==j then some b else Hy r j
def BD(m:List Bd)(b:Bd):Option (List Bd):=
 match Hy m b.j with
 |none=>bif(match b.id with|some i=>m.all (fun c=>match c.id with|some i'=>!(i'==i)|none=>true)|none=>true)then some (b::m)else none
 |some c=>(match b.id,c.id with
  |some i,some i'=>bif i==i' then some m else none
  |_,_=>none)
def S9:xK->Option (List Nat)
 |[]=>some []
 |.fd i::p=>match S9 p with|some l=>some (i::l)|none=>none
 |.ix _::_=>none
def Gv:JV->Bool->V->List Bd->Option (List V×List Bd)
 |.x t,false,v,m=>match zN t v with|some y=>some ([.x t y],m)|none=>none
 |.pt t,false,.pt u v,m=>match fF u t v with|some y=>some ([.x t y],m)|none=>none
 |.so j,false,.so id,m=>match BD m ⟨j,some id⟩with|some m=>some ([],m)|none=>none
 |.so j,false,.nl 0,m=>match BD m ⟨j,none⟩with|some m=>some ([],m)|none=>none
 |.so j,false,.x (.sl _) v,m=>bif Sl.rp v then(match BD m ⟨j,none⟩with|some m=>some ([],m)|none=>none)else none
 |.sr j,false,.sr id,m=>match BD m ⟨j,some id⟩with|some m=>some ([],m)|none=>none
 |.om j,false,.om id,m=>match BD m ⟨j,some id⟩with|some m=>some ([],m)|none=>none
 |.op j t p,false,.op id u q,m=>bif decide (u=t)&&decide (S9 q=some p)then(match BD m ⟨j,some id⟩with|some m=>some ([],m)|none=>none)else none
 |.nl k,false,.nl k',m=>bif k==k' then some ([],m)else none
 |.fn z f l,false,.fn z' f' l',m=>bif(z==z')&&(f==f')then Gv l true l' m else none
 |.rc l,false,.rc l',m=>Gv l true l' m
 |.rc l,false,.x (.st t) v,m=>Gv l true (Xh t v) m
 |.ni,true,.ni,m=>some ([],m)
 |.co a r,true,.co x y,m=>match Gv a false x m with|some (l,m)=>(match Gv r true y m with|some (l',m)=>some (l++l',m)|none=>none)|none=>none
 |_,_,_,_=>none
def Ud(s:S2):List (Nat×JV)->List Bd->Option (List V×List Bd)
 |[],m=>some ([],m)
 |(t,a)::r,m=>match Vq s.jl s.heap (.tmp t)with|some v=>(match Gv a false v m with|some (l,m)=>(match Ud s r m with|some (l',m)=>some (l++l',m)|none=>none)|none=>none)|none=>none
def agy(h:H2)(j:Nat)(o:JO)(m:List Bd):Option (List V×List Bd):=
 match Hy m j with
 |some b=>(match o,b.id with
  |.ar t,none=>bif H4 t then some ([.x (.sl t) Sl.nil],m)else none
  |.ar t,some id=>(match fO h id with|some (.ar u s _)=>(match fF (.sl u) (.sl t) s with|some s=>some ([.x (.sl t) s],m)|none=>none)|_=>none)
  |.rw t,some id=>(match fO h id with|some (.rw u s none)=>(match fF (.sl (.sl u)) (.sl (.sl t)) s with|some s=>some ([.x (.sl (.sl t)) s],m)|none=>none)|_=>none)
  |.bx t c,some id=>(match fO h id with|some (.bx u v)=>bif decide (u=t)then Gv c false v m else none|_=>none)
  |.mp k v,some id=>(match fO h id with|some (.mp k' v' y)=>(match fF (.mp k' v') (.mp k v) y with|some y=>some ([.x (.mp k v) y],m)|none=>none)|_=>none)
  |_,_=>none)
 |none=>none
def Uf(h:H2):List JO->Nat->List Bd->Option (List V×List Bd)
 |[],_,m=>some ([],m)
 |o::r,j,m=>match agy h j o m with|some (l,m)=>(match Uf h r (j+1) m with|some (l',m)=>some (l++l',m)|none=>none)|none=>none
def Ov:V->V->Bool
 |.so i,.so j=>i==j
 |.sr i,.sr j=>i==j
 |.op i t [],.op j u []=>(i==j)&&decide (t=u)
 |.nl k,.nl l=>k==l
 |.gn,.gn=>true
 |_,_=>false
def Ow:V->V->Bool
 |.ni,.ni=>true
 |.co a r,.co x y=>Ov a x&&Ow r y
 |_,_=>false
def Qn(h:H2):JV->V->V->List Bd->Option (List V×List Bd)
 |.sm,g0,g,m=>bif Ow g0 g then some ([],m)else none
 |.ni,.ni,.ni,m=>some ([],m)
 |.co a r,.co x0 y0,.co x y,m=>match a with|.sm=>bif Ov x0 x then Qn h r y0 y m else none|.gn=>Qn h r y0 y m|a=>bif tM h x then(match Gv a false x m with|some (l,m)=>(match Qn h r y0 y m with|some (l',m)=>some (l++l',m)|none=>none)|none=>none)else none
 |_,_,_,_=>none
def Fb:List (Nat×JV)->S2->S2
 |[],s=>s
 |(t,.so _)::r,s=>(match iV s.jl t with
  |some (.sb id ver _ u x)=>(match fO s.heap id with
   |some (.ar _ _ v)=>bif oq u&&v==ver then Fb r ⟨(t,.so s.next)::s.jl,(s.next,some (.ar u x 0))::(id,none)::s.heap,s.next+1,s.next::id::s.wo,s.gh⟩else Fb r s
   |_=>Fb r s)
  |_=>Fb r s)
 |_::r,s=>Fb r s
def Mo(j:J)(s0:S2)(s:S2):Option (List V):=
 match Ud s j.vs []with
 |some (l1,m)=>match Qn s.heap j.gs s0.gh s.gh m with
  |some (l2,m)=>(match Uf s.heap j.os 0 m with
   |some (l3,m)=>bif s.wo.all (fun i=>Nat.ble s0.next i||j.kl.contains i)&&m.all (fun b=>iu b.j j.os.length&&(match b.id with|some i=>Nat.ble s0.next i||j.kl.contains i|none=>true))then some (l1++(l2++l3))else none
   |none=>none)
  |none=>none
 |none=>none
def Sx(h:H2):List (Nat×Ty×Sh)->Option (List V×List Nat)
 |[]=>some ([],[])
 |(id,t,c)::r=>match zA h (.pb t c) false (.op id t []),Sx h r with|some (l,i),some (m,q)=>some (l++m,i++q)|_,_=>none
def Du(j:J)(s0:S2)(s:S2):Option (List V):=
 match Fb j.vs s with
 |⟨e,h,n,w,g⟩=>match j.ps with
  |[]=>Mo j s0 ⟨e,h,n,w,g⟩
  |p::r=>match Sx h (p::r)with
   |some (l,ids)=>bif ET ids&&ids.all (fun i=>Nat.ble s0.next i||j.kl.contains i)&&(p::r).all (fun x=>iu x.1 s0.next)then
     (match Mo j s0 (kx ids ⟨e,h,n,w,g⟩)with|some m=>some (m++l)|none=>none)else none
   |none=>none
def xw(b:Nat):JV->Bool->List V->V->Option (V×List V)
 |.x t,false,.x u v::l,_=>bif decide (u=t)&&oq u then some (.x u v,l)else none
 |.pt t,false,.x u v::l,_=>bif decide (u=t)&&oq u then some (.pt u v,l)else none
 |.so j,false,l,_=>some (.so (b+j),l)
 |.sr j,false,l,_=>some (.sr (b+j),l)
 |.om j,false,l,_=>some (.om (b+j),l)
 |.op j t p,false,l,_=>some (.op (b+j) t (p.map .fd),l)
 |.nl k,false,l,_=>some (.nl k,l)
 |.fn z f c,false,l,_=>match xw b c true l .ni with|some (w,l)=>some (.fn z f w,l)|none=>none
 |.rc c,false,l,_=>match xw b c true l .ni with|some (w,l)=>some (.rc w,l)|none=>none
 |.ni,true,l,_=>some (.ni,l)
 |.co a r,true,l,.co x y=>match xw b a false l x with|some (v,l)=>(match xw b r true l y with|some (w,l)=>some (.co v w,l)|none=>none)|none=>none
 |.co a r,true,l,_=>match xw b a false l .gn with|some (v,l)=>(match xw b r true l .ni with|some (w,l)=>some (.co v w,l)|none=>none)|none=>none
 |.sm,_,l,v=>some (v,l)
 |.gn,false,l,_=>some (.gn,l)
 |_,_,_,_=>none
def SU(b:Nat):List (Nat×JV)->List V->Option (List (Nat×V)×List V)
 |[],l=>some ([],l)
 |(t,a)::r,l=>match xw b a false l .gn with|some (v,l)=>(match SU b r l with|some (e,l)=>some ((t,v)::e,l)|none=>none)|none=>none
def akj(b:Nat):JO->List V->Option (O×List V)
 |.ar t,.x (.sl u) v::l=>bif decide (u=t)then some (.ar u v 0,l)else none
 |.rw t,.x (.sl (.sl u)) v::l=>bif decide (u=t)&&H4 t then some (.rw u v none,l)else none
 |.bx t c,l=>match xw b c false l .gn with|some (w,l)=>bif fg w false t then some (.bx t w,l)else none|none=>none
 |.mp k v,.x (.mp k' v') m::l=>bif decide (k'=k)&&decide (v'=v)then some (.mp k' v' m,l)else none
 |_,_=>none
def SV(b:Nat):List JO->Nat->List V->Option (H2×List V)
 |[],_,l=>some ([],l)
 |o::r,j,l=>match akj b o l with|some (o,l)=>(match SV b r (j+1) l with|some (h,l)=>some ((b+j,some o)::h,l)|none=>none)|none=>none
def XX(j:J)(ds:List Nat)(s0:S2)(l:List V):Option (S2×List V):=
 match SU s0.next j.vs l with
 |some (e,l)=>(match xw s0.next j.gs true l s0.gh with
  |some (g,l)=>(match SV s0.next j.os 0 l with
   |some (h,l)=>some (⟨e++ds.map (fun t=>(t,V.gn))++s0.jl,h++j.kl.map (fun i=>(i,none))++s0.heap,s0.next+j.os.length,h.map (·.1)++j.kl++s0.wo,g⟩,l)
   |none=>none)
  |none=>none)
 |none=>none
def CF(j:J)(ds:List Nat)(s0:S2)(l:List V):Option S2:=
 match XX j ds s0 l with
 |some (s1,l)=>(match j.ps with
  |[]=>some s1
  |p::r=>zy ((p::r).map fun x=>.pb x.2.1 x.2.2) ((p::r).map fun x=>(.op x.1 x.2.1 [],[x.1])) l s1 some)
 |none=>none
abbrev Ex:=List (ik×J)
@[reducible] def Qz:Ex->Type
 |[]=>Empty
 |(_,j)::r=>WD j r
where WD:J->Ex->Type
 |j,[]=>D9 (vE j)
 |j,(_,j')::r=>D9 (vE j)⊕WD j' r
def acx(s0:S2)(o:ik)(s:S2):(o':ik)->(j:J)->(r:Ex)->Option (Qz.WD j r)
 |o',j,[]=>bif decide (o=o')then(match Du j s0 s with|some l=>CR (vE j) l|none=>none)else none
 |o',j,(o2,j2)::r=>bif decide (o=o')then(match Du j s0 s with|some l=>(match CR (vE j) l with|some p=>some (.inl p)|none=>none)|none=>none)
  else(match acx s0 o s o2 j2 r with|some x=>some (.inr x)|none=>none)
def PO(s0:S2)(o:ik)(s:S2):(e:Ex)->Option (Qz e)
 |[]=>none
 |(o',j)::r=>acx s0 o s o' j r
def afF{β:Type}(ds:List Nat)(s0:S2)(k:ik->S2->Option β):(o:ik)->(j:J)->(r:Ex)->Qz.WD j r->Option β
 |o,j,[],p=>match CF j ds s0 (BI (vE j) p)with|some s=>k o s|none=>none
 |o,j,(o2,j2)::r,x=>match x with|.inl p=>(match CF j ds s0 (BI (vE j) p)with|some s=>k o s|none=>none)|.inr y=>afF ds s0 k o2 j2 r y
def O_{β:Type}(ds:List Nat)(s0:S2)(k:ik->S2->Option β):(e:Ex)->Qz e->Option β
 |[],x=>nomatch x
 |(o,j)::r,x=>afF ds s0 k o j r x
inductive C2 where
 |skip
 |reg (ops:List OP) (dr:Option (List (Nat×Nat))) (jn:Option J)
 |seq (a b:C2) (e:Ex)
 |cond (c:Operand) (a b:C2)
 |block (id:Nat) (a:C2)
 |loop (j:J) (e:Ex) (a:C2)
 |unr (n:Nat) (a:C2)
 |exit (id:Nat)
 |ret
 |gY
 deriving Inhabited
@[reducible] def I6:Ty:=.i .i64
abbrev jV(vs:List (Nat×JV)):J:={vs:=vs}
abbrev jK(kl:List Nat)(ps:List (Nat×Ty×Sh)):J:={kl:=kl,ps:=ps}
abbrev jW(vs:List (Nat×JV))(kl:List Nat)(ps:List (Nat×Ty×Sh)):J:={vs:=vs,kl:=kl,ps:=ps}
abbrev jO(vs:List (Nat×JV))(os:List JO)(kl:List Nat):J:={vs:=vs,os:=os,kl:=kl}
abbrev jP(vs:List (Nat×JV))(os:List JO)(kl:List Nat)(ps:List (Nat×Ty×Sh)):J:={vs:=vs,os:=os,kl:=kl,ps:=ps}
def rF:C2->List Nat
 |.reg ops _ _=>ops.filterMap (·.o.dst)
 |.seq a b _|.cond _ a b=>rF a++rF b
 |.block _ a|.loop _ _ a|.unr _ a=>rF a
 |_=>[]
def aqV:K->Bool
 |.lookup _ _ _ _ _=>true
 |_=>false
def adK(ops:List OP)(tr:WO)(i j:Nat):Bool:=
 match ops[i]?,tr[i]?with
 |some o,some ([id],[])=>aqV o.o.k&&((tr.take j).drop (i+1)).all (fun x=>!x.2.contains id)
 |_,_=>false
def anz(ops:List OP)(tr:WO)(dyn:List (Nat×Nat)):Bool:=
 dyn.all fun p=>bif Nat.ble 1000 p.2 then(match tr[p.1]?,tr[p.2-1000]?with|some a,some b=>Dw a b||adK ops tr p.1 (p.2-1000)|_,_=>true)
  else(match tr[p.1]?,tr[p.2]?with|some a,some b=>Dw a b|_,_=>true)
def agL(s:S2)(id:Nat):Option S2:=
 match fO s.heap id with
 |some (.rw t v (some (m,id2)))=>(match fO s.heap id2 with
  |some (.ar u r _)=>(match fF (.sl u) (.sl t) r with
   |some r=>some (j8 (j8 s id2 none) id (some (.rw t (v.to (v.l.set m r)) none)))
   |none=>none)
  |_=>none)
 |_=>some s
def NQ:List Nat->S2->Option S2
 |[],s=>some s
 |id::r,s=>match agL s id with|some s=>NQ r s|none=>none
def anT(s s':S2):Option S2:=NQ (s'.wo.take (s'.wo.length-s.wo.length)) s'
def Gi{β:Type}(tb:Lv)(ops:List OP)(dr:Option (List (Nat×Nat)))(s:S2)(k:S2->Option β):Option β:=match dr with|none=>AT tb none ops 0 s ⟨[],[]⟩ [] fun s' _=>(anT s s').bind k|some dyn=>AT tb (some s.next) ops 0 s ⟨[],[]⟩ [] fun s' tr=>bif anz ops tr dyn then(anT s {s' with next:=s.next+AI*ops.length}).bind k else none
structure Lp where
 run:{α β:Type}->(α->Option (α⊕β))->α->Option β
 ok:∀{α β:Type}{f:α->Option (α⊕β)}{a:α}{b:β},run f a=some b->∃n,tz f n a=some b
def lpL:Lp:=⟨aJ,fun h=>yb.1 h⟩
def lpN(n:Nat):Lp:=⟨fun f a=>tz f n a,fun h=>⟨n,h⟩⟩
class Bx where
 lp:Lp
 c:Bool
def ae9{β:Type}(f:S2->(ik->S2->Option β)->Option β):Nat->S2->(ik->S2->Option β)->Option β
 |0,_,_=>none
 |n+1,s,k=>f s fun o s'=>match o with|.normal=>ae9 f n s' k|o=>k o s'
def Em{β:Type}(lp:Lp)(tb:Lv):C2->S2->(ik->S2->Option β)->Option β
 |.skip,s,k=>k .normal s
 |.reg ops dr none,s,k=>Gi tb ops dr s fun s=>k .normal s
 |.reg ops dr (some j),s,k=>(Gi tb ops dr {s with wo:=[]} fun s'=>match Du j s s' with|some l=>CR (vE j) l|none=>none).bind fun p=>match CF j (ops.filterMap (·.o.dst)) s (BI (vE j) p)with|some s=>k .normal s|none=>none
 |.seq a b [],s,k=>Em lp tb a s fun o s=>match o with|.normal=>Em lp tb b s k|o=>k o s
 |.seq a b (e::r),s,k=>(Em lp tb a {s with wo:=[]} fun o s'=>PO s o s' (e::r)).bind fun x=>O_ (rF a) s (fun o s=>match o with|.normal=>Em lp tb b s k|o=>k o s) (e::r) x
 |.cond c a b,s,k=>(match Vq s.jl s.heap c with
  |some (.kb t)=>bif t then Em lp tb a s k else Em lp tb b s k
  |some (.x .b t)=>bif t then Em lp tb a s k else Em lp tb b s k
  |_=>none)
 |.block id a,s,k=>Em lp tb a s fun o s=>match o with|.exit i=>k (bif i==id then .normal else .exit i) s|o=>k o s
 |.loop j e a,s,k=>
  bif e.all (fun x=>j.kl.all fun i=>x.2.kl.contains i)then(match Du j s {s with wo:=[]}with
  |some l=>(match CR (vE j) l with
   |some p0=>(lp.run (fun p=>match CF j (rF a) s (BI (vE j) p)with
     |some s1=>Em lp tb a {s1 with wo:=[]} fun o s'=>(match o with
      |.normal=>(match Du j s s' with|some l=>(match CR (vE j) l with|some q=>some (Sum.inl q)|none=>none)|none=>none)
      |o=>(match PO s o s' e with|some x=>some (Sum.inr x)|none=>none))
     |none=>none) p0).bind fun x=>O_ (rF a) s k e x
   |none=>none)
  |none=>none)else none
 |.unr n a,s,k=>ae9 (fun s k=>Em lp tb a s k) n s k
 |.exit id,s,k=>k (.exit id) s
 |.ret,s,k=>k .ret s
 |.gY,_,_=>none
inductive RV where
 |tmp (t:Nat)
 |cell (t:Nat) (agg:Bool) (n:Nat)
 deriving Inhabited
def aft(P:Program):ResultVar->Option RV
 |.tmp t=>some (.tmp t)
 |.cell a t=>match gx P t,fh P t with|some g,some n=>some (.cell a g n)|_,_=>none
def Ox(P:Program):List ResultVar->Option (List RV)
 |[]=>some []
 |r::rs=>match aft P r,Ox P rs with|some x,some xs=>some (x::xs)|_,_=>none
def iZ(P:Program):Nat->TypeId->Ty
 |0,_=>.o 9
 |n+1,t=>match P.underlying t with|some (.int k)=>.i k|some .bool=>.b|some .string=>.s|some (.float k)=>.f k|some (.slice e)=>.sl (iZ P n e)|some (.map k v)=>.mp (iZ P n k) (iZ P n v)|some (.struct fs)=>.st (chn (fs.toList.map fun f=>iZ P n f.type))|some (.array m e)=>.ar m (iZ P n e)|some (.pointer _)=>.o 1|some (.func ..)=>.o 2|_=>.o 4
where chn:List Ty->Ty
 |[]=>.un
 |[t]=>t
 |t::r=>.pr t (chn r)
def Z4:Nat:=12
def agm(P:Program)(t:TypeId):Ty:=match P.underlying t with|some (.slice e)=>iZ P Z4 e|some (.array _ e)=>iZ P Z4 e|_=>.o 9
def aey(P:Program):Op->Ty×List Nat
 |.alloc e=>(iZ P Z4 e,[])
 |.box t _=>(iZ P Z4 t,[])
 |.build t parts=>(iZ P Z4 t,parts.toList.map (·.1))
 |.buildSlice t _ parts=>(agm P t,parts.toList.map (·.1))
 |.fieldAddr _ _ f=>(.o 9,[f])
 |.field _ _ f=>(.o 9,[f])
 |.makeSlice t _ _=>(agm P t,[])
 |.makeMap t _=>(iZ P Z4 t,[])
 |.call c=>(match c.callee,c.argTypes.toList with|.builtin _,t::_=>agm P t|_,_=>.o 9,[])
 |_=>(.o 9,[])
def AN(P:Program)(bI:II)(nt:Nat)(all:Array Oper)(o:Oper):OP:=⟨df P bI nt all o,(aey P o.op).1,match o.op with|.binOp o _ _ _ _=>(bif(match o with|.and=>(bI 1000000002).1|_=>false)||(bI 1000000004).1 then[1]else[])|op=>(aey P op).2⟩
structure An where
 j:Option J:=none
 e:Ex:=[]
 u:Nat:=0
 deriving Inhabited
def rq(P:Program)(bI:II)(nt:Nat)(an:List (Nat×An)):Code->Nat->C2×Nat
 |.skip,n=>(.skip,n)
 |.region _ ops draw,n=>
  (if draw then(if H3 (aaD ops.toList []) ops.toList 0&&HT (aaD ops.toList []) (ops.toList.map (df P bI nt ops)) 0&&decide (ops.toList.length<=1000)
   then .reg (ops.toList.map (AN P bI nt ops)) (some (Cj (aaD ops.toList []) (ops.toList.map (df P bI nt ops)) 0)) ((iV an n).bind (·.j))else .gY)
   else .reg (ops.toList.map (AN P bI nt ops)) none ((iV an n).bind (·.j)),n+1)
 |.seq a b,n=>
  let x:=rq P bI nt an a (n+1);let y:=rq P bI nt an b x.2
  (.seq x.1 y.1 (match iV an n with|some w=>w.e|none=>[]),y.2)
 |.cond c a b,n=>let x:=rq P bI nt an a n;let y:=rq P bI nt an b x.2;(.cond c x.1 y.1,y.2)
 |.block id a,n=>let x:=rq P bI nt an a n;(.block id x.1,x.2)
 |.loop a,n=>
  let x:=rq P bI nt an a (n+1)
  (match iV an n with|some ⟨some j,e,_⟩=>.loop j e x.1|some ⟨none,_,u+1⟩=>.unr (u+1) x.1|_=>.gY,x.2)
 |.scope a,n=>rq P bI nt an a n
 |.label _,n=>(.skip,n)
 |.exit id,n=>(.exit id,n)
 |.ret,n=>(.ret,n)
 |_,n=>(.gY,n)
structure F2 where
 np:Nat
 BR:List RV
 body:C2
def Qk(P:Program)(bI:II)(f np:Nat)(an:List (Nat×An)):Option F2:=
 match P.funcs[f]?with
 |none=>none
 |some g=>
  match g.body with
  |none=>none
  |some code=>
   if(g.name== "runtime.NumGoroutine")=false/\np<=g.ntmps/\g.ntmps<1000000000 then
    match Ox P g.results.toList with|some BR=>some ⟨np,BR,(rq P bI g.ntmps an code 0).1⟩|none=>none
   else none
def W8:Sh->List V->Option (V×List V)
 |.ni,l=>some (.ni,l)
 |.pr (.pt t) c,.x u v::l=>bif decide (u=t)&&oq t then(match W8 c l with|some (w,l)=>some (.co (.pt u v) w,l)|none=>none)else none
 |_,_=>none
def Hg:List (Bool×Sh)->Nat->List V->S2->Option (List (Nat×V)×S2)
 |[],_,[],s=>some ([],s)
 |(false,.x t)::r,i,.x u v::l,s=>bif decide (u=t)&&oq t then(match Hg r (i+1) l s with|some (e,s)=>some ((i,.x u v)::e,s)|none=>none)else none
 |(false,.pt t)::r,i,.x u v::l,s=>bif decide (u=t)&&oq t then(match Hg r (i+1) l s with|some (e,s)=>some ((i,.pt u v)::e,s)|none=>none)else none
 |(false,.nl k)::r,i,l,s=>(match Hg r (i+1) l s with|some (e,s)=>some ((i,.nl k)::e,s)|none=>none)
 |(false,.fn f c)::r,i,l,s=>(match W8 c l with|some (w,l)=>(match Hg r (i+1) l s with|some (e,s)=>some ((i,.fn true f w)::e,s)|none=>none)|none=>none)
 |(true,c)::r,i,l,s=>(match IW c false l s with
  |some (w,l,s)=>(match Hg r (i+1) l s with|some (e,s)=>some ((i,w)::e,{s with gh:=.co w s.gh})|none=>none)
  |none=>none)
 |_,_,_,_=>none
def agl(ps:List (Bool×Sh))(l:List V):Option S2:=
 match Hg ps 0 l ⟨[],[],0,[],.ni⟩with
 |some (e,s)=>some {s with jl:=e}
 |none=>none
def abx(s:S2):RV->Option V
 |.tmp t=>Vq s.jl s.heap (.tmp t)
 |.cell t g n=>match Vq s.jl s.heap (.tmp t)with|some p=>(match F4 s.heap p with|some (w,_)=>bif QN s.heap g n w then some w else none|none=>none)|none=>none
abbrev gV(j:J)(e:Ex):An:=⟨some j,e,0⟩
abbrev mc(j:J):An:=⟨some j,[],0⟩
abbrev ot(e:Ex):An:=⟨none,e,0⟩
def akm(h:H2):Sh->V->Option (List V×List Nat)
 |.x t,v=>match zK h v with|some (w,l)=>(match zN t w with|some y=>some ([.x t y],l)|none=>none)|none=>none
 |.os t,.sb id _ _ u r=>(match fO h id with|some (.ar _ _ _)=>(match fF (.sl u) (.sl t) r with|some s=>some ([.x (.sl t) s],[id])|none=>none)|_=>none)
 |c,v=>zA h c false v
def akl(h:H2):Sh->V->Option (List V×List Nat)
 |.gn,_=>some ([],[])
 |c,v=>bif tM h v then zA h c false v else none
def SX(h:H2):List Sh->List V->Option (List V×List Nat)
 |[],[]=>some ([],[])
 |c::r,v::vs=>match akm h c v,SX h r vs with|some (l,i),some (m,j)=>some (l++m,i++j)|_,_=>none
 |_,_=>none
def LS(h:H2):List Sh->List V->Option (List V×List Nat)
 |[],[]=>some ([],[])
 |c::r,v::vs=>match akl h c v,LS h r vs with|some (l,i),some (m,j)=>some (l++m,i++j)|_,_=>none
 |_,_=>none
def Li{α β:Type}(f:α->Option β):List α->Option (List β)
 |[]=>some []
 |a::r=>match f a,Li f r with|some x,some y=>some (x::y)|_,_=>none
def Wb(BR:List RV)(rs os:List Sh)(s:S2):Option (List V):=
 match Li (abx s) BR with
 |some vs=>match SX s.heap rs vs,LS s.heap os (kO s.gh)with|some (l,i),some (m,j)=>bif ET (i++j)then some (l++m)else none|_,_=>none
 |none=>none
def ZO(BR:List RV)(s:S2):(r o:List Sh)->(w:Wy)->Option (D7.WE r o w)
 |r,o,[]=>match Wb BR r o s with|some l=>CR (uk r++uk o) l|none=>none
 |r,o,(r',o')::w=>match Wb BR r o s with|some l=>(match CR (uk r++uk o) l with|some z=>some (.inl z)|none=>none)|none=>(match ZO BR s r' o' w with|some z=>some (.inr z)|none=>none)
def agi(BR:List RV)(s:S2):(w:Wy)->Option (D7 w)
 |[]=>none
 |(r,o)::w=>ZO BR s r o w
def evF(lp:Lp)(tb:Lv)(F:Option F2)(ps:List (Bool×Sh))(al:Wy)(p:D9 (uk (ps.map (·.2)))):Option (D7 al):=
 match F with
 |some F=>
  match agl ps (BI _ p)with
  |some s=>Em lp tb F.body s fun o s=>match o with|.exit _=>none|_=>agi F.BR s al
  |none=>none
 |none=>none
def flB[Bx](s:II):II:=fun f=>if f=1000000004 then(Bx.c,[])else s f
abbrev u2{A0 A1 R:Type}(f:A0->A1->R)(p:A0×A1):R:=f p.1 p.2
abbrev u3{A0 A1 A2 R:Type}(f:A0->A1->A2->R)(p:A0×A1×A2):R:=f p.1 p.2.1 p.2.2
abbrev u4{A0 A1 A2 A3 R:Type}(f:A0->A1->A2->A3->R)(p:A0×A1×A2×A3):R:=f p.1 p.2.1 p.2.2.1 p.2.2.2
abbrev u5{A0 A1 A2 A3 A4 R:Type}(f:A0->A1->A2->A3->A4->R)(p:A0×A1×A2×A3×A4):R:=f p.1 p.2.1 p.2.2.1 p.2.2.2.1 p.2.2.2.2
abbrev u6{A0 A1 A2 A3 A4 A5 R:Type}(f:A0->A1->A2->A3->A4->A5->R)(p:A0×A1×A2×A3×A4×A5):R:=f p.1 p.2.1 p.2.2.1 p.2.2.2.1 p.2.2.2.2.1 p.2.2.2.2.2
end Go.Ev
