/- Typed data by codes: the types, the values that a frame holds, its objects, and how they are laid into the abstract machine's. Conditions: none, these are definitions. -/
import Derived.Test.YthcplpfiidlinaaDoorEvY
noncomputable section
open Bool renaming and_eq_true->ai
open List renaming append_assoc->aL,append_nil->bB,drop_append_of_le_length->eA,drop_drop->dv,drop_length->fJ,drop_zero->cT,flatMap_cons->bi,length_append->av,length_map->aN,length_replicate->dg,map_drop->gz,map_take->hZ,nil_append->bk,replicate->az,take_append_drop->jg,take_of_length_le->dm
open List.cons renaming inj->cz
open Nat renaming add_assoc->cP,add_mul->bP,beq->kW,ble->jf,blt->nu,le_refl->au,mul_le_mul_right->aI
open Option.some renaming inj->aa
open Prod.mk renaming inj->ad
open Sigma.mk renaming inj->jw
namespace Go.Ev
inductive Ty where
 |i (k:IntKind)
 |b
 |s
 |f (k:FloatKind)
 |sl (t:Ty)
 |mp (k v:Ty)
 |un
 |pr (a c:Ty)
 |st (t:Ty)
 |ar (n:Nat) (t:Ty)
 |o (k:Nat)
 deriving Inhabited,DecidableEq
def Arr(n:Nat)(α:Type):Type:={l:List α//l.length=n}
instance{n:Nat}{α:Type}[Inhabited α]:Inhabited (Arr n α):=⟨⟨az n default,dg⟩⟩
instance{n:Nat}{α:Type}[DecidableEq α]:DecidableEq (Arr n α):=inferInstanceAs (DecidableEq {l:List α//l.length=n})
instance HF:(t:Ty)->Inhabited (El t)
 |.i _=>⟨(0:Int)⟩
 |.b=>⟨false⟩
 |.s=>⟨(default:ByteArray)⟩
 |.f _=>⟨(0:Nat)⟩
 |.sl _=>⟨Sl.nil⟩
 |.mp _ _=>⟨Mp.none⟩
 |.un=>⟨()⟩
 |.pr a c=>⟨((HF a).default,(HF c).default)⟩
 |.st t=>HF t
 |.ar n t=>⟨⟨az n (HF t).default,dg⟩⟩
 |.o _=>⟨()⟩
def si:(t:Ty)->El t
 |.i _=>(0:Int)
 |.b=>false
 |.s=>(ByteArray.empty)
 |.f _=>(0:Nat)
 |.sl _=>Sl.nil
 |.mp _ _=>Mp.none
 |.un=>()
 |.pr a c=>(si a,si c)
 |.st t=>si t
 |.ar n t=>⟨az n (si t),dg⟩
 |.o _=>()
def gN(t u:Ty)(v:El t):Option (El u):=if h:t=u then some (h▸v)else none
def bE:Ty->Nat
 |.un=>0
 |.pr a c=>bE a+bE c
 |.st t=>bE t
 |.ar n t=>n*bE t
 |_=>1
def kY:Ty->Bool
 |.o _|.mp _ _=>false
 |.pr a c=>kY a&&kY c
 |.st t|.ar _ t|.sl t=>kY t
 |_=>true
def nv:Ty->Bool
 |.st _|.ar _ _=>true
 |_=>false
def aT:(t:Ty)->El t->List D
 |.i k,x=>[.lit (.int k x)]
 |.b,x=>[.lit (.bool x)]
 |.s,x=>[.lit (.string x)]
 |.f k,x=>[.lit (.float k x)]
 |.sl t,x=>[BI (bE t) (aT t) x]
 |.mp _ _,_=>[.lit .nilFunc]
 |.un,_=>[]
 |.pr a c,x=>aT a x.1++aT c x.2
 |.st t,x=>aT t x
 |.ar _ t,x=>x.1.flatMap (aT t)
 |.o _,_=>[.lit .nilFunc]
inductive Pe where
 |fd (i:Nat)
 |ix (n:Nat)
abbrev pV:=List Pe
inductive V where
 |x (t:Ty) (v:El t)
 |kb (c:Bool)
 |nl (k:Nat)
 |so (id:Nat)
 |sr (id:Nat)
 |sb (id ver lo:Nat) (t:Ty) (r:Sl (El t))
 |op (id:Nat) (t:Ty) (p:pV)
 |ep (id n:Nat) (t:Ty) (p:pV)
 |pt (t:Ty) (v:El t)
 |fn (z:Bool) (f:Nat) (caps:V)
 |om (id:Nat)
 |rc (l:V)
 |tp (l:V)
 |ni
 |co (a r:V)
 |fl (l:List Value)
 |no
 |gn
inductive O where
 |ar (t:Ty) (s:Sl (El t)) (ver:Nat)
 |im (t:Ty) (s:Sl (El t)) (ver:Nat)
 |bx (t:Ty) (c:V)
 |ib (t:Ty) (v:El t)
 |mp (k v:Ty) (m:Mp (El k) (El v))
 |rw(t:Ty) (s:Sl (Sl (El t))) (ln:Option (Nat×Nat))
def Ai:(t:Ty)->El t->Nat->Option V
 |.pr a _,v,0=>some (.x a v.1)
 |.pr _ c,v,n+1=>Ai c v.2 n
 |t,v,0=>some (.x t v)
 |_,_,_=>none
def CB:Ty->Nat->Option Ty
 |.pr a _,0=>some a
 |.pr _ c,n+1=>CB c n
 |t,0=>some t
 |_,_=>none
def oX:Ty->Nat->Nat
 |.pr _ _,0=>0
 |.pr a c,n+1=>bE a+oX c n
 |_,_=>0
def H6:(t:Ty)->El t->V
 |.pr a c,v=>.co (.x a v.1) (H6 c v.2)
 |t,v=>.co (.x t v) .ni
def Sy(k:IntKind):List Value->Option (Int×List Value)
 |.int k' n::r=>if k'=k then some (n,r)else none
 |_=>none
def Sz:List Value->Option (Bool×List Value)
 |.bool c::r=>some (c,r)
 |_=>none
def Sv:List Value->Option (ByteArray×List Value)
 |.string c::r=>some (c,r)
 |_=>none
def Pr(k:FloatKind):List Value->Option (Nat×List Value)
 |.float k' n::r=>if k'=k then some (n,r)else none
 |_=>none
def Sx{α:Type}:List Value->Option (Sl α×List Value)
 |.slice none 0 0::r=>some (Sl.nil,r)
 |_=>none
def OC{α:Type}(f:List Value->Option (α×List Value)):(m:Nat)->List Value->Option (Arr m α×List Value)
 |0,l=>some (⟨[],rfl⟩,l)
 |m+1,l=>match f l with|some (x,l)=>(match OC f m l with|some (v,l)=>some (⟨x::v.1,by rw[List.length_cons,v.2]⟩,l)|none=>none)|none=>none
def uL:(t:Ty)->List Value->Option (El t×List Value)
 |.i k=>Sy k
 |.b=>Sz
 |.s=>Sv
 |.f k=>Pr k
 |.sl _=>Sx
 |.pr a c=>fun l=>match uL a l with|some (x,l)=>(match uL c l with|some (y,l)=>some ((x,y),l)|none=>none)|none=>none
 |.st t=>uL t
 |.ar n t=>OC (uL t) n
 |.mp _ _|.un|.o _=>fun _=>none
def ij(u:Ty):V->Option (El u)
 |.x t v=>gN t u v
 |.kb c=>gN .b u c
 |.nl 0=>(match u with|.sl _=>some Sl.nil|_=>none)
 |.fl l=>bif nv u then(match uL u l with|some (x,[])=>some x|_=>none)else none
 |_=>none
def Ik:(t:Ty)->El t->Nat->V->Option (El t)
 |.pr a _,v,0,w=>match ij a w with|some y=>some (y,v.2)|none=>none
 |.pr _ c,v,n+1,w=>match Ik c v.2 n w with|some y=>some (v.1,y)|none=>none
 |t,_,0,w=>ij t w
 |_,_,_,_=>none
def r_:V->Nat->Option V
 |.co a _,0=>some a
 |.co _ r,n+1=>r_ r n
 |_,_=>none
def KD:V->Nat->V->V
 |.co _ r,0,w=>.co w r
 |.co a r,n+1,w=>.co a (KD r n w)
 |l,_,_=>l
def pE:V->pV->Option V
 |v,[]=>some v
 |.x (.st t) v,.fd i::p=>match Ai t v i with|some w=>pE w p|none=>none
 |.x (.ar _ t) v,.ix k::p=>pE (.x t (gt v.1 k)) p
 |.rc l,.fd i::p=>match r_ l i with|some w=>pE w p|none=>none
 |_,_=>none
def oF:V->pV->V->Option V
 |_,[],w=>some w
 |.x (.st t) v,.fd i::p,w=>
  match Ai t v i with
  |some y=>match oF y p w with|some y'=>(match Ik t v i y' with|some v'=>some (.x (.st t) v')|none=>some (.rc (KD (H6 t v) i y')))|none=>none
  |none=>none
 |.x (.ar n t) v,.ix k::p,w=>match oF (.x t (gt v.1 k)) p w with|some y=>(match ij t y with|some y'=>some (.x (.ar n t) (v.set k y'))|none=>none)|none=>none
 |.rc l,.fd i::p,w=>match r_ l i with|some y=>(match oF y p w with|some y'=>some (.rc (KD l i y'))|none=>none)|none=>none
 |_,_,_=>none
def qW:Ty->pV->Option Ty
 |t,[]=>some t
 |.st t,.fd i::p=>match CB t i with|some u=>qW u p|none=>none
 |.ar _ t,.ix _::p=>qW t p
 |_,_=>none
def mQ:Ty->pV->Nat
 |.st t,.fd i::p=>oX t i+(match CB t i with|some u=>mQ u p|none=>0)
 |.ar _ t,.ix k::p=>k*bE t+mQ t p
 |_,_=>0
def IP:Ty->pV->Prop
 |.st t,.fd i::p=>∃u,CB t i=some u/\IP u p
 |.ar n t,.ix k::p=>k<n/\IP t p
 |_,[]=>True
 |_,_=>False
def Bx:Ty->V×V
 |.pr a c=>(.no,.co (Bx a).1 (Bx c).2)
 |.st t=>(bif kY t then .x (.st t) (si t)else .rc (Bx t).2,.co (bif kY t then .x (.st t) (si t)else .rc (Bx t).2) .ni)
 |.o k=>(.nl k,.co (.nl k) .ni)
 |.mp _ _=>(.nl 3,.co (.nl 3) .ni)
 |.sl t=>(bif kY t then .x (.sl t) Sl.nil else .nl 0,.co (bif kY t then .x (.sl t) Sl.nil else .nl 0) .ni)
 |.ar n t=>(bif kY t then .x (.ar n t) (si (.ar n t))else .no,.co (bif kY t then .x (.ar n t) (si (.ar n t))else .no) .ni)
 |.un=>(.x .un (),.co (.x .un ()) .ni)
 |.i k=>(.x (.i k) (0:Int),.co (.x (.i k) (0:Int)) .ni)
 |.b=>(.x .b false,.co (.x .b false) .ni)
 |.s=>(.x .s ByteArray.empty,.co (.x .s ByteArray.empty) .ni)
 |.f k=>(.x (.f k) (0:Nat),.co (.x (.f k) (0:Nat)) .ni)
abbrev O8(t:Ty):V:=(Bx t).1
def Dz(k:Nat):C:=.d (.lit (match k with|0=>.slice none 0 0|1=>.pointer none|2=>.nilFunc|3=>.map none|_=>.nilIface))
def AD(id:Nat):Option O->Option C
 |some (.ar t s _)=>some (mU (bE t) (aT t) id s)
 |some (.im t s _)=>some (mU (bE t) (aT t) id s)
 |_=>none
def pp(t:Ty):Sl (El t)->kZ
 |.nil=>.nil
 |.mk l=>.bv (l.map (aT t))
def IE{α:Type}(id:Nat):Sl α->kZ
 |.nil=>.nil
 |.mk l=>.dY id l.length
def fT(t:Ty)(l:List (Sl (El t))):Option (Nat×Nat)->List kZ
 |none=>l.map (pp t)
 |some (m,id)=>(l.map (pp t)).set m (IE id (gt l m))
def E5(id:Nat):Option O->Option C
 |some (.rw t s _)=>some (mU 1 (aT (.sl t)) id (s:Sl (Sl (El t))))
 |_=>none
def zW(id lo:Nat)(t:Ty):Sl (El t)->C
 |.nil=>.d (.lit (.slice none 0 0))
 |.mk l=>.fq (bE t) id lo (l.map (aT t)).length
def qw:V->Option (List D)
 |.pt t v=>if kY t then some [.pt (aT t v)]else none
 |.ni=>some []
 |.co a r=>match qw a,qw r with|some x,some y=>some (x++y)|_,_=>none
 |_=>none
def te:V->Bool
 |.x t _=>nv t
 |.rc _|.fl _=>true
 |_=>false
deriving instance DecidableEq for Mp
instance zn:(t:Ty)->DecidableEq (El t)
 |.i _=>inferInstanceAs (DecidableEq Int)
 |.b=>inferInstanceAs (DecidableEq Bool)
 |.s=>inferInstanceAs (DecidableEq ByteArray)
 |.f _=>inferInstanceAs (DecidableEq Nat)
 |.sl t=>@instDecidableEqSl (El t) (zn t)
 |.mp k v=>@instDecidableEqMp (El k) (El v) (zn k) (zn v)
 |.un=>inferInstanceAs (DecidableEq Unit)
 |.pr a c=>@instDecidableEqProd (El a) (El c) (zn a) (zn c)
 |.st t=>zn t
 |.ar n t=>@instDecidableEqArr n (El t) (zn t)
 |.o _=>inferInstanceAs (DecidableEq Unit)
structure S2 where
 dT:List (Nat×V)
 heap:H2
 next:Nat
 wo:List Nat
 gh:V
structure OP where
 o:og
 t:Ty
 fi:List Nat
def Ct:V->Bool
 |.pt t _=>kY t
 |.ni=>true
 |.co a r=>Ct a&&Ct r
 |_=>false
def iD(h:H2):V->Bool
 |.x t _=>kY t
 |.pt t _=>kY t
 |.kb _|.nl _=>true
 |.op id _ _|.ep id _ _ _|.om id=>(match fO h id with|some _=>true|none=>false)
 |.so id=>(match fO h id with|some (.ar _ _ _)|some (.im _ _ _)=>true|_=>false)
 |.sr id=>(match fO h id with|some (.rw _ _ _)=>true|_=>false)
 |.sb id ver _ t _=>kY t&&(match fO h id with|some (.ar _ _ v)|some (.im _ _ v)=>v==ver|_=>false)
 |.fn true _ l=>Ct l
 |.fn false _ l=>iD h l
 |.rc l|.tp l=>iD h l
 |.fl l=>l.all ed
 |.ni=>true
 |.co a r=>iD h a&&iD h r
 |.no|.gn=>false
def SV:Value->Option V
 |.bool c=>some (.kb c)
 |.int k n=>some (.x (.i k) n)
 |.float k n=>some (.x (.f k) n)
 |.string s=>some (.x .s s)
 |.pointer none=>some (.nl 1)
 |.slice none 0 0=>some (.nl 0)
 |.nilFunc=>some (.nl 2)
 |.map none=>some (.nl 3)
 |.nilIface=>some (.nl 4)
 |.agg cs=>if cs.toList.all ed then some (.fl cs.toList)else none
 |_=>none
def LW:Nat->Option V:=fun g => if g = 0 then some (.pt (.ar 32 (.i .u8)) (⟨[0, 1, 28, 2, 29, 14, 24, 3, 30, 22, 20, 15, 25, 17, 4, 8, 31, 27, 13, 23, 21, 19, 16, 7, 26, 12, 18, 6, 11, 5, 10, 9], rfl⟩ : Arr 32 Int)) else none
def JY(e:List (Nat×V))(h:H2):Operand->Option V
 |.tmp t=>match cA e t with|some v=>bif iD h v then some v else none|none=>none
 |.const c=>SV c
 |.global g=>LW g
 |.func f=>some (.fn true f .ni)
def x5:V->Nat
 |.x t _=>bE t
 |.rc l=>x5 l
 |.co a r=>x5 a+x5 r
 |.ni=>0
 |.fl l=>l.length
 |_=>1
def Oq:V->Nat->Nat
 |.co a r,n+1=>x5 a+Oq r n
 |_,_=>0
def dj:List V->V
 |[]=>.ni
 |v::r=>.co v (dj r)
def AA:V->List V
 |.co a r=>a::AA r
 |_=>[]
def kS:V->Bool->(u:Ty)->Option (El u)
 |.rc l,false,.st u=>kS l true u
 |.co a r,true,.pr t u=>match kS a false t,kS r true u with|some x,some y=>some (x,y)|_,_=>none
 |.co a .ni,true,u=>kS a false u
 |.ni,_,_=>none
 |v,false,u=>ij u v
 |_,_,_=>none
abbrev tQ(u:Ty)(v:V):Option (El u):=kS v false u
def eF:V->Bool->Ty->Bool
 |.x u _,false,t=>decide (u=t)
 |.rc l,false,.st t=>eF l true t
 |.co a r,true,.pr t u=>eF a false t&&eF r true u
 |.co a .ni,true,t=>eF a false t
 |.kb _,false,.b=>true
 |.nl 0,false,.sl _|.so _,false,.sl _|.sr _,false,.sl _|.sb _ _ _ _ _,false,.sl _=>true
 |.nl 3,false,.mp _ _|.om _,false,.mp _ _=>true
 |.nl _,false,.o _|.op _ _ _,false,.o _|.ep _ _ _ _,false,.o _|.pt _ _,false,.o _|.fn _ _ _,false,.o _=>true
 |_,_,_=>false
def Nd(t:Ty)(v:V):Option V:=match(bif kY t then ij t v else none)with|some y=>some (.x t y)|none=>bif eF v false t then some v else none
def t_(h:H2):V->Option ((t:Ty)×Sl (El t)×List Nat)
 |.x (.sl t) s=>some ⟨t,s,[]⟩
 |.so id=>(match fO h id with|some (.ar t s _)|some (.im t s _)=>some ⟨t,s,[id]⟩|_=>none)
 |.sb id _ _ t r=>some ⟨t,r,[id]⟩
 |_=>none
def Kr(t:Ty)(h:H2):V->Option ((t:Ty)×Sl (El t)×List Nat)
 |.nl 0=>some ⟨t,Sl.nil,[]⟩
 |v=>t_ h v
def kN(h:H2):V->Option (V×List Nat)
 |.so id=>match t_ h (.so id)with|some ⟨t,s,l⟩=>some (.x (.sl t) s,l)|none=>none
 |.sr id=>match fO h id with|some (.rw t s none)=>some (.x (.sl (.sl t)) s,[id])|_=>none
 |.sb id ver lo t r=>match t_ h (.sb id ver lo t r)with|some ⟨t,s,l⟩=>some (.x (.sl t) s,l)|none=>none
 |.rc l=>match kN h l with|some (w,l)=>some (.rc w,l)|none=>none
 |.co a r=>match kN h a,kN h r with|some (x,l),some (y,m)=>some (.co x y,l++m)|_,_=>none
 |.x t v=>some (.x t v,[])
 |.kb c=>some (.kb c,[])
 |.nl k=>some (.nl k,[])
 |.fl l=>some (.fl l,[])
 |.ni=>some (.ni,[])
 |.fn true f l=>some (.fn true f l,[])
 |.pt t v=>some (.pt t v,[])
 |_=>none
def UE(c:Bool):V->V->Option V
 |.kb a,.kb b=>some (.x .b (bif c then a else b))
 |.x t a,w=>match tQ t w with|some b=>some (.x t (bif c then a else b))|none=>none
 |w,.x t b=>match tQ t w with|some a=>some (.x t (bif c then a else b))|none=>none
 |_,_=>none
def SZ:Value->Value->Bool
 |.bool a,.bool b=>a==b
 |.int k a,.int k' b=>decide (k=k')&&a==b
 |.float k a,.float k' b=>decide (k=k')&&a==b
 |.string a,.string b=>decide (a=b)
 |.pointer none,.pointer none|.slice none 0 0,.slice none 0 0|.nilFunc,.nilFunc|.map none,.map none|.nilIface,.nilIface=>true
 |_,_=>false
def tW:List Value->List Value->Bool
 |[],[]=>true
 |a::r,b::s=>SZ a b&&tW r s
 |_,_=>false
def ny:Ty->List Value
 |.i k=>[.int k 0]
 |.b=>[.bool false]
 |.s=>[.string ByteArray.empty]
 |.f k=>[.float k 0]
 |.sl _=>[.slice none 0 0]
 |.mp _ _=>[.map none]
 |.un=>[]
 |.pr a c=>ny a++ny c
 |.st t=>ny t
 |.ar n t=>(az n (ny t)).flatten
 |.o k=>[match k with|0=>.slice none 0 0|1=>.pointer none|2=>.nilFunc|3=>.map none|_=>.nilIface]
def DW:Ty->Option (List Kd)
 |.i k=>some [.i k]
 |.b=>some [.b]
 |.s=>some [.s]
 |.pr a c=>match DW a,DW c with|some x,some y=>some (x++y)|_,_=>none
 |.st t=>DW t
 |.ar n t=>match DW t with|some x=>some ((az n x).flatten)|none=>none
 |_=>none
def Q7(z:Bool)(op:BinOp)(k k':IntKind)(a b:Int):Option V:=
 match op with
 |.shl=>bif z then some (.x (.i k) (Q_ k a b))else none
 |.shr=>bif z then some (.x (.i k) (JQ k a b))else none
 |op=>bif decide (k=k')then(match op with
  |.add=>some (.x (.i k) (wr k (a+b)))
  |.sub=>some (.x (.i k) (wr k (a-b)))
  |.mul=>some (.x (.i k) (wr k (a*b)))
  |.quo=>bif z then some (.x (.i k) (wr k (a.tdiv b)))else none
  |.rem=>bif z then some (.x (.i k) (a.tmod b))else none
  |.and=>some (.x (.i k) (JR k a b))
  |.or=>some (.x (.i k) (RB k a b))
  |.xor=>some (.x (.i k) (Q9 k a b))
  |.andNot=>some (.x (.i k) (rL k a b))
  |.eql=>some (.x .b (a==b))
  |.neq=>some (.x .b (a !=b))
  |.lss=>some (.x .b (decide (a<b)))
  |.leq=>some (.x .b (decide (a<=b)))
  |.gtr=>some (.x .b (decide (a>b)))
  |.geq=>some (.x .b (decide (a>=b)))
  |_=>none)else none
def Q6(op:BinOp)(x y:ByteArray):Option V:=match op with|.eql=>some (.x .b (x.toList==y.toList))|.neq=>some (.x .b (!(x.toList==y.toList)))|.lss=>some (.x .b (Op.bytesLess x.toList y.toList))|.leq=>some (.x .b (Op.bytesLess x.toList y.toList||x.toList==y.toList))|.gtr=>some (.x .b (!(Op.bytesLess x.toList y.toList||x.toList==y.toList)))|.geq=>some (.x .b (!(Op.bytesLess x.toList y.toList)))|_=>none
def NV:List Operand->Bool
 |[_,.const (.int _ n)]=>decide (n>0)
 |_=>false
def Rx(m:Bool)(k:IntKind):Int->List V->Option Int
 |x,[]=>some x
 |x,.x (.i k') y::r=>bif decide (k'=k)then Rx m k (bif m then(if y>x then y else x)else(if y<x then y else x)) r else none
 |_,_=>none
def yM(h:H2):V->Option (V×List Nat)
 |.pt t v=>some (.x t v,[])
 |.op id t p=>(match fO h id with
  |some (.bx u c)=>bif decide (u=t)then(match pE c p with|some w=>some (w,[id])|none=>none)else none
  |some (.ib u v)=>bif decide (u=t)then(match pE (.x u v) p with|some w=>some (w,[id])|none=>none)else none
  |_=>none)
 |.ep id n t p=>(match fO h id with
  |some (.ar u s _)|some (.im u s _)=>bif decide (u=t)then(match pE (.x u (gt s.l n)) p with|some w=>some (w,[id])|none=>none)else none
  |_=>none)
 |_=>none
def yG(h:H2)(kind:Nat):V->Option V
 |.nl k=>bif(k==kind)&&nu k 3 then some (.kb true)else none
 |.pt _ _|.op _ _ _|.ep _ _ _ _=>bif kind==1 then some (.kb false)else none
 |.fn _ _ _=>bif kind==2 then some (.kb false)else none
 |v=>bif kind==0 then(match t_ h v with|some ⟨_,s,_⟩=>some (.x .b s.fQ)|none=>none)else none
def K6:V->V
 |.kb c=>.kb (!c)
 |.x .b c=>.x .b (!c)
 |v=>v
def Gf(off n:Nat)(i:Nat):V->Option V
 |.op id t p=>(match qW t p with
  |some (.st u)=>(match CB u i with|some w=>bif(oX u i==off)&&(bE w==n)then some (.op id t (p++[.fd i]))else none|none=>none)
  |_=>none)
 |.ep id m t p=>(match qW t p with
  |some (.st u)=>(match CB u i with|some w=>bif(oX u i==off)&&(bE w==n)then some (.ep id m t (p++[.fd i]))else none|none=>none)
  |_=>none)
 |.pt (.st u) v=>(match Ai u v i with|some (.x w y)=>bif(oX u i==off)&&(bE w==n)then some (.pt w y)else none|_=>none)
 |_=>none
def Gy(h:H2)(g:Bool)(n:Nat)(w:V):Bool:=(te w==g)&&(x5 w==n)&&(g||n==1)&&iD h w
def Oc(h:H2):V->Option ((k:Ty)×(v:Ty)×Mp (El k) (El v)×List Nat)
 |.om id=>(match fO h id with|some (.mp k v m)=>some ⟨k,v,m,[id]⟩|_=>none)
 |_=>none
def xy(t:Ty):List Nat->List (Nat×Nat)->List V->V->Option V
 |[],[],[],c=>some c
 |i::is,(off,n)::ps,w::ws,c=>
  match t with
  |.st u=>(match CB u i with
   |some a=>bif(oX u i==off)&&(bE a==n)then(match Nd a w with|some w=>(match oF c [.fd i] w with|some c=>bif eF c false t then xy t is ps ws c else none|none=>none)|none=>none)else none
   |none=>none)
  |.ar m u=>bif(i*bE u==off)&&(bE u==n)&&decide (i<m)then(match Nd u w with|some w=>(match oF c [.ix i] w with|some c=>bif eF c false t then xy t is ps ws c else none|none=>none)|none=>none)else none
  |_=>none
 |_,_,_,_=>none
def OM:V->Bool
 |.tp _|.no|.gn|.ni|.co _ _=>false
 |v=>!te v
def PU(o:OP)(vs:List V)(h:H2):Option (V×List Nat):=
 match o.o.k,vs with
 |.mv,[v]=>some (v,[])
 |.nilCheck,[v]=>(match v with|.pt _ _|.fn _ _ _|.ep _ _ _ _|.op _ _ _=>some (v,[])|_=>none)
 |.Ao op,[.x (.i k) a,.x (.i k') b]=>(match Q7 (NV o.o.args) op k k' a b with|some v=>some (v,[])|none=>none)
 |.Ao op,[.x .s a,.x .s b]=>(match Q6 op a b with|some v=>some (v,[])|none=>none)
 |.uK neg,[x,y]=>(match tQ .b x,tQ .b y with|some a,some b=>some (.x .b (bif neg then !(a==b)else a==b),[])|_,_=>none)
 |.qQ kind neg,[x]=>(match yG h kind x with|some v=>some (bif neg then K6 v else v,[])|none=>none)
 |.zk neg ks,[.x t a,y]=>(match tQ t y with|some b=>bif nv t&&decide (DW t=some ks)then some (.x .b (bif neg then !(decide (a=b))else decide (a=b)),[])else none|none=>none)
 |.un .not,[.kb c]=>some (.kb (!c),[])
 |.un .not,[.x .b c]=>some (.x .b (!c),[])
 |.un .neg,[.x (.i k) n]=>some (.x (.i k) (wr k (0-n)),[])
 |.un .xor,[.x (.i k) n]=>some (.x (.i k) (UR k n),[])
 |.vA k,[.x (.i _) n]=>some (.x (.i k) (wr k n),[])
 |.sV,[.x .s s]=>some (.x .s s,[])
 |.IY f,vs=>bif vs.all OM then some (.fn false f (dj vs),[])else none
 |.load g n,[p]=>(match yM h p with|some (w,l)=>bif Gy h g n w then some (w,l)else none|none=>none)
 |.ua,[p]=>(match yM h p with|some (w,l)=>bif Gy h false 1 w then some (w,l)else none|none=>none)
 |.fieldAddr off n,[p]=>(match o.fi with|[i]=>(match Gf off n i p with|some w=>some (w,[])|none=>none)|_=>none)
 |.field g off n,[.x (.st u) v]=>(match o.fi with|[i]=>(match Ai u v i with|some w=>bif(oX u i==off)&&Gy h g n w then some (w,[])else none|none=>none)|_=>none)
 |.field g off n,[.rc l]=>(match o.fi with|[i]=>(match r_ l i with|some w=>bif(Oq l i==off)&&Gy h g n w then some (w,[])else none|none=>none)|_=>none)
 |.extract i,[.tp l]=>(match r_ l i with|some w=>some (w,[])|none=>none)
 |.len true,[.x .s s]=>some (.x (.i .i64) (s.size:Int),[])
 |.len false,[.nl 0]=>some (.x (.i .i64) (0:Int),[])
 |.len false,[.sr id]=>(match fO h id with|some (.rw _ s _)=>some (.x (.i .i64) (s.l.length:Int),[])|_=>none)
 |.len false,[v]=>(match t_ h v with|some ⟨_,s,_⟩=>some (.x (.i .i64) (s.l.length:Int),[])|none=>none)
 |.uF m,.x (.i k) x::r=>(match Rx m k x r with|some y=>some (.x (.i k) y,[])|none=>none)
 |.build z ps,vs=>bif tW (ny o.t) z&&nv o.t&&eF (O8 o.t) false o.t then(match xy o.t o.fi ps vs (O8 o.t)with|some v=>some (v,[])|none=>none)else none
 |.lookup ka ks va z ok,[m,kv]=>(match Oc h m with
  |some ⟨kt,vt,mp,l⟩=>(match tQ kt kv with
   |some k=>bif(nv kt==ka)&&(nv vt==va)&&decide (DW kt=some ks)&&tW (ny vt) z&&kY vt&&(va||bE vt==1)then
     some (bif ok then .tp (.co (.x vt (oV mp (si vt) k)) (.co (.x .b (Lc mp k)) .ni))else .x vt (oV mp (si vt) k),l)else none
   |none=>none)
  |none=>none)
 |_,_=>none
def kO{α:Type}(s:Sl α)(x r:List α):Sl α:=match x with|[]=>(match s with|.nil=>.nil|.mk _=>.mk r)|_::_=>.mk r
def Ad{α:Type}:Sl α->Sl α->Option Unit
 |.nil,.nil=>some ()
 |.mk a,.mk b=>FW a b
 |_,_=>none
def kc(s:S2)(o:O):S2:=⟨s.dT,(s.next,some o)::s.heap,s.next+1,s.next::s.wo,s.gh⟩
def ff(s:S2)(id:Nat)(o:Option O):S2:=⟨s.dT,(id,o)::s.heap,s.next,id::s.wo,s.gh⟩
def UK(h:H2)(id:Nat):Option O:=match fO h id with|some (.ar t s v)|some (.im t s v)=>some (.im t s v)|some (.ib t v)=>some (.ib t v)|some (.bx t c)=>bif kY t&&nu (bE t) 300 then(match kN h c with|some (_,[])=>(match tQ t c with|some v=>some (.ib t v)|none=>none)|_=>none)else none|_=>none
def za(h:H2):List Nat->S2->Option S2
 |[],s=>some s
 |id::r,s=>match fO h id with|some (.rw _ _ none)=>(match za h r s with|some s=>some (ff s id none)|none=>none)|_=>(match UK h id,za h r s with|some o,some s=>some (ff s id (some o))|_,_=>none)
def CA(t:Ty):Bool:=kY t&&nu 0 (bE t)
def ym(h:H2)(t:Ty)(len:Nat):Nat->List Nat->List V->Option (List (El t)×List Nat)
 |m,[],[]=>some (az (len-m) (si t),[])
 |m,i::is,v::vs=>
  match kN h v with
  |some (w,a)=>(match tQ t w with
   |some y=>bif jf m i&&nu i len then(match ym h t len (i+1) is vs with|some (l,b)=>some (az (i-m) (si t)++y::l,a++b)|none=>none)else none
   |none=>none)
  |none=>none
 |_,_,_=>none
def FV(h:H2):V->Option Int
 |.nl 0=>some 0
 |v=>match t_ h v with|some ⟨_,v,_⟩=>some (v.l.length:Int)|none=>none
def OJ{α:Type}(w:Sl α)(lo n:Nat)(z:α):Option (Sl α):=match w with|.nil=>none|.mk l=>some (.mk (ME l lo n (az n z)))
def t6{β:Type}(sz:Nat)(h:H2)(x:V)(l u:Int)(k:V->Option β):Option β:=
 match x with
 |.x (.sl t) v=>bif bE t==sz then(qu v.l l u).bind fun y=>k (.x (.sl t) (v.to y))else none
 |.so id=>(match fO h id with
  |some (.ar t v ver)=>bif bE t==sz then(qu v.l l u).bind fun y=>k (.sb id ver l.toNat t (v.to y))else none
  |some (.im t v ver)=>bif bE t==sz then(qu v.l l u).bind fun y=>k (.sb id ver l.toNat t (v.to y))else none
  |_=>none)
 |.sb id ver lo t v=>bif bE t==sz then(qu v.l l u).bind fun y=>k (.sb id ver (lo+l.toNat) t (v.to y))else none
 |.nl 0=>(qu ([]:List Unit) l u).bind fun _=>k (.nl 0)
 |_=>none
def Q5{β:Type}(t:Ty)(sz len:Nat)(z:List Value)(pl:List Nat)(vs:List V)(s:S2)(k:V->S2->List Nat->Option β):Option β:=
 bif(bE t==sz)&&tW ((az len (ny t)).flatten) z&&CA t then
  (match ym s.heap t len 0 pl vs with
  |some (l,a)=>(match za s.heap a s with|some s'=>k (.so s.next) (kc s' (.ar t (.mk l) 0)) a|none=>none)
  |none=>none)else none
def GZ(ln:Option (Nat×Nat))(m:Nat):Bool:=match ln with|none=>true|some (m',_)=>kW m' m
def E3{β:Type}(id m:Nat)(t:Ty)(p:pV)(w:V)(s:S2)(k:S2->List Nat->Option β):Option β:=
 match fO s.heap id with
 |some (.rw u v ln)=>(match p,w with
  |[],.so id2=>(match fO s.heap id2 with
   |some (.ar u2 r _)=>(match gN (.sl u2) (.sl u) r with
    |some r=>bif decide (t=.sl u)&&!(id2==id)&&GZ ln m then k (ff (ff s id2 none) id (some (.rw u (.mk (v.l.set m r)) none))) [id,id2]else none
    |none=>none)
   |_=>none)
  |_,_=>none)
 |some (.ar u l ver)=>(match kN s.heap w with
  |some (w,a)=>bif decide (u=t)then(match qW u p with
   |some q=>(match tQ q w with
    |some y=>(match oF (.x u (gt l.l m)) p (.x q y)with
     |some c=>(match ij u c with
      |some y=>(match za s.heap a s with|some s=>bif !a.contains id then k (ff s id (some (.ar u (.mk (l.l.set m y)) (ver+1)))) (id::a)else none|none=>none)
      |none=>none)
     |none=>none)
    |none=>none)
   |none=>none)else none
  |none=>none)
 |_=>none
def part{β:Type}(o:OP)(vs:List V)(s:S2)(k:V->S2->List Nat->Option β):Option β:=
 match o.o.k,vs with
 |.Ao .quo,[.x (.i q) a,.x (.i q') b]=>bif decide (q=q')then(QS q a b).bind fun x=>k (.x (.i q) x) s []else none
 |.Ao .rem,[.x (.i q) a,.x (.i q') b]=>bif decide (q=q')then(P5 q a b).bind fun x=>k (.x (.i q) x) s []else none
 |.Ao .shl,[.x (.i q) a,.x (.i _) b]=>(ye q a b).bind fun x=>k (.x (.i q) x) s []
 |.Ao .shr,[.x (.i q) a,.x (.i _) b]=>(PZ q a b).bind fun x=>k (.x (.i q) x) s []
 |.Ao .add,[.x .s a,.x .s b]=>(Q2 a b).bind fun x=>k (.x .s x) s []
 |.alloc z,[]=>bif tW (ny o.t) z&&eF (O8 o.t) false o.t then k (.op s.next o.t []) (kc s (.bx o.t (O8 o.t))) []else none
 |.box,[v]=>(match Nd o.t v with|some w=>k (.op s.next o.t []) (kc s (.bx o.t w)) []|none=>none)
 |.buildSlice sz len z pl,vs=>Q5 o.t sz len z pl vs s k
 |.store n,[.op id t p,w]=>bif(x5 w==n)then(match fO s.heap id with
  |some (.bx u c)=>bif decide (u=t)then(match qW t p with
   |some a=>(match Nd a w with
    |some w=>(match oF c p w with|some c=>bif eF c false t then k (.tp .ni) (ff s id (some (.bx t c))) [id]else none|none=>none)
    |none=>none)
   |none=>none)else none
  |_=>none)else none
 |.ua,[.ep id m u []]=>(match fO s.heap id with
  |some (.rw t v none)=>bif decide (u=.sl t)then k (.so s.next) (kc (ff s id (some (.rw t v (some (m,s.next))))) (.ar t (gt v.l m) 0)) [id]else none
  |_=>none)
 |.AU szi,[.x (.i _) l,.x (.i _) c]=>(match o.t with
  |.sl t=>bif(bE t==szi)&&CA t then(zL (Sl.nil:Sl (El t)) l c).bind fun r=>k (.sr s.next) (kc s (.rw t (.mk r) none)) []else none
  |_=>none)
 |.store n,[.ep id m t p,w]=>bif(x5 w==n)then E3 id m t p w s (fun s l=>k (.tp .ni) s l)else none
 |.makeSlice z,[.x (.i _) l,.x (.i _) c]=>bif tW (ny o.t) z&&CA o.t then(zL (si o.t) l c).bind fun r=>k (.so s.next) (kc s (.ar o.t (.mk r) 0)) []else none
 |.slice true _ lo hi,.x .s x::r=>(match lo,hi,jH r with
  |false,false,some []=>(zT x 0 x.size).bind fun y=>k (.x .s y) s []
  |true,false,some [l]=>(zT x l x.size).bind fun y=>k (.x .s y) s []
  |false,true,some [u]=>(zT x 0 u).bind fun y=>k (.x .s y) s []
  |true,true,some [l,u]=>(zT x l u).bind fun y=>k (.x .s y) s []
  |_,_,_=>none)
 |.slice false sz lo hi,x::r=>
  (match lo,hi,jH r,FV s.heap x with
  |false,false,some [],some n=>t6 sz s.heap x 0 n fun v=>k v s []
  |true,false,some [l],some n=>t6 sz s.heap x l n fun v=>k v s []
  |false,true,some [u],some _=>t6 sz s.heap x 0 u fun v=>k v s []
  |true,true,some [l,u],some _=>t6 sz s.heap x l u fun v=>k v s []
  |_,_,_,_=>none)
 |.indexAddr none sz,[x,.x (.i _) i]=>(match x with
  |.x (.sl t) v=>bif bE t==sz then(e9 i v.l.length).bind fun m=>k (.pt t (gt v.l m)) s []else none
  |.so id=>(match t_ s.heap (.so id)with|some ⟨t,v,_⟩=>bif bE t==sz then(e9 i v.l.length).bind fun m=>k (.ep id m t []) s []else none|none=>none)
  |.sb id _ lo t v=>bif bE t==sz then(e9 i v.l.length).bind fun m=>k (.ep id (lo+m) t []) s []else none
  |.sr id=>(match fO s.heap id with|some (.rw t v _)=>bif 1==sz then(e9 i v.l.length).bind fun m=>k (.ep id m (.sl t) []) s []else none|_=>none)
  |_=>none)
 |.indexAddr (some n) sz,[x,.x (.i _) i]=>(match x with
  |.op id t p=>(match qW t p with|some (.ar n' u)=>bif(n'==n)&&(bE u==sz)then(e9 i n).bind fun m=>k (.op id t (p++[.ix m])) s []else none|_=>none)
  |.ep id q t p=>(match qW t p with|some (.ar n' u)=>bif(n'==n)&&(bE u==sz)then(e9 i n).bind fun m=>k (.ep id q t (p++[.ix m])) s []else none|_=>none)
  |.pt (.ar n' u) v=>bif(n'==n)&&(bE u==sz)then(e9 i n).bind fun m=>k (.pt u (gt v.1 m)) s []else none
  |_=>none)
 |.pD,[.x .s x,.x (.i _) i]=>(US x i).bind fun c=>k (.x (.i .u8) c) s []
 |.index g n sz,[.x (.ar n' u) v,.x (.i _) i]=>bif(n'==n)&&(bE u==sz)&&(nv u==g)&&kY u&&(g||sz==1)then(e9 i n).bind fun m=>k (.x u (gt v.1 m)) s []else none
 |.append sz,[a,x]=>
  (match Kr o.t s.heap x with
  |some ⟨t,m,aD⟩=>bif(bE t==sz)&&CA t then(match a with
   |.nl 0=>(iH ([]++m.l)).bind fun r=>k (.so s.next) (kc s (.ar t (kO Sl.nil m.l r) 0)) aD
   |.x (.sl _) v=>bif Sl.fQ v then((iH ([]++m.l)).bind fun r=>k (.so s.next) (kc s (.ar t (kO Sl.nil m.l r) 0)) aD)else none
   |.so id=>(match fO s.heap id with
    |some (.ar u v _)=>(match gN (.sl t) (.sl u) m with
     |some m=>(iH (v.l++m.l)).bind fun r=>k (.so s.next) (kc (ff s id none) (.ar u (kO v m.l r) 0)) (id::aD)
     |none=>none)
    |_=>none)
   |.sb id _ lo u v=>(match fO s.heap id,gN (.sl t) (.sl u) m with
    |some (.ar _ s0 _),some m=>bif jf s0.l.length (lo+(v.l.length+m.l.length))then((iH (v.l++m.l)).bind fun r=>k (.so s.next) (kc (ff s id none) (.ar u (kO v m.l r) 0)) (id::aD))else none
    |_,_=>none)
   |_=>none)else none
  |none=>none)
 |.copy sz,[a,x]=>
  (match Kr o.t s.heap x with
  |some ⟨t,m,aD⟩=>bif bE t==sz then(match a with
   |.nl 0=>k (.x (.i .i64) (0:Int)) s aD
   |.so id=>(match fO s.heap id with
    |some (.ar u v ver)=>(match gN (.sl t) (.sl u) m with
     |some m=>k (.x (.i .i64) ((min m.l.length v.l.length:Nat):Int)) (ff s id (some (.ar u (v.to (ME v.l 0 v.l.length m.l)) (ver+1)))) (id::aD)
     |none=>none)
    |_=>none)
   |.sb id ver lo _ v=>(match fO s.heap id with
    |some (.ar u w ver')=>(match gN (.sl t) (.sl u) m with
     |some m=>bif ver'==ver then k (.x (.i .i64) ((min m.l.length v.l.length:Nat):Int)) (ff s id (some (.ar u (w.to (ME w.l lo v.l.length m.l)) (ver+1)))) (id::aD)else none
     |none=>none)
    |_=>none)
   |_=>none)else none
  |none=>none)
 |.clear zz,[a]=>(match a with
  |.sb id ver lo _ v=>(match fO s.heap id with
   |some (.ar u w ver')=>bif(ver'==ver)&&tW (ny u) zz&&CA u then(OJ w lo v.l.length (si u)).bind fun w=>k (.tp .ni) (ff s id (some (.ar u w (ver+1)))) [id]else none
   |_=>none)
  |_=>none)
 |.makeMap ka va,[]=>(match o.t with
  |.mp kt vt=>bif(nv kt==ka)&&(nv vt==va)&&kY vt&&(DW kt).isSome then k (.om s.next) (kc s (.mp kt vt Mp.none)) []else none
  |_=>none)
 |.mapEntry ka ks va z,[.om id,kv]=>(match fO s.heap id with
  |some (.mp kt vt m)=>(match tQ kt kv with
   |some q=>bif(nv kt==ka)&&(nv vt==va)&&decide (DW kt=some ks)&&tW (ny vt) z&&kY vt&&(va||bE vt==1)then
     k (.tp (.co (.x vt (l5 m (si vt) q).2.1) (.co (.x (.i .i64) (l5 m (si vt) q).2.2) .ni))) (ff s id (some (.mp kt vt (l5 m (si vt) q).1))) [id]else none
   |none=>none)
  |_=>none)
 |.entryStore va n,[.om id,.x (.i _) st,w]=>(match fO s.heap id with
  |some (.mp kt vt m)=>(match tQ vt w with
   |some y=>bif(nv vt==va)&&(bE vt==n)&&kY vt then(vg m st y).bind fun m=>k (.tp .ni) (ff s id (some (.mp kt vt m))) [id]else none
   |none=>none)
  |_=>none)
 |_,_=>none
@[reducible] def qx:List Ty->Type
 |[]=>Unit
 |a::r=>EJ a r
where EJ:Ty->List Ty->Type
 |a,[]=>El a
 |a,c::r=>El a×EJ c r
def ui(u:Ty):V->Option (El u)
 |.x t v=>gN t u v
 |_=>none
def H4{α β:Type}:Option α->Option β->Option (α×β)
 |some x,some y=>some (x,y)
 |_,_=>none
def EV:(a:Ty)->(r:List Ty)->List V->Option (qx.EJ a r)
 |a,[],l=>(match l with|[v]=>ui a v|_=>none)
 |a,c::r,l=>(match l with|v::l=>H4 (ui a v) (EV c r l)|[]=>none)
def vU:(cs:List Ty)->List V->Option (qx cs)
 |[],[]=>some ()
 |a::r,l=>EV a r l
 |_,_=>none
def Ns:(a:Ty)->(r:List Ty)->qx.EJ a r->List V
 |a,[],v=>[.x a v]
 |a,c::r,v=>.x a v.1::Ns c r v.2
def oY:(cs:List Ty)->qx cs->List V
 |[],_=>[]
 |a::r,v=>Ns a r v
inductive Sh where
 | x (t : Ty)            -- data
 | pt (t : Ty)           -- a pointer to data
 | os (t : Ty)           -- a slice of its bv
 | rw (t : Ty)           -- a dj of ao of its bv
 | mp (k v : Ty)         -- a map of its bv
 | pb (t : Ty) (c : Sh)  -- a pointer to a box of its bv
 |st (c:Sh)
 |pr (a c:Sh)
 |nl (k:Nat)
 |fn (f:Nat) (l:Sh)
 |ni
 |gn
 deriving Inhabited,DecidableEq
def OG:Sh->List Ty
 |.x t|.pt t=>[t]
 |.os t=>[.sl t]
 |.rw t=>[.sl (.sl t)]
 |.mp k v=>[.mp k v]
 |.pb _ c|.st c|.fn _ c=>OG c
 |.pr a c=>OG a++OG c
 |_=>[]
def gZ:List Sh->List Ty
 |[]=>[]
 |a::r=>OG a++gZ r
@[reducible] def vH:Wy->Type
 |[]=>Empty
 |(r,o)::w=>GJ r o w
where GJ:List Sh->List Sh->Wy->Type
 |r,o,[]=>qx (gZ r++gZ o)
 |r,o,(r',o')::w=>qx (gZ r++gZ o)⊕GJ r' o' w
def PM{β:Type}(k:List Sh->List Sh->List V->Option β):(r o:List Sh)->(w:Wy)->vH.GJ r o w->Option β
 |r,o,[],z=>k r o (oY (gZ r++gZ o) z)
 |r,o,(r',o')::w,z=>match z with|.inl z=>k r o (oY (gZ r++gZ o) z)|.inr z=>PM k r' o' w z
def RJ{β:Type}(k:List Sh->List Sh->List V->Option β):(w:Wy)->vH w->Option β
 |[],z=>nomatch z
 |(r,o)::w,z=>PM k r o w z
structure lB where
 ps:List (Bool×Sh)
 al:Wy
 ro:Bool
 ke:List Bool
 fn:qx (gZ (ps.map (·.2)))->Option (vH al)
abbrev EF:=List (Nat×lB)
def oP(h:H2):Sh->V->Option (List V×List Nat)
 |.x t,v=>match kN h v with|some (w,l)=>(match tQ t w with|some y=>some ([.x t y],l)|none=>none)|none=>none
 |.pt t,.pt u v=>match gN u t v with|some y=>some ([.x t y],[])|none=>none
 |.pt t,.op id u []=>(match fO h id with
  |some (.bx w c)=>bif decide (w=u)&&iD h c then(match kN h c with|some (c,l)=>(match tQ t c with|some y=>some ([.x t y],id::l)|none=>none)|none=>none)else none
  |some (.ib w v)=>bif decide (w=u)then(match gN w t v with|some y=>some ([.x t y],[id])|none=>none)else none
  |_=>none)
 |.pt t,.ep id n u []=>(match fO h id with
  |some (.ar w s _)|some (.im w s _)=>bif decide (w=u)then(match gN w t (gt s.l n)with|some y=>some ([.x t y],[id])|none=>none)else none
  |_=>none)
 |.nl k,.nl k'=>bif k==k' then some ([],[])else none
 |.fn f c,.fn _ f' l=>bif f==f' then oP h c l else none
 |.pr a c,.co x r=>match oP h a x,oP h c r with|some (l,i),some (m,j)=>some (l++m,i++j)|_,_=>none
 |.ni,.ni=>some ([],[])
 |_,_=>none
def Qo(t:Ty){u:Ty}(v:El (.sl u)):Option (List V×List Nat):=match(v:Sl (El u))with|.nil=>some ([.x (.sl t) Sl.nil],[])|.mk _=>none
def dZ(h:H2):Sh->Bool->V->Option (List V×List Nat)
 |.os t,false,.so id=>(match fO h id with|some (.ar u s _)=>(match gN (.sl u) (.sl t) s with|some s=>some ([.x (.sl t) s],[id])|none=>none)|_=>none)
 |.os t,false,.nl 0=>some ([.x (.sl t) Sl.nil],[])
 |.rw t,false,.sr id=>(match fO h id with|some (.rw u s none)=>(match gN (.sl (.sl u)) (.sl (.sl t)) s with|some s=>some ([.x (.sl (.sl t)) s],[id])|none=>none)|_=>none)
 |.rw t,false,.nl 0=>some ([.x (.sl (.sl t)) Sl.nil],[])
 |.pb t c,false,.op id u []=>(match fO h id with|some (.bx w v)=>bif decide (w=u)&&decide (u=t)then(match dZ h c false v with|some (l,i)=>some (l,id::i)|none=>none)else none|_=>none)
 |.nl k,false,.nl k'=>bif k==k' then some ([],[])else none
 |.x t,false,v=>match tQ t v with|some y=>some ([.x t y],[])|none=>none
 |.st c,false,.rc l=>dZ h c true l
 |.st c,false,.x (.st u) v=>dZ h c true (H6 u v)
 |.pr a c,true,.co x r=>match(match a,x with|.os t,.x (.sl _) v=>Qo t v|_,_=>dZ h a false x),dZ h c true r with|some (l,i),some (m,j)=>some (l++m,i++j)|_,_=>none
 |.ni,true,.ni=>some ([],[])
 |_,_,_=>none
def qX:Sh->Bool->List V->S2->Option (V×List V×S2)
 |.x t,false,.x u v::l,s=>bif decide (u=t)&&kY t then some (.x u v,l,{s with next:=s.next+bE t})else none
 |.os t,false,.x (.sl u) v::l,s=>bif decide (u=t)&&CA t then some (.so s.next,l,kc s (.ar u v 0))else none
 |.rw t,false,.x (.sl (.sl u)) v::l,s=>bif decide (u=t)&&CA t then some (.sr s.next,l,kc s (.rw u v none))else none
 |.pb t c,false,l,s=>
  match qX c false l {s with next:=s.next+1}with
  |some (w,l,s')=>bif eF w false t then some (.op s.next t [],l,ff s' s.next (some (.bx t w)))else none
  |none=>none
 |.nl k,false,l,s=>some (.nl k,l,{s with next:=s.next+1})
 |.st c,false,l,s=>match qX c true l s with|some (w,l,s)=>some (.rc w,l,s)|none=>none
 |.pr a c,true,l,s=>match qX a false l s with|some (x,l,s)=>(match qX c true l s with|some (r,l,s)=>some (.co x r,l,s)|none=>none)|none=>none
 |.ni,true,l,s=>some (.ni,l,s)
 |_,_,_,_=>none
def IX:List Sh->List V->S2->Option (List V×List V×S2)
 |[],l,s=>some ([],l,s)
 |a::r,l,s=>match qX a false l s with|some (x,l,s)=>(match IX r l s with|some (xs,l,s)=>some (x::xs,l,s)|none=>none)|none=>none
def oQ(h:H2):List (Bool×Sh)->List V->Option (List V×List Nat×List (V×List Nat))
 |[],[]=>some ([],[],[])
 |(b,c)::r,v::vs=>
  match oQ h r vs with
  |some (m,j,q)=>
   bif b then(match dZ h c false v with|some (l,i)=>some (l++m,j,(v,i)::q)|none=>none)
   else(match oP h c v with|some (l,i)=>some (l++m,i++j,q)|none=>none)
  |none=>none
 |_,_=>none
def A9(h:H2)(f:Nat)(vs:List V):EF->Option (lB×List V×List Nat×List (V×List Nat))
 |[]=>none
 |(g,sp)::r=>bif g==f then(match oQ h sp.ps vs with|some (l,i,q)=>some (sp,l,i,q)|none=>A9 h f vs r)else A9 h f vs r
def jc:List Nat->S2->S2
 |[],s=>s
 |id::r,s=>ff (jc r s) id none
def gb{β:Type}:List Sh->List (V×List Nat)->List V->S2->(S2->Option β)->Option β
 |[],[],[],s,k=>k s
 |.nl _::r,(_,[])::q,l,s,k=>gb r q l s k
 |.gn::r,(_,i)::q,l,s,k=>gb r q l (jc i s) k
 |.os t::r,(.nl 0,[])::q,.x (.sl u) v::l,s,k=>(match gN (.sl u) (.sl t) v with|some v=>(Ad v (Sl.nil:Sl (El t))).bind fun _=>gb r q l s k|none=>none)
 |.os t::r,(.so id,_)::q,.x (.sl u) v::l,s,k=>(match fO s.heap id,gN (.sl u) (.sl t) v with
  |some (.ar w old ver),some v=>(match gN (.sl t) (.sl w) v with
   |some v=>(Ad v old).bind fun _=>gb r q l (ff s id (some (.ar w v (ver+1)))) k
   |none=>none)
  |_,_=>none)
 |.rw t::r,(.nl 0,[])::q,.x (.sl (.sl u)) v::l,s,k=>(match gN (.sl (.sl u)) (.sl (.sl t)) v with|some v=>(Ad (v:Sl (Sl (El t))) (Sl.nil:Sl (Sl (El t)))).bind fun _=>gb r q l s k|none=>none)
 |.rw t::r,(.sr id,_)::q,.x (.sl (.sl u)) v::l,s,k=>(match fO s.heap id,gN (.sl (.sl u)) (.sl (.sl t)) v with
  |some (.rw w old _),some v=>(match gN (.sl (.sl t)) (.sl (.sl w)) v with
   |some v=>(Ad (v:Sl (Sl (El w))) old).bind fun _=>gb r q l (ff s id (some (.rw w v none))) k
   |none=>none)
  |_,_=>none)
 |.pb t c::r,(.op id u [],i)::q,l,s,k=>(match fO s.heap id with
  |some _=>(match qX c false l s with
   |some (w,l,s)=>bif eF w false t&&decide (u=t)then gb r q l (ff (jc i s) id (some (.bx t w))) k else none
   |none=>none)
  |none=>none)
 |_,_,_,_,_=>none
def P4:List V->V
 |[v]=>v
 |l=>.tp (dj l)
def yF:List Nat->Bool
 |[]=>true
 |a::r=>!r.contains a&&yF r
def vM:V->Option (List V)
 |.ni=>some []
 |.co a r=>bif(x5 a==1)&&!te a then(match vM r with|some l=>some (a::l)|none=>none)else none
 |_=>none
def xM{β:Type}(tb:EF)(ro:Bool)(ke:List Bool)(f:V)(vs:List V)(s:S2)(k:V->S2->List Nat->Option β):Option β:=
 match f with
 |.fn _ fid caps=>
  match(match vM caps with|some cs=>A9 s.heap fid (vs++cs) tb|none=>none)with
  |some (sp,pay,aD,q)=>
   bif(!ro||sp.ro)&&decide (sp.ke=ke)&&yF (q.flatMap (·.2))&&(q.flatMap (·.2)).all (fun i=>!aD.contains i)then
    match vU (gZ (sp.ps.map (·.2))) pay with
    |some p=>(sp.fn p).bind fun z=>RJ (fun rs os l=>
     match(bif ro then some s else za s.heap aD s)with
     |some s0=>gb os q (l.drop (gZ rs).length) s0 fun s1=>
      (match IX rs (l.take (gZ rs).length) s1 with
      |some (xs,_,s2)=>k (P4 xs) s2 (aD++q.flatMap (·.2))
      |none=>none)
     |none=>none) sp.al z
    |none=>none
   else none
  |none=>none
 |_=>none
structure Rg where
 kn:List (Nat×Bool)
 cd:List (Nat×Nat×Bool×V)
def Qy(kn:List (Nat×Bool))(g:Nat):Option Bool:=cA kn g
def JZ(s:S2)(q:Rg)(gc:Option (Nat×Bool)):Operand->Option V
 |.tmp t=>match cA q.cd t with|some (g,b,v)=>bif decide (gc=some (g,b))||decide (Qy q.kn g=some b)then(bif iD s.heap v then some v else none)else none|none=>JY s.dT s.heap (.tmp t)
 |o=>JY s.dT s.heap o
def FG(s:S2)(q:Rg)(gc:Option (Nat×Bool)):List Operand->Option (List V)
 |[]=>some []
 |a::r=>match JZ s q gc a,FG s q gc r with|some x,some y=>some (x::y)|_,_=>none
inductive GV where
 |run
 |skip
 |Ru (g:Nat) (b:Bool) (c:Bool)
def UJ(e:List (Nat×V))(kn:List (Nat×Bool)):Option (Nat×Bool)->Option GV
 |none=>some .run
 |some (g,b)=>
  match Qy kn g with
  |some c=>some (bif c==b then .run else .skip)
  |none=>(match cA e g with
   |some (.kb c)=>some (bif c==b then .run else .skip)
   |some (.x .b c)=>some (.Ru g b c)
   |some .no=>some .skip
   |_=>none)
def KI(s:S2)(q:Rg)(gc:Option (Nat×Bool)):List Operand->Option V
 |[.tmp g,a,b]=>match Qy q.kn g,cA s.dT g with|some c,_=>JZ s q gc (bif c then a else b)|none,some (.kb c)=>JZ s q gc (bif c then a else b)|none,some (.x .b c)=>(match JZ s q (some (g,true)) a,JZ s q (some (g,false)) b with|some x,some y=>UE c x y|_,_=>none)|_,_=>none
 |[.const (.bool c),a,b]=>JZ s q gc (bif c then a else b)
 |_=>none
def F1:K->Bool
 |.pick=>true
 |_=>false
def Nu(o:OP)(s:S2)(q:Rg)(gc:Option (Nat×Bool)):Option (V×List Nat):=
 bif F1 o.o.k then(match KI s q gc o.o.args with|some v=>some (v,[])|none=>none)
 else(match FG s q gc o.o.args with|some vs=>PU o vs s.heap|none=>none)
def tY(s:S2)(d:Option Nat)(v:V):S2:=match d with|some d=>{s with dT:=(d,v)::s.dT}|none=>s
def OK(q:Rg)(d:Option Nat):Option Rg:=match d with|none=>some q|some d=>bif q.cd.any (fun e=>e.2.1==d)||q.kn.any (fun e=>e.1==d)then none else some ⟨q.kn,q.cd.filter (fun e=>!(e.1==d))⟩
abbrev J2:=List (List Nat×List Nat)
def SU{β:Type}(tb:EF)(o:OP)(s:S2)(q:Rg)(gc:Option (Nat×Bool))(k:V->S2->List Nat->Option β):Option β:=
 match Nu o s q gc with
 |some (v,l)=>k v s l
 |none=>
  match FG s q gc o.o.args with
  |some vs=>
   (match o.o.k,vs with
   |.call ro ke,f::vs=>xM tb ro ke f vs s k
   |_,vs=>part o vs s k)
  |none=>none
def Ng(dr:Option Nat)(i:Nat)(s:S2):S2:=match dr with|some b=>{s with next:=b+iV*i}|none=>s
def I_(dr:Option Nat)(i:Nat)(s:S2):Bool:=match dr with|some b=>jf s.next (b+iV*(i+1))|none=>true
def RK(d:Option Nat)(r:List OP):Bool:=
 match d with
 |some d=>r.any fun o=>match o.o.guard with|some (g,_)=>kW g d|none=>false
 |none=>false
def nc{β:Type}(tb:EF)(dr:Option Nat):List OP->Nat->S2->Rg->J2->(S2->J2->Option β)->Option β
 |[],_,s,_,tr,k=>k s tr
 |o::r,i,s0,q,tr,k=>
  let s:=Ng dr i s0
  let go:Rg->Option β:=fun q=>SU tb o s q o.o.guard fun v s1 l=>
   bif I_ dr i s1 then(match OK q o.o.dst with
    |some q=>nc tb dr r (i+1) (tY s1 o.o.dst v) q (tr++[(l,s1.wo.take (s1.wo.length-s.wo.length))]) k
    |none=>none)else none
  let no:Rg->Option β:=fun q=>match OK q o.o.dst with|some q=>nc tb dr r (i+1) (tY s o.o.dst .no) q (tr++[([],[])]) k|none=>none
  match UJ s.dT q.kn o.o.guard with
  |none=>none
  |some .run=>go q
  |some .skip=>no q
  |some (.Ru g b c)=>
   match(bif RK o.o.dst r then none else Nu o s q (some (g,b)))with
   |some (v,l)=>
    (match OK q o.o.dst,o.o.dst with
    |some q,some d=>bif kW g d then none else nc tb dr r (i+1) (tY s (some d) .gn) ⟨q.kn,(d,g,b,v)::q.cd⟩ (tr++[(l,[])]) k
    |_,_=>none)
   |none=>(match b with
    |true=>bif c then go ⟨(g,true)::q.kn,q.cd⟩else no ⟨(g,false)::q.kn,q.cd⟩
    |false=>bif c then no ⟨(g,true)::q.kn,q.cd⟩else go ⟨(g,false)::q.kn,q.cd⟩)
inductive JV where
 |x (t:Ty)
 |pt (t:Ty)
 |so (j:Nat)
 |sr (j:Nat)
 |om (j:Nat)
 |op (j:Nat) (t:Ty) (p:List Nat)
 |nl (k:Nat)
 |fn (z:Bool) (f:Nat) (l:JV)
 |rc (l:JV)
 |ni
 |co (a r:JV)
 |sm
 |gn
 deriving Inhabited
inductive JO where
 |ar (t:Ty)
 |bx (t:Ty) (c:JV)
 |mp (k v:Ty)
 |rw(t:Ty)
 deriving Inhabited
structure J where
 vs:List (Nat×JV):=[]
 gs:JV:=.sm
 os:List JO:=[]
 kl:List Nat:=[]
 deriving Inhabited
def JB:JV->List Ty
 |.x t|.pt t=>[t]
 |.fn _ _ l|.rc l=>JB l
 |.co a r=>JB a++JB r
 |_=>[]
def Pv:List (Nat×JV)->List Ty
 |[]=>[]
 |(_,a)::r=>JB a++Pv r
def UP:JO->List Ty
 |.ar t=>[.sl t]
 |.bx _ c=>JB c
 |.mp k v=>[.mp k v]
 |.rw t=>[.sl (.sl t)]
def Pw:List JO->List Ty
 |[]=>[]
 |a::r=>UP a++Pw r
def pT(j:J):List Ty:=Pv j.vs++(JB j.gs++Pw j.os)
structure Bd where
 j:Nat
 id:Option Nat
def MT:List Bd->Nat->Option Bd
 |[],_=>none
 |b::r,j=>bif b.j==j then some b else MT r j
def vD(m:List Bd)(b:Bd):Option (List Bd):=
 match MT m b.j with
 |none=>bif(match b.id with|some i=>m.all (fun c=>match c.id with|some i'=>!(i'==i)|none=>true)|none=>true)then some (b::m)else none
 |some c=>(match b.id,c.id with
  |some i,some i'=>bif i==i' then some m else none
  |_,_=>none)
def De:pV->Option (List Nat)
 |[]=>some []
 |.fd i::p=>match De p with|some l=>some (i::l)|none=>none
 |.ix _::_=>none
def dw:JV->Bool->V->List Bd->Option (List V×List Bd)
 |.x t,false,v,m=>match tQ t v with|some y=>some ([.x t y],m)|none=>none
 |.pt t,false,.pt u v,m=>match gN u t v with|some y=>some ([.x t y],m)|none=>none
 |.so j,false,.so id,m=>match vD m ⟨j,some id⟩with|some m=>some ([],m)|none=>none
 |.so j,false,.nl 0,m=>match vD m ⟨j,none⟩with|some m=>some ([],m)|none=>none
 |.so j,false,.x (.sl _) v,m=>bif Sl.fQ v then(match vD m ⟨j,none⟩with|some m=>some ([],m)|none=>none)else none
 |.sr j,false,.sr id,m=>match vD m ⟨j,some id⟩with|some m=>some ([],m)|none=>none
 |.om j,false,.om id,m=>match vD m ⟨j,some id⟩with|some m=>some ([],m)|none=>none
 |.op j t p,false,.op id u q,m=>bif decide (u=t)&&decide (De q=some p)then(match vD m ⟨j,some id⟩with|some m=>some ([],m)|none=>none)else none
 |.nl k,false,.nl k',m=>bif k==k' then some ([],m)else none
 |.fn z f l,false,.fn z' f' l',m=>bif(z==z')&&(f==f')then dw l true l' m else none
 |.rc l,false,.rc l',m=>dw l true l' m
 |.rc l,false,.x (.st t) v,m=>dw l true (H6 t v) m
 |.ni,true,.ni,m=>some ([],m)
 |.co a r,true,.co x y,m=>match dw a false x m with|some (l,m)=>(match dw r true y m with|some (l',m)=>some (l++l',m)|none=>none)|none=>none
 |_,_,_,_=>none
def Bj(s:S2):List (Nat×JV)->List Bd->Option (List V×List Bd)
 |[],m=>some ([],m)
 |(t,a)::r,m=>match JY s.dT s.heap (.tmp t)with|some v=>(match dw a false v m with|some (l,m)=>(match Bj s r m with|some (l',m)=>some (l++l',m)|none=>none)|none=>none)|none=>none
def MO(h:H2)(j:Nat)(o:JO)(m:List Bd):Option (List V×List Bd):=
 match MT m j with
 |some b=>(match o,b.id with
  |.ar t,none=>bif CA t then some ([.x (.sl t) Sl.nil],m)else none
  |.ar t,some id=>(match fO h id with|some (.ar u s _)=>(match gN (.sl u) (.sl t) s with|some s=>some ([.x (.sl t) s],m)|none=>none)|_=>none)
  |.rw t,some id=>(match fO h id with|some (.rw u s none)=>(match gN (.sl (.sl u)) (.sl (.sl t)) s with|some s=>some ([.x (.sl (.sl t)) s],m)|none=>none)|_=>none)
  |.bx t c,some id=>(match fO h id with|some (.bx u v)=>bif decide (u=t)then dw c false v m else none|_=>none)
  |.mp k v,some id=>(match fO h id with|some (.mp k' v' y)=>(match gN (.mp k' v') (.mp k v) y with|some y=>some ([.x (.mp k v) y],m)|none=>none)|_=>none)
  |_,_=>none)
 |none=>none
def Bl(h:H2):List JO->Nat->List Bd->Option (List V×List Bd)
 |[],_,m=>some ([],m)
 |o::r,j,m=>match MO h j o m with|some (l,m)=>(match Bl h r (j+1) m with|some (l',m)=>some (l++l',m)|none=>none)|none=>none
def rQ:V->V->Bool
 |.so i,.so j=>i==j
 |.sr i,.sr j=>i==j
 |.op i t [],.op j u []=>(i==j)&&decide (t=u)
 |.nl k,.nl l=>k==l
 |.gn,.gn=>true
 |_,_=>false
def yg:V->V->Bool
 |.ni,.ni=>true
 |.co a r,.co x y=>rQ a x&&yg r y
 |_,_=>false
def pU(h:H2):JV->V->V->List Bd->Option (List V×List Bd)
 |.sm,g0,g,m=>bif yg g0 g then some ([],m)else none
 |.ni,.ni,.ni,m=>some ([],m)
 |.co a r,.co x0 y0,.co x y,m=>match a with|.sm=>bif rQ x0 x then pU h r y0 y m else none|.gn=>pU h r y0 y m|a=>bif iD h x then(match dw a false x m with|some (l,m)=>(match pU h r y0 y m with|some (l',m)=>some (l++l',m)|none=>none)|none=>none)else none
 |_,_,_,_=>none
def Al:List (Nat×JV)->S2->S2
 |[],s=>s
 |(t,.so _)::r,s=>(match cA s.dT t with
  |some (.sb id ver _ u x)=>(match fO s.heap id with
   |some (.ar _ _ v)=>bif kY u&&v==ver then Al r ⟨(t,.so s.next)::s.dT,(s.next,some (.ar u x 0))::(id,none)::s.heap,s.next+1,s.next::id::s.wo,s.gh⟩else Al r s
   |_=>Al r s)
  |_=>Al r s)
 |_::r,s=>Al r s
def Bn(j:J)(s0:S2)(s:S2):Option (List V):=
 match Bj s j.vs []with
 |some (l1,m)=>match pU s.heap j.gs s0.gh s.gh m with
  |some (l2,m)=>(match Bl s.heap j.os 0 m with
   |some (l3,m)=>bif s.wo.all (fun i=>jf s0.next i||j.kl.contains i)&&m.all (fun b=>nu b.j j.os.length&&(match b.id with|some i=>jf s0.next i||j.kl.contains i|none=>true))then some (l1++(l2++l3))else none
   |none=>none)
  |none=>none
 |none=>none
def xw(j:J)(s0:S2)(s:S2):Option (List V):=match Al j.vs s with|⟨e,h,n,w,g⟩=>Bn j s0 ⟨e,h,n,w,g⟩
def iU(b:Nat):JV->Bool->List V->V->Option (V×List V)
 |.x t,false,.x u v::l,_=>bif decide (u=t)&&kY u then some (.x u v,l)else none
 |.pt t,false,.x u v::l,_=>bif decide (u=t)&&kY u then some (.pt u v,l)else none
 |.so j,false,l,_=>some (.so (b+j),l)
 |.sr j,false,l,_=>some (.sr (b+j),l)
 |.om j,false,l,_=>some (.om (b+j),l)
 |.op j t p,false,l,_=>some (.op (b+j) t (p.map .fd),l)
 |.nl k,false,l,_=>some (.nl k,l)
 |.fn z f c,false,l,_=>match iU b c true l .ni with|some (w,l)=>some (.fn z f w,l)|none=>none
 |.rc c,false,l,_=>match iU b c true l .ni with|some (w,l)=>some (.rc w,l)|none=>none
 |.ni,true,l,_=>some (.ni,l)
 |.co a r,true,l,.co x y=>match iU b a false l x with|some (v,l)=>(match iU b r true l y with|some (w,l)=>some (.co v w,l)|none=>none)|none=>none
 |.co a r,true,l,_=>match iU b a false l .gn with|some (v,l)=>(match iU b r true l .ni with|some (w,l)=>some (.co v w,l)|none=>none)|none=>none
 |.sm,_,l,v=>some (v,l)
 |.gn,false,l,_=>some (.gn,l)
 |_,_,_,_=>none
def G3(b:Nat):List (Nat×JV)->List V->Option (List (Nat×V)×List V)
 |[],l=>some ([],l)
 |(t,a)::r,l=>match iU b a false l .gn with|some (v,l)=>(match G3 b r l with|some (e,l)=>some ((t,v)::e,l)|none=>none)|none=>none
def Fm(b:Nat):JO->List V->Option (O×List V)
 |.ar t,.x (.sl u) v::l=>bif decide (u=t)then some (.ar u v 0,l)else none
 |.rw t,.x (.sl (.sl u)) v::l=>bif decide (u=t)&&CA t then some (.rw u v none,l)else none
 |.bx t c,l=>match iU b c false l .gn with|some (w,l)=>bif eF w false t then some (.bx t w,l)else none|none=>none
 |.mp k v,.x (.mp k' v') m::l=>bif decide (k'=k)&&decide (v'=v)then some (.mp k' v' m,l)else none
 |_,_=>none
def C1(b:Nat):List JO->Nat->List V->Option (H2×List V)
 |[],_,l=>some ([],l)
 |o::r,j,l=>match Fm b o l with|some (o,l)=>(match C1 b r (j+1) l with|some (h,l)=>some ((b+j,some o)::h,l)|none=>none)|none=>none
def uz(j:J)(ds:List Nat)(s0:S2)(l:List V):Option S2:=
 match G3 s0.next j.vs l with
 |some (e,l)=>(match iU s0.next j.gs true l s0.gh with
  |some (g,l)=>(match C1 s0.next j.os 0 l with
   |some (h,_)=>some ⟨e++ds.map (fun t=>(t,V.gn))++s0.dT,h++j.kl.map (fun i=>(i,none))++s0.heap,s0.next+j.os.length,h.map (·.1)++j.kl++s0.wo,g⟩
   |none=>none)
  |none=>none)
 |none=>none
@[reducible] def EG:Ex->Type
 |[]=>Empty
 |(_,j)::r=>M5 j r
where M5:J->Ex->Type
 |j,[]=>qx (pT j)
 |j,(_,j')::r=>qx (pT j)⊕M5 j' r
def LL(s0:S2)(o:rZ)(s:S2):(o':rZ)->(j:J)->(r:Ex)->Option (EG.M5 j r)
 |o',j,[]=>bif decide (o=o')then(match xw j s0 s with|some l=>vU (pT j) l|none=>none)else none
 |o',j,(o2,j2)::r=>bif decide (o=o')then(match xw j s0 s with|some l=>(match vU (pT j) l with|some p=>some (.inl p)|none=>none)|none=>none)
  else(match LL s0 o s o2 j2 r with|some x=>some (.inr x)|none=>none)
def I9(s0:S2)(o:rZ)(s:S2):(e:Ex)->Option (EG e)
 |[]=>none
 |(o',j)::r=>LL s0 o s o' j r
def P_{β:Type}(ds:List Nat)(s0:S2)(k:rZ->S2->Option β):(o:rZ)->(j:J)->(r:Ex)->EG.M5 j r->Option β
 |o,j,[],p=>match uz j ds s0 (oY (pT j) p)with|some s=>k o s|none=>none
 |o,j,(o2,j2)::r,x=>match x with|.inl p=>(match uz j ds s0 (oY (pT j) p)with|some s=>k o s|none=>none)|.inr y=>P_ ds s0 k o2 j2 r y
def KK{β:Type}(ds:List Nat)(s0:S2)(k:rZ->S2->Option β):(e:Ex)->EG e->Option β
 |[],x=>nomatch x
 |(o,j)::r,x=>P_ ds s0 k o j r x
inductive C2 where
 |skip
 |NS (ops:List OP) (dr:Option (List (Nat×Nat))) (jn:Option J)
 |seq (a b:C2) (e:Ex)
 |cond (c:Operand) (a b:C2)
 |block (id:Nat) (a:C2)
 |loop (j:J) (e:Ex) (a:C2)
 |exit (id:Nat)
 |ret
 |gu
 deriving Inhabited
def mP:C2->List Nat
 |.NS ops _ _=>ops.filterMap (·.o.dst)
 |.seq a b _|.cond _ a b=>mP a++mP b
 |.block _ a|.loop _ _ a=>mP a
 |_=>[]
def LH:K->Bool
 |.lookup _ _ _ _ _=>true
 |_=>false
def O_(ops:List OP)(tr:J2)(i j:Nat):Bool:=
 match ops[i]?,tr[i]?with
 |some o,some ([id],[])=>LH o.o.k&&((tr.take j).drop (i+1)).all (fun x=>!x.2.contains id)
 |_,_=>false
def QR(ops:List OP)(tr:J2)(dyn:List (Nat×Nat)):Bool:=
 dyn.all fun p=>bif jf 1000 p.2 then(match tr[p.1]?,tr[p.2-1000]?with|some a,some b=>me a b||O_ ops tr p.1 (p.2-1000)|_,_=>true)
  else(match tr[p.1]?,tr[p.2]?with|some a,some b=>me a b|_,_=>true)
def Rk(s:S2)(id:Nat):Option S2:=
 match fO s.heap id with
 |some (.rw t v (some (m,id2)))=>(match fO s.heap id2 with
  |some (.ar u r _)=>(match gN (.sl u) (.sl t) r with
   |some r=>some (ff (ff s id2 none) id (some (.rw t (.mk (v.l.set m r)) none)))
   |none=>none)
  |_=>none)
 |_=>some s
def Cu:List Nat->S2->Option S2
 |[],s=>some s
 |id::r,s=>match Rk s id with|some s=>Cu r s|none=>none
def Rl(s s':S2):Option S2:=Cu (s'.wo.take (s'.wo.length-s.wo.length)) s'
def HE{β:Type}(tb:EF)(ops:List OP)(dr:Option (List (Nat×Nat)))(s:S2)(k:S2->Option β):Option β:=match dr with|none=>nc tb none ops 0 s ⟨[],[]⟩ [] fun s' _=>(Rl s s').bind k|some dyn=>nc tb (some s.next) ops 0 s ⟨[],[]⟩ [] fun s' tr=>bif QR ops tr dyn then(Rl s {s' with next:=s.next+iV*ops.length}).bind k else none
def xr{β:Type}(tb:EF):C2->S2->(rZ->S2->Option β)->Option β
 |.skip,s,k=>k .normal s
 |.NS ops dr none,s,k=>HE tb ops dr s fun s=>k .normal s
 |.NS ops dr (some j),s,k=>(HE tb ops dr {s with wo:=[]} fun s'=>match xw j s s' with|some l=>vU (pT j) l|none=>none).bind fun p=>match uz j (ops.filterMap (·.o.dst)) s (oY (pT j) p)with|some s=>k .normal s|none=>none
 |.seq a b [],s,k=>xr tb a s fun o s=>match o with|.normal=>xr tb b s k|o=>k o s
 |.seq a b (e::r),s,k=>(xr tb a {s with wo:=[]} fun o s'=>I9 s o s' (e::r)).bind fun x=>KK (mP a) s (fun o s=>match o with|.normal=>xr tb b s k|o=>k o s) (e::r) x
 |.cond c a b,s,k=>(match JY s.dT s.heap c with
  |some (.kb t)=>bif t then xr tb a s k else xr tb b s k
  |some (.x .b t)=>bif t then xr tb a s k else xr tb b s k
  |_=>none)
 |.block id a,s,k=>xr tb a s fun o s=>match o with|.exit i=>k (bif i==id then .normal else .exit i) s|o=>k o s
 |.loop j e a,s,k=>
  bif e.all (fun x=>j.kl.all fun i=>x.2.kl.contains i)then(match xw j s {s with wo:=[]}with
  |some l=>(match vU (pT j) l with
   |some p0=>(bD (fun p=>match uz j (mP a) s (oY (pT j) p)with
     |some s1=>xr tb a {s1 with wo:=[]} fun o s'=>(match o with
      |.normal=>(match xw j s s' with|some l=>(match vU (pT j) l with|some q=>some (Sum.inl q)|none=>none)|none=>none)
      |o=>(match I9 s o s' e with|some x=>some (Sum.inr x)|none=>none))
     |none=>none) p0).bind fun x=>KK (mP a) s k e x
   |none=>none)
  |none=>none)else none
 |.exit id,s,k=>k (.exit id) s
 |.ret,s,k=>k .ret s
 |.gu,_,_=>none
def eN(P:Program):Nat->TypeId->Ty
 |0,_=>.o 9
 |n+1,t=>match P.underlying t with|some (.int k)=>.i k|some .bool=>.b|some .string=>.s|some (.float k)=>.f k|some (.slice e)=>.sl (eN P n e)|some (.map k v)=>.mp (eN P n k) (eN P n v)|some (.struct fs)=>.st (SE (fs.toList.map fun f=>eN P n f.type))|some (.array m e)=>.ar m (eN P n e)|some (.pointer _)=>.o 1|some (.func ..)=>.o 2|_=>.o 4
where SE:List Ty->Ty
 |[]=>.un
 |[t]=>t
 |t::r=>.pr t (SE r)
def Jv:Nat:=12
def QO(P:Program)(t:TypeId):Ty:=match P.underlying t with|some (.slice e)=>eN P Jv e|some (.array _ e)=>eN P Jv e|_=>.o 9
def Po(P:Program):Op->Ty×List Nat
 |.alloc e=>(eN P Jv e,[])
 |.box t _=>(eN P Jv t,[])
 |.build t parts=>(eN P Jv t,parts.toList.map (·.1))
 |.buildSlice t _ parts=>(QO P t,parts.toList.map (·.1))
 |.fieldAddr _ _ f=>(.o 9,[f])
 |.field _ _ f=>(.o 9,[f])
 |.makeSlice t _ _=>(QO P t,[])
 |.makeMap t _=>(eN P Jv t,[])
 |.call c=>(match c.callee,c.argTypes.toList with|.builtin _,t::_=>QO P t|_,_=>.o 9,[])
 |_=>(.o 9,[])
def Qg(P:Program)(de:As)(nt:Nat)(all:Array Oper)(o:Oper):OP:=⟨gE P de nt all o,(Po P o.op).1,(Po P o.op).2⟩
structure An where
 j:Option J:=none
 e:Ex:=[]
 deriving Inhabited
def pI(P:Program)(de:As)(nt:Nat)(an:List (Nat×An)):Code->Nat->C2×Nat
 |.skip,n=>(.skip,n)
 |.region _ ops draw,n=>
  (if draw then(if yB (M1 ops.toList []) ops.toList 0&&yf (M1 ops.toList []) (ops.toList.map (gE P de nt ops)) 0&&decide (ops.toList.length<=1000)
   then .NS (ops.toList.map (Qg P de nt ops)) (some (sU (M1 ops.toList []) (ops.toList.map (gE P de nt ops)) 0)) ((cA an n).bind (·.j))else .gu)
   else .NS (ops.toList.map (Qg P de nt ops)) none ((cA an n).bind (·.j)),n+1)
 |.seq a b,n=>
  let x:=pI P de nt an a (n+1);let y:=pI P de nt an b x.2
  (.seq x.1 y.1 (match cA an n with|some w=>w.e|none=>[]),y.2)
 |.cond c a b,n=>let x:=pI P de nt an a n;let y:=pI P de nt an b x.2;(.cond c x.1 y.1,y.2)
 |.block id a,n=>let x:=pI P de nt an a n;(.block id x.1,x.2)
 |.loop a,n=>
  let x:=pI P de nt an a (n+1)
  (match cA an n with|some ⟨some j,e⟩=>.loop j e x.1|_=>.gu,x.2)
 |.scope a,n=>pI P de nt an a n
 |.label _,n=>(.skip,n)
 |.exit id,n=>(.exit id,n)
 |.ret,n=>(.ret,n)
 |_,n=>(.gu,n)
structure F2 where
 np:Nat
 kJ:List RV
 body:C2
def Bi(P:Program)(de:As)(f np:Nat)(an:List (Nat×An)):Option F2:=
 match P.funcs[f]?with
 |none=>none
 |some g=>
  match g.body with
  |none=>none
  |some code=>
   if(g.name== "runtime.NumGoroutine")=false/\np<=g.ntmps/\g.ntmps<1000000000 then
    match AG P g.results.toList with|some kJ=>some ⟨np,kJ,(pI P de g.ntmps an code 0).1⟩|none=>none
   else none
def CH:Sh->List V->Option (V×List V)
 |.ni,l=>some (.ni,l)
 |.pr (.pt t) c,.x u v::l=>bif decide (u=t)&&kY t then(match CH c l with|some (w,l)=>some (.co (.pt u v) w,l)|none=>none)else none
 |_,_=>none
def sT:List (Bool×Sh)->Nat->List V->S2->Option (List (Nat×V)×S2)
 |[],_,[],s=>some ([],s)
 |(false,.x t)::r,i,.x u v::l,s=>bif decide (u=t)&&kY t then(match sT r (i+1) l s with|some (e,s)=>some ((i,.x u v)::e,s)|none=>none)else none
 |(false,.pt t)::r,i,.x u v::l,s=>bif decide (u=t)&&kY t then(match sT r (i+1) l s with|some (e,s)=>some ((i,.pt u v)::e,s)|none=>none)else none
 |(false,.nl k)::r,i,l,s=>(match sT r (i+1) l s with|some (e,s)=>some ((i,.nl k)::e,s)|none=>none)
 |(false,.fn f c)::r,i,l,s=>(match CH c l with|some (w,l)=>(match sT r (i+1) l s with|some (e,s)=>some ((i,.fn true f w)::e,s)|none=>none)|none=>none)
 |(true,c)::r,i,l,s=>(match qX c false l s with
  |some (w,l,s)=>(match sT r (i+1) l s with|some (e,s)=>some ((i,w)::e,{s with gh:=.co w s.gh})|none=>none)
  |none=>none)
 |_,_,_,_=>none
def QN(ps:List (Bool×Sh))(l:List V):Option S2:=
 match sT ps 0 l ⟨[],[],0,[],.ni⟩with
 |some (e,s)=>some {s with dT:=e}
 |none=>none
def NP(s:S2):RV->Option V
 |.tmp t=>JY s.dT s.heap (.tmp t)
 |.cell t g n=>match JY s.dT s.heap (.tmp t)with|some p=>(match yM s.heap p with|some (w,_)=>bif Gy s.heap g n w then some w else none|none=>none)|none=>none
def NQ(h:H2):Sh->V->Option (List V×List Nat)
 |.x t,v=>match kN h v with|some (w,l)=>(match tQ t w with|some y=>some ([.x t y],l)|none=>none)|none=>none
 |.os t,.sb id _ _ u r=>(match fO h id with|some (.ar _ _ _)=>(match gN (.sl u) (.sl t) r with|some s=>some ([.x (.sl t) s],[id])|none=>none)|_=>none)
 |c,v=>dZ h c false v
def TY(h:H2):Sh->V->Option (List V×List Nat)
 |.gn,_=>some ([],[])
 |c,v=>bif iD h v then dZ h c false v else none
def AJ(h:H2):List Sh->List V->Option (List V×List Nat)
 |[],[]=>some ([],[])
 |c::r,v::vs=>match NQ h c v,AJ h r vs with|some (l,i),some (m,j)=>some (l++m,i++j)|_,_=>none
 |_,_=>none
def AI(h:H2):List Sh->List V->Option (List V×List Nat)
 |[],[]=>some ([],[])
 |c::r,v::vs=>match TY h c v,AI h r vs with|some (l,i),some (m,j)=>some (l++m,i++j)|_,_=>none
 |_,_=>none
def Od{α β:Type}(f:α->Option β):List α->Option (List β)
 |[]=>some []
 |a::r=>match f a,Od f r with|some x,some y=>some (x::y)|_,_=>none
def Jj(kJ:List RV)(rs os:List Sh)(s:S2):Option (List V):=
 match Od (NP s) kJ with
 |some vs=>match AJ s.heap rs vs,AI s.heap os (AA s.gh)with|some (l,i),some (m,j)=>bif yF (i++j)then some (l++m)else none|_,_=>none
 |none=>none
def Jk(kJ:List RV)(s:S2):(r o:List Sh)->(w:Wy)->Option (vH.GJ r o w)
 |r,o,[]=>match Jj kJ r o s with|some l=>vU (gZ r++gZ o) l|none=>none
 |r,o,(r',o')::w=>match Jj kJ r o s with|some l=>(match vU (gZ r++gZ o) l with|some z=>some (.inl z)|none=>none)|none=>(match Jk kJ s r' o' w with|some z=>some (.inr z)|none=>none)
def Ow(kJ:List RV)(s:S2):(w:Wy)->Option (vH w)
 |[]=>none
 |(r,o)::w=>Jk kJ s r o w
def Sp(tb:EF)(F:Option F2)(ps:List (Bool×Sh))(al:Wy)(p:qx (gZ (ps.map (·.2)))):Option (vH al):=
 match F with
 |some F=>
  match QN ps (oY _ p)with
  |some s=>xr tb F.body s fun o s=>match o with|.exit _=>none|_=>Ow F.kJ s al
  |none=>none
 |none=>none
theorem bJ:∀(t:Ty)(v:El t),(aT t v).length=bE t:=by intro t;induction t with|pr a c iha ihc=>intro v;simp[aT,bE,iha,ihc]|st t ih=>intro v;simp[aT,bE,ih]|ar n t ih=>intro v;rw[aT,gT ih,v.2];rfl|_=>intro v;rfl
theorem ze{α β:Type}[Inhabited α]{f:α->List β}{n:Nat}(h:∀a,(f a).length=n):∀(l:List α)(k:Nat),k<l.length->((l.flatMap f).drop (k*n)).take n=f (gt l k):=by
 intro l;induction l with
 |nil=>intro k hk;simp at hk
 |cons a l ih=>
  intro k hk;cases k with
  |zero=>simp[gt,h]
  |succ k=>
   have e:(k+1)*n=(f a).length+k*n:=by rw[h,bP];omega
   rw[bi,e,<-dv,eA (au _),fJ,bk,ih k (by simpa using hk)];rfl
theorem Ma{α β:Type}{f:α->List β}{n:Nat}(h:∀a,(f a).length=n):∀(l:List α)(k:Nat)(x:α),k<l.length->(l.set k x).flatMap f=aV (l.flatMap f) (k*n) (f x):=by
 intro l;induction l with
 |nil=>intro k x hk;simp at hk
 |cons a l ih=>
  intro k x hk;cases k with
  |zero=>
   simp only[List.set_cons_zero,bi,aV,Nat.zero_mul,List.take_zero,bk,Nat.zero_add,h];have:(f a++l.flatMap f).drop n=l.flatMap f:=by rw[<-h a,eA (au _),fJ,bk]
   rw[this]
  |succ k=>
   have e:(k+1)*n=(f a).length+k*n:=by rw[h,bP];omega
   simp only[List.set_cons_succ,bi,aV,e,List.take_length_add_append,cP];rw[<-dv,eA (au _),fJ,bk,ih k x (by simpa using hk)];simp[aV]
theorem du{t u:Ty}{v:El t}{y:El u}(h:gN t u v=some y):∃e:t=u,y=e▸v:=by
 unfold gN at h;split at h
 .rename_i e;exact⟨e,(aa h).symm⟩
 .simp at h
theorem wJ{t u:Ty}{v:El t}{y:El u}(h:gN t u v=some y):aT u y=aT t v/\t=u:=by obtain⟨rfl,rfl⟩:=du h;exact⟨rfl,rfl⟩
theorem qM:∀(t:Ty)(v:El t)(i:Nat)(w:V),Ai t v i=some w->∃u y,w=.x u y/\CB t i=some u/\oX t i+bE u<=bE t/\((aT t v).drop (oX t i)).take (bE u)=aT u y:=by
 intro t;induction t with
 |pr a c iha ihc=>intro v i w h;cases i with|zero=>obtain rfl:=aa h;refine⟨a,v.1,rfl,rfl,by simp[oX,bE],?_⟩;simp[oX,aT,bJ]|succ i=>obtain⟨u,y,rfl,h1,h2,h3⟩:=ihc v.2 i w h;refine⟨u,y,rfl,h1,by simp only[oX,bE];omega,?_⟩;simp only[oX,aT];rw[<-dv,<-bJ a v.1,eA (au _),fJ,bk,h3]
 |_=>intro v i w h;cases i with|zero=>obtain rfl:=aa h;exact⟨_,v,rfl,rfl,by simp[oX],by simp[oX,dm,bJ]⟩|succ i=>simp[Ai]at h
theorem QD:∀(t:Ty)(i:Nat)(u:Ty),CB t i=some u->oX t i+bE u<=bE t:=by
 intro t;induction t with
 |pr a c iha ihc=>intro i u h;cases i with|zero=>obtain rfl:=aa h;simp[oX,bE]|succ i=>have:=ihc i u h;simp only[oX,bE];omega
 |_=>intro i u h;cases i with|zero=>obtain rfl:=aa h;simp[oX]|succ i=>simp[CB]at h
theorem tn{α:Type}{a b p:List α}{off:Nat}:aV (a++b) (a.length+off) p=a++aV b off p:=by simp only[aV,List.take_length_add_append,cP,aL];rw[<-dv,eA (au _),fJ,bk]
theorem tj{α:Type}{a b p:List α}{off:Nat}(h:off+p.length<=a.length):aV (a++b) off p=aV a off p++b:=by simp only[aV,aL];rw[List.take_append_of_le_length (by omega),eA h]
theorem mF{α:Type}{b p:List α}(h:p.length=b.length):aV b 0 p=p:=by simp[aV,h]
theorem uv{α:Type}{b p:List α}{off:Nat}(h:off+p.length<=b.length):(aV b off p).length=b.length:=by simp only[aV,av,List.length_take,List.length_drop];omega
theorem ut{α β:Type}{f:α->β}{b p:List α}{off:Nat}:(aV b off p).map f=aV (b.map f) off (p.map f):=by simp[aV]
theorem qi{α:Type}{b c p:List α}{o1 o2 n:Nat}(hc:(b.drop o1).take n=c)(h1:o1+n<=b.length)(h2:o2+p.length<=n):aV b o1 (aV c o2 p)=aV b (o1+o2) p:=by
 have hcl:c.length=n:=by rw[<-hc];simp;omega
 have e:b=b.take o1++(c++b.drop (o1+n)):=by rw[<-hc,<-dv,jg,jg]
 have hl:(b.take o1).length=o1:=by simp;omega
 have hs:(aV c o2 p).length=n:=by rw[uv (by omega),hcl]
 have r2:aV b (o1+o2) p=b.take o1++(aV c o2 p++b.drop (o1+n)):=by
  conv=>lhs;rw[e]
  have:=tn (a:=b.take o1) (b:=c++b.drop (o1+n)) (p:=p) (off:=o2);rw[hl]at this;rw[this,tj (by omega)]
 rw[r2];show b.take o1++aV c o2 p++b.drop (o1+(aV c o2 p).length)=_;rw[hs,aL]
theorem Jw:∀(t:Ty)(l r:List Value)(x:El t),uL t l=some (x,r)->l.all ed=true->∃p,l=p++r/\(aT t x)=p.map D.lit:=by
 intro t;induction t with
 |pr a c iha ihc=>
  intro l r x h hp;simp only[uL]at h;split at h
  .rename_i y l1 h1;split at h
   .rename_i z l2 h2;obtain⟨rfl,rfl⟩:=ad (aa h);obtain⟨p,rfl,e1⟩:=iha _ _ _ h1 hp;obtain⟨q,rfl,e2⟩:=ihc _ _ _ h2 (by rw[List.all_append,ai]at hp;exact hp.2);exact⟨p++q,by simp,by simp[aT,e1,e2]⟩
   .simp at h
  .simp at h
 |st t ih=>intro l r x h hp;exact ih l r x h hp
 |ar n t ih=>
  intro l r x h hp;simp only[uL]at h
  have key:∀(m:Nat)(l r:List Value)(x:Arr m (El t)),OC (uL t) m l=some (x,r)->l.all ed=true->∃p,l=p++r/\x.1.flatMap (aT t)=p.map D.lit:=by
   intro m;induction m with
   |zero=>intro l r x h hp;obtain⟨rfl,rfl⟩:=ad (aa h);exact⟨[],rfl,rfl⟩
   |succ m ihn=>
    intro l r x h hp;simp only[OC]at h;split at h
    .rename_i y l1 h1;split at h
     .rename_i v l2 h2;obtain⟨rfl,rfl⟩:=ad (aa h);obtain⟨p,rfl,e1⟩:=ih _ _ _ h1 hp;obtain⟨q,rfl,e2⟩:=ihn _ _ _ h2 (by rw[List.all_append,ai]at hp;exact hp.2);exact⟨p++q,by simp,by simp[bi,e1,e2]⟩
     .simp at h
    .simp at h
  exact key n l r x h hp
 |i k=>
  intro l r x h hp;simp only[uL]at h;unfold Sy at h;split at h
  .split at h
   .rename_i e;subst e;obtain⟨rfl,rfl⟩:=ad (aa h);exact⟨[_],rfl,rfl⟩
   .simp at h
  .simp at h
 |b=>
  intro l r x h hp;simp only[uL]at h;unfold Sz at h;split at h
  .obtain ⟨rfl,rfl⟩:=ad (aa h);exact⟨[_],rfl,rfl⟩
  .simp at h
 |s=>
  intro l r x h hp;simp only[uL]at h;unfold Sv at h;split at h
  .obtain ⟨rfl,rfl⟩:=ad (aa h);exact⟨[_],rfl,rfl⟩
  .simp at h
 |f k=>
  intro l r x h hp;simp only[uL]at h;unfold Pr at h;split at h
  .split at h
   .rename_i e;subst e;obtain⟨rfl,rfl⟩:=ad (aa h);exact⟨[_],rfl,rfl⟩
   .simp at h
  .simp at h
 |sl t ih=>
  intro l r x h hp;simp only[uL]at h;unfold Sx at h;split at h
  .obtain ⟨rfl,rfl⟩:=ad (aa h);exact⟨[_],rfl,rfl⟩
  .simp at h
 |_=>intro l r x h hp;simp[uL]at h
def GH(h:H2)(id ver:Nat):Bool:=match fO h id with|some (.ar _ _ v)|some (.im _ _ v)=>v==ver|_=>false
def Qz(id:Nat)(c:C):Prop:=∀i∈eQ c,i=id
def fC(h:H2):V->List C->Prop
 |.x t v,cs=>kY t=true/\cs=(aT t v).map .d
 |.kb c,cs=>cs=[.d (.lit (.bool c))]
 |.nl k,cs=>cs=[Dz k]
 |.so id,cs=>∃c,cs=[c]/\(∀c',AD id (fO h id)=some c'->c=c')/\Qz id c
 |.sr id,cs=>∃c,cs=[c]/\(∀c',E5 id (fO h id)=some c'->c=c')/\Qz id c
 |.sb id ver lo t r,cs=>∃c,cs=[c]/\(GH h id ver=true->c=zW id lo t r)/\Qz id c
 |.op id t p,cs=>cs=[.op id (mQ t p)]
 |.ep id n t p,cs=>cs=[.ep id n (mQ t p)]
 |.pt t v,cs=>kY t=true/\cs=[.d (.pt (aT t v))]
 |.fn true f l,cs=>∃ds,qw l=some ds/\cs=[.d (.fn f ds)]
 |.fn false f l,cs=>∃xs,fC h l xs/\cs=[.oU f xs]
 |.om id,cs=>cs=[.om id]
 |.rc l,cs=>fC h l cs
 |.fl l,cs=>l.all ed=true/\cs=fB l
 |.ni,cs=>cs=[]
 |.co a r,cs=>∃x y,cs=x++y/\fC h a x/\fC h r y
 |.tp _,_|.no,_|.gn,_=>False
def sx(h:H2)(v:V)(x:TV):Prop:=∃cs,fC h v cs/\(te v=true->x=.agg cs)/\(te v=false->∃c,cs=[c]/\x=.c c)
def BA(h:H2):V->List TV->Prop
 |.ni,xs=>xs=[]
 |.co a r,xs=>∃x ys,xs=x::ys/\sx h a x/\BA h r ys
 |_,_=>False
def gy(h:H2):V->TV->Prop
 |.tp l,x=>∃xs,x=.iS xs/\BA h l xs
 |.no,x=>x=.iS []
 |.gn,_=>False
 |v,x=>sx h v x
def UN(t u:Ty)(s:Sl (El t))(lo:Nat)(r:Sl (El u)):Prop:=bE t=bE u/\match s,r with|.nil,.nil=>True|.mk l,.mk m=>lo+m.length<=l.length/\((l.map (aT t)).drop lo).take m.length=m.map (aT u)|_,_=>False
def ft(n:Nat)(h:H2):V->Prop
 |.so id|.sr id|.om id=>id<n
 |.sb id ver lo t r=>id<n/\∀u s v,(fO h id=some (.ar u s v)\/fO h id=some (.im u s v))->ver<=v/\(v=ver->UN u t s lo r)
 |.op id t p=>id<n/\IP t p
 |.ep id m t p=>id<n/\IP t p/\(∀u s v,(fO h id=some (.ar u s v)\/fO h id=some (.im u s v))->m<s.l.length)/\∀u s v,fO h id=some (.rw u s v)->m<s.l.length
 |.fn _ _ l|.rc l|.tp l=>ft n h l
 |.co a r=>ft n h a/\ft n h r
 |_=>True
def yD(h:H2):O->Option Ob->Prop
 |.ar t s _,b=>kY t=true/\0<bE t/\(∀l,s=.mk l->b=some (.aM (bE t) (l.map (aT t))))
 |.im t s _,b=>kY t=true/\0<bE t/\(∀l,s=.mk l->b=some (.qK (bE t) (l.map (aT t))))
 |.bx t c,b=>∃cs,b=some (.box cs)/\fC h c cs/\eF c false t=true
 |.ib t v,b=>kY t=true/\b=some (.o8 (aT t v))
 |.mp k v m,b=>kY v=true/\(∃ks,DW k=some ks)/\b=EM (nv k) (nv v) (fun x=>(aT k x).map fun|.lit y=>y|_=>.nilFunc) (aT v) m
 |.rw t s ln,b=>kY t=true/\0<bE t/\(∀l,(s:Sl (Sl (El t)))=.mk l->b=some (.nst (bE t) (fT t l ln)))
def He(n:Nat)(h:H2):O->Prop
 |.bx _ c=>ft n h c
 |.rw _ s (some (m,id))=>m<s.l.length/\id<n/\∀u r v,(fO h id=some (.ar u r v)\/fO h id=some (.im u r v))->r.fQ=(gt s.l m).fQ/\r.l.length=(gt s.l m).l.length
 |_=>True
structure HR(n:Nat)(h1:bH)(h2:H2):Prop where
 ob:∀id o,fO h2 id=some o->id<n/\yD h2 o (aC h1 id)/\He n h2 o
abbrev Ni(t:Ty)(s:Sl (El t)):(t:Ty)×Sl (El t):=⟨t,s⟩
abbrev U4(t:Ty)(s:El t):(t:Ty)×El t:=⟨t,s⟩
def O4(t u:Ty)(s:Sl (El t))(s':Sl (El u))(v v':Nat):Prop:=v<=v'/\t=u/\s.fQ=s'.fQ/\s.l.length=s'.l.length/\(v=v'->Ni t s=Ni u s')
def vK:O->O->Prop
 |.ar t s v,.ar u s' v'|.ar t s v,.im u s' v'=>O4 t u s s' v v'
 |.im t s v,.im u s' v'=>v=v'/\Ni t s=Ni u s'
 |.bx t _,.bx u _=>t=u
 |.bx _ _,.ib _ _=>True
 |.ib t v,.ib u w=>U4 t v=U4 u w
 |.mp _ _ _,.mp _ _ _=>True
 |.rw t s _,.rw u s' _=>t=u/\s.fQ=s'.fQ/\s.l.length=s'.l.length
 |_,_=>False
structure k7(n:Nat)(h h':H2):Prop where
 ob:∀id o',id<n->fO h' id=some o'->(∃o,fO h id=some o/\vK o o')\/ud o'=true
theorem BJ{sz id:Nat}{α:Type}{e:α->List D}{s:Sl α}:Qz id (mU sz e id s):=by intro i hi;cases s with|nil=>simp[mU,eQ]at hi|mk l=>simpa[mU,eQ]using hi
theorem Ku{id lo:Nat}{t:Ty}{s:Sl (El t)}:Qz id (zW id lo t s):=by intro i hi;cases s with|nil=>simp[zW,eQ]at hi|mk l=>simpa[zW,eQ]using hi
section
variable{n n':Nat}{h h':H2}
theorem Fb{t:Ty}{s s':Sl (El t)}{id:Nat}(h1:s.fQ=s'.fQ)(h2:s.l.length=s'.l.length):mU (bE t) (aT t) id s=mU (bE t) (aT t) id s':=by cases s<;>cases s'<;>simp_all[Sl.fQ,mU]
theorem Km(hs:k7 n h h'){id:Nat}(hi:id<n){c:C}(hc:AD id (fO h' id)=some c):AD id (fO h id)=some c:=by
 cases ho:fO h' id with
 |none=>rw[ho]at hc;simp[AD]at hc
 |some o'=>
  rw[ho]at hc;obtain⟨o,h1,h2⟩:=(hs.ob id o' hi ho).resolve_right fun e=>by cases o'<;>simp[ud]at e<;>simp[AD]at hc
  rw[h1];cases o'<;>simp only[AD]at hc<;>first|cases hc;done|skip
  all_goals(cases o<;>simp only[vK]at h2<;>first|exact h2.elim|skip)
  .obtain ⟨_,rfl,h3,h4,_⟩:=h2;rw[<-hc];simp only[AD];rw[Fb h3 h4]
  .obtain ⟨_,rfl,h3,h4,_⟩:=h2;rw[<-hc];simp only[AD];rw[Fb h3 h4]
  .obtain ⟨_,h3⟩:=h2;obtain⟨rfl,h3⟩:=jw h3;cases h3;rw[<-hc];rfl
  all_goals simp at hc
theorem Ki(hs:k7 n h h'){id:Nat}(hi:id<n){c:C}(hc:E5 id (fO h' id)=some c):E5 id (fO h id)=some c:=by
 cases ho:fO h' id with
 |none=>rw[ho]at hc;simp[E5]at hc
 |some o'=>
  rw[ho]at hc;obtain⟨o,h1,h2⟩:=(hs.ob id o' hi ho).resolve_right fun e=>by cases o'<;>simp[ud]at e<;>simp[E5]at hc
  rw[h1];cases o'<;>simp only[E5]at hc<;>first|cases hc;done|skip
  all_goals(cases o<;>simp only[vK]at h2<;>first|exact h2.elim|skip)
  .obtain ⟨rfl,h3,h4⟩:=h2;rw[<-hc];simp only[E5];exact congrArg some (Fb (t:=.sl _) h3 h4)
  all_goals simp at hc
theorem G1(hs:k7 n h h'){id:Nat}(hi:id<n){u:Ty}{s:Sl (Sl (El u))}{ln:Option (Nat×Nat)}(ho:fO h' id=some (.rw u s ln)):∃s0 ln0,fO h id=some (.rw u s0 ln0)/\s0.fQ=s.fQ/\s0.l.length=s.l.length:=by
 obtain⟨o,h1,h2⟩:=(hs.ob id _ hi ho).resolve_right fun e=>by simp[ud]at e
 cases o<;>simp only[vK]at h2<;>first|exact h2.elim|skip
 obtain⟨rfl,h3,h4⟩:=h2;exact⟨_,_,h1,h3,h4⟩
theorem Kq(hs:k7 n h h'){id:Nat}(hi:id<n){u:Ty}{s:Sl (El u)}{v:Nat}(ho:fO h' id=some (.ar u s v)\/fO h' id=some (.im u s v)):
  ∃s0 v0,(fO h id=some (.ar u s0 v0)\/fO h id=some (.im u s0 v0))/\s0.fQ=s.fQ/\s0.l.length=s.l.length:=by
 rcases ho with ho|ho
 all_goals
  obtain⟨o,h1,h2⟩:=(hs.ob id _ hi ho).resolve_right fun e=>by simp[ud]at e
  cases o<;>simp only[vK]at h2<;>first|exact h2.elim|skip
 .obtain ⟨_,rfl,h3,h4,_⟩:=h2;exact⟨_,_,.inl h1,h3,h4⟩
 .obtain ⟨_,rfl,h3,h4,_⟩:=h2;exact⟨_,_,.inl h1,h3,h4⟩
 .obtain ⟨rfl,h3⟩:=h2;obtain⟨rfl,h3⟩:=jw h3;cases h3;exact⟨_,_,.inr h1,rfl,rfl⟩
theorem tq(hs:k7 n h h'){id:Nat}(hi:id<n){u:Ty}{s:Sl (El u)}{v:Nat}(ho:fO h' id=some (.ar u s v)\/fO h' id=some (.im u s v)):
  ∃s0 v0,(fO h id=some (.ar u s0 v0)\/fO h id=some (.im u s0 v0))/\v0<=v/\s0.l.length=s.l.length/\(v0=v->s0=s):=by
 rcases ho with ho|ho
 all_goals
  obtain⟨o,h1,h2⟩:=(hs.ob id _ hi ho).resolve_right fun e=>by simp[ud]at e
  cases o<;>simp only[vK]at h2<;>first|exact h2.elim|skip
 .obtain ⟨h3,rfl,_,h4,h5⟩:=h2;exact⟨_,_,.inl h1,h3,h4,fun e=>by have:=h5 e;simpa using this⟩
 .obtain ⟨h3,rfl,_,h4,h5⟩:=h2;exact⟨_,_,.inl h1,h3,h4,fun e=>by have:=h5 e;simpa using this⟩
 .obtain ⟨rfl,h3⟩:=h2;obtain⟨rfl,h3⟩:=jw h3;cases h3;exact⟨_,_,.inr h1,au _,rfl,fun _=>rfl⟩
theorem n_{id ver:Nat}(ha:GH h id ver=true):∃u s,fO h id=some (.ar u s ver)\/fO h id=some (.im u s ver):=by
 unfold GH at ha;split at ha
 .rename_i u s v ho;obtain rfl:v=ver:=by simpa using ha
  exact⟨u,s,.inl ho⟩
 .rename_i u s v ho;obtain rfl:v=ver:=by simpa using ha
  exact⟨u,s,.inr ho⟩
 .simp at ha
theorem gS(hn:n<=n')(hs:k7 n h h'):∀{v:V},ft n h v->ft n' h' v:=by
 intro v;induction v with
 |so id=>intro hv;simp only[ft]at hv|-;omega
 |sr id=>intro hv;simp only[ft]at hv|-;omega
 |om id=>intro hv;simp only[ft]at hv|-;omega
 |sb id ver lo t r=>
  rintro⟨h1,h2⟩;refine⟨by omega,fun u s v ho=>?_⟩;obtain⟨s0,v0,h3,h4,h5,h6⟩:=tq hs h1 ho;obtain⟨h7,h8⟩:=h2 u s0 v0 h3;refine⟨by omega,fun e=>?_⟩;have e2:v0=ver:=by omega
  have:=h6 (by omega);subst this;exact h8 e2
 |op id t p=>rintro⟨h1,h2⟩;exact⟨by omega,h2⟩
 |ep id m t p=>
  rintro⟨h1,h2,h3,h6⟩;refine⟨by omega,h2,fun u s v ho=>?_,fun u s v ho=>?_⟩
  .obtain ⟨s0,v0,h4,_,h5,_⟩:=tq hs h1 ho;have:=h3 u s0 v0 h4;omega
  .obtain ⟨s0,v0,h4,_,h5⟩:=G1 hs h1 ho;have:=h6 u s0 v0 h4;omega
 |fn z f l ih=>intro hv;exact ih hv
 |rc l ih=>intro hv;exact ih hv
 |tp l ih=>intro hv;exact ih hv
 |co a r iha ihr=>rintro⟨h1,h2⟩;exact⟨iha h1,ihr h2⟩
 |_=>intro _;trivial
theorem lH(hs:k7 n h h'):∀{v:V}{cs:List C},ft n h v->fC h v cs->fC h' v cs:=by
 intro v;induction v with
 |so id=>rintro cs hi ⟨c,rfl,hc,hid⟩;exact⟨c,rfl,fun c' hc'=>hc c' (Km hs hi hc'),hid⟩
 |sr id=>rintro cs hi ⟨c,rfl,hc,hid⟩;exact⟨c,rfl,fun c' hc'=>hc c' (Ki hs hi hc'),hid⟩
 |sb id ver lo t r=>
  rintro cs ⟨hi,h2⟩ ⟨c,rfl,hc,hid⟩;refine⟨c,rfl,fun ha=>hc ?_,hid⟩;obtain⟨u,s,ho⟩:=n_ ha;obtain⟨s0,v0,h3,h4,_,_⟩:=tq hs hi ho;obtain⟨h7,_⟩:=h2 u s0 v0 h3;have:v0=ver:=by omega
  subst this;unfold GH;rcases h3 with h3|h3<;>rw[h3]<;>simp
 |fn z f l ih=>intro cs hv hc;cases z with|true=>exact hc|false=>obtain⟨xs,h1,h2⟩:=hc;exact⟨xs,ih hv h1,h2⟩
 |rc l ih=>intro cs hv hc;exact ih hv hc
 |co a r iha ihr=>rintro cs ⟨h1,h2⟩ ⟨x,y,rfl,h3,h4⟩;exact⟨x,y,rfl,iha h1 h3,ihr h2 h4⟩
 |_=>intro cs _ hc;exact hc
theorem vT(hs:k7 n h h'){v:V}{x:TV}(hv:ft n h v)(hx:sx h v x):sx h' v x:=by obtain⟨cs,h1,h2⟩:=hx;exact⟨cs,lH hs hv h1,h2⟩
theorem H3(hs:k7 n h h'):∀{v:V}{xs:List TV},ft n h v->BA h v xs->BA h' v xs:=by intro v;induction v with|co a r iha ihr=>rintro xs ⟨h1,h2⟩ ⟨x,ys,rfl,h3,h4⟩;exact⟨x,ys,rfl,vT hs h1 h3,ihr h2 h4⟩|ni=>intro xs _ h;exact h|_=>intro xs _ h;exact h.elim
theorem uU(hs:k7 n h h'){v:V}{x:TV}(hv:ft n h v)(hx:gy h v x):gy h' v x:=by cases v with|tp l=>obtain⟨xs,h1,h2⟩:=hx;exact⟨xs,h1,H3 hs hv h2⟩|no=>exact hx|gn=>exact hx|_=>exact vT hs hv hx
theorem sI(hs:k7 n h h'){o:O}{b:Option Ob}(ho:He n h o)(hb:yD h o b):yD h' o b:=by cases o with|bx t c=>obtain⟨cs,h1,h2,h3⟩:=hb;exact⟨cs,h1,lH hs ho h2,h3⟩|_=>exact hb
theorem sH(hn:n<=n')(hs:k7 n h h'){o:O}(ho:He n h o):He n' h' o:=by
 cases o with
 |bx t c=>exact gS hn hs ho
 |rw t s ln=>cases ln with|none=>trivial|some q=>obtain⟨m,id⟩:=q;obtain⟨h1,h2,h3⟩:=ho;refine⟨h1,Nat.lt_of_lt_of_le h2 hn,fun u r v hu=>?_⟩;obtain⟨s0,v0,h4,h5,h6⟩:=Kq hs h2 hu;obtain⟨h7,h8⟩:=h3 u s0 v0 h4;exact⟨h5▸h7,h6▸h8⟩
 |_=>trivial
end
theorem iB{h:H2}:∀{v:V}{cs:List C},fC h v cs->cs.length=x5 v:=by
 intro v;induction v with
 |x t v=>rintro cs ⟨_,rfl⟩;simp[x5,bJ]
 |so id=>rintro cs ⟨c,rfl,_⟩;rfl
 |sr id=>rintro cs ⟨c,rfl,_⟩;rfl
 |sb id ver lo t r=>rintro cs ⟨c,rfl,_⟩;rfl
 |pt t v=>rintro cs ⟨_,rfl⟩;rfl
 |fn z f l ih=>intro cs hc;cases z with|true=>obtain⟨ds,_,rfl⟩:=hc;rfl|false=>obtain⟨ds,_,rfl⟩:=hc;rfl
 |rc l ih=>intro cs hc;exact ih hc
 |fl l=>rintro cs ⟨_,rfl⟩;simp[fB,x5]
 |ni=>rintro cs rfl;rfl
 |co a r iha ihr=>rintro cs ⟨x,y,rfl,h1,h2⟩;simp[x5,iha h1,ihr h2]
 |tp l=>intro cs hc;exact hc.elim
 |no=>intro cs hc;exact hc.elim
 |gn=>intro cs hc;exact hc.elim
 |_=>rintro cs rfl;rfl
theorem gV:∀(v:V)(ln:Bool)(t:Ty),eF v ln t=true->x5 v=bE t:=by
 intro v;induction v with
 |rc l ih=>
  intro ln t hf;cases ln with
  |true=>cases t<;>simp[eF]at hf
  |false=>cases t with|st t=>exact ih true t hf|_=>simp[eF]at hf
 |co a r iha ihr=>
  intro ln t hf;cases ln with
  |false=>simp[eF]at hf
  |true=>
   cases t with
   |pr t u=>simp only[eF,ai]at hf;simp[x5,bE,iha _ _ hf.1,ihr _ _ hf.2]
   |_=>cases r with|ni=>have hf':eF a false _=true:=hf;simp[x5,iha _ _ hf']|_=>simp[eF]at hf
 |x u v=>intro ln t hf;cases ln with|false=>simp only[eF,decide_eq_true_eq]at hf;subst hf;rfl|true=>cases t<;>simp[eF]at hf
 |nl k=>intro ln t hf;cases ln<;>cases t<;>first|rfl|(simp[eF]at hf;done)|skip
 |_=>intro ln t hf;cases ln<;>cases t<;>first|rfl|(simp[eF]at hf;done)
section
variable{h:H2}
theorem pJ{v:V}{u:Ty}{y:El u}{cs:List C}(hc:ij u v=some y)(hv:fC h v cs):cs=(aT u y).map .d:=by
 cases v with
 |x t v=>obtain⟨rfl,rfl⟩:=du hc;exact hv.2
 |kb c=>obtain⟨rfl,rfl⟩:=du (t:=.b) hc;exact hv
 |nl k=>
  cases k with
  |zero=>
   cases u<;>simp only[ij]at hc<;>first|cases hc;done|skip
   obtain rfl:=aa hc;exact hv
  |succ k=>simp[ij]at hc
 |fl l=>
  obtain⟨h1,rfl⟩:=hv;simp only[ij]at hc;cases ha:nv u
  .rw [ha]at hc;simp at hc
  rw[ha,cond_true]at hc;split at hc
  .rename_i x hx;obtain rfl:=aa hc;obtain⟨p,rfl,e⟩:=Jw u _ _ _ hx h1;rw[e];simp[fB]
  .simp at hc
 |_=>simp[ij]at hc
theorem jI:∀(v:V)(ln:Bool)(u:Ty)(y:El u)(cs:List C),kS v ln u=some y->fC h v cs->cs=(aT u y).map .d:=by
 intro v;induction v with
 |rc l ih=>
  intro ln u y cs hc hv;cases ln with
  |true=>cases u<;>simp[kS]at hc
  |false=>cases u with|st u=>exact ih true u y cs hc hv|_=>simp[kS,ij]at hc
 |co a r iha ihr=>
  intro ln u y cs hc hv;obtain⟨x1,x2,rfl,h1,h2⟩:=hv;cases ln with
  |false=>cases u<;>simp[kS,ij]at hc
  |true=>
   cases u with
   |pr t u=>
    simp only[kS]at hc;split at hc
    .rename_i p q hp hq;obtain rfl:=aa hc;rw[iha _ _ _ _ hp h1,ihr _ _ _ _ hq h2];simp[aT]
    .simp at hc
   |_=>cases r with|ni=>have hc':kS a false _=some y:=hc;obtain rfl:x2=[]:=h2;rw[bB];exact iha _ _ _ _ hc' h1|_=>simp[kS]at hc
 |_=>
  intro ln u y cs hc hv;cases ln with
  |true=>cases u<;>simp[kS]at hc
  |false=>first|exact pJ hc hv|(simp[kS]at hc)
theorem Er{v:V}{u:Ty}{y:El u}(hc:ij u v=some y):te v=nv u:=by
 cases v with
 |x t v=>obtain⟨rfl,_⟩:=du hc;rfl
 |kb c=>obtain⟨rfl,_⟩:=du (t:=.b) hc;rfl
 |nl k=>
  cases k with
  |zero=>cases u<;>simp only[ij]at hc<;>first|rfl|cases hc
  |succ k=>simp[ij]at hc
 |fl l=>
  simp only[ij]at hc;cases ha:nv u
  .rw [ha]at hc;simp at hc
  .rfl
 |_=>simp[ij]at hc
theorem wG{v:V}{u:Ty}{y:El u}(hc:tQ u v=some y):te v=nv u:=by
 cases v with
 |rc l=>cases u with|st u=>rfl|_=>simp[tQ,kS,ij]at hc
 |co a r=>cases u<;>simp[tQ,kS,ij]at hc
 |ni=>cases u<;>simp[tQ,kS]at hc
 |_=>exact Er hc
theorem AR:∀(l:V)(t:Ty)(i:Nat)(w:V)(cs:List C),eF l true t=true->fC h l cs->r_ l i=some w->
  ∃u cw,CB t i=some u/\eF w false u=true/\fC h w cw/\oX t i+bE u<=cs.length/\(cs.drop (oX t i)).take (bE u)=cw:=by
 intro l;induction l with
 |co a r iha ihr=>
  intro t i w cs hf hv hw;obtain⟨x,y,rfl,h1,h2⟩:=hv;have one:∀t,eF a false t=true->r=.ni->CB t 0=some t->oX t 0=0->i=0->∃u cw,CB t i=some u/\eF w false u=true/\fC h w cw/\oX t i+bE u<=(x++y).length/\((x++y).drop (oX t i)).take (bE u)=cw:=by intro t hf hr h3 h4 hi;subst hi;obtain rfl:=aa hw;have hs:=gV _ _ _ hf;have hl:=iB h1;refine⟨t,x,h3,hf,h1,by rw[h4];simp;omega,?_⟩;rw[h4,cT,<-hs,<-hl,List.take_left]
  cases t with
  |pr t u=>simp only[eF,ai]at hf;have hs:=gV _ _ _ hf.1;have hl:=iB h1;cases i with|zero=>obtain rfl:=aa hw;refine⟨t,x,rfl,hf.1,h1,by simp[oX];omega,?_⟩;simp only[oX,cT];rw[<-hs,<-hl,List.take_left]|succ i=>obtain⟨u',cw,q1,q2,q3,q4,q5⟩:=ihr u i w y hf.2 h2 hw;refine⟨u',cw,q1,q2,q3,by simp only[oX,av];omega,?_⟩;simp only[oX];rw[<-dv,<-hs,<-hl,List.drop_left,q5]
  |_=>
   cases r with
   |ni=>have hf':eF a false _=true:=hf;cases i with|zero=>exact one _ hf' rfl rfl rfl rfl|succ i=>simp[r_]at hw
   |_=>simp[eF]at hf
 |_=>intro t i w cs hf hv hw;simp[r_]at hw
theorem AK:∀(l:V)(t:Ty)(i:Nat)(w:V)(cs cw:List C)(u:Ty),eF l true t=true->fC h l cs->CB t i=some u->fC h w cw->cw.length=bE u->(∃w0,r_ l i=some w0)->fC h (KD l i w) (aV cs (oX t i) cw):=by
 intro l;induction l with
 |co a r iha ihr=>
  intro t i w cs cw u hf hv hu hw hlen hn;obtain⟨x,y,rfl,h1,h2⟩:=hv;cases t with
  |pr t u'=>simp only[eF,ai]at hf;have hs:=gV _ _ _ hf.1;have hl:=iB h1;cases i with|zero=>obtain rfl:=aa hu;refine⟨cw,y,?_,hw,h2⟩;simp only[oX];rw[tj (by omega),mF (by omega)]|succ i=>have:=ihr u' i w y cw u hf.2 h2 hu hw hlen hn;refine⟨x,_,?_,h1,this⟩;simp only[oX];rw[<-hs,<-hl,tn]
  |_=>
   cases r with
   |ni=>cases i with|zero=>obtain rfl:=aa hu;have hf':eF a false _=true:=hf;have hs:=gV _ _ _ hf';have hl:=iB h1;obtain rfl:y=[]:=h2;refine⟨cw,[],?_,hw,rfl⟩;simp only[oX,bB];rw[mF (by omega)]|succ i=>obtain⟨w0,hn⟩:=hn;simp[r_]at hn
   |_=>simp[eF]at hf
 |_=>intro t i w cs cw u hf hv hu hw hlen hn;obtain⟨w0,hn⟩:=hn;simp[r_]at hn
theorem BD:∀(t:Ty)(v:El t),kY t=true->fC h (H6 t v) ((aT t v).map .d):=by intro t;induction t with|pr a c iha ihc=>intro v hd;simp only[kY,ai]at hd;exact⟨(aT a v.1).map .d,(aT c v.2).map .d,by simp[aT],⟨hd.1,rfl⟩,ihc v.2 hd.2⟩|_=>intro v hd;exact⟨_,[],(bB _).symm,⟨hd,rfl⟩,rfl⟩
theorem Nw:∀(t:Ty)(v:El t),eF (H6 t v) true t=true:=by intro t;induction t with|pr a c iha ihc=>intro v;simp[H6,eF,ihc]|_=>intro v;simp[H6,eF]
theorem Nv:∀(t:Ty)(v:El t)(i:Nat)(w:V),Ai t v i=some w->r_ (H6 t v) i=some w:=by
 intro t;induction t with
 |pr a c iha ihc=>intro v i w hw;cases i with|zero=>exact hw|succ i=>exact ihc v.2 i w hw
 |_=>intro v i w hw;cases i with|zero=>exact hw|succ i=>simp[Ai]at hw
theorem zp:∀(t:Ty)(i:Nat)(u:Ty),kY t=true->CB t i=some u->kY u=true:=by
 intro t;induction t with
 |pr a c iha ihc=>intro i u hd hu;simp only[kY,ai]at hd;cases i with|zero=>obtain rfl:=aa hu;exact hd.1|succ i=>exact ihc i u hd.2 hu
 |_=>intro i u hd hu;cases i with|zero=>obtain rfl:=aa hu;exact hd|succ i=>simp[CB]at hu
theorem wg:∀(p:pV)(t u:Ty),qW t p=some u->IP t p->mQ t p+bE u<=bE t:=by
 intro p;induction p with
 |nil=>
  intro t u hu _;have e2:qW t []=some t:=by cases t<;>rfl
  have e:mQ t []=0:=by cases t<;>rfl
  obtain rfl:t=u:=by rw[e2]at hu;exact aa hu
  omega
 |cons q p ih=>
  intro t u hu hp;cases q with
  |fd i=>cases t with|st t=>obtain⟨a,ha,hp⟩:=hp;simp only[qW,ha]at hu;have:=ih a u hu hp;have:=QD t i a ha;simp only[mQ,ha,bE];omega|_=>exact hp.elim
  |ix k=>cases t with|ar n t=>obtain⟨hk,hp⟩:=hp;have:=ih t u hu hp;have h2:(k+1)*bE t<=n*bE t:=aI _ hk;rw[bP]at h2;simp only[mQ,bE];omega|_=>exact hp.elim
theorem wx:∀(p:pV)(c:V)(t:Ty)(w:V)(cs:List C),eF c false t=true->fC h c cs->IP t p->pE c p=some w->
  ∃u cw,qW t p=some u/\eF w false u=true/\fC h w cw/\mQ t p+bE u<=cs.length/\(cs.drop (mQ t p)).take (bE u)=cw:=by
 intro p;induction p with
 |nil=>
  intro c t w cs hf hv _ hw;obtain rfl:c=w:=by simpa[pE]using hw
  have hs:=gV _ _ _ hf;have hl:=iB hv;refine⟨t,cs,by cases t<;>rfl,hf,hv,?_,?_⟩
  .cases t<;>simp[mQ]<;>omega
  .have e:mQ t []=0:=by cases t<;>rfl
   rw[e,cT,dm (by omega)]
 |cons q p ih=>
  intro c t w cs hf hv hp hw
  have sub:∀(o n:Nat)(c2:V)(u:Ty)(c3:List C),eF c2 false u=true->fC h c2 c3->(cs.drop o).take (bE u)=c3->o+bE u<=cs.length->IP u p->pE c2 p=some w->qW t (q::p)=qW u p->mQ t (q::p)=o+mQ u p->
    ∃u cw,qW t (q::p)=some u/\eF w false u=true/\fC h w cw/\mQ t (q::p)+bE u<=cs.length/\(cs.drop (mQ t (q::p))).take (bE u)=cw:=by
   intro o n c2 u c3 hf2 hv2 h3 h4 h5 h6 h7 h8;obtain⟨u',cw,q1,q2,q3,q4,q5⟩:=ih c2 u w c3 hf2 hv2 h5 h6;have hl:=iB hv2;rw[gV _ _ _ hf2]at hl;refine⟨u',cw,h7.trans q1,q2,q3,by rw[h8];omega,?_⟩;rw[h8,<-q5,<-h3,<-dv];rw[List.drop_take,List.take_take];congr 1;omega
  cases q with
  |fd i=>
   cases t with
   |st t=>
    obtain⟨u,hu,hp⟩:=hp;have e7:qW (.st t) (.fd i::p)=qW u p:=by simp only[qW,hu]
    have e8:mQ (.st t) (.fd i::p)=oX t i+mQ u p:=by simp only[mQ,hu]
    cases c with
    |x t' v=>
     simp only[eF,decide_eq_true_eq]at hf;subst hf;obtain⟨hd,rfl⟩:=hv;simp only[pE]at hw;split at hw
     .rename_i y hy;obtain⟨u',y',rfl,h1,h2,h3⟩:=qM _ _ _ _ hy;obtain rfl:u=u':=by rw[hu]at h1;exact aa h1
      refine sub (oX t i) 0 (.x u y') u ((aT u y').map .d) (by simp[eF]) ⟨zp t _ _ hd hu,rfl⟩ ?_ ?_ hp hw e7 e8
      .rw [<-h3,hZ,gz];rfl
      .simp [bJ,bE];exact h2
     .simp at hw
    |rc l=>
     simp only[pE]at hw;split at hw
     .rename_i y hy;obtain⟨u',cw,q1,q2,q3,q4,q5⟩:=AR l t i y cs hf hv hy;obtain rfl:u=u':=by rw[hu]at q1;exact aa q1
      exact sub (oX t i) 0 y u cw q2 q3 q5 q4 hp hw e7 e8
     .simp at hw
    |_=>simp[pE]at hw
   |_=>exact hp.elim
  |ix k=>
   cases t with
   |ar n t=>
    obtain⟨hk,hp⟩:=hp;cases c with
    |x t' v=>
     simp only[eF,decide_eq_true_eq]at hf;subst hf;obtain⟨hd,rfl⟩:=hv;simp only[pE]at hw;have hk':k<v.1.length:=by rw[v.2];exact hk
     have hg:=ze (bJ t) v.1 k hk';refine sub (k*bE t) 0 (.x t (gt v.1 k)) t ((aT t (gt v.1 k)).map .d) (by simp[eF]) ⟨hd,rfl⟩ ?_ ?_ hp hw rfl rfl
     .rw [<-hg,hZ,gz];rfl
     .simp only[aN,bJ,bE];have:(k+1)*bE t<=n*bE t:=aI _ hk;rw[bP]at this;omega
    |_=>simp[pE]at hw
   |_=>exact hp.elim
theorem Ij:∀(t:Ty)(v:El t)(i:Nat)(w:V)(v':El t),Ik t v i w=some v'->∃u z,CB t i=some u/\ij u w=some z/\aT t v'=aV (aT t v) (oX t i) (aT u z):=by
 intro t;induction t with
 |pr a c iha ihc=>
  intro v i w v' hs;cases i with
  |zero=>
   simp only[Ik]at hs;split at hs
   .rename_i y hy;obtain rfl:=aa hs;refine⟨a,y,rfl,hy,?_⟩;simp only[aT,oX];rw[tj (by simp[bJ]),mF (by simp[bJ])]
   .simp at hs
  |succ i=>
   simp only[Ik]at hs;split at hs
   .rename_i y hy;obtain rfl:=aa hs;obtain⟨u,z,h1,h2,h3⟩:=ihc _ _ _ _ hy;refine⟨u,z,h1,h2,?_⟩;simp only[aT,oX,h3];have:=tn (a:=aT a v.1) (b:=aT c v.2) (off:=oX c i) (p:=aT u z);rw[bJ]at this;rw[this]
   .simp at hs
 |_=>intro v i w v' hs;cases i with|zero=>have hs':ij _ w=some v':=hs;exact⟨_,v',rfl,hs',by simp only[oX];rw[mF (by simp[bJ])]⟩|succ i=>simp[Ik]at hs
theorem vX:∀(p:pV)(c:V)(t:Ty)(w c':V)(cs cw:List C)(u:Ty),eF c false t=true->fC h c cs->IP t p->oF c p w=some c'->qW t p=some u->fC h w cw->cw.length=bE u->
  fC h c' (aV cs (mQ t p) cw):=by
 intro p;induction p with
 |nil=>
  intro c t w c' cs cw u hf hv _ hs hu hw hlen;obtain rfl:w=c':=by simpa[oF]using hs
  have e:mQ t []=0:=by cases t<;>rfl
  have e2:qW t []=some t:=by cases t<;>rfl
  obtain rfl:t=u:=by rw[e2]at hu;exact aa hu
  have:=iB hv;rw[gV _ _ _ hf]at this;rw[e,mF (by omega)];exact hw
 |cons q p ih=>
  intro c t w c' cs cw u hf hv hp hs hu hw hlen;cases q with
  |fd i=>
   cases t with
   |st t=>
    obtain⟨a,ha,hp⟩:=hp;have hu':qW a p=some u:=by simpa only[qW,ha]using hu
    have e8:mQ (.st t) (.fd i::p)=oX t i+mQ a p:=by simp only[mQ,ha]
    cases c with
    |x t' v=>
     simp only[eF,decide_eq_true_eq]at hf;subst hf;obtain⟨hd,rfl⟩:=hv;simp only[oF]at hs;split at hs
     .rename_i y hy;split at hs
      .rename_i y1 hy1;obtain⟨a',z,rfl,h1,h2,h3⟩:=qM _ _ _ _ hy;obtain rfl:a=a':=by rw[ha]at h1;exact aa h1
       have hz:fC h (.x a z) ((aT a z).map .d):=⟨zp t _ _ hd ha,rfl⟩
       have h4:=ih (.x a z) a w y1 ((aT a z).map .d) cw u (by simp[eF]) hz hp hy1 hu' hw hlen;have hle:mQ a p+cw.length<=bE a:=by have:=wg p a u hu' hp;omega
       have h5:((aT (.st t) v).map C.d|>.drop (oX t i)).take (bE a)=(aT a z).map .d:=by rw[<-h3,hZ,gz];rfl
       have h6:aV ((aT (.st t) v).map C.d) (oX t i+mQ a p) cw=aV ((aT (.st t) v).map C.d) (oX t i) (aV ((aT a z).map .d) (mQ a p) cw):=(qi h5 (by simp[bJ,bE];exact h2) hle).symm;rw[e8,h6];split at hs
       .rename_i v' hv';obtain rfl:=aa hs;obtain⟨a2,z2,k1,k2,k3⟩:=Ij _ _ _ _ _ hv';obtain rfl:a=a2:=by rw[ha]at k1;exact aa k1
        refine⟨hd,?_⟩;have:=pJ k2 h4;rw[this];show _=(aT t v').map C.d;rw[k3,ut];rfl
       .obtain rfl:=aa hs;refine AK (H6 t v) t i y1 _ _ a (Nw t v) (BD t v hd) ha h4 ?_ ⟨_,Nv t v i _ hy⟩;rw[uv (by simp[bJ];exact hle)];simp[bJ]
      .simp at hs
     .simp at hs
    |rc l=>
     simp only[oF]at hs;split at hs
     .rename_i y hy;split at hs
      .rename_i y1 hy1;obtain rfl:=aa hs;obtain⟨a',cw2,q1,q2,q3,q4,q5⟩:=AR l t i y cs hf hv hy;obtain rfl:a=a':=by rw[ha]at q1;exact aa q1
       have h4:=ih y a w y1 cw2 cw u q2 q3 hp hy1 hu' hw hlen;have hl:=iB q3;rw[gV _ _ _ q2]at hl;have hle:mQ a p+cw.length<=bE a:=by have:=wg p a u hu' hp;omega
       rw[e8,<-qi q5 q4 hle];exact AK l t i y1 cs _ a hf hv ha h4 (by rw[uv (by omega),hl]) ⟨_,hy⟩
      .simp at hs
     .simp at hs
    |_=>simp[oF]at hs
   |_=>exact hp.elim
  |ix k=>
   cases t with
   |ar n t=>
    obtain⟨hk,hp⟩:=hp;have hu':qW t p=some u:=hu;cases c with
    |x t' v=>
     simp only[eF,decide_eq_true_eq]at hf;subst hf;obtain⟨hd,rfl⟩:=hv;simp only[oF]at hs;split at hs
     .rename_i y1 hy1;split at hs
      .rename_i z hz;obtain rfl:=aa hs;have hk':k<v.1.length:=by rw[v.2];exact hk
       have hg:=ze (bJ t) v.1 k hk';have h4:=ih (.x t (gt v.1 k)) t w y1 ((aT t (gt v.1 k)).map .d) cw u (by simp[eF]) ⟨hd,rfl⟩ hp hy1 hu' hw hlen;have h7:=pJ hz h4;have hle:mQ t p+cw.length<=bE t:=by have:=wg p t u hu' hp;omega
       have h5:((aT (.ar n t) v).map C.d|>.drop (k*bE t)).take (bE t)=(aT t (gt v.1 k)).map .d:=by rw[<-hg,hZ,gz];rfl
       have h8:k*bE t+bE t<=((aT (.ar n t) v).map C.d).length:=by simp only[aN,bJ,bE];have:(k+1)*bE t<=n*bE t:=aI _ hk;rw[bP]at this;omega
       refine⟨hd,?_⟩;show aV _ (k*bE t+mQ t p) cw=_;rw[<-qi h5 h8 hle,h7,<-ut];show _=((v.1.set k z).flatMap (aT t)).map C.d;rw[Ma (bJ t) v.1 k z hk'];rfl
      .simp at hs
     .simp at hs
    |_=>simp[oF]at hs
   |_=>exact hp.elim
theorem xG{n:Nat}:∀(l:V)(i:Nat)(w:V),ft n h l->r_ l i=some w->ft n h w:=by
 intro l;induction l with
 |co a r iha ihr=>intro i w hk hw;cases i with|zero=>obtain rfl:=aa hw;exact hk.1|succ i=>exact ihr i w hk.2 hw
 |_=>intro i w hk hw;simp[r_]at hw
theorem G5{n:Nat}:∀(l:V)(i:Nat)(w:V),ft n h l->ft n h w->ft n h (KD l i w):=by
 intro l;induction l with
 |co a r iha ihr=>intro i w hk hw;cases i with|zero=>exact⟨hw,hk.2⟩|succ i=>exact⟨hk.1,ihr i w hk.2 hw⟩
 |_=>intro i w hk hw;exact hk
theorem Hx{n:Nat}{t:Ty}{v:El t}{i:Nat}{w:V}(hw:Ai t v i=some w):ft n h w:=by obtain⟨u,y,rfl,_⟩:=qM _ _ _ _ hw;trivial
theorem EX{n:Nat}:∀(t:Ty)(v:El t),ft n h (H6 t v):=by intro t;induction t with|pr a c iha ihc=>intro v;exact⟨trivial,ihc v.2⟩|_=>intro v;exact⟨trivial,trivial⟩
theorem B8{n:Nat}:∀(p:pV)(c w:V),ft n h c->pE c p=some w->ft n h w:=by
 intro p;induction p with
 |nil=>intro c w hk hw;obtain rfl:c=w:=by simpa[pE]using hw
       exact hk
 |cons q p ih=>
  intro c w hk hw;cases q with
  |fd i=>
   cases c with
   |x t v=>
    cases t with
    |st t=>
     simp only[pE]at hw;split at hw
     .rename_i y hy;exact ih y w (Hx hy) hw
     .simp at hw
    |_=>simp[pE]at hw
   |rc l=>
    simp only[pE]at hw;split at hw
    .rename_i y hy;exact ih y w (xG l _ _ hk hy) hw
    .simp at hw
   |_=>simp[pE]at hw
  |ix k=>
   cases c with
   |x t v=>cases t with|ar m t=>exact ih (.x t (gt v.1 k)) w trivial hw|_=>simp[pE]at hw
   |_=>simp[pE]at hw
theorem G0{n:Nat}:∀(p:pV)(c w c':V),ft n h c->ft n h w->oF c p w=some c'->ft n h c':=by
 intro p;induction p with
 |nil=>intro c w c' _ hw hs;obtain rfl:w=c':=by simpa[oF]using hs
       exact hw
 |cons q p ih=>
  intro c w c' hk hw hs;cases q with
  |fd i=>
   cases c with
   |x t v=>
    cases t with
    |st t=>
     simp only[oF]at hs;split at hs
     .rename_i y hy;split at hs
      .rename_i y1 hy1;split at hs
       .obtain rfl:=aa hs;trivial
       .obtain rfl:=aa hs;exact G5 _ _ _ (EX t v) (ih y w y1 (Hx hy) hw hy1)
      .simp at hs
     .simp at hs
    |_=>simp[oF]at hs
   |rc l=>
    simp only[oF]at hs;split at hs
    .rename_i y hy;split at hs
     .rename_i y1 hy1;obtain rfl:=aa hs;exact G5 l _ _ hk (ih y w y1 (xG l _ _ hk hy) hw hy1)
     .simp at hs
    .simp at hs
   |_=>simp[oF]at hs
  |ix k=>
   cases c with
   |x t v=>
    cases t with
    |ar m t=>
     simp only[oF]at hs;split at hs
     .split at hs
      .obtain rfl:=aa hs;trivial
      .simp at hs
     .simp at hs
    |_=>simp[oF]at hs
   |_=>simp[oF]at hs
end
section
variable{h:H2}{n:Nat}{h1:bH}
theorem dV{v:V}{c:C}(ha:te v=false)(hc:fC h v [c]):sx h v (.c c):=⟨[c],hc,fun e=>(by rw[ha]at e;cases e),fun _=>⟨c,rfl,rfl⟩⟩
theorem xW{v:V}{cs:List C}(ha:te v=true)(hc:fC h v cs):sx h v (.agg cs):=⟨cs,hc,fun _=>rfl,fun e=>(by rw[ha]at e;cases e)⟩
theorem jq{v:V}{x:TV}(hx:sx h v x)(ha:te v=false):∃c,x=.c c/\fC h v [c]:=by obtain⟨cs,h1,_,h2⟩:=hx;obtain⟨c,rfl,rfl⟩:=h2 ha;exact⟨c,rfl,h1⟩
theorem qA{v:V}{x:TV}(hx:sx h v x):∃cs,fC h v cs/\cellsOf x=some cs:=by obtain⟨cs,h1,h2,h3⟩:=hx;refine⟨cs,h1,?_⟩;cases ha:te v with|true=>rw[h2 ha];rfl|false=>obtain⟨c,rfl,rfl⟩:=h3 ha;rfl
theorem kx{k:IntKind}{a:Int}{x:TV}(hx:gy h (.x (.i k) a) x):x=tI k a:=by obtain⟨c,rfl,_,hc⟩:=jq (v:=.x (.i k) a) hx rfl;obtain rfl:=(cz hc).1;rfl
theorem GX{a:Bool}{x:TV}(hx:gy h (.x .b a) x):x=tB a:=by obtain⟨c,rfl,_,hc⟩:=jq (v:=.x .b a) hx rfl;obtain rfl:=(cz hc).1;rfl
theorem wU{a:ByteArray}{x:TV}(hx:gy h (.x .s a) x):x=.c (.d (dS a)):=by obtain⟨c,rfl,_,hc⟩:=jq (v:=.x .s a) hx rfl;obtain rfl:=(cz hc).1;rfl
theorem xU{t:Ty}{s:Sl (El t)}{x:TV}(hx:gy h (.x (.sl t) s) x):x=.c (.d (BI (bE t) (aT t) s)):=by obtain⟨c,rfl,_,hc⟩:=jq (v:=.x (.sl t) s) hx rfl;obtain rfl:=(cz hc).1;rfl
theorem vS{a:Bool}{x:TV}(hx:gy h (.kb a) x):x=tB a:=by obtain⟨c,rfl,hc⟩:=jq (v:=.kb a) hx rfl;obtain rfl:=(cz hc).1;rfl
theorem vR{k:Nat}{x:TV}(hx:gy h (.nl k) x):x=.c (Dz k):=by obtain⟨c,rfl,hc⟩:=jq (v:=.nl k) hx rfl;obtain rfl:=(cz hc).1;rfl
theorem xV{t:Ty}{a:El t}{x:TV}(hx:gy h (.pt t a) x):kY t=true/\x=.c (.d (.pt (aT t a))):=by obtain⟨c,rfl,hd,hc⟩:=jq (v:=.pt t a) hx rfl;obtain rfl:=(cz hc).1;exact⟨hd,rfl⟩
theorem vQ{id:Nat}{t:Ty}{p:pV}{x:TV}(hx:gy h (.op id t p) x):x=.c (.op id (mQ t p)):=by obtain⟨c,rfl,hc⟩:=jq (v:=.op id t p) hx rfl;obtain rfl:=(cz hc).1;rfl
theorem sv{id m:Nat}{t:Ty}{p:pV}{x:TV}(hx:gy h (.ep id m t p) x):x=.c (.ep id m (mQ t p)):=by obtain⟨c,rfl,hc⟩:=jq (v:=.ep id m t p) hx rfl;obtain rfl:=(cz hc).1;rfl
theorem ET{id:Nat}{x:TV}(hx:gy h (.om id) x):x=.c (.om id):=by obtain⟨c,rfl,hc⟩:=jq (v:=.om id) hx rfl;obtain rfl:=(cz hc).1;rfl
theorem su{id:Nat}{c:C}{x:TV}(hx:gy h (.so id) x)(hc:AD id (fO h id)=some c):x=.c c:=by obtain⟨c',rfl,c2,h2,h3⟩:=jq (v:=.so id) hx rfl;obtain rfl:=(cz h2).1;rw[h3.1 c hc]
theorem Kb{id:Nat}{c:C}{x:TV}(hx:gy h (.sr id) x)(hc:E5 id (fO h id)=some c):x=.c c:=by obtain⟨c',rfl,c2,h2,h3⟩:=jq (v:=.sr id) hx rfl;obtain rfl:=(cz h2).1;rw[h3.1 c hc]
theorem sB{id:Nat}{t:Ty}{s:Sl (Sl (El t))}{ln:Option (Nat×Nat)}(ho:fO h id=some (.rw t s ln)):E5 id (fO h id)=some (mU 1 (aT (.sl t)) id s):=by rw[ho];rfl
theorem qg{id ver lo:Nat}{t:Ty}{r:Sl (El t)}{x:TV}(hx:gy h (.sb id ver lo t r) x)(ha:iD h (.sb id ver lo t r)=true):x=.c (zW id lo t r):=by obtain⟨c',rfl,c2,h2,h3⟩:=jq (v:=.sb id ver lo t r) hx rfl;obtain rfl:=(cz h2).1;rw[h3.1 (Bool.and_eq_true_iff.1 ha).2]
theorem EU{z:Bool}{f:Nat}{l:V}{x:TV}(hx:gy h (.fn z f l) x):(z=true/\∃ds,qw l=some ds/\x=.c (.d (.fn f ds)))\/(z=false/\∃cs,fC h l cs/\x=.c (.oU f cs)):=by obtain⟨c',rfl,hc⟩:=jq (v:=.fn z f l) hx rfl;cases z with|true=>obtain⟨ds,h2,h3⟩:=hc;exact .inl ⟨rfl,ds,h2,by rw[(cz h3).1]⟩|false=>obtain⟨ds,h2,h3⟩:=hc;exact .inr ⟨rfl,ds,h2,by rw[(cz h3).1]⟩
theorem PT{l:V}{x:TV}(hx:gy h (.tp l) x):∃xs,x=.iS xs/\BA h l xs:=hx
def NX:V->Prop
 |.tp _|.no|.gn=>False
 |_=>True
theorem oS{v:V}{x:TV}(hv:NX v)(hx:gy h v x):sx h v x:=by cases v<;>first|exact hx|exact hv.elim
theorem ct{v:V}{x:TV}(hx:sx h v x):gy h v x:=by cases v<;>first|exact hx|(obtain⟨cs,hc,_⟩:=hx;exact hc.elim)
theorem Pu{v:V}{u:Ty}{y:El u}(hc:tQ u v=some y):NX v:=by cases v<;>first|trivial|(simp[tQ,kS,ij]at hc)
theorem vz{v:V}{u:Ty}{y:El u}{x:TV}(hx:gy h v x)(hc:tQ u v=some y):(nv u=true->x=.agg ((aT u y).map .d))/\(nv u=false->∃d,aT u y=[d]/\x=.c (.d d)):=by
 obtain⟨cs,h2,h3,h4⟩:=oS (Pu hc) hx;have h5:=jI v false u y cs hc h2;have ha:=wG hc;constructor
 .intro hu;rw[h3 (ha.trans hu),h5]
 .intro hu;obtain⟨c,rfl,rfl⟩:=h4 (ha.trans hu);cases he:aT u y with
  |nil=>rw[he]at h5;simp at h5
  |cons d ds=>
   rw[he]at h5;simp only[List.map_cons,List.cons.injEq]at h5;obtain⟨rfl,h6⟩:=h5;have:ds=[]:=by simpa using h6.symm
   subst this;exact⟨d,rfl,rfl⟩
theorem Pt{v:V}{x:TV}{a:Bool}(hx:gy h v x)(hc:tQ .b v=some a):x=tB a:=by obtain⟨d,h1,rfl⟩:=(vz hx hc).2 rfl;obtain rfl:=(cz h1).1;rfl
def mN(h:H2):List V->List TV->Prop
 |[],[]=>True
 |v::vs,x::xs=>gy h v x/\mN h vs xs
 |_,_=>False
theorem lU{xs:List TV}(hx:mN h [] xs):xs=[]:=by cases xs<;>first|rfl|exact hx.elim
theorem gU{v:V}{vs:List V}{xs:List TV}(hx:mN h (v::vs) xs):∃x ys,xs=x::ys/\gy h v x/\mN h vs ys:=by cases xs with|nil=>exact hx.elim|cons x ys=>exact⟨x,ys,rfl,hx.1,hx.2⟩
theorem iR{v:V}{xs:List TV}(hx:mN h [v] xs):∃x,xs=[x]/\gy h v x:=by obtain⟨x,ys,rfl,h1,h2⟩:=gU hx;obtain rfl:=lU h2;exact⟨x,rfl,h1⟩
theorem ji{v w:V}{xs:List TV}(hx:mN h [v,w] xs):∃x y,xs=[x,y]/\gy h v x/\gy h w y:=by obtain⟨x,ys,rfl,h1,h2⟩:=gU hx;obtain⟨y,rfl,h3⟩:=iR h2;exact⟨x,y,rfl,h1,h3⟩
theorem PS{v w z:V}{xs:List TV}(hx:mN h [v,w,z] xs):∃x y u,xs=[x,y,u]/\gy h v x/\gy h w y/\gy h z u:=by obtain⟨x,ys,rfl,h1,h2⟩:=gU hx;obtain⟨y,u,rfl,h3⟩:=ji h2;exact⟨x,y,u,rfl,h1,h3⟩
theorem Ka:∀{vs:List V}{xs:List TV},mN h vs xs->(∀v∈vs,NX v/\te v=false)->∃cs,fC h (dj vs) cs/\xs=cs.map TV.c:=by intro vs;induction vs with|nil=>intro xs hx _;obtain rfl:=lU hx;exact⟨[],rfl,rfl⟩|cons v vs ih=>intro xs hx hv;obtain⟨x,ys,rfl,h1,h2⟩:=gU hx;obtain⟨hp,ha⟩:=hv v (by simp);obtain⟨c,rfl,h3⟩:=jq (oS hp h1) ha;obtain⟨cs,h4,rfl⟩:=ih h2 fun w hw=>hv w (by simp[hw]);exact⟨c::cs,⟨[c],cs,rfl,h3,h4⟩,rfl⟩
theorem vW{id:Nat}{q:(t:Ty)×Sl (El t)×List Nat}(hs:t_ h (.so id)=some q):∃ver,(fO h id=some (.ar q.1 q.2.1 ver)\/fO h id=some (.im q.1 q.2.1 ver))/\q.2.2=[id]:=by
 simp only[t_]at hs;split at hs
 .rename_i t s v ho;obtain rfl:=aa hs;exact⟨v,.inl ho,rfl⟩
 .rename_i t s v ho;obtain rfl:=aa hs;exact⟨v,.inr ho,rfl⟩
 .simp at hs
theorem mS{id ver:Nat}{t:Ty}{s:Sl (El t)}(ho:fO h id=some (.ar t s ver)\/fO h id=some (.im t s ver)):AD id (fO h id)=some (mU (bE t) (aT t) id s):=by rcases ho with ho|ho<;>rw[ho]<;>rfl
theorem Qx{id lo nx:Nat}{t:Ty}{r:Sl (El t)}{c:Call}{H:bH}:cQ c (.len false) [some (.c (zW id lo t r))] H nx=some (tI .i64 r.l.length,[],[],nx):=by cases r with|nil=>rfl|mk l=>simp[cQ,ug,zW,Sl.l,lv]
theorem Qv{v:V}{x:TV}{q:(t:Ty)×Sl (El t)×List Nat}{c:Call}{H:bH}{nx:Nat}(hx:gy h v x)(ha:iD h v=true)(hs:t_ h v=some q):
  cQ c (.len false) [some x] H nx=some (tI .i64 q.2.1.l.length,[],[],nx):=by
 cases v with
 |x t s=>cases t with|sl t=>obtain rfl:=aa hs;rw[xU hx];exact Qw|_=>simp[t_]at hs
 |so id=>obtain⟨ver,ho,_⟩:=vW hs;rw[su hx (mS ho)];exact Pj
 |sb id ver lo t r=>obtain rfl:=aa hs;rw[qg hx ha];exact Qx
 |_=>simp[t_]at hs
theorem LG{id lo nx:Nat}{t:Ty}{r:Sl (El t)}{c:Call}{H:bH}{neg:Bool}:cQ c (.qQ 0 neg) [some (.c (zW id lo t r))] H nx=some (tB (if neg then !r.fQ else r.fQ),[],[],nx):=by cases r<;>rfl
theorem Qm{v:V}{x:TV}{q:(t:Ty)×Sl (El t)×List Nat}{c:Call}{H:bH}{nx:Nat}{neg:Bool}(hx:gy h v x)(ha:iD h v=true)(hs:t_ h v=some q):
  cQ c (.qQ 0 neg) [some x] H nx=some (tB (if neg then !q.2.1.fQ else q.2.1.fQ),[],[],nx):=by
 cases v with
 |x t s=>cases t with|sl t=>obtain rfl:=aa hs;rw[xU hx];exact Qn|_=>simp[t_]at hs
 |so id=>obtain⟨ver,ho,_⟩:=vW hs;rw[su hx (mS ho)];exact Sf
 |sb id ver lo t r=>obtain rfl:=aa hs;rw[qg hx ha];exact LG
 |_=>simp[t_]at hs
theorem oD{g:Bool}{m:Nat}{w:V}(hc:Gy h g m w=true):te w=g/\x5 w=m/\(g=false->m=1)/\iD h w=true:=by
 simp only[Gy,ai,beq_iff_eq,Bool.or_eq_true]at hc;obtain⟨⟨⟨h1,h2⟩,h3⟩,h4⟩:=hc;refine⟨h1,h2,fun e=>?_,h4⟩;rcases h3 with h3|h3
 .rw [e]at h3;cases h3
 .exact h3
theorem pB{g:Bool}{m off:Nat}{cs cw:List C}{w:V}(hc:Gy h g m w=true)(hw:fC h w cw)(hle:off+m<=cs.length)(he:(cs.drop off).take m=cw):∃x,DR g m (cs.drop off)=some x/\gy h w x:=by
 obtain⟨ha,hs,hm,_⟩:=oD hc;cases g with
 |true=>refine⟨.agg cw,?_,ct (xW ha hw)⟩;simp only[DR,if_true];rw[if_pos (by simp;omega),he]
 |false=>obtain rfl:=hm rfl;cases hd:cs.drop off with|nil=>have:=congrArg List.length hd;simp at this;omega|cons c r=>rw[hd]at he;subst he;exact⟨.c c,rfl,ct (dV ha hw)⟩
theorem B1{g:Bool}{m:Nat}{ds:List D}:Pm g m ds=DR g m (ds.map .d):=by
 unfold Pm DR;cases g
 .cases ds<;>simp
 .simp
theorem wm{p w:V}{l:List Nat}{g:Bool}{m nx:Nat}{c:Call}{x:TV}(hr:HR n h1 h)(hl:yM h p=some (w,l))(hc:Gy h g m w=true)(hx:gy h p x)(hok:ft n h p):
  ∃y,cQ c (.load g m) [some x] h1 nx=some (y,[],l,nx)/\gy h w y/\ft n h w:=by
 cases p with
 |pt t v=>obtain⟨rfl,rfl⟩:=ad (aa hl);obtain⟨hd,rfl⟩:=xV hx;obtain⟨_,hs,_,_⟩:=oD hc;have hs':bE t=m:=hs;obtain⟨y,h2,h3⟩:=pB (cs:=(aT t v).map .d) (off:=0) hc (show fC h (.x t v) ((aT t v).map .d)from⟨hd,rfl⟩) (by simp[bJ];omega) (by rw[cT,dm (by simp[bJ];omega)]);refine⟨y,?_,h3,trivial⟩;rw[cT,<-B1]at h2;simp only[cQ,ie,h2]
 |op id t p=>
  obtain rfl:=vQ hx;simp only[yM]at hl;split at hl
  .rename_i u cc ho;obtain⟨_,hb,hko⟩:=hr.ob id _ ho;obtain⟨cs,h2,h3,h4⟩:=hb;by_cases hu:u=t
   .subst hu;simp only[decide_true,cond_true]at hl;split at hl
    .rename_i w' hw;obtain⟨rfl,rfl⟩:=ad (aa hl);obtain⟨a,cw,q1,q2,q3,q4,q5⟩:=wx p cc u w' cs h4 h3 hok.2 hw;obtain⟨_,hs,_,_⟩:=oD hc;rw[gV _ _ _ q2]at hs;subst hs;obtain⟨y,h5,h6⟩:=pB hc q3 q4 q5;refine⟨y,?_,h6,B8 p cc w' hko hw⟩;simp only[cQ,ie,h2,h5]
    .simp at hl
   .simp [hu]at hl
  .rename_i u v ho;obtain⟨_,hb,hko⟩:=hr.ob id _ ho;obtain⟨hd,h2⟩:=hb;by_cases hu:u=t
   .subst hu;simp only[decide_true,cond_true]at hl;split at hl
    .rename_i w' hw;obtain⟨rfl,rfl⟩:=ad (aa hl);obtain⟨a,cw,q1,q2,q3,q4,q5⟩:=wx (h:=h) p (.x u v) u w' ((aT u v).map .d) (by simp[eF]) ⟨hd,rfl⟩ hok.2 hw;obtain⟨_,hs,_,_⟩:=oD hc;rw[gV _ _ _ q2]at hs;subst hs;obtain⟨y,h5,h6⟩:=pB hc q3 q4 q5;refine⟨y,?_,h6,B8 p (.x u v) w' trivial hw⟩;rw[<-gz,<-B1]at h5;simp only[cQ,ie,h2,h5]
    .simp at hl
   .simp [hu]at hl
  .simp at hl
 |ep id k t p=>
  obtain rfl:=sv hx;obtain⟨_,hp,hk,_⟩:=hok
  have main:∀(u:Ty)(s:Sl (El u))(ver:Nat),(fO h id=some (.ar u s ver)\/fO h id=some (.im u s ver))->(bif decide (u=t)then(match pE (.x u (gt s.l k)) p with|some w=>some (w,[id])|none=>none)else none)=some (w,l)->
    ∃y,cQ c (.load g m) [some (.c (.ep id k (mQ t p)))] h1 nx=some (y,[],l,nx)/\gy h w y/\ft n h w:=by
   intro u s ver ho hl;have hlt:=hk u s ver ho;by_cases hu:u=t
   .subst hu;simp only[decide_true,cond_true]at hl;split at hl
    .rename_i w' hw;obtain⟨rfl,rfl⟩:=ad (aa hl);cases s with
     |nil=>simp[Sl.l]at hlt
     |mk ls=>
     have hrow:(ls.map (aT u))[k]?=some (aT u (gt ls k)):=rz hlt;have hd:kY u=true:=by rcases ho with ho|ho<;>exact(hr.ob id _ ho).2.1.1
     obtain⟨a,cw,q1,q2,q3,q4,q5⟩:=wx (h:=h) p (.x u (gt ls k)) u w' ((aT u (gt ls k)).map .d) (by simp[eF]) ⟨hd,rfl⟩ hp hw;obtain⟨_,hs,_,_⟩:=oD hc;rw[gV _ _ _ q2]at hs;subst hs;obtain⟨y,h5,h6⟩:=pB hc q3 q4 q5;refine⟨y,?_,h6,B8 p (.x u (gt ls k)) w' trivial hw⟩;rw[<-gz,<-B1]at h5;rcases ho with ho|ho
     .have h2:=(hr.ob id _ ho).2.1.2.2 ls rfl;simp only[cQ,ie,h2,hrow,h5]
     .have h2:=(hr.ob id _ ho).2.1.2.2 ls rfl;simp only[cQ,ie,h2,hrow,h5]
    .simp at hl
   .simp [hu]at hl
  simp only[yM]at hl;split at hl
  .rename_i u s ver ho;exact main u s ver (.inl ho) hl
  .rename_i u s ver ho;exact main u s ver (.inr ho) hl
  .simp at hl
 |_=>simp[yM]at hl
end
end Go.Ev
