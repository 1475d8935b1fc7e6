/- Typed data by codes: the types, the values that a frame holds, its objects, and how they are laid into the abstract machine's. Conditions: none, these are definitions. -/
import Derived.Test.YthcplpfiidlinaaDoorEvY
noncomputable section
open Bool renaming and_eq_true->ai
open List renaming append_assoc->aJ,append_nil->bC,drop_append_of_le_length->eC,drop_drop->dz,drop_length->fJ,drop_zero->cS,flatMap_cons->bi,length_append->av,length_map->aO,length_replicate->df,map_drop->gz,map_take->hZ,nil_append->bk,replicate->az,take_append_drop->jf,take_of_length_le->dm
open List.cons renaming inj->cu
open Nat renaming add_assoc->cO,add_mul->bO,beq->kW,ble->je,blt->mq,le_refl->au,mul_le_mul_right->aI
open Option.some renaming inj->aa
open Prod.mk renaming inj->ad
open Sigma.mk renaming inj->jz
namespace Go.Ev
inductive Ty where
 |i (k:IntKind)
 |b
 |s
 |f (k:FloatKind)
 |sl (t:Ty)
 |mp (k v:Ty)
 |un
 |pr (a c:Ty)
 |st (t:Ty)
 |ar (n:Nat) (t:Ty)
 |o (k:Nat)
 deriving Inhabited,DecidableEq
def Arr(n:Nat)(α:Type):Type:={l:List α//l.length=n}
def Arr.set{n:Nat}{α:Type}(v:Arr n α)(k:Nat)(x:α):Arr n α:=⟨v.1.set k x,by rw[List.length_set];exact v.2⟩
instance{n:Nat}{α:Type}[Inhabited α]:Inhabited (Arr n α):=⟨⟨az n default,df⟩⟩
instance{n:Nat}{α:Type}[DecidableEq α]:DecidableEq (Arr n α):=inferInstanceAs (DecidableEq {l:List α//l.length=n})
@[reducible] def El:Ty->Type
 |.i _=>Int
 |.b=>Bool
 |.s=>ByteArray
 |.f _=>Nat
 |.sl t=>Sl (El t)
 |.mp k v=>Mp (El k) (El v)
 |.un=>Unit
 |.pr a c=>El a×El c
 |.st t=>El t
 |.ar n t=>Arr n (El t)
 |.o _=>Unit
instance HH:(t:Ty)->Inhabited (El t)
 |.i _=>⟨(0:Int)⟩
 |.b=>⟨false⟩
 |.s=>⟨(default:ByteArray)⟩
 |.f _=>⟨(0:Nat)⟩
 |.sl _=>⟨Sl.nil⟩
 |.mp _ _=>⟨Mp.none⟩
 |.un=>⟨()⟩
 |.pr a c=>⟨((HH a).default,(HH c).default)⟩
 |.st t=>HH t
 |.ar n t=>⟨⟨az n (HH t).default,df⟩⟩
 |.o _=>⟨()⟩
def ss:(t:Ty)->El t
 |.i _=>(0:Int)
 |.b=>false
 |.s=>(ByteArray.empty)
 |.f _=>(0:Nat)
 |.sl _=>Sl.nil
 |.mp _ _=>Mp.none
 |.un=>()
 |.pr a c=>(ss a,ss c)
 |.st t=>ss t
 |.ar n t=>⟨az n (ss t),df⟩
 |.o _=>()
def gM(t u:Ty)(v:El t):Option (El u):=if h:t=u then some (h▸v)else none
def bA:Ty->Nat
 |.un=>0
 |.pr a c=>bA a+bA c
 |.st t=>bA t
 |.ar n t=>n*bA t
 |_=>1
def kI:Ty->Bool
 |.o _|.mp _ _=>false
 |.pr a c=>kI a&&kI c
 |.st t|.ar _ t|.sl t=>kI t
 |_=>true
def nv:Ty->Bool
 |.st _|.ar _ _=>true
 |_=>false
def aS:(t:Ty)->El t->List D
 |.i k,x=>[.lit (.int k x)]
 |.b,x=>[.lit (.bool x)]
 |.s,x=>[.lit (.string x)]
 |.f k,x=>[.lit (.float k x)]
 |.sl t,x=>[vY (bA t) (aS t) x]
 |.mp _ _,_=>[.lit .nilFunc]
 |.un,_=>[]
 |.pr a c,x=>aS a x.1++aS c x.2
 |.st t,x=>aS t x
 |.ar _ t,x=>x.1.flatMap (aS t)
 |.o _,_=>[.lit .nilFunc]
inductive Pe where
 |fd (i:Nat)
 |ix (n:Nat)
abbrev pX:=List Pe
inductive V where
 |x (t:Ty) (v:El t)
 |kb (c:Bool)
 |nl (k:Nat)
 |so (id:Nat)
 |sr (id:Nat)
 |sb (id ver lo:Nat) (t:Ty) (r:Sl (El t))
 |op (id:Nat) (t:Ty) (p:pX)
 |ep (id n:Nat) (t:Ty) (p:pX)
 |pt (t:Ty) (v:El t)
 |fn (z:Bool) (f:Nat) (caps:V)
 |om (id:Nat)
 |rc (l:V)
 |tp (l:V)
 |ni
 |co (a r:V)
 |fl (l:List Value)
 |no
 |gn
inductive O where
 |ar (t:Ty) (s:Sl (El t)) (ver:Nat)
 |im (t:Ty) (s:Sl (El t)) (ver:Nat)
 |bx (t:Ty) (c:V)
 |ib (t:Ty) (v:El t)
 |mp (k v:Ty) (m:Mp (El k) (El v))
 |rw(t:Ty) (s:Sl (Sl (El t))) (ln:Option (Nat×Nat))
abbrev H2:=List (Nat×Option O)
def fO(h:H2)(id:Nat):Option O:=(cz h id).join
def Aj:(t:Ty)->El t->Nat->Option V
 |.pr a _,v,0=>some (.x a v.1)
 |.pr _ c,v,n+1=>Aj c v.2 n
 |t,v,0=>some (.x t v)
 |_,_,_=>none
def CG:Ty->Nat->Option Ty
 |.pr a _,0=>some a
 |.pr _ c,n+1=>CG c n
 |t,0=>some t
 |_,_=>none
def o5:Ty->Nat->Nat
 |.pr _ _,0=>0
 |.pr a c,n+1=>bA a+o5 c n
 |_,_=>0
def H8:(t:Ty)->El t->V
 |.pr a c,v=>.co (.x a v.1) (H8 c v.2)
 |t,v=>.co (.x t v) .ni
def SF(k:IntKind):List Value->Option (Int×List Value)
 |.int k' n::r=>if k'=k then some (n,r)else none
 |_=>none
def SG:List Value->Option (Bool×List Value)
 |.bool c::r=>some (c,r)
 |_=>none
def SD:List Value->Option (ByteArray×List Value)
 |.string c::r=>some (c,r)
 |_=>none
def PB(k:FloatKind):List Value->Option (Nat×List Value)
 |.float k' n::r=>if k'=k then some (n,r)else none
 |_=>none
def SE{α:Type}:List Value->Option (Sl α×List Value)
 |.slice none 0 0::r=>some (Sl.nil,r)
 |_=>none
def OL{α:Type}(f:List Value->Option (α×List Value)):(m:Nat)->List Value->Option (Arr m α×List Value)
 |0,l=>some (⟨[],rfl⟩,l)
 |m+1,l=>match f l with|some (x,l)=>(match OL f m l with|some (v,l)=>some (⟨x::v.1,by rw[List.length_cons,v.2]⟩,l)|none=>none)|none=>none
def uQ:(t:Ty)->List Value->Option (El t×List Value)
 |.i k=>SF k
 |.b=>SG
 |.s=>SD
 |.f k=>PB k
 |.sl _=>SE
 |.pr a c=>fun l=>match uQ a l with|some (x,l)=>(match uQ c l with|some (y,l)=>some ((x,y),l)|none=>none)|none=>none
 |.st t=>uQ t
 |.ar n t=>OL (uQ t) n
 |.mp _ _|.un|.o _=>fun _=>none
def ij(u:Ty):V->Option (El u)
 |.x t v=>gM t u v
 |.kb c=>gM .b u c
 |.nl 0=>(match u with|.sl _=>some Sl.nil|_=>none)
 |.fl l=>bif nv u then(match uQ u l with|some (x,[])=>some x|_=>none)else none
 |_=>none
def Im:(t:Ty)->El t->Nat->V->Option (El t)
 |.pr a _,v,0,w=>match ij a w with|some y=>some (y,v.2)|none=>none
 |.pr _ c,v,n+1,w=>match Im c v.2 n w with|some y=>some (v.1,y)|none=>none
 |t,_,0,w=>ij t w
 |_,_,_,_=>none
def sg:V->Nat->Option V
 |.co a _,0=>some a
 |.co _ r,n+1=>sg r n
 |_,_=>none
def KI:V->Nat->V->V
 |.co _ r,0,w=>.co w r
 |.co a r,n+1,w=>.co a (KI r n w)
 |l,_,_=>l
def pH:V->pX->Option V
 |v,[]=>some v
 |.x (.st t) v,.fd i::p=>match Aj t v i with|some w=>pH w p|none=>none
 |.x (.ar _ t) v,.ix k::p=>pH (.x t (gt v.1 k)) p
 |.rc l,.fd i::p=>match sg l i with|some w=>pH w p|none=>none
 |_,_=>none
def oG:V->pX->V->Option V
 |_,[],w=>some w
 |.x (.st t) v,.fd i::p,w=>
  match Aj t v i with
  |some y=>match oG y p w with|some y'=>(match Im t v i y' with|some v'=>some (.x (.st t) v')|none=>some (.rc (KI (H8 t v) i y')))|none=>none
  |none=>none
 |.x (.ar n t) v,.ix k::p,w=>match oG (.x t (gt v.1 k)) p w with|some y=>(match ij t y with|some y'=>some (.x (.ar n t) (v.set k y'))|none=>none)|none=>none
 |.rc l,.fd i::p,w=>match sg l i with|some y=>(match oG y p w with|some y'=>some (.rc (KI l i y'))|none=>none)|none=>none
 |_,_,_=>none
def re:Ty->pX->Option Ty
 |t,[]=>some t
 |.st t,.fd i::p=>match CG t i with|some u=>re u p|none=>none
 |.ar _ t,.ix _::p=>re t p
 |_,_=>none
def mT:Ty->pX->Nat
 |.st t,.fd i::p=>o5 t i+(match CG t i with|some u=>mT u p|none=>0)
 |.ar _ t,.ix k::p=>k*bA t+mT t p
 |_,_=>0
def IR:Ty->pX->Prop
 |.st t,.fd i::p=>∃u,CG t i=some u/\IR u p
 |.ar n t,.ix k::p=>k<n/\IR t p
 |_,[]=>True
 |_,_=>False
def Bx:Ty->V×V
 |.pr a c=>(.no,.co (Bx a).1 (Bx c).2)
 |.st t=>(bif kI t then .x (.st t) (ss t)else .rc (Bx t).2,.co (bif kI t then .x (.st t) (ss t)else .rc (Bx t).2) .ni)
 |.o k=>(.nl k,.co (.nl k) .ni)
 |.mp _ _=>(.nl 3,.co (.nl 3) .ni)
 |.sl t=>(bif kI t then .x (.sl t) Sl.nil else .nl 0,.co (bif kI t then .x (.sl t) Sl.nil else .nl 0) .ni)
 |.ar n t=>(bif kI t then .x (.ar n t) (ss (.ar n t))else .no,.co (bif kI t then .x (.ar n t) (ss (.ar n t))else .no) .ni)
 |.un=>(.x .un (),.co (.x .un ()) .ni)
 |.i k=>(.x (.i k) (0:Int),.co (.x (.i k) (0:Int)) .ni)
 |.b=>(.x .b false,.co (.x .b false) .ni)
 |.s=>(.x .s ByteArray.empty,.co (.x .s ByteArray.empty) .ni)
 |.f k=>(.x (.f k) (0:Nat),.co (.x (.f k) (0:Nat)) .ni)
abbrev Ph(t:Ty):V:=(Bx t).1
def DG(k:Nat):C:=.d (.lit (match k with|0=>.slice none 0 0|1=>.pointer none|2=>.nilFunc|3=>.map none|_=>.nilIface))
def AD(id:Nat):Option O->Option C
 |some (.ar t s _)=>some (mx (bA t) (aS t) id s)
 |some (.im t s _)=>some (mx (bA t) (aS t) id s)
 |_=>none
def oV(t:Ty):Sl (El t)->kY
 |.nil=>.nil
 |.mk l=>.bt (l.map (aS t))
def IG{α:Type}(id:Nat):Sl α->kY
 |.nil=>.nil
 |.mk l=>.ed id l.length
def eU(t:Ty)(l:List (Sl (El t))):Option (Nat×Nat)->List kY
 |none=>l.map (oV t)
 |some (m,id)=>(l.map (oV t)).set m (IG id (gt l m))
def ET(id:Nat):Option O->Option C
 |some (.rw t s _)=>some (mx 1 (aS (.sl t)) id (s:Sl (Sl (El t))))
 |_=>none
def ym(id lo:Nat)(t:Ty):Sl (El t)->C
 |.nil=>.d (.lit (.slice none 0 0))
 |.mk l=>.fw (bA t) id lo (l.map (aS t)).length
def qD:V->Option (List D)
 |.pt t v=>if kI t then some [.pt (aS t v)]else none
 |.ni=>some []
 |.co a r=>match qD a,qD r with|some x,some y=>some (x++y)|_,_=>none
 |_=>none
def tj:V->Bool
 |.x t _=>nv t
 |.rc _|.fl _=>true
 |_=>false
deriving instance DecidableEq for Mp
instance zr:(t:Ty)->DecidableEq (El t)
 |.i _=>inferInstanceAs (DecidableEq Int)
 |.b=>inferInstanceAs (DecidableEq Bool)
 |.s=>inferInstanceAs (DecidableEq ByteArray)
 |.f _=>inferInstanceAs (DecidableEq Nat)
 |.sl t=>@instDecidableEqSl (El t) (zr t)
 |.mp k v=>@instDecidableEqMp (El k) (El v) (zr k) (zr v)
 |.un=>inferInstanceAs (DecidableEq Unit)
 |.pr a c=>@instDecidableEqProd (El a) (El c) (zr a) (zr c)
 |.st t=>zr t
 |.ar n t=>@instDecidableEqArr n (El t) (zr t)
 |.o _=>inferInstanceAs (DecidableEq Unit)
structure S2 where
 dG:List (Nat×V)
 heap:H2
 next:Nat
 wo:List Nat
 gh:V
structure OP where
 o:nZ
 t:Ty
 fi:List Nat
def Cu:V->Bool
 |.pt t _=>kI t
 |.ni=>true
 |.co a r=>Cu a&&Cu r
 |_=>false
def iw(h:H2):V->Bool
 |.x t _=>kI t
 |.pt t _=>kI t
 |.kb _|.nl _=>true
 |.op id _ _|.ep id _ _ _|.om id=>(match fO h id with|some _=>true|none=>false)
 |.so id=>(match fO h id with|some (.ar _ _ _)|some (.im _ _ _)=>true|_=>false)
 |.sr id=>(match fO h id with|some (.rw _ _ _)=>true|_=>false)
 |.sb id ver _ t _=>kI t&&(match fO h id with|some (.ar _ _ v)|some (.im _ _ v)=>v==ver|_=>false)
 |.fn true _ l=>Cu l
 |.fn false _ l=>iw h l
 |.rc l|.tp l=>iw h l
 |.fl l=>l.all ei
 |.ni=>true
 |.co a r=>iw h a&&iw h r
 |.no|.gn=>false
def S5:Value->Option V
 |.bool c=>some (.kb c)
 |.int k n=>some (.x (.i k) n)
 |.float k n=>some (.x (.f k) n)
 |.string s=>some (.x .s s)
 |.pointer none=>some (.nl 1)
 |.slice none 0 0=>some (.nl 0)
 |.nilFunc=>some (.nl 2)
 |.map none=>some (.nl 3)
 |.nilIface=>some (.nl 4)
 |.agg cs=>if cs.toList.all ei then some (.fl cs.toList)else none
 |_=>none
def L1:Nat->Option V:=fun g => if g = 0 then some (.pt (.ar 32 (.i .u8)) (⟨[0, 1, 28, 2, 29, 14, 24, 3, 30, 22, 20, 15, 25, 17, 4, 8, 31, 27, 13, 23, 21, 19, 16, 7, 26, 12, 18, 6, 11, 5, 10, 9], rfl⟩ : Arr 32 Int)) else none
def J3(e:List (Nat×V))(h:H2):Operand->Option V
 |.tmp t=>match cz e t with|some v=>bif iw h v then some v else none|none=>none
 |.const c=>S5 c
 |.global g=>L1 g
 |.func f=>some (.fn true f .ni)
def x_:V->Nat
 |.x t _=>bA t
 |.rc l=>x_ l
 |.co a r=>x_ a+x_ r
 |.ni=>0
 |.fl l=>l.length
 |_=>1
def OB:V->Nat->Nat
 |.co a r,n+1=>x_ a+OB r n
 |_,_=>0
def dj:List V->V
 |[]=>.ni
 |v::r=>.co v (dj r)
def AA:V->List V
 |.co a r=>a::AA r
 |_=>[]
def kS:V->Bool->(u:Ty)->Option (El u)
 |.rc l,false,.st u=>kS l true u
 |.co a r,true,.pr t u=>match kS a false t,kS r true u with|some x,some y=>some (x,y)|_,_=>none
 |.co a .ni,true,u=>kS a false u
 |.ni,_,_=>none
 |v,false,u=>ij u v
 |_,_,_=>none
abbrev tW(u:Ty)(v:V):Option (El u):=kS v false u
def eI:V->Bool->Ty->Bool
 |.x u _,false,t=>decide (u=t)
 |.rc l,false,.st t=>eI l true t
 |.co a r,true,.pr t u=>eI a false t&&eI r true u
 |.co a .ni,true,t=>eI a false t
 |.kb _,false,.b=>true
 |.nl 0,false,.sl _|.so _,false,.sl _|.sr _,false,.sl _|.sb _ _ _ _ _,false,.sl _=>true
 |.nl 3,false,.mp _ _|.om _,false,.mp _ _=>true
 |.nl _,false,.o _|.op _ _ _,false,.o _|.ep _ _ _ _,false,.o _|.pt _ _,false,.o _|.fn _ _ _,false,.o _=>true
 |_,_,_=>false
def Nh(t:Ty)(v:V):Option V:=match(bif kI t then ij t v else none)with|some y=>some (.x t y)|none=>bif eI v false t then some v else none
def t8(h:H2):V->Option ((t:Ty)×Sl (El t)×List Nat)
 |.x (.sl t) s=>some ⟨t,s,[]⟩
 |.so id=>(match fO h id with|some (.ar t s _)|some (.im t s _)=>some ⟨t,s,[id]⟩|_=>none)
 |.sb id _ _ t r=>some ⟨t,r,[id]⟩
 |_=>none
def Kw(t:Ty)(h:H2):V->Option ((t:Ty)×Sl (El t)×List Nat)
 |.nl 0=>some ⟨t,Sl.nil,[]⟩
 |v=>t8 h v
def jk(h:H2):V->Option (V×List Nat)
 |.so id=>match t8 h (.so id)with|some ⟨t,s,l⟩=>some (.x (.sl t) s,l)|none=>none
 |.sr id=>match fO h id with|some (.rw t s none)=>some (.x (.sl (.sl t)) s,[id])|_=>none
 |.sb id ver lo t r=>match t8 h (.sb id ver lo t r)with|some ⟨t,s,l⟩=>some (.x (.sl t) s,l)|none=>none
 |.rc l=>match jk h l with|some (w,l)=>some (.rc w,l)|none=>none
 |.co a r=>match jk h a,jk h r with|some (x,l),some (y,m)=>some (.co x y,l++m)|_,_=>none
 |.x t v=>some (.x t v,[])
 |.kb c=>some (.kb c,[])
 |.nl k=>some (.nl k,[])
 |.fl l=>some (.fl l,[])
 |.ni=>some (.ni,[])
 |.fn true f l=>some (.fn true f l,[])
 |.pt t v=>some (.pt t v,[])
 |_=>none
def UL(c:Bool):V->V->Option V
 |.kb a,.kb b=>some (.x .b (bif c then a else b))
 |.x t a,w=>match tW t w with|some b=>some (.x t (bif c then a else b))|none=>none
 |w,.x t b=>match tW t w with|some a=>some (.x t (bif c then a else b))|none=>none
 |_,_=>none
def S9:Value->Value->Bool
 |.bool a,.bool b=>a==b
 |.int k a,.int k' b=>decide (k=k')&&a==b
 |.float k a,.float k' b=>decide (k=k')&&a==b
 |.string a,.string b=>decide (a=b)
 |.pointer none,.pointer none|.slice none 0 0,.slice none 0 0|.nilFunc,.nilFunc|.map none,.map none|.nilIface,.nilIface=>true
 |_,_=>false
def t6:List Value->List Value->Bool
 |[],[]=>true
 |a::r,b::s=>S9 a b&&t6 r s
 |_,_=>false
def ny:Ty->List Value
 |.i k=>[.int k 0]
 |.b=>[.bool false]
 |.s=>[.string ByteArray.empty]
 |.f k=>[.float k 0]
 |.sl _=>[.slice none 0 0]
 |.mp _ _=>[.map none]
 |.un=>[]
 |.pr a c=>ny a++ny c
 |.st t=>ny t
 |.ar n t=>(az n (ny t)).flatten
 |.o k=>[match k with|0=>.slice none 0 0|1=>.pointer none|2=>.nilFunc|3=>.map none|_=>.nilIface]
def D3:Ty->Option (List Kd)
 |.i k=>some [.i k]
 |.b=>some [.b]
 |.s=>some [.s]
 |.pr a c=>match D3 a,D3 c with|some x,some y=>some (x++y)|_,_=>none
 |.st t=>D3 t
 |.ar n t=>match D3 t with|some x=>some ((az n x).flatten)|none=>none
 |_=>none
def Ri(z:Bool)(op:BinOp)(k k':IntKind)(a b:Int):Option V:=
 match op with
 |.shl=>bif z then some (.x (.i k) (Rl k a b))else none
 |.shr=>bif z then some (.x (.i k) (JU k a b))else none
 |op=>bif decide (k=k')then(match op with
  |.add=>some (.x (.i k) (wr k (a+b)))
  |.sub=>some (.x (.i k) (wr k (a-b)))
  |.mul=>some (.x (.i k) (wr k (a*b)))
  |.quo=>bif z then some (.x (.i k) (wr k (a.tdiv b)))else none
  |.rem=>bif z then some (.x (.i k) (a.tmod b))else none
  |.and=>some (.x (.i k) (JW k a b))
  |.or=>some (.x (.i k) (RM k a b))
  |.xor=>some (.x (.i k) (Rk k a b))
  |.andNot=>some (.x (.i k) (rP k a b))
  |.eql=>some (.x .b (a==b))
  |.neq=>some (.x .b (a !=b))
  |.lss=>some (.x .b (decide (a<b)))
  |.leq=>some (.x .b (decide (a<=b)))
  |.gtr=>some (.x .b (decide (a>b)))
  |.geq=>some (.x .b (decide (a>=b)))
  |_=>none)else none
def Rh(op:BinOp)(x y:ByteArray):Option V:=match op with|.eql=>some (.x .b (x.toList==y.toList))|.neq=>some (.x .b (!(x.toList==y.toList)))|.lss=>some (.x .b (Op.bytesLess x.toList y.toList))|.leq=>some (.x .b (Op.bytesLess x.toList y.toList||x.toList==y.toList))|.gtr=>some (.x .b (!(Op.bytesLess x.toList y.toList||x.toList==y.toList)))|.geq=>some (.x .b (!(Op.bytesLess x.toList y.toList)))|_=>none
def N1:List Operand->Bool
 |[_,.const (.int _ n)]=>decide (n>0)
 |_=>false
def RK(m:Bool)(k:IntKind):Int->List V->Option Int
 |x,[]=>some x
 |x,.x (.i k') y::r=>bif decide (k'=k)then RK m k (bif m then(if y>x then y else x)else(if y<x then y else x)) r else none
 |_,_=>none
def yS(h:H2):V->Option (V×List Nat)
 |.pt t v=>some (.x t v,[])
 |.op id t p=>(match fO h id with
  |some (.bx u c)=>bif decide (u=t)then(match pH c p with|some w=>some (w,[id])|none=>none)else none
  |some (.ib u v)=>bif decide (u=t)then(match pH (.x u v) p with|some w=>some (w,[id])|none=>none)else none
  |_=>none)
 |.ep id n t p=>(match fO h id with
  |some (.ar u s _)|some (.im u s _)=>bif decide (u=t)then(match pH (.x u (gt s.l n)) p with|some w=>some (w,[id])|none=>none)else none
  |_=>none)
 |_=>none
def yM(h:H2)(kind:Nat):V->Option V
 |.nl k=>bif(k==kind)&&mq k 3 then some (.kb true)else none
 |.pt _ _|.op _ _ _|.ep _ _ _ _=>bif kind==1 then some (.kb false)else none
 |.fn _ _ _=>bif kind==2 then some (.kb false)else none
 |v=>bif kind==0 then(match t8 h v with|some ⟨_,s,_⟩=>some (.x .b s.fP)|none=>none)else none
def La:V->V
 |.kb c=>.kb (!c)
 |.x .b c=>.x .b (!c)
 |v=>v
def Gp(off n:Nat)(i:Nat):V->Option V
 |.op id t p=>(match re t p with
  |some (.st u)=>(match CG u i with|some w=>bif(o5 u i==off)&&(bA w==n)then some (.op id t (p++[.fd i]))else none|none=>none)
  |_=>none)
 |.ep id m t p=>(match re t p with
  |some (.st u)=>(match CG u i with|some w=>bif(o5 u i==off)&&(bA w==n)then some (.ep id m t (p++[.fd i]))else none|none=>none)
  |_=>none)
 |.pt (.st u) v=>(match Aj u v i with|some (.x w y)=>bif(o5 u i==off)&&(bA w==n)then some (.pt w y)else none|_=>none)
 |_=>none
def GI(h:H2)(g:Bool)(n:Nat)(w:V):Bool:=(tj w==g)&&(x_ w==n)&&(g||n==1)&&iw h w
def Ol(h:H2):V->Option ((k:Ty)×(v:Ty)×Mp (El k) (El v)×List Nat)
 |.om id=>(match fO h id with|some (.mp k v m)=>some ⟨k,v,m,[id]⟩|_=>none)
 |_=>none
def xA(t:Ty):List Nat->List (Nat×Nat)->List V->V->Option V
 |[],[],[],c=>some c
 |i::is,(off,n)::ps,w::ws,c=>
  match t with
  |.st u=>(match CG u i with
   |some a=>bif(o5 u i==off)&&(bA a==n)then(match Nh a w with|some w=>(match oG c [.fd i] w with|some c=>bif eI c false t then xA t is ps ws c else none|none=>none)|none=>none)else none
   |none=>none)
  |.ar m u=>bif(i*bA u==off)&&(bA u==n)&&decide (i<m)then(match Nh u w with|some w=>(match oG c [.ix i] w with|some c=>bif eI c false t then xA t is ps ws c else none|none=>none)|none=>none)else none
  |_=>none
 |_,_,_,_=>none
def OW:V->Bool
 |.tp _|.no|.gn|.ni|.co _ _=>false
 |v=>!tj v
def P4(o:OP)(vs:List V)(h:H2):Option (V×List Nat):=
 match o.o.k,vs with
 |.mv,[v]=>some (v,[])
 |.nilCheck,[v]=>(match v with|.pt _ _|.fn _ _ _|.ep _ _ _ _|.op _ _ _=>some (v,[])|_=>none)
 |.Ap op,[.x (.i k) a,.x (.i k') b]=>(match Ri (N1 o.o.args) op k k' a b with|some v=>some (v,[])|none=>none)
 |.Ap op,[.x .s a,.x .s b]=>(match Rh op a b with|some v=>some (v,[])|none=>none)
 |.uP neg,[x,y]=>(match tW .b x,tW .b y with|some a,some b=>some (.x .b (bif neg then !(a==b)else a==b),[])|_,_=>none)
 |.qV kind neg,[x]=>(match yM h kind x with|some v=>some (bif neg then La v else v,[])|none=>none)
 |.zp neg ks,[.x t a,y]=>(match tW t y with|some b=>bif nv t&&decide (D3 t=some ks)then some (.x .b (bif neg then !(decide (a=b))else decide (a=b)),[])else none|none=>none)
 |.un .not,[.kb c]=>some (.kb (!c),[])
 |.un .not,[.x .b c]=>some (.x .b (!c),[])
 |.un .neg,[.x (.i k) n]=>some (.x (.i k) (wr k (0-n)),[])
 |.un .xor,[.x (.i k) n]=>some (.x (.i k) (UX k n),[])
 |.vE k,[.x (.i _) n]=>some (.x (.i k) (wr k n),[])
 |.sY,[.x .s s]=>some (.x .s s,[])
 |.I0 f,vs=>bif vs.all OW then some (.fn false f (dj vs),[])else none
 |.load g n,[p]=>(match yS h p with|some (w,l)=>bif GI h g n w then some (w,l)else none|none=>none)
 |.uf,[p]=>(match yS h p with|some (w,l)=>bif GI h false 1 w then some (w,l)else none|none=>none)
 |.fieldAddr off n,[p]=>(match o.fi with|[i]=>(match Gp off n i p with|some w=>some (w,[])|none=>none)|_=>none)
 |.field g off n,[.x (.st u) v]=>(match o.fi with|[i]=>(match Aj u v i with|some w=>bif(o5 u i==off)&&GI h g n w then some (w,[])else none|none=>none)|_=>none)
 |.field g off n,[.rc l]=>(match o.fi with|[i]=>(match sg l i with|some w=>bif(OB l i==off)&&GI h g n w then some (w,[])else none|none=>none)|_=>none)
 |.extract i,[.tp l]=>(match sg l i with|some w=>some (w,[])|none=>none)
 |.len true,[.x .s s]=>some (.x (.i .i64) (s.size:Int),[])
 |.len false,[.nl 0]=>some (.x (.i .i64) (0:Int),[])
 |.len false,[.sr id]=>(match fO h id with|some (.rw _ s _)=>some (.x (.i .i64) (s.l.length:Int),[])|_=>none)
 |.len false,[v]=>(match t8 h v with|some ⟨_,s,_⟩=>some (.x (.i .i64) (s.l.length:Int),[])|none=>none)
 |.uK m,.x (.i k) x::r=>(match RK m k x r with|some y=>some (.x (.i k) y,[])|none=>none)
 |.build z ps,vs=>bif t6 (ny o.t) z&&nv o.t&&eI (Ph o.t) false o.t then(match xA o.t o.fi ps vs (Ph o.t)with|some v=>some (v,[])|none=>none)else none
 |.lookup ka ks va z ok,[m,kv]=>(match Ol h m with
  |some ⟨kt,vt,mp,l⟩=>(match tW kt kv with
   |some k=>bif(nv kt==ka)&&(nv vt==va)&&decide (D3 kt=some ks)&&t6 (ny vt) z&&kI vt&&(va||bA vt==1)then
     some (bif ok then .tp (.co (.x vt (oY mp (ss vt) k)) (.co (.x .b (Lh mp k)) .ni))else .x vt (oY mp (ss vt) k),l)else none
   |none=>none)
  |none=>none)
 |_,_=>none
def kO{α:Type}(s:Sl α)(x r:List α):Sl α:=match x with|[]=>(match s with|.nil=>.nil|.mk _=>.mk r)|_::_=>.mk r
def Ae{α:Type}:Sl α->Sl α->Option Unit
 |.nil,.nil=>some ()
 |.mk a,.mk b=>F4 a b
 |_,_=>none
def jF(s:S2)(o:O):S2:=⟨s.dG,(s.next,some o)::s.heap,s.next+1,s.next::s.wo,s.gh⟩
def eD(s:S2)(id:Nat)(o:Option O):S2:=⟨s.dG,(id,o)::s.heap,s.next,id::s.wo,s.gh⟩
def B8(h:H2)(id:Nat):Option O:=match fO h id with|some (.ar t s v)|some (.im t s v)=>some (.im t s v)|some (.ib t v)=>some (.ib t v)|some (.bx t c)=>bif kI t&&mq (bA t) 300 then(match jk h c with|some (_,[])=>(match tW t c with|some v=>some (.ib t v)|none=>none)|_=>none)else none|_=>none
def qy(h:H2):List Nat->S2->Option S2
 |[],s=>some s
 |id::r,s=>match fO h id with|some (.rw _ _ none)=>(match qy h r s with|some s=>some (eD s id none)|none=>none)|_=>(match B8 h id,qy h r s with|some o,some s=>some (eD s id (some o))|_,_=>none)
def CE(t:Ty):Bool:=kI t&&mq 0 (bA t)
def yt(h:H2)(t:Ty)(len:Nat):Nat->List Nat->List V->Option (List (El t)×List Nat)
 |m,[],[]=>some (az (len-m) (ss t),[])
 |m,i::is,v::vs=>
  match jk h v with
  |some (w,a)=>(match tW t w with
   |some y=>bif je m i&&mq i len then(match yt h t len (i+1) is vs with|some (l,b)=>some (az (i-m) (ss t)++y::l,a++b)|none=>none)else none
   |none=>none)
  |none=>none
 |_,_,_=>none
def jK:List V->Option (List Int)
 |[]=>some []
 |.x (.i _) n::r=>match jK r with|some l=>some (n::l)|none=>none
 |_=>none
def F3(h:H2):V->Option Int
 |.nl 0=>some 0
 |v=>match t8 h v with|some ⟨_,v,_⟩=>some (v.l.length:Int)|none=>none
def OT{α:Type}(w:Sl α)(lo n:Nat)(z:α):Option (Sl α):=match w with|.nil=>none|.mk l=>some (.mk (MI l lo n (az n z)))
def uc{β:Type}(sz:Nat)(h:H2)(x:V)(l u:Int)(k:V->Option β):Option β:=
 match x with
 |.x (.sl t) v=>bif bA t==sz then(qB v.l l u).bind fun y=>k (.x (.sl t) (v.to y))else none
 |.so id=>(match fO h id with
  |some (.ar t v ver)=>bif bA t==sz then(qB v.l l u).bind fun y=>k (.sb id ver l.toNat t (v.to y))else none
  |some (.im t v ver)=>bif bA t==sz then(qB v.l l u).bind fun y=>k (.sb id ver l.toNat t (v.to y))else none
  |_=>none)
 |.sb id ver lo t v=>bif bA t==sz then(qB v.l l u).bind fun y=>k (.sb id ver (lo+l.toNat) t (v.to y))else none
 |.nl 0=>(qB ([]:List Unit) l u).bind fun _=>k (.nl 0)
 |_=>none
def Rf{β:Type}(t:Ty)(sz len:Nat)(z:List Value)(pl:List Nat)(vs:List V)(s:S2)(k:V->S2->List Nat->Option β):Option β:=
 bif(bA t==sz)&&t6 ((az len (ny t)).flatten) z&&CE t then
  (match yt s.heap t len 0 pl vs with
  |some (l,a)=>(match qy s.heap a s with|some s'=>k (.so s.next) (jF s' (.ar t (.mk l) 0)) a|none=>none)
  |none=>none)else none
def G5(ln:Option (Nat×Nat))(m:Nat):Bool:=match ln with|none=>true|some (m',_)=>kW m' m
def Fa{β:Type}(id m:Nat)(t:Ty)(p:pX)(w:V)(s:S2)(k:S2->List Nat->Option β):Option β:=
 match fO s.heap id with
 |some (.rw u v ln)=>(match p,w with
  |[],.so id2=>(match fO s.heap id2 with
   |some (.ar u2 r _)=>(match gM (.sl u2) (.sl u) r with
    |some r=>bif decide (t=.sl u)&&!(id2==id)&&G5 ln m then k (eD (eD s id2 none) id (some (.rw u (.mk (v.l.set m r)) none))) [id,id2]else none
    |none=>none)
   |_=>none)
  |_,_=>none)
 |some (.ar u l ver)=>(match jk s.heap w with
  |some (w,a)=>bif decide (u=t)then(match re u p with
   |some q=>(match tW q w with
    |some y=>(match oG (.x u (gt l.l m)) p (.x q y)with
     |some c=>(match ij u c with
      |some y=>(match qy s.heap a s with|some s=>bif !a.contains id then k (eD s id (some (.ar u (.mk (l.l.set m y)) (ver+1)))) (id::a)else none|none=>none)
      |none=>none)
     |none=>none)
    |none=>none)
   |none=>none)else none
  |none=>none)
 |_=>none
def part{β:Type}(o:OP)(vs:List V)(s:S2)(k:V->S2->List Nat->Option β):Option β:=
 match o.o.k,vs with
 |.Ap .quo,[.x (.i q) a,.x (.i q') b]=>bif decide (q=q')then(Q2 q a b).bind fun x=>k (.x (.i q) x) s []else none
 |.Ap .rem,[.x (.i q) a,.x (.i q') b]=>bif decide (q=q')then(Qe q a b).bind fun x=>k (.x (.i q) x) s []else none
 |.Ap .shl,[.x (.i q) a,.x (.i _) b]=>(yj q a b).bind fun x=>k (.x (.i q) x) s []
 |.Ap .shr,[.x (.i q) a,.x (.i _) b]=>(P9 q a b).bind fun x=>k (.x (.i q) x) s []
 |.Ap .add,[.x .s a,.x .s b]=>(Rb a b).bind fun x=>k (.x .s x) s []
 |.alloc z,[]=>bif t6 (ny o.t) z&&eI (Ph o.t) false o.t then k (.op s.next o.t []) (jF s (.bx o.t (Ph o.t))) []else none
 |.box,[v]=>(match Nh o.t v with|some w=>k (.op s.next o.t []) (jF s (.bx o.t w)) []|none=>none)
 |.buildSlice sz len z pl,vs=>Rf o.t sz len z pl vs s k
 |.store n,[.op id t p,w]=>bif(x_ w==n)then(match fO s.heap id with
  |some (.bx u c)=>bif decide (u=t)then(match re t p with
   |some a=>(match Nh a w with
    |some w=>(match oG c p w with|some c=>bif eI c false t then k (.tp .ni) (eD s id (some (.bx t c))) [id]else none|none=>none)
    |none=>none)
   |none=>none)else none
  |_=>none)else none
 |.uf,[.ep id m u []]=>(match fO s.heap id with
  |some (.rw t v none)=>bif decide (u=.sl t)then k (.so s.next) (jF (eD s id (some (.rw t v (some (m,s.next))))) (.ar t (gt v.l m) 0)) [id]else none
  |_=>none)
 |.AV szi,[.x (.i _) l,.x (.i _) c]=>(match o.t with
  |.sl t=>bif(bA t==szi)&&CE t then(zO (Sl.nil:Sl (El t)) l c).bind fun r=>k (.sr s.next) (jF s (.rw t (.mk r) none)) []else none
  |_=>none)
 |.store n,[.ep id m t p,w]=>bif(x_ w==n)then Fa id m t p w s (fun s l=>k (.tp .ni) s l)else none
 |.makeSlice z,[.x (.i _) l,.x (.i _) c]=>bif t6 (ny o.t) z&&CE o.t then(zO (ss o.t) l c).bind fun r=>k (.so s.next) (jF s (.ar o.t (.mk r) 0)) []else none
 |.slice true _ lo hi,.x .s x::r=>(match lo,hi,jK r with
  |false,false,some []=>(zV x 0 x.size).bind fun y=>k (.x .s y) s []
  |true,false,some [l]=>(zV x l x.size).bind fun y=>k (.x .s y) s []
  |false,true,some [u]=>(zV x 0 u).bind fun y=>k (.x .s y) s []
  |true,true,some [l,u]=>(zV x l u).bind fun y=>k (.x .s y) s []
  |_,_,_=>none)
 |.slice false sz lo hi,x::r=>
  (match lo,hi,jK r,F3 s.heap x with
  |false,false,some [],some n=>uc sz s.heap x 0 n fun v=>k v s []
  |true,false,some [l],some n=>uc sz s.heap x l n fun v=>k v s []
  |false,true,some [u],some _=>uc sz s.heap x 0 u fun v=>k v s []
  |true,true,some [l,u],some _=>uc sz s.heap x l u fun v=>k v s []
  |_,_,_,_=>none)
 |.indexAddr none sz,[x,.x (.i _) i]=>(match x with
  |.x (.sl t) v=>bif bA t==sz then(ff i v.l.length).bind fun m=>k (.pt t (gt v.l m)) s []else none
  |.so id=>(match t8 s.heap (.so id)with|some ⟨t,v,_⟩=>bif bA t==sz then(ff i v.l.length).bind fun m=>k (.ep id m t []) s []else none|none=>none)
  |.sb id _ lo t v=>bif bA t==sz then(ff i v.l.length).bind fun m=>k (.ep id (lo+m) t []) s []else none
  |.sr id=>(match fO s.heap id with|some (.rw t v _)=>bif 1==sz then(ff i v.l.length).bind fun m=>k (.ep id m (.sl t) []) s []else none|_=>none)
  |_=>none)
 |.indexAddr (some n) sz,[x,.x (.i _) i]=>(match x with
  |.op id t p=>(match re t p with|some (.ar n' u)=>bif(n'==n)&&(bA u==sz)then(ff i n).bind fun m=>k (.op id t (p++[.ix m])) s []else none|_=>none)
  |.ep id q t p=>(match re t p with|some (.ar n' u)=>bif(n'==n)&&(bA u==sz)then(ff i n).bind fun m=>k (.ep id q t (p++[.ix m])) s []else none|_=>none)
  |.pt (.ar n' u) v=>bif(n'==n)&&(bA u==sz)then(ff i n).bind fun m=>k (.pt u (gt v.1 m)) s []else none
  |_=>none)
 |.pF,[.x .s x,.x (.i _) i]=>(UY x i).bind fun c=>k (.x (.i .u8) c) s []
 |.index g n sz,[.x (.ar n' u) v,.x (.i _) i]=>bif(n'==n)&&(bA u==sz)&&(nv u==g)&&kI u&&(g||sz==1)then(ff i n).bind fun m=>k (.x u (gt v.1 m)) s []else none
 |.append sz,[a,x]=>
  (match Kw o.t s.heap x with
  |some ⟨t,m,aA⟩=>bif(bA t==sz)&&CE t then(match a with
   |.nl 0=>(iG ([]++m.l)).bind fun r=>k (.so s.next) (jF s (.ar t (kO Sl.nil m.l r) 0)) aA
   |.x (.sl _) v=>bif Sl.fP v then((iG ([]++m.l)).bind fun r=>k (.so s.next) (jF s (.ar t (kO Sl.nil m.l r) 0)) aA)else none
   |.so id=>(match fO s.heap id with
    |some (.ar u v _)=>(match gM (.sl t) (.sl u) m with
     |some m=>(iG (v.l++m.l)).bind fun r=>k (.so s.next) (jF (eD s id none) (.ar u (kO v m.l r) 0)) (id::aA)
     |none=>none)
    |_=>none)
   |.sb id _ lo u v=>(match fO s.heap id,gM (.sl t) (.sl u) m with
    |some (.ar _ s0 _),some m=>bif je s0.l.length (lo+(v.l.length+m.l.length))then((iG (v.l++m.l)).bind fun r=>k (.so s.next) (jF (eD s id none) (.ar u (kO v m.l r) 0)) (id::aA))else none
    |_,_=>none)
   |_=>none)else none
  |none=>none)
 |.copy sz,[a,x]=>
  (match Kw o.t s.heap x with
  |some ⟨t,m,aA⟩=>bif bA t==sz then(match a with
   |.nl 0=>k (.x (.i .i64) (0:Int)) s aA
   |.so id=>(match fO s.heap id with
    |some (.ar u v ver)=>(match gM (.sl t) (.sl u) m with
     |some m=>k (.x (.i .i64) ((min m.l.length v.l.length:Nat):Int)) (eD s id (some (.ar u (v.to (MI v.l 0 v.l.length m.l)) (ver+1)))) (id::aA)
     |none=>none)
    |_=>none)
   |.sb id ver lo _ v=>(match fO s.heap id with
    |some (.ar u w ver')=>(match gM (.sl t) (.sl u) m with
     |some m=>bif ver'==ver then k (.x (.i .i64) ((min m.l.length v.l.length:Nat):Int)) (eD s id (some (.ar u (w.to (MI w.l lo v.l.length m.l)) (ver+1)))) (id::aA)else none
     |none=>none)
    |_=>none)
   |_=>none)else none
  |none=>none)
 |.clear zz,[a]=>(match a with
  |.sb id ver lo _ v=>(match fO s.heap id with
   |some (.ar u w ver')=>bif(ver'==ver)&&t6 (ny u) zz&&CE u then(OT w lo v.l.length (ss u)).bind fun w=>k (.tp .ni) (eD s id (some (.ar u w (ver+1)))) [id]else none
   |_=>none)
  |_=>none)
 |.makeMap ka va,[]=>(match o.t with
  |.mp kt vt=>bif(nv kt==ka)&&(nv vt==va)&&kI vt&&(D3 kt).isSome then k (.om s.next) (jF s (.mp kt vt Mp.none)) []else none
  |_=>none)
 |.mapEntry ka ks va z,[.om id,kv]=>(match fO s.heap id with
  |some (.mp kt vt m)=>(match tW kt kv with
   |some q=>bif(nv kt==ka)&&(nv vt==va)&&decide (D3 kt=some ks)&&t6 (ny vt) z&&kI vt&&(va||bA vt==1)then
     k (.tp (.co (.x vt (l5 m (ss vt) q).2.1) (.co (.x (.i .i64) (l5 m (ss vt) q).2.2) .ni))) (eD s id (some (.mp kt vt (l5 m (ss vt) q).1))) [id]else none
   |none=>none)
  |_=>none)
 |.entryStore va n,[.om id,.x (.i _) st,w]=>(match fO s.heap id with
  |some (.mp kt vt m)=>(match tW vt w with
   |some y=>bif(nv vt==va)&&(bA vt==n)&&kI vt then(vo m st y).bind fun m=>k (.tp .ni) (eD s id (some (.mp kt vt m))) [id]else none
   |none=>none)
  |_=>none)
 |_,_=>none
@[reducible] def qE:List Ty->Type
 |[]=>Unit
 |a::r=>ER a r
where ER:Ty->List Ty->Type
 |a,[]=>El a
 |a,c::r=>El a×ER c r
def uo(u:Ty):V->Option (El u)
 |.x t v=>gM t u v
 |_=>none
def H6{α β:Type}:Option α->Option β->Option (α×β)
 |some x,some y=>some (x,y)
 |_,_=>none
def E4:(a:Ty)->(r:List Ty)->List V->Option (qE.ER a r)
 |a,[],l=>(match l with|[v]=>uo a v|_=>none)
 |a,c::r,l=>(match l with|v::l=>H6 (uo a v) (E4 c r l)|[]=>none)
def vX:(cs:List Ty)->List V->Option (qE cs)
 |[],[]=>some ()
 |a::r,l=>E4 a r l
 |_,_=>none
def Nz:(a:Ty)->(r:List Ty)->qE.ER a r->List V
 |a,[],v=>[.x a v]
 |a,c::r,v=>.x a v.1::Nz c r v.2
def o6:(cs:List Ty)->qE cs->List V
 |[],_=>[]
 |a::r,v=>Nz a r v
inductive Sh where
 | x (t : Ty)            -- data
 | pt (t : Ty)           -- a pointer to data
 | os (t : Ty)           -- a slice of its bt
 | rw (t : Ty)           -- a dj of aq of its bt
 | mp (k v : Ty)         -- a map of its bt
 | pb (t : Ty) (c : Sh)  -- a pointer to a box of its bt
 |st (c:Sh)
 |pr (a c:Sh)
 |nl (k:Nat)
 |fn (f:Nat) (l:Sh)
 |ni
 |gn
 deriving Inhabited,DecidableEq
def OQ:Sh->List Ty
 |.x t|.pt t=>[t]
 |.os t=>[.sl t]
 |.rw t=>[.sl (.sl t)]
 |.mp k v=>[.mp k v]
 |.pb _ c|.st c|.fn _ c=>OQ c
 |.pr a c=>OQ a++OQ c
 |_=>[]
def gZ:List Sh->List Ty
 |[]=>[]
 |a::r=>OQ a++gZ r
abbrev Wy:=List (List Sh×List Sh)
@[reducible] def vK:Wy->Type
 |[]=>Empty
 |(r,o)::w=>GS r o w
where GS:List Sh->List Sh->Wy->Type
 |r,o,[]=>qE (gZ r++gZ o)
 |r,o,(r',o')::w=>qE (gZ r++gZ o)⊕GS r' o' w
def PW{β:Type}(k:List Sh->List Sh->List V->Option β):(r o:List Sh)->(w:Wy)->vK.GS r o w->Option β
 |r,o,[],z=>k r o (o6 (gZ r++gZ o) z)
 |r,o,(r',o')::w,z=>match z with|.inl z=>k r o (o6 (gZ r++gZ o) z)|.inr z=>PW k r' o' w z
def RS{β:Type}(k:List Sh->List Sh->List V->Option β):(w:Wy)->vK w->Option β
 |[],z=>nomatch z
 |(r,o)::w,z=>PW k r o w z
structure lH where
 ps:List (Bool×Sh)
 al:Wy
 ro:Bool
 kg:List Bool
 fn:qE (gZ (ps.map (·.2)))->Option (vK al)
abbrev EN:=List (Nat×lH)
def oR(h:H2):Sh->V->Option (List V×List Nat)
 |.x t,v=>match jk h v with|some (w,l)=>(match tW t w with|some y=>some ([.x t y],l)|none=>none)|none=>none
 |.pt t,.pt u v=>match gM u t v with|some y=>some ([.x t y],[])|none=>none
 |.pt t,.op id u []=>(match fO h id with
  |some (.bx w c)=>bif decide (w=u)&&iw h c then(match jk h c with|some (c,l)=>(match tW t c with|some y=>some ([.x t y],id::l)|none=>none)|none=>none)else none
  |some (.ib w v)=>bif decide (w=u)then(match gM w t v with|some y=>some ([.x t y],[id])|none=>none)else none
  |_=>none)
 |.pt t,.ep id n u []=>(match fO h id with
  |some (.ar w s _)|some (.im w s _)=>bif decide (w=u)then(match gM w t (gt s.l n)with|some y=>some ([.x t y],[id])|none=>none)else none
  |_=>none)
 |.nl k,.nl k'=>bif k==k' then some ([],[])else none
 |.fn f c,.fn _ f' l=>bif f==f' then oR h c l else none
 |.pr a c,.co x r=>match oR h a x,oR h c r with|some (l,i),some (m,j)=>some (l++m,i++j)|_,_=>none
 |.ni,.ni=>some ([],[])
 |_,_=>none
def Qy(t:Ty){u:Ty}(v:El (.sl u)):Option (List V×List Nat):=match(v:Sl (El u))with|.nil=>some ([.x (.sl t) Sl.nil],[])|.mk _=>none
def eg(h:H2):Sh->Bool->V->Option (List V×List Nat)
 |.os t,false,.so id=>(match fO h id with|some (.ar u s _)=>(match gM (.sl u) (.sl t) s with|some s=>some ([.x (.sl t) s],[id])|none=>none)|_=>none)
 |.os t,false,.nl 0=>some ([.x (.sl t) Sl.nil],[])
 |.rw t,false,.sr id=>(match fO h id with|some (.rw u s none)=>(match gM (.sl (.sl u)) (.sl (.sl t)) s with|some s=>some ([.x (.sl (.sl t)) s],[id])|none=>none)|_=>none)
 |.rw t,false,.nl 0=>some ([.x (.sl (.sl t)) Sl.nil],[])
 |.pb t c,false,.op id u []=>(match fO h id with|some (.bx w v)=>bif decide (w=u)&&decide (u=t)then(match eg h c false v with|some (l,i)=>some (l,id::i)|none=>none)else none|_=>none)
 |.nl k,false,.nl k'=>bif k==k' then some ([],[])else none
 |.x t,false,v=>match tW t v with|some y=>some ([.x t y],[])|none=>none
 |.st c,false,.rc l=>eg h c true l
 |.st c,false,.x (.st u) v=>eg h c true (H8 u v)
 |.pr a c,true,.co x r=>match(match a,x with|.os t,.x (.sl _) v=>Qy t v|_,_=>eg h a false x),eg h c true r with|some (l,i),some (m,j)=>some (l++m,i++j)|_,_=>none
 |.ni,true,.ni=>some ([],[])
 |_,_,_=>none
def rf:Sh->Bool->List V->S2->Option (V×List V×S2)
 |.x t,false,.x u v::l,s=>bif decide (u=t)&&kI t then some (.x u v,l,{s with next:=s.next+bA t})else none
 |.os t,false,.x (.sl u) v::l,s=>bif decide (u=t)&&CE t then some (.so s.next,l,jF s (.ar u v 0))else none
 |.rw t,false,.x (.sl (.sl u)) v::l,s=>bif decide (u=t)&&CE t then some (.sr s.next,l,jF s (.rw u v none))else none
 |.pb t c,false,l,s=>
  match rf c false l {s with next:=s.next+1}with
  |some (w,l,s')=>bif eI w false t then some (.op s.next t [],l,eD s' s.next (some (.bx t w)))else none
  |none=>none
 |.nl k,false,l,s=>some (.nl k,l,{s with next:=s.next+1})
 |.st c,false,l,s=>match rf c true l s with|some (w,l,s)=>some (.rc w,l,s)|none=>none
 |.pr a c,true,l,s=>match rf a false l s with|some (x,l,s)=>(match rf c true l s with|some (r,l,s)=>some (.co x r,l,s)|none=>none)|none=>none
 |.ni,true,l,s=>some (.ni,l,s)
 |_,_,_,_=>none
def IZ:List Sh->List V->S2->Option (List V×List V×S2)
 |[],l,s=>some ([],l,s)
 |a::r,l,s=>match rf a false l s with|some (x,l,s)=>(match IZ r l s with|some (xs,l,s)=>some (x::xs,l,s)|none=>none)|none=>none
def oS(h:H2):List (Bool×Sh)->List V->Option (List V×List Nat×List (V×List Nat))
 |[],[]=>some ([],[],[])
 |(b,c)::r,v::vs=>
  match oS h r vs with
  |some (m,j,q)=>
   bif b then(match eg h c false v with|some (l,i)=>some (l++m,j,(v,i)::q)|none=>none)
   else(match oR h c v with|some (l,i)=>some (l++m,i++j,q)|none=>none)
  |none=>none
 |_,_=>none
def A9(h:H2)(f:Nat)(vs:List V):EN->Option (lH×List V×List Nat×List (V×List Nat))
 |[]=>none
 |(g,sp)::r=>bif g==f then(match oS h sp.ps vs with|some (l,i,q)=>some (sp,l,i,q)|none=>A9 h f vs r)else A9 h f vs r
def jb:List Nat->S2->S2
 |[],s=>s
 |id::r,s=>eD (jb r s) id none
def gg{β:Type}:List Sh->List (V×List Nat)->List V->S2->(S2->Option β)->Option β
 |[],[],[],s,k=>k s
 |.nl _::r,(_,[])::q,l,s,k=>gg r q l s k
 |.gn::r,(_,i)::q,l,s,k=>gg r q l (jb i s) k
 |.os t::r,(.nl 0,[])::q,.x (.sl u) v::l,s,k=>(match gM (.sl u) (.sl t) v with|some v=>(Ae v (Sl.nil:Sl (El t))).bind fun _=>gg r q l s k|none=>none)
 |.os t::r,(.so id,_)::q,.x (.sl u) v::l,s,k=>(match fO s.heap id,gM (.sl u) (.sl t) v with
  |some (.ar w old ver),some v=>(match gM (.sl t) (.sl w) v with
   |some v=>(Ae v old).bind fun _=>gg r q l (eD s id (some (.ar w v (ver+1)))) k
   |none=>none)
  |_,_=>none)
 |.rw t::r,(.nl 0,[])::q,.x (.sl (.sl u)) v::l,s,k=>(match gM (.sl (.sl u)) (.sl (.sl t)) v with|some v=>(Ae (v:Sl (Sl (El t))) (Sl.nil:Sl (Sl (El t)))).bind fun _=>gg r q l s k|none=>none)
 |.rw t::r,(.sr id,_)::q,.x (.sl (.sl u)) v::l,s,k=>(match fO s.heap id,gM (.sl (.sl u)) (.sl (.sl t)) v with
  |some (.rw w old _),some v=>(match gM (.sl (.sl t)) (.sl (.sl w)) v with
   |some v=>(Ae (v:Sl (Sl (El w))) old).bind fun _=>gg r q l (eD s id (some (.rw w v none))) k
   |none=>none)
  |_,_=>none)
 |.pb t c::r,(.op id u [],i)::q,l,s,k=>(match fO s.heap id with
  |some _=>(match rf c false l s with
   |some (w,l,s)=>bif eI w false t&&decide (u=t)then gg r q l (eD (jb i s) id (some (.bx t w))) k else none
   |none=>none)
  |none=>none)
 |_,_,_,_,_=>none
def Qd:List V->V
 |[v]=>v
 |l=>.tp (dj l)
def yK:List Nat->Bool
 |[]=>true
 |a::r=>!r.contains a&&yK r
def vP:V->Option (List V)
 |.ni=>some []
 |.co a r=>bif(x_ a==1)&&!tj a then(match vP r with|some l=>some (a::l)|none=>none)else none
 |_=>none
def xP{β:Type}(tb:EN)(ro:Bool)(kg:List Bool)(f:V)(vs:List V)(s:S2)(k:V->S2->List Nat->Option β):Option β:=
 match f with
 |.fn _ fid caps=>
  match(match vP caps with|some cs=>A9 s.heap fid (vs++cs) tb|none=>none)with
  |some (sp,pay,aA,q)=>
   bif(!ro||sp.ro)&&decide (sp.kg=kg)&&yK (q.flatMap (·.2))&&(q.flatMap (·.2)).all (fun i=>!aA.contains i)then
    match vX (gZ (sp.ps.map (·.2))) pay with
    |some p=>(sp.fn p).bind fun z=>RS (fun rs os l=>
     match(bif ro then some s else qy s.heap aA s)with
     |some s0=>gg os q (l.drop (gZ rs).length) s0 fun s1=>
      (match IZ rs (l.take (gZ rs).length) s1 with
      |some (xs,_,s2)=>k (Qd xs) s2 (aA++q.flatMap (·.2))
      |none=>none)
     |none=>none) sp.al z
    |none=>none
   else none
  |none=>none
 |_=>none
structure Rg where
 kn:List (Nat×Bool)
 cd:List (Nat×Nat×Bool×V)
def QI(kn:List (Nat×Bool))(g:Nat):Option Bool:=cz kn g
def J4(s:S2)(q:Rg)(gc:Option (Nat×Bool)):Operand->Option V
 |.tmp t=>match cz q.cd t with|some (g,b,v)=>bif decide (gc=some (g,b))||decide (QI q.kn g=some b)then(bif iw s.heap v then some v else none)else none|none=>J3 s.dG s.heap (.tmp t)
 |o=>J3 s.dG s.heap o
def FM(s:S2)(q:Rg)(gc:Option (Nat×Bool)):List Operand->Option (List V)
 |[]=>some []
 |a::r=>match J4 s q gc a,FM s q gc r with|some x,some y=>some (x::y)|_,_=>none
inductive GV where
 |run
 |skip
 |RH (g:Nat) (b:Bool) (c:Bool)
def UQ(e:List (Nat×V))(kn:List (Nat×Bool)):Option (Nat×Bool)->Option GV
 |none=>some .run
 |some (g,b)=>
  match QI kn g with
  |some c=>some (bif c==b then .run else .skip)
  |none=>(match cz e g with
   |some (.kb c)=>some (bif c==b then .run else .skip)
   |some (.x .b c)=>some (.RH g b c)
   |some .no=>some .skip
   |_=>none)
def KN(s:S2)(q:Rg)(gc:Option (Nat×Bool)):List Operand->Option V
 |[.tmp g,a,b]=>match QI q.kn g,cz s.dG g with|some c,_=>J4 s q gc (bif c then a else b)|none,some (.kb c)=>J4 s q gc (bif c then a else b)|none,some (.x .b c)=>(match J4 s q (some (g,true)) a,J4 s q (some (g,false)) b with|some x,some y=>UL c x y|_,_=>none)|_,_=>none
 |[.const (.bool c),a,b]=>J4 s q gc (bif c then a else b)
 |_=>none
def F9:K->Bool
 |.pick=>true
 |_=>false
def NB(o:OP)(s:S2)(q:Rg)(gc:Option (Nat×Bool)):Option (V×List Nat):=
 bif F9 o.o.k then(match KN s q gc o.o.args with|some v=>some (v,[])|none=>none)
 else(match FM s q gc o.o.args with|some vs=>P4 o vs s.heap|none=>none)
def ua(s:S2)(d:Option Nat)(v:V):S2:=match d with|some d=>{s with dG:=(d,v)::s.dG}|none=>s
def OU(q:Rg)(d:Option Nat):Option Rg:=match d with|none=>some q|some d=>bif q.cd.any (fun e=>e.2.1==d)||q.kn.any (fun e=>e.1==d)then none else some ⟨q.kn,q.cd.filter (fun e=>!(e.1==d))⟩
abbrev J7:=List (List Nat×List Nat)
def S4{β:Type}(tb:EN)(o:OP)(s:S2)(q:Rg)(gc:Option (Nat×Bool))(k:V->S2->List Nat->Option β):Option β:=
 match NB o s q gc with
 |some (v,l)=>k v s l
 |none=>
  match FM s q gc o.o.args with
  |some vs=>
   (match o.o.k,vs with
   |.call ro kg,f::vs=>xP tb ro kg f vs s k
   |_,vs=>part o vs s k)
  |none=>none
def Nj(dr:Option Nat)(i:Nat)(s:S2):S2:=match dr with|some b=>{s with next:=b+iU*i}|none=>s
def Jc(dr:Option Nat)(i:Nat)(s:S2):Bool:=match dr with|some b=>je s.next (b+iU*(i+1))|none=>true
def RU(d:Option Nat)(r:List OP):Bool:=
 match d with
 |some d=>r.any fun o=>match o.o.guard with|some (g,_)=>kW g d|none=>false
 |none=>false
def nf{β:Type}(tb:EN)(dr:Option Nat):List OP->Nat->S2->Rg->J7->(S2->J7->Option β)->Option β
 |[],_,s,_,tr,k=>k s tr
 |o::r,i,s0,q,tr,k=>
  let s:=Nj dr i s0
  let go:Rg->Option β:=fun q=>S4 tb o s q o.o.guard fun v s1 l=>
   bif Jc dr i s1 then(match OU q o.o.dst with
    |some q=>nf tb dr r (i+1) (ua s1 o.o.dst v) q (tr++[(l,s1.wo.take (s1.wo.length-s.wo.length))]) k
    |none=>none)else none
  let no:Rg->Option β:=fun q=>match OU q o.o.dst with|some q=>nf tb dr r (i+1) (ua s o.o.dst .no) q (tr++[([],[])]) k|none=>none
  match UQ s.dG q.kn o.o.guard with
  |none=>none
  |some .run=>go q
  |some .skip=>no q
  |some (.RH g b c)=>
   match(bif RU o.o.dst r then none else NB o s q (some (g,b)))with
   |some (v,l)=>
    (match OU q o.o.dst,o.o.dst with
    |some q,some d=>bif kW g d then none else nf tb dr r (i+1) (ua s (some d) .gn) ⟨q.kn,(d,g,b,v)::q.cd⟩ (tr++[(l,[])]) k
    |_,_=>none)
   |none=>(match b with
    |true=>bif c then go ⟨(g,true)::q.kn,q.cd⟩else no ⟨(g,false)::q.kn,q.cd⟩
    |false=>bif c then no ⟨(g,true)::q.kn,q.cd⟩else go ⟨(g,false)::q.kn,q.cd⟩)
inductive JV where
 |x (t:Ty)
 |pt (t:Ty)
 |so (j:Nat)
 |sr (j:Nat)
 |om (j:Nat)
 |op (j:Nat) (t:Ty) (p:List Nat)
 |nl (k:Nat)
 |fn (z:Bool) (f:Nat) (l:JV)
 |rc (l:JV)
 |ni
 |co (a r:JV)
 |sm
 |gn
 deriving Inhabited
inductive JO where
 |ar (t:Ty)
 |bx (t:Ty) (c:JV)
 |mp (k v:Ty)
 |rw(t:Ty)
 deriving Inhabited
structure J where
 vs:List (Nat×JV):=[]
 gs:JV:=.sm
 os:List JO:=[]
 kl:List Nat:=[]
 deriving Inhabited
def JF:JV->List Ty
 |.x t|.pt t=>[t]
 |.fn _ _ l|.rc l=>JF l
 |.co a r=>JF a++JF r
 |_=>[]
def PF:List (Nat×JV)->List Ty
 |[]=>[]
 |(_,a)::r=>JF a++PF r
def UV:JO->List Ty
 |.ar t=>[.sl t]
 |.bx _ c=>JF c
 |.mp k v=>[.mp k v]
 |.rw t=>[.sl (.sl t)]
def PG:List JO->List Ty
 |[]=>[]
 |a::r=>UV a++PG r
def pV(j:J):List Ty:=PF j.vs++(JF j.gs++PG j.os)
structure Bd where
 j:Nat
 id:Option Nat
def MX:List Bd->Nat->Option Bd
 |[],_=>none
 |b::r,j=>bif b.j==j then some b else MX r j
def vG(m:List Bd)(b:Bd):Option (List Bd):=
 match MX m b.j with
 |none=>bif(match b.id with|some i=>m.all (fun c=>match c.id with|some i'=>!(i'==i)|none=>true)|none=>true)then some (b::m)else none
 |some c=>(match b.id,c.id with
  |some i,some i'=>bif i==i' then some m else none
  |_,_=>none)
def Dl:pX->Option (List Nat)
 |[]=>some []
 |.fd i::p=>match Dl p with|some l=>some (i::l)|none=>none
 |.ix _::_=>none
def dA:JV->Bool->V->List Bd->Option (List V×List Bd)
 |.x t,false,v,m=>match tW t v with|some y=>some ([.x t y],m)|none=>none
 |.pt t,false,.pt u v,m=>match gM u t v with|some y=>some ([.x t y],m)|none=>none
 |.so j,false,.so id,m=>match vG m ⟨j,some id⟩with|some m=>some ([],m)|none=>none
 |.so j,false,.nl 0,m=>match vG m ⟨j,none⟩with|some m=>some ([],m)|none=>none
 |.so j,false,.x (.sl _) v,m=>bif Sl.fP v then(match vG m ⟨j,none⟩with|some m=>some ([],m)|none=>none)else none
 |.sr j,false,.sr id,m=>match vG m ⟨j,some id⟩with|some m=>some ([],m)|none=>none
 |.om j,false,.om id,m=>match vG m ⟨j,some id⟩with|some m=>some ([],m)|none=>none
 |.op j t p,false,.op id u q,m=>bif decide (u=t)&&decide (Dl q=some p)then(match vG m ⟨j,some id⟩with|some m=>some ([],m)|none=>none)else none
 |.nl k,false,.nl k',m=>bif k==k' then some ([],m)else none
 |.fn z f l,false,.fn z' f' l',m=>bif(z==z')&&(f==f')then dA l true l' m else none
 |.rc l,false,.rc l',m=>dA l true l' m
 |.rc l,false,.x (.st t) v,m=>dA l true (H8 t v) m
 |.ni,true,.ni,m=>some ([],m)
 |.co a r,true,.co x y,m=>match dA a false x m with|some (l,m)=>(match dA r true y m with|some (l',m)=>some (l++l',m)|none=>none)|none=>none
 |_,_,_,_=>none
def Bj(s:S2):List (Nat×JV)->List Bd->Option (List V×List Bd)
 |[],m=>some ([],m)
 |(t,a)::r,m=>match J3 s.dG s.heap (.tmp t)with|some v=>(match dA a false v m with|some (l,m)=>(match Bj s r m with|some (l',m)=>some (l++l',m)|none=>none)|none=>none)|none=>none
def MS(h:H2)(j:Nat)(o:JO)(m:List Bd):Option (List V×List Bd):=
 match MX m j with
 |some b=>(match o,b.id with
  |.ar t,none=>bif CE t then some ([.x (.sl t) Sl.nil],m)else none
  |.ar t,some id=>(match fO h id with|some (.ar u s _)=>(match gM (.sl u) (.sl t) s with|some s=>some ([.x (.sl t) s],m)|none=>none)|_=>none)
  |.rw t,some id=>(match fO h id with|some (.rw u s none)=>(match gM (.sl (.sl u)) (.sl (.sl t)) s with|some s=>some ([.x (.sl (.sl t)) s],m)|none=>none)|_=>none)
  |.bx t c,some id=>(match fO h id with|some (.bx u v)=>bif decide (u=t)then dA c false v m else none|_=>none)
  |.mp k v,some id=>(match fO h id with|some (.mp k' v' y)=>(match gM (.mp k' v') (.mp k v) y with|some y=>some ([.x (.mp k v) y],m)|none=>none)|_=>none)
  |_,_=>none)
 |none=>none
def Bl(h:H2):List JO->Nat->List Bd->Option (List V×List Bd)
 |[],_,m=>some ([],m)
 |o::r,j,m=>match MS h j o m with|some (l,m)=>(match Bl h r (j+1) m with|some (l',m)=>some (l++l',m)|none=>none)|none=>none
def rU:V->V->Bool
 |.so i,.so j=>i==j
 |.sr i,.sr j=>i==j
 |.op i t [],.op j u []=>(i==j)&&decide (t=u)
 |.nl k,.nl l=>k==l
 |.gn,.gn=>true
 |_,_=>false
def yn:V->V->Bool
 |.ni,.ni=>true
 |.co a r,.co x y=>rU a x&&yn r y
 |_,_=>false
def pW(h:H2):JV->V->V->List Bd->Option (List V×List Bd)
 |.sm,g0,g,m=>bif yn g0 g then some ([],m)else none
 |.ni,.ni,.ni,m=>some ([],m)
 |.co a r,.co x0 y0,.co x y,m=>match a with|.sm=>bif rU x0 x then pW h r y0 y m else none|.gn=>pW h r y0 y m|a=>bif iw h x then(match dA a false x m with|some (l,m)=>(match pW h r y0 y m with|some (l',m)=>some (l++l',m)|none=>none)|none=>none)else none
 |_,_,_,_=>none
def Am:List (Nat×JV)->S2->S2
 |[],s=>s
 |(t,.so _)::r,s=>(match cz s.dG t with
  |some (.sb id ver _ u x)=>(match fO s.heap id with
   |some (.ar _ _ v)=>bif kI u&&v==ver then Am r ⟨(t,.so s.next)::s.dG,(s.next,some (.ar u x 0))::(id,none)::s.heap,s.next+1,s.next::id::s.wo,s.gh⟩else Am r s
   |_=>Am r s)
  |_=>Am r s)
 |_::r,s=>Am r s
def Bn(j:J)(s0:S2)(s:S2):Option (List V):=
 match Bj s j.vs []with
 |some (l1,m)=>match pW s.heap j.gs s0.gh s.gh m with
  |some (l2,m)=>(match Bl s.heap j.os 0 m with
   |some (l3,m)=>bif s.wo.all (fun i=>je s0.next i||j.kl.contains i)&&m.all (fun b=>mq b.j j.os.length&&(match b.id with|some i=>je s0.next i||j.kl.contains i|none=>true))then some (l1++(l2++l3))else none
   |none=>none)
  |none=>none
 |none=>none
def xy(j:J)(s0:S2)(s:S2):Option (List V):=match Am j.vs s with|⟨e,h,n,w,g⟩=>Bn j s0 ⟨e,h,n,w,g⟩
def iT(b:Nat):JV->Bool->List V->V->Option (V×List V)
 |.x t,false,.x u v::l,_=>bif decide (u=t)&&kI u then some (.x u v,l)else none
 |.pt t,false,.x u v::l,_=>bif decide (u=t)&&kI u then some (.pt u v,l)else none
 |.so j,false,l,_=>some (.so (b+j),l)
 |.sr j,false,l,_=>some (.sr (b+j),l)
 |.om j,false,l,_=>some (.om (b+j),l)
 |.op j t p,false,l,_=>some (.op (b+j) t (p.map .fd),l)
 |.nl k,false,l,_=>some (.nl k,l)
 |.fn z f c,false,l,_=>match iT b c true l .ni with|some (w,l)=>some (.fn z f w,l)|none=>none
 |.rc c,false,l,_=>match iT b c true l .ni with|some (w,l)=>some (.rc w,l)|none=>none
 |.ni,true,l,_=>some (.ni,l)
 |.co a r,true,l,.co x y=>match iT b a false l x with|some (v,l)=>(match iT b r true l y with|some (w,l)=>some (.co v w,l)|none=>none)|none=>none
 |.co a r,true,l,_=>match iT b a false l .gn with|some (v,l)=>(match iT b r true l .ni with|some (w,l)=>some (.co v w,l)|none=>none)|none=>none
 |.sm,_,l,v=>some (v,l)
 |.gn,false,l,_=>some (.gn,l)
 |_,_,_,_=>none
def G9(b:Nat):List (Nat×JV)->List V->Option (List (Nat×V)×List V)
 |[],l=>some ([],l)
 |(t,a)::r,l=>match iT b a false l .gn with|some (v,l)=>(match G9 b r l with|some (e,l)=>some ((t,v)::e,l)|none=>none)|none=>none
def Fu(b:Nat):JO->List V->Option (O×List V)
 |.ar t,.x (.sl u) v::l=>bif decide (u=t)then some (.ar u v 0,l)else none
 |.rw t,.x (.sl (.sl u)) v::l=>bif decide (u=t)&&CE t then some (.rw u v none,l)else none
 |.bx t c,l=>match iT b c false l .gn with|some (w,l)=>bif eI w false t then some (.bx t w,l)else none|none=>none
 |.mp k v,.x (.mp k' v') m::l=>bif decide (k'=k)&&decide (v'=v)then some (.mp k' v' m,l)else none
 |_,_=>none
def C8(b:Nat):List JO->Nat->List V->Option (H2×List V)
 |[],_,l=>some ([],l)
 |o::r,j,l=>match Fu b o l with|some (o,l)=>(match C8 b r (j+1) l with|some (h,l)=>some ((b+j,some o)::h,l)|none=>none)|none=>none
def uE(j:J)(ds:List Nat)(s0:S2)(l:List V):Option S2:=
 match G9 s0.next j.vs l with
 |some (e,l)=>(match iT s0.next j.gs true l s0.gh with
  |some (g,l)=>(match C8 s0.next j.os 0 l with
   |some (h,_)=>some ⟨e++ds.map (fun t=>(t,V.gn))++s0.dG,h++j.kl.map (fun i=>(i,none))++s0.heap,s0.next+j.os.length,h.map (·.1)++j.kl++s0.wo,g⟩
   |none=>none)
  |none=>none)
 |none=>none
abbrev Ex:=List (sf×J)
@[reducible] def EO:Ex->Type
 |[]=>Empty
 |(_,j)::r=>M9 j r
where M9:J->Ex->Type
 |j,[]=>qE (pV j)
 |j,(_,j')::r=>qE (pV j)⊕M9 j' r
def LQ(s0:S2)(o:sf)(s:S2):(o':sf)->(j:J)->(r:Ex)->Option (EO.M9 j r)
 |o',j,[]=>bif decide (o=o')then(match xy j s0 s with|some l=>vX (pV j) l|none=>none)else none
 |o',j,(o2,j2)::r=>bif decide (o=o')then(match xy j s0 s with|some l=>(match vX (pV j) l with|some p=>some (.inl p)|none=>none)|none=>none)
  else(match LQ s0 o s o2 j2 r with|some x=>some (.inr x)|none=>none)
def Jb(s0:S2)(o:sf)(s:S2):(e:Ex)->Option (EO e)
 |[]=>none
 |(o',j)::r=>LQ s0 o s o' j r
def Qk{β:Type}(ds:List Nat)(s0:S2)(k:sf->S2->Option β):(o:sf)->(j:J)->(r:Ex)->EO.M9 j r->Option β
 |o,j,[],p=>match uE j ds s0 (o6 (pV j) p)with|some s=>k o s|none=>none
 |o,j,(o2,j2)::r,x=>match x with|.inl p=>(match uE j ds s0 (o6 (pV j) p)with|some s=>k o s|none=>none)|.inr y=>Qk ds s0 k o2 j2 r y
def KP{β:Type}(ds:List Nat)(s0:S2)(k:sf->S2->Option β):(e:Ex)->EO e->Option β
 |[],x=>nomatch x
 |(o,j)::r,x=>Qk ds s0 k o j r x
inductive C2 where
 |skip
 |NY (ops:List OP) (dr:Option (List (Nat×Nat))) (jn:Option J)
 |seq (a b:C2) (e:Ex)
 |cond (c:Operand) (a b:C2)
 |block (id:Nat) (a:C2)
 |loop (j:J) (e:Ex) (a:C2)
 |exit (id:Nat)
 |ret
 |gx
 deriving Inhabited
def mR:C2->List Nat
 |.NY ops _ _=>ops.filterMap (·.o.dst)
 |.seq a b _|.cond _ a b=>mR a++mR b
 |.block _ a|.loop _ _ a=>mR a
 |_=>[]
def LM:K->Bool
 |.lookup _ _ _ _ _=>true
 |_=>false
def Pk(ops:List OP)(tr:J7)(i j:Nat):Bool:=
 match ops[i]?,tr[i]?with
 |some o,some ([id],[])=>LM o.o.k&&((tr.take j).drop (i+1)).all (fun x=>!x.2.contains id)
 |_,_=>false
def Q1(ops:List OP)(tr:J7)(dyn:List (Nat×Nat)):Bool:=
 dyn.all fun p=>bif je 1000 p.2 then(match tr[p.1]?,tr[p.2-1000]?with|some a,some b=>mg a b||Pk ops tr p.1 (p.2-1000)|_,_=>true)
  else(match tr[p.1]?,tr[p.2]?with|some a,some b=>mg a b|_,_=>true)
def Ru(s:S2)(id:Nat):Option S2:=
 match fO s.heap id with
 |some (.rw t v (some (m,id2)))=>(match fO s.heap id2 with
  |some (.ar u r _)=>(match gM (.sl u) (.sl t) r with
   |some r=>some (eD (eD s id2 none) id (some (.rw t (.mk (v.l.set m r)) none)))
   |none=>none)
  |_=>none)
 |_=>some s
def Cw:List Nat->S2->Option S2
 |[],s=>some s
 |id::r,s=>match Ru s id with|some s=>Cw r s|none=>none
def Rv(s s':S2):Option S2:=Cw (s'.wo.take (s'.wo.length-s.wo.length)) s'
def HG{β:Type}(tb:EN)(ops:List OP)(dr:Option (List (Nat×Nat)))(s:S2)(k:S2->Option β):Option β:=match dr with|none=>nf tb none ops 0 s ⟨[],[]⟩ [] fun s' _=>(Rv s s').bind k|some dyn=>nf tb (some s.next) ops 0 s ⟨[],[]⟩ [] fun s' tr=>bif Q1 ops tr dyn then(Rv s {s' with next:=s.next+iU*ops.length}).bind k else none
def xw{β:Type}(tb:EN):C2->S2->(sf->S2->Option β)->Option β
 |.skip,s,k=>k .normal s
 |.NY ops dr none,s,k=>HG tb ops dr s fun s=>k .normal s
 |.NY ops dr (some j),s,k=>(HG tb ops dr {s with wo:=[]} fun s'=>match xy j s s' with|some l=>vX (pV j) l|none=>none).bind fun p=>match uE j (ops.filterMap (·.o.dst)) s (o6 (pV j) p)with|some s=>k .normal s|none=>none
 |.seq a b [],s,k=>xw tb a s fun o s=>match o with|.normal=>xw tb b s k|o=>k o s
 |.seq a b (e::r),s,k=>(xw tb a {s with wo:=[]} fun o s'=>Jb s o s' (e::r)).bind fun x=>KP (mR a) s (fun o s=>match o with|.normal=>xw tb b s k|o=>k o s) (e::r) x
 |.cond c a b,s,k=>(match J3 s.dG s.heap c with
  |some (.kb t)=>bif t then xw tb a s k else xw tb b s k
  |some (.x .b t)=>bif t then xw tb a s k else xw tb b s k
  |_=>none)
 |.block id a,s,k=>xw tb a s fun o s=>match o with|.exit i=>k (bif i==id then .normal else .exit i) s|o=>k o s
 |.loop j e a,s,k=>
  bif e.all (fun x=>j.kl.all fun i=>x.2.kl.contains i)then(match xy j s {s with wo:=[]}with
  |some l=>(match vX (pV j) l with
   |some p0=>(bE (fun p=>match uE j (mR a) s (o6 (pV j) p)with
     |some s1=>xw tb a {s1 with wo:=[]} fun o s'=>(match o with
      |.normal=>(match xy j s s' with|some l=>(match vX (pV j) l with|some q=>some (Sum.inl q)|none=>none)|none=>none)
      |o=>(match Jb s o s' e with|some x=>some (Sum.inr x)|none=>none))
     |none=>none) p0).bind fun x=>KP (mR a) s k e x
   |none=>none)
  |none=>none)else none
 |.exit id,s,k=>k (.exit id) s
 |.ret,s,k=>k .ret s
 |.gx,_,_=>none
def eQ(P:Program):Nat->TypeId->Ty
 |0,_=>.o 9
 |n+1,t=>match P.underlying t with|some (.int k)=>.i k|some .bool=>.b|some .string=>.s|some (.float k)=>.f k|some (.slice e)=>.sl (eQ P n e)|some (.map k v)=>.mp (eQ P n k) (eQ P n v)|some (.struct fs)=>.st (SK (fs.toList.map fun f=>eQ P n f.type))|some (.array m e)=>.ar m (eQ P n e)|some (.pointer _)=>.o 1|some (.func ..)=>.o 2|_=>.o 4
where SK:List Ty->Ty
 |[]=>.un
 |[t]=>t
 |t::r=>.pr t (SK r)
def Jz:Nat:=12
def QY(P:Program)(t:TypeId):Ty:=match P.underlying t with|some (.slice e)=>eQ P Jz e|some (.array _ e)=>eQ P Jz e|_=>.o 9
def Py(P:Program):Op->Ty×List Nat
 |.alloc e=>(eQ P Jz e,[])
 |.box t _=>(eQ P Jz t,[])
 |.build t parts=>(eQ P Jz t,parts.toList.map (·.1))
 |.buildSlice t _ parts=>(QY P t,parts.toList.map (·.1))
 |.fieldAddr _ _ f=>(.o 9,[f])
 |.field _ _ f=>(.o 9,[f])
 |.makeSlice t _ _=>(QY P t,[])
 |.makeMap t _=>(eQ P Jz t,[])
 |.call c=>(match c.callee,c.argTypes.toList with|.builtin _,t::_=>QY P t|_,_=>.o 9,[])
 |_=>(.o 9,[])
def Qr(P:Program)(di:Au)(nt:Nat)(all:Array Oper)(o:Oper):OP:=⟨gE P di nt all o,(Py P o.op).1,(Py P o.op).2⟩
structure An where
 j:Option J:=none
 e:Ex:=[]
 deriving Inhabited
def pL(P:Program)(di:Au)(nt:Nat)(an:List (Nat×An)):Code->Nat->C2×Nat
 |.skip,n=>(.skip,n)
 |.region _ ops draw,n=>
  (if draw then(if yH (M5 ops.toList []) ops.toList 0&&yl (M5 ops.toList []) (ops.toList.map (gE P di nt ops)) 0&&decide (ops.toList.length<=1000)
   then .NY (ops.toList.map (Qr P di nt ops)) (some (sX (M5 ops.toList []) (ops.toList.map (gE P di nt ops)) 0)) ((cz an n).bind (·.j))else .gx)
   else .NY (ops.toList.map (Qr P di nt ops)) none ((cz an n).bind (·.j)),n+1)
 |.seq a b,n=>
  let x:=pL P di nt an a (n+1);let y:=pL P di nt an b x.2
  (.seq x.1 y.1 (match cz an n with|some w=>w.e|none=>[]),y.2)
 |.cond c a b,n=>let x:=pL P di nt an a n;let y:=pL P di nt an b x.2;(.cond c x.1 y.1,y.2)
 |.block id a,n=>let x:=pL P di nt an a n;(.block id x.1,x.2)
 |.loop a,n=>
  let x:=pL P di nt an a (n+1)
  (match cz an n with|some ⟨some j,e⟩=>.loop j e x.1|_=>.gx,x.2)
 |.scope a,n=>pL P di nt an a n
 |.label _,n=>(.skip,n)
 |.exit id,n=>(.exit id,n)
 |.ret,n=>(.ret,n)
 |_,n=>(.gx,n)
structure F2 where
 np:Nat
 kK:List RV
 body:C2
def Bi(P:Program)(di:Au)(f np:Nat)(an:List (Nat×An)):Option F2:=
 match P.funcs[f]?with
 |none=>none
 |some g=>
  match g.body with
  |none=>none
  |some code=>
   if(g.name== "runtime.NumGoroutine")=false/\np<=g.ntmps/\g.ntmps<1000000000 then
    match AH P g.results.toList with|some kK=>some ⟨np,kK,(pL P di g.ntmps an code 0).1⟩|none=>none
   else none
def CN:Sh->List V->Option (V×List V)
 |.ni,l=>some (.ni,l)
 |.pr (.pt t) c,.x u v::l=>bif decide (u=t)&&kI t then(match CN c l with|some (w,l)=>some (.co (.pt u v) w,l)|none=>none)else none
 |_,_=>none
def sW:List (Bool×Sh)->Nat->List V->S2->Option (List (Nat×V)×S2)
 |[],_,[],s=>some ([],s)
 |(false,.x t)::r,i,.x u v::l,s=>bif decide (u=t)&&kI t then(match sW r (i+1) l s with|some (e,s)=>some ((i,.x u v)::e,s)|none=>none)else none
 |(false,.pt t)::r,i,.x u v::l,s=>bif decide (u=t)&&kI t then(match sW r (i+1) l s with|some (e,s)=>some ((i,.pt u v)::e,s)|none=>none)else none
 |(false,.nl k)::r,i,l,s=>(match sW r (i+1) l s with|some (e,s)=>some ((i,.nl k)::e,s)|none=>none)
 |(false,.fn f c)::r,i,l,s=>(match CN c l with|some (w,l)=>(match sW r (i+1) l s with|some (e,s)=>some ((i,.fn true f w)::e,s)|none=>none)|none=>none)
 |(true,c)::r,i,l,s=>(match rf c false l s with
  |some (w,l,s)=>(match sW r (i+1) l s with|some (e,s)=>some ((i,w)::e,{s with gh:=.co w s.gh})|none=>none)
  |none=>none)
 |_,_,_,_=>none
def QX(ps:List (Bool×Sh))(l:List V):Option S2:=
 match sW ps 0 l ⟨[],[],0,[],.ni⟩with
 |some (e,s)=>some {s with dG:=e}
 |none=>none
def NV(s:S2):RV->Option V
 |.tmp t=>J3 s.dG s.heap (.tmp t)
 |.cell t g n=>match J3 s.dG s.heap (.tmp t)with|some p=>(match yS s.heap p with|some (w,_)=>bif GI s.heap g n w then some w else none|none=>none)|none=>none
def NW(h:H2):Sh->V->Option (List V×List Nat)
 |.x t,v=>match jk h v with|some (w,l)=>(match tW t w with|some y=>some ([.x t y],l)|none=>none)|none=>none
 |.os t,.sb id _ _ u r=>(match fO h id with|some (.ar _ _ _)=>(match gM (.sl u) (.sl t) r with|some s=>some ([.x (.sl t) s],[id])|none=>none)|_=>none)
 |c,v=>eg h c false v
def T3(h:H2):Sh->V->Option (List V×List Nat)
 |.gn,_=>some ([],[])
 |c,v=>bif iw h v then eg h c false v else none
def AK(h:H2):List Sh->List V->Option (List V×List Nat)
 |[],[]=>some ([],[])
 |c::r,v::vs=>match NW h c v,AK h r vs with|some (l,i),some (m,j)=>some (l++m,i++j)|_,_=>none
 |_,_=>none
def AJ(h:H2):List Sh->List V->Option (List V×List Nat)
 |[],[]=>some ([],[])
 |c::r,v::vs=>match T3 h c v,AJ h r vs with|some (l,i),some (m,j)=>some (l++m,i++j)|_,_=>none
 |_,_=>none
def Om{α β:Type}(f:α->Option β):List α->Option (List β)
 |[]=>some []
 |a::r=>match f a,Om f r with|some x,some y=>some (x::y)|_,_=>none
def Jn(kK:List RV)(rs os:List Sh)(s:S2):Option (List V):=
 match Om (NV s) kK with
 |some vs=>match AK s.heap rs vs,AJ s.heap os (AA s.gh)with|some (l,i),some (m,j)=>bif yK (i++j)then some (l++m)else none|_,_=>none
 |none=>none
def Jo(kK:List RV)(s:S2):(r o:List Sh)->(w:Wy)->Option (vK.GS r o w)
 |r,o,[]=>match Jn kK r o s with|some l=>vX (gZ r++gZ o) l|none=>none
 |r,o,(r',o')::w=>match Jn kK r o s with|some l=>(match vX (gZ r++gZ o) l with|some z=>some (.inl z)|none=>none)|none=>(match Jo kK s r' o' w with|some z=>some (.inr z)|none=>none)
def OF(kK:List RV)(s:S2):(w:Wy)->Option (vK w)
 |[]=>none
 |(r,o)::w=>Jo kK s r o w
def Sx(tb:EN)(F:Option F2)(ps:List (Bool×Sh))(al:Wy)(p:qE (gZ (ps.map (·.2)))):Option (vK al):=
 match F with
 |some F=>
  match QX ps (o6 _ p)with
  |some s=>xw tb F.body s fun o s=>match o with|.exit _=>none|_=>OF F.kK s al
  |none=>none
 |none=>none
theorem gS{α β:Type}{f:α->List β}{n:Nat}(h:∀a,(f a).length=n)(l:List α):(l.flatMap f).length=l.length*n:=by induction l with|nil=>simp|cons a l ih=>simp[bi,h,ih,bO];omega
theorem bJ:∀(t:Ty)(v:El t),(aS t v).length=bA t:=by intro t;induction t with|pr a c iha ihc=>intro v;simp[aS,bA,iha,ihc]|st t ih=>intro v;simp[aS,bA,ih]|ar n t ih=>intro v;rw[aS,gS ih,v.2];rfl|_=>intro v;rfl
theorem zj{α β:Type}[Inhabited α]{f:α->List β}{n:Nat}(h:∀a,(f a).length=n):∀(l:List α)(k:Nat),k<l.length->((l.flatMap f).drop (k*n)).take n=f (gt l k):=by
 intro l;induction l with
 |nil=>intro k hk;simp at hk
 |cons a l ih=>
  intro k hk;cases k with
  |zero=>simp[gt,h]
  |succ k=>
   have e:(k+1)*n=(f a).length+k*n:=by rw[h,bO];omega
   rw[bi,e,<-dz,eC (au _),fJ,bk,ih k (by simpa using hk)];rfl
theorem Me{α β:Type}{f:α->List β}{n:Nat}(h:∀a,(f a).length=n):∀(l:List α)(k:Nat)(x:α),k<l.length->(l.set k x).flatMap f=aV (l.flatMap f) (k*n) (f x):=by
 intro l;induction l with
 |nil=>intro k x hk;simp at hk
 |cons a l ih=>
  intro k x hk;cases k with
  |zero=>
   simp only[List.set_cons_zero,bi,aV,Nat.zero_mul,List.take_zero,bk,Nat.zero_add,h];have:(f a++l.flatMap f).drop n=l.flatMap f:=by rw[<-h a,eC (au _),fJ,bk]
   rw[this]
  |succ k=>
   have e:(k+1)*n=(f a).length+k*n:=by rw[h,bO];omega
   simp only[List.set_cons_succ,bi,aV,e,List.take_length_add_append,cO];rw[<-dz,eC (au _),fJ,bk,ih k x (by simpa using hk)];simp[aV]
theorem dw{t u:Ty}{v:El t}{y:El u}(h:gM t u v=some y):∃e:t=u,y=e▸v:=by
 unfold gM at h;split at h
 .rename_i e;exact⟨e,(aa h).symm⟩
 .simp at h
theorem wL{t u:Ty}{v:El t}{y:El u}(h:gM t u v=some y):aS u y=aS t v/\t=u:=by obtain⟨rfl,rfl⟩:=dw h;exact⟨rfl,rfl⟩
theorem qS:∀(t:Ty)(v:El t)(i:Nat)(w:V),Aj t v i=some w->∃u y,w=.x u y/\CG t i=some u/\o5 t i+bA u<=bA t/\((aS t v).drop (o5 t i)).take (bA u)=aS u y:=by
 intro t;induction t with
 |pr a c iha ihc=>intro v i w h;cases i with|zero=>obtain rfl:=aa h;refine⟨a,v.1,rfl,rfl,by simp[o5,bA],?_⟩;simp[o5,aS,bJ]|succ i=>obtain⟨u,y,rfl,h1,h2,h3⟩:=ihc v.2 i w h;refine⟨u,y,rfl,h1,by simp only[o5,bA];omega,?_⟩;simp only[o5,aS];rw[<-dz,<-bJ a v.1,eC (au _),fJ,bk,h3]
 |_=>intro v i w h;cases i with|zero=>obtain rfl:=aa h;exact⟨_,v,rfl,rfl,by simp[o5],by simp[o5,dm,bJ]⟩|succ i=>simp[Aj]at h
theorem QN:∀(t:Ty)(i:Nat)(u:Ty),CG t i=some u->o5 t i+bA u<=bA t:=by
 intro t;induction t with
 |pr a c iha ihc=>intro i u h;cases i with|zero=>obtain rfl:=aa h;simp[o5,bA]|succ i=>have:=ihc i u h;simp only[o5,bA];omega
 |_=>intro i u h;cases i with|zero=>obtain rfl:=aa h;simp[o5]|succ i=>simp[CG]at h
theorem tC{α:Type}{a b p:List α}{off:Nat}:aV (a++b) (a.length+off) p=a++aV b off p:=by simp only[aV,List.take_length_add_append,cO,aJ];rw[<-dz,eC (au _),fJ,bk]
theorem tw{α:Type}{a b p:List α}{off:Nat}(h:off+p.length<=a.length):aV (a++b) off p=aV a off p++b:=by simp only[aV,aJ];rw[List.take_append_of_le_length (by omega),eC h]
theorem mG{α:Type}{b p:List α}(h:p.length=b.length):aV b 0 p=p:=by simp[aV,h]
theorem uz{α:Type}{b p:List α}{off:Nat}(h:off+p.length<=b.length):(aV b off p).length=b.length:=by simp only[aV,av,List.length_take,List.length_drop];omega
theorem uy{α β:Type}{f:α->β}{b p:List α}{off:Nat}:(aV b off p).map f=aV (b.map f) off (p.map f):=by simp[aV]
theorem qn{α:Type}{b c p:List α}{o1 o2 n:Nat}(hc:(b.drop o1).take n=c)(h1:o1+n<=b.length)(h2:o2+p.length<=n):aV b o1 (aV c o2 p)=aV b (o1+o2) p:=by
 have hcl:c.length=n:=by rw[<-hc];simp;omega
 have e:b=b.take o1++(c++b.drop (o1+n)):=by rw[<-hc,<-dz,jf,jf]
 have hl:(b.take o1).length=o1:=by simp;omega
 have hs:(aV c o2 p).length=n:=by rw[uz (by omega),hcl]
 have r2:aV b (o1+o2) p=b.take o1++(aV c o2 p++b.drop (o1+n)):=by
  conv=>lhs;rw[e]
  have:=tC (a:=b.take o1) (b:=c++b.drop (o1+n)) (p:=p) (off:=o2);rw[hl]at this;rw[this,tw (by omega)]
 rw[r2];show b.take o1++aV c o2 p++b.drop (o1+(aV c o2 p).length)=_;rw[hs,aJ]
theorem JA:∀(t:Ty)(l r:List Value)(x:El t),uQ t l=some (x,r)->l.all ei=true->∃p,l=p++r/\(aS t x)=p.map D.lit:=by
 intro t;induction t with
 |pr a c iha ihc=>
  intro l r x h hp;simp only[uQ]at h;split at h
  .rename_i y l1 h1;split at h
   .rename_i z l2 h2;obtain⟨rfl,rfl⟩:=ad (aa h);obtain⟨p,rfl,e1⟩:=iha _ _ _ h1 hp;obtain⟨q,rfl,e2⟩:=ihc _ _ _ h2 (by rw[List.all_append,ai]at hp;exact hp.2);exact⟨p++q,by simp,by simp[aS,e1,e2]⟩
   .simp at h
  .simp at h
 |st t ih=>intro l r x h hp;exact ih l r x h hp
 |ar n t ih=>
  intro l r x h hp;simp only[uQ]at h
  have key:∀(m:Nat)(l r:List Value)(x:Arr m (El t)),OL (uQ t) m l=some (x,r)->l.all ei=true->∃p,l=p++r/\x.1.flatMap (aS t)=p.map D.lit:=by
   intro m;induction m with
   |zero=>intro l r x h hp;obtain⟨rfl,rfl⟩:=ad (aa h);exact⟨[],rfl,rfl⟩
   |succ m ihn=>
    intro l r x h hp;simp only[OL]at h;split at h
    .rename_i y l1 h1;split at h
     .rename_i v l2 h2;obtain⟨rfl,rfl⟩:=ad (aa h);obtain⟨p,rfl,e1⟩:=ih _ _ _ h1 hp;obtain⟨q,rfl,e2⟩:=ihn _ _ _ h2 (by rw[List.all_append,ai]at hp;exact hp.2);exact⟨p++q,by simp,by simp[bi,e1,e2]⟩
     .simp at h
    .simp at h
  exact key n l r x h hp
 |i k=>
  intro l r x h hp;simp only[uQ]at h;unfold SF at h;split at h
  .split at h
   .rename_i e;subst e;obtain⟨rfl,rfl⟩:=ad (aa h);exact⟨[_],rfl,rfl⟩
   .simp at h
  .simp at h
 |b=>
  intro l r x h hp;simp only[uQ]at h;unfold SG at h;split at h
  .obtain ⟨rfl,rfl⟩:=ad (aa h);exact⟨[_],rfl,rfl⟩
  .simp at h
 |s=>
  intro l r x h hp;simp only[uQ]at h;unfold SD at h;split at h
  .obtain ⟨rfl,rfl⟩:=ad (aa h);exact⟨[_],rfl,rfl⟩
  .simp at h
 |f k=>
  intro l r x h hp;simp only[uQ]at h;unfold PB at h;split at h
  .split at h
   .rename_i e;subst e;obtain⟨rfl,rfl⟩:=ad (aa h);exact⟨[_],rfl,rfl⟩
   .simp at h
  .simp at h
 |sl t ih=>
  intro l r x h hp;simp only[uQ]at h;unfold SE at h;split at h
  .obtain ⟨rfl,rfl⟩:=ad (aa h);exact⟨[_],rfl,rfl⟩
  .simp at h
 |_=>intro l r x h hp;simp[uQ]at h
def Cv(h:H2)(id ver:Nat):Bool:=match fO h id with|some (.ar _ _ v)|some (.im _ _ v)=>v==ver|_=>false
def QJ(id:Nat)(c:C):Prop:=∀i∈eS c,i=id
def fg(h:H2):V->List C->Prop
 |.x t v,cs=>kI t=true/\cs=(aS t v).map .d
 |.kb c,cs=>cs=[.d (.lit (.bool c))]
 |.nl k,cs=>cs=[DG k]
 |.so id,cs=>∃c,cs=[c]/\(∀c',AD id (fO h id)=some c'->c=c')/\QJ id c
 |.sr id,cs=>∃c,cs=[c]/\(∀c',ET id (fO h id)=some c'->c=c')/\QJ id c
 |.sb id ver lo t r,cs=>∃c,cs=[c]/\(Cv h id ver=true->c=ym id lo t r)/\QJ id c
 |.op id t p,cs=>cs=[.op id (mT t p)]
 |.ep id n t p,cs=>cs=[.ep id n (mT t p)]
 |.pt t v,cs=>kI t=true/\cs=[.d (.pt (aS t v))]
 |.fn true f l,cs=>∃ds,qD l=some ds/\cs=[.d (.fn f ds)]
 |.fn false f l,cs=>∃xs,fg h l xs/\cs=[.oX f xs]
 |.om id,cs=>cs=[.om id]
 |.rc l,cs=>fg h l cs
 |.fl l,cs=>l.all ei=true/\cs=fx l
 |.ni,cs=>cs=[]
 |.co a r,cs=>∃x y,cs=x++y/\fg h a x/\fg h r y
 |.tp _,_|.no,_|.gn,_=>False
def sD(h:H2)(v:V)(x:TV):Prop:=∃cs,fg h v cs/\(tj v=true->x=.agg cs)/\(tj v=false->∃c,cs=[c]/\x=.c c)
def BA(h:H2):V->List TV->Prop
 |.ni,xs=>xs=[]
 |.co a r,xs=>∃x ys,xs=x::ys/\sD h a x/\BA h r ys
 |_,_=>False
def gb(h:H2):V->TV->Prop
 |.tp l,x=>∃xs,x=.iR xs/\BA h l xs
 |.no,x=>x=.iR []
 |.gn,_=>False
 |v,x=>sD h v x
def UT(t u:Ty)(s:Sl (El t))(lo:Nat)(r:Sl (El u)):Prop:=bA t=bA u/\match s,r with|.nil,.nil=>True|.mk l,.mk m=>lo+m.length<=l.length/\((l.map (aS t)).drop lo).take m.length=m.map (aS u)|_,_=>False
def e_(n:Nat)(h:H2):V->Prop
 |.so id|.sr id|.om id=>id<n
 |.sb id ver lo t r=>id<n/\∀u s v,(fO h id=some (.ar u s v)\/fO h id=some (.im u s v))->ver<=v/\(v=ver->UT u t s lo r)
 |.op id t p=>id<n/\IR t p
 |.ep id m t p=>id<n/\IR t p/\(∀u s v,(fO h id=some (.ar u s v)\/fO h id=some (.im u s v))->m<s.l.length)/\∀u s v,fO h id=some (.rw u s v)->m<s.l.length
 |.fn _ _ l|.rc l|.tp l=>e_ n h l
 |.co a r=>e_ n h a/\e_ n h r
 |_=>True
def vn(h:H2):O->Option Ob->Prop
 |.ar t s _,b=>kI t=true/\0<bA t/\(∀l,s=.mk l->b=some (.aM (bA t) (l.map (aS t))))
 |.im t s _,b=>kI t=true/\0<bA t/\(∀l,s=.mk l->b=some (.pG (bA t) (l.map (aS t))))
 |.bx t c,b=>∃cs,b=some (.box cs)/\fg h c cs/\eI c false t=true
 |.ib t v,b=>kI t=true/\b=some (.oz (aS t v))
 |.mp k v m,b=>kI v=true/\(∃ks,D3 k=some ks)/\b=EV (nv k) (nv v) (fun x=>(aS k x).map fun|.lit y=>y|_=>.nilFunc) (aS v) m
 |.rw t s ln,b=>kI t=true/\0<bA t/\(∀l,(s:Sl (Sl (El t)))=.mk l->b=some (.nst (bA t) (eU t l ln)))
def CF(n:Nat)(h:H2):O->Prop
 |.bx _ c=>e_ n h c
 |.rw _ s (some (m,id))=>m<s.l.length/\id<n/\∀u r v,(fO h id=some (.ar u r v)\/fO h id=some (.im u r v))->r.fP=(gt s.l m).fP/\r.l.length=(gt s.l m).l.length
 |_=>True
structure HR(n:Nat)(h1:bF)(h2:H2):Prop where
 ob:∀id o,fO h2 id=some o->id<n/\vn h2 o (aB h1 id)/\CF n h2 o
abbrev Nl(t:Ty)(s:Sl (El t)):(t:Ty)×Sl (El t):=⟨t,s⟩
abbrev Vb(t:Ty)(s:El t):(t:Ty)×El t:=⟨t,s⟩
def Pc(t u:Ty)(s:Sl (El t))(s':Sl (El u))(v v':Nat):Prop:=v<=v'/\t=u/\s.fP=s'.fP/\s.l.length=s'.l.length/\(v=v'->Nl t s=Nl u s')
def sy:O->O->Prop
 |.ar t s v,.ar u s' v'|.ar t s v,.im u s' v'=>Pc t u s s' v v'
 |.im t s v,.im u s' v'=>v=v'/\Nl t s=Nl u s'
 |.bx t _,.bx u _=>t=u
 |.bx _ _,.ib _ _=>True
 |.ib t v,.ib u w=>Vb t v=Vb u w
 |.mp _ _ _,.mp _ _ _=>True
 |.rw t s _,.rw u s' _=>t=u/\s.fP=s'.fP/\s.l.length=s'.l.length
 |_,_=>False
def ui:O->Bool
 |.bx _ _|.ib _ _=>true
 |_=>false
structure jy(n:Nat)(h h':H2):Prop where
 ob:∀id o',id<n->fO h' id=some o'->(∃o,fO h id=some o/\sy o o')\/ui o'=true
theorem Pc.trans{t u w:Ty}{s:Sl (El t)}{s':Sl (El u)}{s2:Sl (El w)}{a b c:Nat}(h1:Pc t u s s' a b)(h2:Pc u w s' s2 b c):Pc t w s s2 a c:=by obtain⟨a1,rfl,a3,a4,a5⟩:=h1;obtain⟨b1,rfl,b3,b4,b5⟩:=h2;refine⟨Nat.le_trans a1 b1,rfl,a3.trans b3,a4.trans b4,fun e=>?_⟩;have e1:a=b:=Nat.le_antisymm a1 (e▸b1);exact(a5 e1).trans (b5 (e1▸e))
theorem Pc.Sm{t u:Ty}{s:Sl (El t)}{s':Sl (El u)}{a b:Nat}(h:a=b)(e:Nl t s=Nl u s'):Pc t u s s' a b:=by subst h;obtain⟨rfl,e⟩:=jz e;cases e;exact⟨au _,rfl,rfl,rfl,fun _=>rfl⟩
theorem sy.refl(o:O):sy o o:=by cases o<;>simp[sy,Pc]
theorem sy.trans{a b c:O}(h1:sy a b)(h2:sy b c):sy a c:=by
 cases a<;>cases b<;>simp only[sy]at h1<;>first|exact h1.elim|skip
 all_goals(cases c<;>simp only[sy]at h2|-<;>first|exact h2.elim|skip)
 .exact h1.trans h2
 .exact h1.trans h2
 .exact h1.trans (Pc.Sm h2.1 h2.2)
 .exact ⟨h1.1.trans h2.1,h1.2.trans h2.2⟩
 .exact h1.trans h2
 .exact h1.trans h2
 .exact ⟨h1.1.trans h2.1,h1.2.1.trans h2.2.1,h1.2.2.trans h2.2.2⟩
theorem jy.refl(n:Nat)(h:H2):jy n h h:=⟨fun _ o _ h=>.inl ⟨o,h,sy.refl o⟩⟩
theorem jy.trans{n n':Nat}{a b c:H2}(hn:n<=n')(h1:jy n a b)(h2:jy n' b c):jy n a c:=
 ⟨fun id o' hi ho=>by
  rcases h2.ob id o' (by omega) ho with⟨o1,h3,h4⟩|q
  .rcases h1.ob id o1 hi h3 with⟨o2,h5,h6⟩|q
   .exact .inl ⟨o2,h5,h6.trans h4⟩
   .exact .inr (by cases o1<;>simp[ui]at q<;>cases o'<;>simp[sy]at h4<;>rfl)
  .exact .inr q⟩
theorem BI{sz id:Nat}{α:Type}{e:α->List D}{s:Sl α}:QJ id (mx sz e id s):=by intro i hi;cases s with|nil=>simp[mx,eS]at hi|mk l=>simpa[mx,eS]using hi
theorem Kz{id lo:Nat}{t:Ty}{s:Sl (El t)}:QJ id (ym id lo t s):=by intro i hi;cases s with|nil=>simp[ym,eS]at hi|mk l=>simpa[ym,eS]using hi
section
variable{n n':Nat}{h h':H2}
theorem Fj{t:Ty}{s s':Sl (El t)}{id:Nat}(h1:s.fP=s'.fP)(h2:s.l.length=s'.l.length):mx (bA t) (aS t) id s=mx (bA t) (aS t) id s':=by cases s<;>cases s'<;>simp_all[Sl.fP,mx]
theorem Ks(hs:jy n h h'){id:Nat}(hi:id<n){c:C}(hc:AD id (fO h' id)=some c):AD id (fO h id)=some c:=by
 cases ho:fO h' id with
 |none=>rw[ho]at hc;simp[AD]at hc
 |some o'=>
  rw[ho]at hc;obtain⟨o,h1,h2⟩:=(hs.ob id o' hi ho).resolve_right fun e=>by cases o'<;>simp[ui]at e<;>simp[AD]at hc
  rw[h1];cases o'<;>simp only[AD]at hc<;>first|cases hc;done|skip
  all_goals(cases o<;>simp only[sy]at h2<;>first|exact h2.elim|skip)
  .obtain ⟨_,rfl,h3,h4,_⟩:=h2;rw[<-hc];simp only[AD];rw[Fj h3 h4]
  .obtain ⟨_,rfl,h3,h4,_⟩:=h2;rw[<-hc];simp only[AD];rw[Fj h3 h4]
  .obtain ⟨_,h3⟩:=h2;obtain⟨rfl,h3⟩:=jz h3;cases h3;rw[<-hc];rfl
  all_goals simp at hc
theorem Ko(hs:jy n h h'){id:Nat}(hi:id<n){c:C}(hc:ET id (fO h' id)=some c):ET id (fO h id)=some c:=by
 cases ho:fO h' id with
 |none=>rw[ho]at hc;simp[ET]at hc
 |some o'=>
  rw[ho]at hc;obtain⟨o,h1,h2⟩:=(hs.ob id o' hi ho).resolve_right fun e=>by cases o'<;>simp[ui]at e<;>simp[ET]at hc
  rw[h1];cases o'<;>simp only[ET]at hc<;>first|cases hc;done|skip
  all_goals(cases o<;>simp only[sy]at h2<;>first|exact h2.elim|skip)
  .obtain ⟨rfl,h3,h4⟩:=h2;rw[<-hc];simp only[ET];exact congrArg some (Fj (t:=.sl _) h3 h4)
  all_goals simp at hc
theorem G7(hs:jy n h h'){id:Nat}(hi:id<n){u:Ty}{s:Sl (Sl (El u))}{ln:Option (Nat×Nat)}(ho:fO h' id=some (.rw u s ln)):∃s0 ln0,fO h id=some (.rw u s0 ln0)/\s0.fP=s.fP/\s0.l.length=s.l.length:=by
 obtain⟨o,h1,h2⟩:=(hs.ob id _ hi ho).resolve_right fun e=>by simp[ui]at e
 cases o<;>simp only[sy]at h2<;>first|exact h2.elim|skip
 obtain⟨rfl,h3,h4⟩:=h2;exact⟨_,_,h1,h3,h4⟩
theorem Kv(hs:jy n h h'){id:Nat}(hi:id<n){u:Ty}{s:Sl (El u)}{v:Nat}(ho:fO h' id=some (.ar u s v)\/fO h' id=some (.im u s v)):
  ∃s0 v0,(fO h id=some (.ar u s0 v0)\/fO h id=some (.im u s0 v0))/\s0.fP=s.fP/\s0.l.length=s.l.length:=by
 rcases ho with ho|ho
 all_goals
  obtain⟨o,h1,h2⟩:=(hs.ob id _ hi ho).resolve_right fun e=>by simp[ui]at e
  cases o<;>simp only[sy]at h2<;>first|exact h2.elim|skip
 .obtain ⟨_,rfl,h3,h4,_⟩:=h2;exact⟨_,_,.inl h1,h3,h4⟩
 .obtain ⟨_,rfl,h3,h4,_⟩:=h2;exact⟨_,_,.inl h1,h3,h4⟩
 .obtain ⟨rfl,h3⟩:=h2;obtain⟨rfl,h3⟩:=jz h3;cases h3;exact⟨_,_,.inr h1,rfl,rfl⟩
theorem tD(hs:jy n h h'){id:Nat}(hi:id<n){u:Ty}{s:Sl (El u)}{v:Nat}(ho:fO h' id=some (.ar u s v)\/fO h' id=some (.im u s v)):
  ∃s0 v0,(fO h id=some (.ar u s0 v0)\/fO h id=some (.im u s0 v0))/\v0<=v/\s0.l.length=s.l.length/\(v0=v->s0=s):=by
 rcases ho with ho|ho
 all_goals
  obtain⟨o,h1,h2⟩:=(hs.ob id _ hi ho).resolve_right fun e=>by simp[ui]at e
  cases o<;>simp only[sy]at h2<;>first|exact h2.elim|skip
 .obtain ⟨h3,rfl,_,h4,h5⟩:=h2;exact⟨_,_,.inl h1,h3,h4,fun e=>by have:=h5 e;simpa using this⟩
 .obtain ⟨h3,rfl,_,h4,h5⟩:=h2;exact⟨_,_,.inl h1,h3,h4,fun e=>by have:=h5 e;simpa using this⟩
 .obtain ⟨rfl,h3⟩:=h2;obtain⟨rfl,h3⟩:=jz h3;cases h3;exact⟨_,_,.inr h1,au _,rfl,fun _=>rfl⟩
theorem lG{id ver:Nat}(ha:Cv h id ver=true):∃u s,fO h id=some (.ar u s ver)\/fO h id=some (.im u s ver):=by
 unfold Cv at ha;split at ha
 .rename_i u s v ho;obtain rfl:v=ver:=by simpa using ha
  exact⟨u,s,.inl ho⟩
 .rename_i u s v ho;obtain rfl:v=ver:=by simpa using ha
  exact⟨u,s,.inr ho⟩
 .simp at ha
theorem gR(hn:n<=n')(hs:jy n h h'):∀{v:V},e_ n h v->e_ n' h' v:=by
 intro v;induction v with
 |so id=>intro hv;simp only[e_]at hv|-;omega
 |sr id=>intro hv;simp only[e_]at hv|-;omega
 |om id=>intro hv;simp only[e_]at hv|-;omega
 |sb id ver lo t r=>
  rintro⟨h1,h2⟩;refine⟨by omega,fun u s v ho=>?_⟩;obtain⟨s0,v0,h3,h4,h5,h6⟩:=tD hs h1 ho;obtain⟨h7,h8⟩:=h2 u s0 v0 h3;refine⟨by omega,fun e=>?_⟩;have e2:v0=ver:=by omega
  have:=h6 (by omega);subst this;exact h8 e2
 |op id t p=>rintro⟨h1,h2⟩;exact⟨by omega,h2⟩
 |ep id m t p=>
  rintro⟨h1,h2,h3,h6⟩;refine⟨by omega,h2,fun u s v ho=>?_,fun u s v ho=>?_⟩
  .obtain ⟨s0,v0,h4,_,h5,_⟩:=tD hs h1 ho;have:=h3 u s0 v0 h4;omega
  .obtain ⟨s0,v0,h4,_,h5⟩:=G7 hs h1 ho;have:=h6 u s0 v0 h4;omega
 |fn z f l ih=>intro hv;exact ih hv
 |rc l ih=>intro hv;exact ih hv
 |tp l ih=>intro hv;exact ih hv
 |co a r iha ihr=>rintro⟨h1,h2⟩;exact⟨iha h1,ihr h2⟩
 |_=>intro _;trivial
theorem lF(hs:jy n h h'):∀{v:V}{cs:List C},e_ n h v->fg h v cs->fg h' v cs:=by
 intro v;induction v with
 |so id=>rintro cs hi ⟨c,rfl,hc,hid⟩;exact⟨c,rfl,fun c' hc'=>hc c' (Ks hs hi hc'),hid⟩
 |sr id=>rintro cs hi ⟨c,rfl,hc,hid⟩;exact⟨c,rfl,fun c' hc'=>hc c' (Ko hs hi hc'),hid⟩
 |sb id ver lo t r=>
  rintro cs ⟨hi,h2⟩ ⟨c,rfl,hc,hid⟩;refine⟨c,rfl,fun ha=>hc ?_,hid⟩;obtain⟨u,s,ho⟩:=lG ha;obtain⟨s0,v0,h3,h4,_,_⟩:=tD hs hi ho;obtain⟨h7,_⟩:=h2 u s0 v0 h3;have:v0=ver:=by omega
  subst this;unfold Cv;rcases h3 with h3|h3<;>rw[h3]<;>simp
 |fn z f l ih=>intro cs hv hc;cases z with|true=>exact hc|false=>obtain⟨xs,h1,h2⟩:=hc;exact⟨xs,ih hv h1,h2⟩
 |rc l ih=>intro cs hv hc;exact ih hv hc
 |co a r iha ihr=>rintro cs ⟨h1,h2⟩ ⟨x,y,rfl,h3,h4⟩;exact⟨x,y,rfl,iha h1 h3,ihr h2 h4⟩
 |_=>intro cs _ hc;exact hc
theorem vW(hs:jy n h h'){v:V}{x:TV}(hv:e_ n h v)(hx:sD h v x):sD h' v x:=by obtain⟨cs,h1,h2⟩:=hx;exact⟨cs,lF hs hv h1,h2⟩
theorem H5(hs:jy n h h'):∀{v:V}{xs:List TV},e_ n h v->BA h v xs->BA h' v xs:=by intro v;induction v with|co a r iha ihr=>rintro xs ⟨h1,h2⟩ ⟨x,ys,rfl,h3,h4⟩;exact⟨x,ys,rfl,vW hs h1 h3,ihr h2 h4⟩|ni=>intro xs _ h;exact h|_=>intro xs _ h;exact h.elim
theorem uZ(hs:jy n h h'){v:V}{x:TV}(hv:e_ n h v)(hx:gb h v x):gb h' v x:=by cases v with|tp l=>obtain⟨xs,h1,h2⟩:=hx;exact⟨xs,h1,H5 hs hv h2⟩|no=>exact hx|gn=>exact hx|_=>exact vW hs hv hx
theorem pB(hs:jy n h h'){o:O}{b:Option Ob}(ho:CF n h o)(hb:vn h o b):vn h' o b:=by cases o with|bx t c=>obtain⟨cs,h1,h2,h3⟩:=hb;exact⟨cs,h1,lF hs ho h2,h3⟩|_=>exact hb
theorem oh(hn:n<=n')(hs:jy n h h'){o:O}(ho:CF n h o):CF n' h' o:=by
 cases o with
 |bx t c=>exact gR hn hs ho
 |rw t s ln=>cases ln with|none=>trivial|some q=>obtain⟨m,id⟩:=q;obtain⟨h1,h2,h3⟩:=ho;refine⟨h1,Nat.lt_of_lt_of_le h2 hn,fun u r v hu=>?_⟩;obtain⟨s0,v0,h4,h5,h6⟩:=Kv hs h2 hu;obtain⟨h7,h8⟩:=h3 u s0 v0 h4;exact⟨h5▸h7,h6▸h8⟩
 |_=>trivial
end
theorem iB{h:H2}:∀{v:V}{cs:List C},fg h v cs->cs.length=x_ v:=by
 intro v;induction v with
 |x t v=>rintro cs ⟨_,rfl⟩;simp[x_,bJ]
 |so id=>rintro cs ⟨c,rfl,_⟩;rfl
 |sr id=>rintro cs ⟨c,rfl,_⟩;rfl
 |sb id ver lo t r=>rintro cs ⟨c,rfl,_⟩;rfl
 |pt t v=>rintro cs ⟨_,rfl⟩;rfl
 |fn z f l ih=>intro cs hc;cases z with|true=>obtain⟨ds,_,rfl⟩:=hc;rfl|false=>obtain⟨ds,_,rfl⟩:=hc;rfl
 |rc l ih=>intro cs hc;exact ih hc
 |fl l=>rintro cs ⟨_,rfl⟩;simp[fx,x_]
 |ni=>rintro cs rfl;rfl
 |co a r iha ihr=>rintro cs ⟨x,y,rfl,h1,h2⟩;simp[x_,iha h1,ihr h2]
 |tp l=>intro cs hc;exact hc.elim
 |no=>intro cs hc;exact hc.elim
 |gn=>intro cs hc;exact hc.elim
 |_=>rintro cs rfl;rfl
theorem gV:∀(v:V)(ln:Bool)(t:Ty),eI v ln t=true->x_ v=bA t:=by
 intro v;induction v with
 |rc l ih=>
  intro ln t hf;cases ln with
  |true=>cases t<;>simp[eI]at hf
  |false=>cases t with|st t=>exact ih true t hf|_=>simp[eI]at hf
 |co a r iha ihr=>
  intro ln t hf;cases ln with
  |false=>simp[eI]at hf
  |true=>
   cases t with
   |pr t u=>simp only[eI,ai]at hf;simp[x_,bA,iha _ _ hf.1,ihr _ _ hf.2]
   |_=>cases r with|ni=>have hf':eI a false _=true:=hf;simp[x_,iha _ _ hf']|_=>simp[eI]at hf
 |x u v=>intro ln t hf;cases ln with|false=>simp only[eI,decide_eq_true_eq]at hf;subst hf;rfl|true=>cases t<;>simp[eI]at hf
 |nl k=>intro ln t hf;cases ln<;>cases t<;>first|rfl|(simp[eI]at hf;done)|skip
 |_=>intro ln t hf;cases ln<;>cases t<;>first|rfl|(simp[eI]at hf;done)
section
variable{h:H2}
theorem pM{v:V}{u:Ty}{y:El u}{cs:List C}(hc:ij u v=some y)(hv:fg h v cs):cs=(aS u y).map .d:=by
 cases v with
 |x t v=>obtain⟨rfl,rfl⟩:=dw hc;exact hv.2
 |kb c=>obtain⟨rfl,rfl⟩:=dw (t:=.b) hc;exact hv
 |nl k=>
  cases k with
  |zero=>
   cases u<;>simp only[ij]at hc<;>first|cases hc;done|skip
   obtain rfl:=aa hc;exact hv
  |succ k=>simp[ij]at hc
 |fl l=>
  obtain⟨h1,rfl⟩:=hv;simp only[ij]at hc;cases ha:nv u
  .rw [ha]at hc;simp at hc
  rw[ha,cond_true]at hc;split at hc
  .rename_i x hx;obtain rfl:=aa hc;obtain⟨p,rfl,e⟩:=JA u _ _ _ hx h1;rw[e];simp[fx]
  .simp at hc
 |_=>simp[ij]at hc
theorem iY:∀(v:V)(ln:Bool)(u:Ty)(y:El u)(cs:List C),kS v ln u=some y->fg h v cs->cs=(aS u y).map .d:=by
 intro v;induction v with
 |rc l ih=>
  intro ln u y cs hc hv;cases ln with
  |true=>cases u<;>simp[kS]at hc
  |false=>cases u with|st u=>exact ih true u y cs hc hv|_=>simp[kS,ij]at hc
 |co a r iha ihr=>
  intro ln u y cs hc hv;obtain⟨x1,x2,rfl,h1,h2⟩:=hv;cases ln with
  |false=>cases u<;>simp[kS,ij]at hc
  |true=>
   cases u with
   |pr t u=>
    simp only[kS]at hc;split at hc
    .rename_i p q hp hq;obtain rfl:=aa hc;rw[iha _ _ _ _ hp h1,ihr _ _ _ _ hq h2];simp[aS]
    .simp at hc
   |_=>cases r with|ni=>have hc':kS a false _=some y:=hc;obtain rfl:x2=[]:=h2;rw[bC];exact iha _ _ _ _ hc' h1|_=>simp[kS]at hc
 |_=>
  intro ln u y cs hc hv;cases ln with
  |true=>cases u<;>simp[kS]at hc
  |false=>first|exact pM hc hv|(simp[kS]at hc)
theorem EB{v:V}{u:Ty}{y:El u}(hc:ij u v=some y):tj v=nv u:=by
 cases v with
 |x t v=>obtain⟨rfl,_⟩:=dw hc;rfl
 |kb c=>obtain⟨rfl,_⟩:=dw (t:=.b) hc;rfl
 |nl k=>
  cases k with
  |zero=>cases u<;>simp only[ij]at hc<;>first|rfl|cases hc
  |succ k=>simp[ij]at hc
 |fl l=>
  simp only[ij]at hc;cases ha:nv u
  .rw [ha]at hc;simp at hc
  .rfl
 |_=>simp[ij]at hc
theorem wI{v:V}{u:Ty}{y:El u}(hc:tW u v=some y):tj v=nv u:=by
 cases v with
 |rc l=>cases u with|st u=>rfl|_=>simp[tW,kS,ij]at hc
 |co a r=>cases u<;>simp[tW,kS,ij]at hc
 |ni=>cases u<;>simp[tW,kS]at hc
 |_=>exact EB hc
theorem AS:∀(l:V)(t:Ty)(i:Nat)(w:V)(cs:List C),eI l true t=true->fg h l cs->sg l i=some w->
  ∃u cw,CG t i=some u/\eI w false u=true/\fg h w cw/\o5 t i+bA u<=cs.length/\(cs.drop (o5 t i)).take (bA u)=cw:=by
 intro l;induction l with
 |co a r iha ihr=>
  intro t i w cs hf hv hw;obtain⟨x,y,rfl,h1,h2⟩:=hv;have one:∀t,eI a false t=true->r=.ni->CG t 0=some t->o5 t 0=0->i=0->∃u cw,CG t i=some u/\eI w false u=true/\fg h w cw/\o5 t i+bA u<=(x++y).length/\((x++y).drop (o5 t i)).take (bA u)=cw:=by intro t hf hr h3 h4 hi;subst hi;obtain rfl:=aa hw;have hs:=gV _ _ _ hf;have hl:=iB h1;refine⟨t,x,h3,hf,h1,by rw[h4];simp;omega,?_⟩;rw[h4,cS,<-hs,<-hl,List.take_left]
  cases t with
  |pr t u=>simp only[eI,ai]at hf;have hs:=gV _ _ _ hf.1;have hl:=iB h1;cases i with|zero=>obtain rfl:=aa hw;refine⟨t,x,rfl,hf.1,h1,by simp[o5];omega,?_⟩;simp only[o5,cS];rw[<-hs,<-hl,List.take_left]|succ i=>obtain⟨u',cw,q1,q2,q3,q4,q5⟩:=ihr u i w y hf.2 h2 hw;refine⟨u',cw,q1,q2,q3,by simp only[o5,av];omega,?_⟩;simp only[o5];rw[<-dz,<-hs,<-hl,List.drop_left,q5]
  |_=>
   cases r with
   |ni=>have hf':eI a false _=true:=hf;cases i with|zero=>exact one _ hf' rfl rfl rfl rfl|succ i=>simp[sg]at hw
   |_=>simp[eI]at hf
 |_=>intro t i w cs hf hv hw;simp[sg]at hw
theorem AL:∀(l:V)(t:Ty)(i:Nat)(w:V)(cs cw:List C)(u:Ty),eI l true t=true->fg h l cs->CG t i=some u->fg h w cw->cw.length=bA u->(∃w0,sg l i=some w0)->fg h (KI l i w) (aV cs (o5 t i) cw):=by
 intro l;induction l with
 |co a r iha ihr=>
  intro t i w cs cw u hf hv hu hw hlen hn;obtain⟨x,y,rfl,h1,h2⟩:=hv;cases t with
  |pr t u'=>simp only[eI,ai]at hf;have hs:=gV _ _ _ hf.1;have hl:=iB h1;cases i with|zero=>obtain rfl:=aa hu;refine⟨cw,y,?_,hw,h2⟩;simp only[o5];rw[tw (by omega),mG (by omega)]|succ i=>have:=ihr u' i w y cw u hf.2 h2 hu hw hlen hn;refine⟨x,_,?_,h1,this⟩;simp only[o5];rw[<-hs,<-hl,tC]
  |_=>
   cases r with
   |ni=>cases i with|zero=>obtain rfl:=aa hu;have hf':eI a false _=true:=hf;have hs:=gV _ _ _ hf';have hl:=iB h1;obtain rfl:y=[]:=h2;refine⟨cw,[],?_,hw,rfl⟩;simp only[o5,bC];rw[mG (by omega)]|succ i=>obtain⟨w0,hn⟩:=hn;simp[sg]at hn
   |_=>simp[eI]at hf
 |_=>intro t i w cs cw u hf hv hu hw hlen hn;obtain⟨w0,hn⟩:=hn;simp[sg]at hn
theorem BD:∀(t:Ty)(v:El t),kI t=true->fg h (H8 t v) ((aS t v).map .d):=by intro t;induction t with|pr a c iha ihc=>intro v hd;simp only[kI,ai]at hd;exact⟨(aS a v.1).map .d,(aS c v.2).map .d,by simp[aS],⟨hd.1,rfl⟩,ihc v.2 hd.2⟩|_=>intro v hd;exact⟨_,[],(bC _).symm,⟨hd,rfl⟩,rfl⟩
theorem ND:∀(t:Ty)(v:El t),eI (H8 t v) true t=true:=by intro t;induction t with|pr a c iha ihc=>intro v;simp[H8,eI,ihc]|_=>intro v;simp[H8,eI]
theorem NC:∀(t:Ty)(v:El t)(i:Nat)(w:V),Aj t v i=some w->sg (H8 t v) i=some w:=by
 intro t;induction t with
 |pr a c iha ihc=>intro v i w hw;cases i with|zero=>exact hw|succ i=>exact ihc v.2 i w hw
 |_=>intro v i w hw;cases i with|zero=>exact hw|succ i=>simp[Aj]at hw
theorem zu:∀(t:Ty)(i:Nat)(u:Ty),kI t=true->CG t i=some u->kI u=true:=by
 intro t;induction t with
 |pr a c iha ihc=>intro i u hd hu;simp only[kI,ai]at hd;cases i with|zero=>obtain rfl:=aa hu;exact hd.1|succ i=>exact ihc i u hd.2 hu
 |_=>intro i u hd hu;cases i with|zero=>obtain rfl:=aa hu;exact hd|succ i=>simp[CG]at hu
theorem wi:∀(p:pX)(t u:Ty),re t p=some u->IR t p->mT t p+bA u<=bA t:=by
 intro p;induction p with
 |nil=>
  intro t u hu _;have e2:re t []=some t:=by cases t<;>rfl
  have e:mT t []=0:=by cases t<;>rfl
  obtain rfl:t=u:=by rw[e2]at hu;exact aa hu
  omega
 |cons q p ih=>
  intro t u hu hp;cases q with
  |fd i=>cases t with|st t=>obtain⟨a,ha,hp⟩:=hp;simp only[re,ha]at hu;have:=ih a u hu hp;have:=QN t i a ha;simp only[mT,ha,bA];omega|_=>exact hp.elim
  |ix k=>cases t with|ar n t=>obtain⟨hk,hp⟩:=hp;have:=ih t u hu hp;have h2:(k+1)*bA t<=n*bA t:=aI _ hk;rw[bO]at h2;simp only[mT,bA];omega|_=>exact hp.elim
theorem wy:∀(p:pX)(c:V)(t:Ty)(w:V)(cs:List C),eI c false t=true->fg h c cs->IR t p->pH c p=some w->
  ∃u cw,re t p=some u/\eI w false u=true/\fg h w cw/\mT t p+bA u<=cs.length/\(cs.drop (mT t p)).take (bA u)=cw:=by
 intro p;induction p with
 |nil=>
  intro c t w cs hf hv _ hw;obtain rfl:c=w:=by simpa[pH]using hw
  have hs:=gV _ _ _ hf;have hl:=iB hv;refine⟨t,cs,by cases t<;>rfl,hf,hv,?_,?_⟩
  .cases t<;>simp[mT]<;>omega
  .have e:mT t []=0:=by cases t<;>rfl
   rw[e,cS,dm (by omega)]
 |cons q p ih=>
  intro c t w cs hf hv hp hw
  have sub:∀(o n:Nat)(c2:V)(u:Ty)(c3:List C),eI c2 false u=true->fg h c2 c3->(cs.drop o).take (bA u)=c3->o+bA u<=cs.length->IR u p->pH c2 p=some w->re t (q::p)=re u p->mT t (q::p)=o+mT u p->
    ∃u cw,re t (q::p)=some u/\eI w false u=true/\fg h w cw/\mT t (q::p)+bA u<=cs.length/\(cs.drop (mT t (q::p))).take (bA u)=cw:=by
   intro o n c2 u c3 hf2 hv2 h3 h4 h5 h6 h7 h8;obtain⟨u',cw,q1,q2,q3,q4,q5⟩:=ih c2 u w c3 hf2 hv2 h5 h6;have hl:=iB hv2;rw[gV _ _ _ hf2]at hl;refine⟨u',cw,h7.trans q1,q2,q3,by rw[h8];omega,?_⟩;rw[h8,<-q5,<-h3,<-dz];rw[List.drop_take,List.take_take];congr 1;omega
  cases q with
  |fd i=>
   cases t with
   |st t=>
    obtain⟨u,hu,hp⟩:=hp;have e7:re (.st t) (.fd i::p)=re u p:=by simp only[re,hu]
    have e8:mT (.st t) (.fd i::p)=o5 t i+mT u p:=by simp only[mT,hu]
    cases c with
    |x t' v=>
     simp only[eI,decide_eq_true_eq]at hf;subst hf;obtain⟨hd,rfl⟩:=hv;simp only[pH]at hw;split at hw
     .rename_i y hy;obtain⟨u',y',rfl,h1,h2,h3⟩:=qS _ _ _ _ hy;obtain rfl:u=u':=by rw[hu]at h1;exact aa h1
      refine sub (o5 t i) 0 (.x u y') u ((aS u y').map .d) (by simp[eI]) ⟨zu t _ _ hd hu,rfl⟩ ?_ ?_ hp hw e7 e8
      .rw [<-h3,hZ,gz];rfl
      .simp [bJ,bA];exact h2
     .simp at hw
    |rc l=>
     simp only[pH]at hw;split at hw
     .rename_i y hy;obtain⟨u',cw,q1,q2,q3,q4,q5⟩:=AS l t i y cs hf hv hy;obtain rfl:u=u':=by rw[hu]at q1;exact aa q1
      exact sub (o5 t i) 0 y u cw q2 q3 q5 q4 hp hw e7 e8
     .simp at hw
    |_=>simp[pH]at hw
   |_=>exact hp.elim
  |ix k=>
   cases t with
   |ar n t=>
    obtain⟨hk,hp⟩:=hp;cases c with
    |x t' v=>
     simp only[eI,decide_eq_true_eq]at hf;subst hf;obtain⟨hd,rfl⟩:=hv;simp only[pH]at hw;have hk':k<v.1.length:=by rw[v.2];exact hk
     have hg:=zj (bJ t) v.1 k hk';refine sub (k*bA t) 0 (.x t (gt v.1 k)) t ((aS t (gt v.1 k)).map .d) (by simp[eI]) ⟨hd,rfl⟩ ?_ ?_ hp hw rfl rfl
     .rw [<-hg,hZ,gz];rfl
     .simp only[aO,bJ,bA];have:(k+1)*bA t<=n*bA t:=aI _ hk;rw[bO]at this;omega
    |_=>simp[pH]at hw
   |_=>exact hp.elim
theorem Il:∀(t:Ty)(v:El t)(i:Nat)(w:V)(v':El t),Im t v i w=some v'->∃u z,CG t i=some u/\ij u w=some z/\aS t v'=aV (aS t v) (o5 t i) (aS u z):=by
 intro t;induction t with
 |pr a c iha ihc=>
  intro v i w v' hs;cases i with
  |zero=>
   simp only[Im]at hs;split at hs
   .rename_i y hy;obtain rfl:=aa hs;refine⟨a,y,rfl,hy,?_⟩;simp only[aS,o5];rw[tw (by simp[bJ]),mG (by simp[bJ])]
   .simp at hs
  |succ i=>
   simp only[Im]at hs;split at hs
   .rename_i y hy;obtain rfl:=aa hs;obtain⟨u,z,h1,h2,h3⟩:=ihc _ _ _ _ hy;refine⟨u,z,h1,h2,?_⟩;simp only[aS,o5,h3];have:=tC (a:=aS a v.1) (b:=aS c v.2) (off:=o5 c i) (p:=aS u z);rw[bJ]at this;rw[this]
   .simp at hs
 |_=>intro v i w v' hs;cases i with|zero=>have hs':ij _ w=some v':=hs;exact⟨_,v',rfl,hs',by simp only[o5];rw[mG (by simp[bJ])]⟩|succ i=>simp[Im]at hs
theorem vZ:∀(p:pX)(c:V)(t:Ty)(w c':V)(cs cw:List C)(u:Ty),eI c false t=true->fg h c cs->IR t p->oG c p w=some c'->re t p=some u->fg h w cw->cw.length=bA u->
  fg h c' (aV cs (mT t p) cw):=by
 intro p;induction p with
 |nil=>
  intro c t w c' cs cw u hf hv _ hs hu hw hlen;obtain rfl:w=c':=by simpa[oG]using hs
  have e:mT t []=0:=by cases t<;>rfl
  have e2:re t []=some t:=by cases t<;>rfl
  obtain rfl:t=u:=by rw[e2]at hu;exact aa hu
  have:=iB hv;rw[gV _ _ _ hf]at this;rw[e,mG (by omega)];exact hw
 |cons q p ih=>
  intro c t w c' cs cw u hf hv hp hs hu hw hlen;cases q with
  |fd i=>
   cases t with
   |st t=>
    obtain⟨a,ha,hp⟩:=hp;have hu':re a p=some u:=by simpa only[re,ha]using hu
    have e8:mT (.st t) (.fd i::p)=o5 t i+mT a p:=by simp only[mT,ha]
    cases c with
    |x t' v=>
     simp only[eI,decide_eq_true_eq]at hf;subst hf;obtain⟨hd,rfl⟩:=hv;simp only[oG]at hs;split at hs
     .rename_i y hy;split at hs
      .rename_i y1 hy1;obtain⟨a',z,rfl,h1,h2,h3⟩:=qS _ _ _ _ hy;obtain rfl:a=a':=by rw[ha]at h1;exact aa h1
       have hz:fg h (.x a z) ((aS a z).map .d):=⟨zu t _ _ hd ha,rfl⟩
       have h4:=ih (.x a z) a w y1 ((aS a z).map .d) cw u (by simp[eI]) hz hp hy1 hu' hw hlen;have hle:mT a p+cw.length<=bA a:=by have:=wi p a u hu' hp;omega
       have h5:((aS (.st t) v).map C.d|>.drop (o5 t i)).take (bA a)=(aS a z).map .d:=by rw[<-h3,hZ,gz];rfl
       have h6:aV ((aS (.st t) v).map C.d) (o5 t i+mT a p) cw=aV ((aS (.st t) v).map C.d) (o5 t i) (aV ((aS a z).map .d) (mT a p) cw):=(qn h5 (by simp[bJ,bA];exact h2) hle).symm;rw[e8,h6];split at hs
       .rename_i v' hv';obtain rfl:=aa hs;obtain⟨a2,z2,k1,k2,k3⟩:=Il _ _ _ _ _ hv';obtain rfl:a=a2:=by rw[ha]at k1;exact aa k1
        refine⟨hd,?_⟩;have:=pM k2 h4;rw[this];show _=(aS t v').map C.d;rw[k3,uy];rfl
       .obtain rfl:=aa hs;refine AL (H8 t v) t i y1 _ _ a (ND t v) (BD t v hd) ha h4 ?_ ⟨_,NC t v i _ hy⟩;rw[uz (by simp[bJ];exact hle)];simp[bJ]
      .simp at hs
     .simp at hs
    |rc l=>
     simp only[oG]at hs;split at hs
     .rename_i y hy;split at hs
      .rename_i y1 hy1;obtain rfl:=aa hs;obtain⟨a',cw2,q1,q2,q3,q4,q5⟩:=AS l t i y cs hf hv hy;obtain rfl:a=a':=by rw[ha]at q1;exact aa q1
       have h4:=ih y a w y1 cw2 cw u q2 q3 hp hy1 hu' hw hlen;have hl:=iB q3;rw[gV _ _ _ q2]at hl;have hle:mT a p+cw.length<=bA a:=by have:=wi p a u hu' hp;omega
       rw[e8,<-qn q5 q4 hle];exact AL l t i y1 cs _ a hf hv ha h4 (by rw[uz (by omega),hl]) ⟨_,hy⟩
      .simp at hs
     .simp at hs
    |_=>simp[oG]at hs
   |_=>exact hp.elim
  |ix k=>
   cases t with
   |ar n t=>
    obtain⟨hk,hp⟩:=hp;have hu':re t p=some u:=hu;cases c with
    |x t' v=>
     simp only[eI,decide_eq_true_eq]at hf;subst hf;obtain⟨hd,rfl⟩:=hv;simp only[oG]at hs;split at hs
     .rename_i y1 hy1;split at hs
      .rename_i z hz;obtain rfl:=aa hs;have hk':k<v.1.length:=by rw[v.2];exact hk
       have hg:=zj (bJ t) v.1 k hk';have h4:=ih (.x t (gt v.1 k)) t w y1 ((aS t (gt v.1 k)).map .d) cw u (by simp[eI]) ⟨hd,rfl⟩ hp hy1 hu' hw hlen;have h7:=pM hz h4;have hle:mT t p+cw.length<=bA t:=by have:=wi p t u hu' hp;omega
       have h5:((aS (.ar n t) v).map C.d|>.drop (k*bA t)).take (bA t)=(aS t (gt v.1 k)).map .d:=by rw[<-hg,hZ,gz];rfl
       have h8:k*bA t+bA t<=((aS (.ar n t) v).map C.d).length:=by simp only[aO,bJ,bA];have:(k+1)*bA t<=n*bA t:=aI _ hk;rw[bO]at this;omega
       refine⟨hd,?_⟩;show aV _ (k*bA t+mT t p) cw=_;rw[<-qn h5 h8 hle,h7,<-uy];show _=((v.1.set k z).flatMap (aS t)).map C.d;rw[Me (bJ t) v.1 k z hk'];rfl
      .simp at hs
     .simp at hs
    |_=>simp[oG]at hs
   |_=>exact hp.elim
theorem xJ{n:Nat}:∀(l:V)(i:Nat)(w:V),e_ n h l->sg l i=some w->e_ n h w:=by
 intro l;induction l with
 |co a r iha ihr=>intro i w hk hw;cases i with|zero=>obtain rfl:=aa hw;exact hk.1|succ i=>exact ihr i w hk.2 hw
 |_=>intro i w hk hw;simp[sg]at hw
theorem Ha{n:Nat}:∀(l:V)(i:Nat)(w:V),e_ n h l->e_ n h w->e_ n h (KI l i w):=by
 intro l;induction l with
 |co a r iha ihr=>intro i w hk hw;cases i with|zero=>exact⟨hw,hk.2⟩|succ i=>exact⟨hk.1,ihr i w hk.2 hw⟩
 |_=>intro i w hk hw;exact hk
theorem HA{n:Nat}{t:Ty}{v:El t}{i:Nat}{w:V}(hw:Aj t v i=some w):e_ n h w:=by obtain⟨u,y,rfl,_⟩:=qS _ _ _ _ hw;trivial
theorem E6{n:Nat}:∀(t:Ty)(v:El t),e_ n h (H8 t v):=by intro t;induction t with|pr a c iha ihc=>intro v;exact⟨trivial,ihc v.2⟩|_=>intro v;exact⟨trivial,trivial⟩
theorem B6{n:Nat}:∀(p:pX)(c w:V),e_ n h c->pH c p=some w->e_ n h w:=by
 intro p;induction p with
 |nil=>intro c w hk hw;obtain rfl:c=w:=by simpa[pH]using hw
       exact hk
 |cons q p ih=>
  intro c w hk hw;cases q with
  |fd i=>
   cases c with
   |x t v=>
    cases t with
    |st t=>
     simp only[pH]at hw;split at hw
     .rename_i y hy;exact ih y w (HA hy) hw
     .simp at hw
    |_=>simp[pH]at hw
   |rc l=>
    simp only[pH]at hw;split at hw
    .rename_i y hy;exact ih y w (xJ l _ _ hk hy) hw
    .simp at hw
   |_=>simp[pH]at hw
  |ix k=>
   cases c with
   |x t v=>cases t with|ar m t=>exact ih (.x t (gt v.1 k)) w trivial hw|_=>simp[pH]at hw
   |_=>simp[pH]at hw
theorem G6{n:Nat}:∀(p:pX)(c w c':V),e_ n h c->e_ n h w->oG c p w=some c'->e_ n h c':=by
 intro p;induction p with
 |nil=>intro c w c' _ hw hs;obtain rfl:w=c':=by simpa[oG]using hs
       exact hw
 |cons q p ih=>
  intro c w c' hk hw hs;cases q with
  |fd i=>
   cases c with
   |x t v=>
    cases t with
    |st t=>
     simp only[oG]at hs;split at hs
     .rename_i y hy;split at hs
      .rename_i y1 hy1;split at hs
       .obtain rfl:=aa hs;trivial
       .obtain rfl:=aa hs;exact Ha _ _ _ (E6 t v) (ih y w y1 (HA hy) hw hy1)
      .simp at hs
     .simp at hs
    |_=>simp[oG]at hs
   |rc l=>
    simp only[oG]at hs;split at hs
    .rename_i y hy;split at hs
     .rename_i y1 hy1;obtain rfl:=aa hs;exact Ha l _ _ hk (ih y w y1 (xJ l _ _ hk hy) hw hy1)
     .simp at hs
    .simp at hs
   |_=>simp[oG]at hs
  |ix k=>
   cases c with
   |x t v=>
    cases t with
    |ar m t=>
     simp only[oG]at hs;split at hs
     .split at hs
      .obtain rfl:=aa hs;trivial
      .simp at hs
     .simp at hs
    |_=>simp[oG]at hs
   |_=>simp[oG]at hs
end
section
variable{h:H2}{n:Nat}{h1:bF}
theorem dV{v:V}{c:C}(ha:tj v=false)(hc:fg h v [c]):sD h v (.c c):=⟨[c],hc,fun e=>(by rw[ha]at e;cases e),fun _=>⟨c,rfl,rfl⟩⟩
theorem x5{v:V}{cs:List C}(ha:tj v=true)(hc:fg h v cs):sD h v (.agg cs):=⟨cs,hc,fun _=>rfl,fun e=>(by rw[ha]at e;cases e)⟩
theorem jq{v:V}{x:TV}(hx:sD h v x)(ha:tj v=false):∃c,x=.c c/\fg h v [c]:=by obtain⟨cs,h1,_,h2⟩:=hx;obtain⟨c,rfl,rfl⟩:=h2 ha;exact⟨c,rfl,h1⟩
theorem qH{v:V}{x:TV}(hx:sD h v x):∃cs,fg h v cs/\cellsOf x=some cs:=by obtain⟨cs,h1,h2,h3⟩:=hx;refine⟨cs,h1,?_⟩;cases ha:tj v with|true=>rw[h2 ha];rfl|false=>obtain⟨c,rfl,rfl⟩:=h3 ha;rfl
theorem ky{k:IntKind}{a:Int}{x:TV}(hx:gb h (.x (.i k) a) x):x=tI k a:=by obtain⟨c,rfl,_,hc⟩:=jq (v:=.x (.i k) a) hx rfl;obtain rfl:=(cu hc).1;rfl
theorem G3{a:Bool}{x:TV}(hx:gb h (.x .b a) x):x=tB a:=by obtain⟨c,rfl,_,hc⟩:=jq (v:=.x .b a) hx rfl;obtain rfl:=(cu hc).1;rfl
theorem wW{a:ByteArray}{x:TV}(hx:gb h (.x .s a) x):x=.c (.d (dS a)):=by obtain⟨c,rfl,_,hc⟩:=jq (v:=.x .s a) hx rfl;obtain rfl:=(cu hc).1;rfl
theorem xY{t:Ty}{s:Sl (El t)}{x:TV}(hx:gb h (.x (.sl t) s) x):x=.c (.d (vY (bA t) (aS t) s)):=by obtain⟨c,rfl,_,hc⟩:=jq (v:=.x (.sl t) s) hx rfl;obtain rfl:=(cu hc).1;rfl
theorem vV{a:Bool}{x:TV}(hx:gb h (.kb a) x):x=tB a:=by obtain⟨c,rfl,hc⟩:=jq (v:=.kb a) hx rfl;obtain rfl:=(cu hc).1;rfl
theorem vU{k:Nat}{x:TV}(hx:gb h (.nl k) x):x=.c (DG k):=by obtain⟨c,rfl,hc⟩:=jq (v:=.nl k) hx rfl;obtain rfl:=(cu hc).1;rfl
theorem xZ{t:Ty}{a:El t}{x:TV}(hx:gb h (.pt t a) x):kI t=true/\x=.c (.d (.pt (aS t a))):=by obtain⟨c,rfl,hd,hc⟩:=jq (v:=.pt t a) hx rfl;obtain rfl:=(cu hc).1;exact⟨hd,rfl⟩
theorem vT{id:Nat}{t:Ty}{p:pX}{x:TV}(hx:gb h (.op id t p) x):x=.c (.op id (mT t p)):=by obtain⟨c,rfl,hc⟩:=jq (v:=.op id t p) hx rfl;obtain rfl:=(cu hc).1;rfl
theorem sC{id m:Nat}{t:Ty}{p:pX}{x:TV}(hx:gb h (.ep id m t p) x):x=.c (.ep id m (mT t p)):=by obtain⟨c,rfl,hc⟩:=jq (v:=.ep id m t p) hx rfl;obtain rfl:=(cu hc).1;rfl
theorem E2{id:Nat}{x:TV}(hx:gb h (.om id) x):x=.c (.om id):=by obtain⟨c,rfl,hc⟩:=jq (v:=.om id) hx rfl;obtain rfl:=(cu hc).1;rfl
theorem sB{id:Nat}{c:C}{x:TV}(hx:gb h (.so id) x)(hc:AD id (fO h id)=some c):x=.c c:=by obtain⟨c',rfl,c2,h2,h3⟩:=jq (v:=.so id) hx rfl;obtain rfl:=(cu h2).1;rw[h3.1 c hc]
theorem Kg{id:Nat}{c:C}{x:TV}(hx:gb h (.sr id) x)(hc:ET id (fO h id)=some c):x=.c c:=by obtain⟨c',rfl,c2,h2,h3⟩:=jq (v:=.sr id) hx rfl;obtain rfl:=(cu h2).1;rw[h3.1 c hc]
theorem sF{id:Nat}{t:Ty}{s:Sl (Sl (El t))}{ln:Option (Nat×Nat)}(ho:fO h id=some (.rw t s ln)):ET id (fO h id)=some (mx 1 (aS (.sl t)) id s):=by rw[ho];rfl
theorem ql{id ver lo:Nat}{t:Ty}{r:Sl (El t)}{x:TV}(hx:gb h (.sb id ver lo t r) x)(ha:iw h (.sb id ver lo t r)=true):x=.c (ym id lo t r):=by obtain⟨c',rfl,c2,h2,h3⟩:=jq (v:=.sb id ver lo t r) hx rfl;obtain rfl:=(cu h2).1;rw[h3.1 (Bool.and_eq_true_iff.1 ha).2]
theorem E3{z:Bool}{f:Nat}{l:V}{x:TV}(hx:gb h (.fn z f l) x):(z=true/\∃ds,qD l=some ds/\x=.c (.d (.fn f ds)))\/(z=false/\∃cs,fg h l cs/\x=.c (.oX f cs)):=by obtain⟨c',rfl,hc⟩:=jq (v:=.fn z f l) hx rfl;cases z with|true=>obtain⟨ds,h2,h3⟩:=hc;exact .inl ⟨rfl,ds,h2,by rw[(cu h3).1]⟩|false=>obtain⟨ds,h2,h3⟩:=hc;exact .inr ⟨rfl,ds,h2,by rw[(cu h3).1]⟩
theorem P3{l:V}{x:TV}(hx:gb h (.tp l) x):∃xs,x=.iR xs/\BA h l xs:=hx
def N3:V->Prop
 |.tp _|.no|.gn=>False
 |_=>True
theorem oU{v:V}{x:TV}(hv:N3 v)(hx:gb h v x):sD h v x:=by cases v<;>first|exact hx|exact hv.elim
theorem cq{v:V}{x:TV}(hx:sD h v x):gb h v x:=by cases v<;>first|exact hx|(obtain⟨cs,hc,_⟩:=hx;exact hc.elim)
theorem PE{v:V}{u:Ty}{y:El u}(hc:tW u v=some y):N3 v:=by cases v<;>first|trivial|(simp[tW,kS,ij]at hc)
theorem vD{v:V}{u:Ty}{y:El u}{x:TV}(hx:gb h v x)(hc:tW u v=some y):(nv u=true->x=.agg ((aS u y).map .d))/\(nv u=false->∃d,aS u y=[d]/\x=.c (.d d)):=by
 obtain⟨cs,h2,h3,h4⟩:=oU (PE hc) hx;have h5:=iY v false u y cs hc h2;have ha:=wI hc;constructor
 .intro hu;rw[h3 (ha.trans hu),h5]
 .intro hu;obtain⟨c,rfl,rfl⟩:=h4 (ha.trans hu);cases he:aS u y with
  |nil=>rw[he]at h5;simp at h5
  |cons d ds=>
   rw[he]at h5;simp only[List.map_cons,List.cons.injEq]at h5;obtain⟨rfl,h6⟩:=h5;have:ds=[]:=by simpa using h6.symm
   subst this;exact⟨d,rfl,rfl⟩
theorem PD{v:V}{x:TV}{a:Bool}(hx:gb h v x)(hc:tW .b v=some a):x=tB a:=by obtain⟨d,h1,rfl⟩:=(vD hx hc).2 rfl;obtain rfl:=(cu h1).1;rfl
def mO(h:H2):List V->List TV->Prop
 |[],[]=>True
 |v::vs,x::xs=>gb h v x/\mO h vs xs
 |_,_=>False
theorem lU{xs:List TV}(hx:mO h [] xs):xs=[]:=by cases xs<;>first|rfl|exact hx.elim
theorem gT{v:V}{vs:List V}{xs:List TV}(hx:mO h (v::vs) xs):∃x ys,xs=x::ys/\gb h v x/\mO h vs ys:=by cases xs with|nil=>exact hx.elim|cons x ys=>exact⟨x,ys,rfl,hx.1,hx.2⟩
theorem iQ{v:V}{xs:List TV}(hx:mO h [v] xs):∃x,xs=[x]/\gb h v x:=by obtain⟨x,ys,rfl,h1,h2⟩:=gT hx;obtain rfl:=lU h2;exact⟨x,rfl,h1⟩
theorem jh{v w:V}{xs:List TV}(hx:mO h [v,w] xs):∃x y,xs=[x,y]/\gb h v x/\gb h w y:=by obtain⟨x,ys,rfl,h1,h2⟩:=gT hx;obtain⟨y,rfl,h3⟩:=iQ h2;exact⟨x,y,rfl,h1,h3⟩
theorem P2{v w z:V}{xs:List TV}(hx:mO h [v,w,z] xs):∃x y u,xs=[x,y,u]/\gb h v x/\gb h w y/\gb h z u:=by obtain⟨x,ys,rfl,h1,h2⟩:=gT hx;obtain⟨y,u,rfl,h3⟩:=jh h2;exact⟨x,y,u,rfl,h1,h3⟩
theorem Kf:∀{vs:List V}{xs:List TV},mO h vs xs->(∀v∈vs,N3 v/\tj v=false)->∃cs,fg h (dj vs) cs/\xs=cs.map TV.c:=by intro vs;induction vs with|nil=>intro xs hx _;obtain rfl:=lU hx;exact⟨[],rfl,rfl⟩|cons v vs ih=>intro xs hx hv;obtain⟨x,ys,rfl,h1,h2⟩:=gT hx;obtain⟨hp,ha⟩:=hv v (by simp);obtain⟨c,rfl,h3⟩:=jq (oU hp h1) ha;obtain⟨cs,h4,rfl⟩:=ih h2 fun w hw=>hv w (by simp[hw]);exact⟨c::cs,⟨[c],cs,rfl,h3,h4⟩,rfl⟩
theorem uB{id:Nat}{q:(t:Ty)×Sl (El t)×List Nat}(hs:t8 h (.so id)=some q):∃ver,(fO h id=some (.ar q.1 q.2.1 ver)\/fO h id=some (.im q.1 q.2.1 ver))/\q.2.2=[id]:=by
 simp only[t8]at hs;split at hs
 .rename_i t s v ho;obtain rfl:=aa hs;exact⟨v,.inl ho,rfl⟩
 .rename_i t s v ho;obtain rfl:=aa hs;exact⟨v,.inr ho,rfl⟩
 .simp at hs
theorem mw{id ver:Nat}{t:Ty}{s:Sl (El t)}(ho:fO h id=some (.ar t s ver)\/fO h id=some (.im t s ver)):AD id (fO h id)=some (mx (bA t) (aS t) id s):=by rcases ho with ho|ho<;>rw[ho]<;>rfl
theorem QH{id lo nx:Nat}{t:Ty}{r:Sl (El t)}{c:Call}{H:bF}:cP c (.len false) [some (.c (ym id lo t r))] H nx=some (tI .i64 r.l.length,[],[],nx):=by cases r with|nil=>rfl|mk l=>simp[cP,ul,ym,Sl.l,lv]
theorem QF{v:V}{x:TV}{q:(t:Ty)×Sl (El t)×List Nat}{c:Call}{H:bF}{nx:Nat}(hx:gb h v x)(ha:iw h v=true)(hs:t8 h v=some q):
  cP c (.len false) [some x] H nx=some (tI .i64 q.2.1.l.length,[],[],nx):=by
 cases v with
 |x t s=>cases t with|sl t=>obtain rfl:=aa hs;rw[xY hx];exact QG|_=>simp[t8]at hs
 |so id=>obtain⟨ver,ho,_⟩:=uB hs;rw[sB hx (mw ho)];exact Pu
 |sb id ver lo t r=>obtain rfl:=aa hs;rw[ql hx ha];exact QH
 |_=>simp[t8]at hs
theorem LL{id lo nx:Nat}{t:Ty}{r:Sl (El t)}{c:Call}{H:bF}{neg:Bool}:cP c (.qV 0 neg) [some (.c (ym id lo t r))] H nx=some (tB (if neg then !r.fP else r.fP),[],[],nx):=by cases r<;>rfl
theorem Qw{v:V}{x:TV}{q:(t:Ty)×Sl (El t)×List Nat}{c:Call}{H:bF}{nx:Nat}{neg:Bool}(hx:gb h v x)(ha:iw h v=true)(hs:t8 h v=some q):
  cP c (.qV 0 neg) [some x] H nx=some (tB (if neg then !q.2.1.fP else q.2.1.fP),[],[],nx):=by
 cases v with
 |x t s=>cases t with|sl t=>obtain rfl:=aa hs;rw[xY hx];exact Qx|_=>simp[t8]at hs
 |so id=>obtain⟨ver,ho,_⟩:=uB hs;rw[sB hx (mw ho)];exact Sn
 |sb id ver lo t r=>obtain rfl:=aa hs;rw[ql hx ha];exact LL
 |_=>simp[t8]at hs
theorem oC{g:Bool}{m:Nat}{w:V}(hc:GI h g m w=true):tj w=g/\x_ w=m/\(g=false->m=1)/\iw h w=true:=by
 simp only[GI,ai,beq_iff_eq,Bool.or_eq_true]at hc;obtain⟨⟨⟨h1,h2⟩,h3⟩,h4⟩:=hc;refine⟨h1,h2,fun e=>?_,h4⟩;rcases h3 with h3|h3
 .rw [e]at h3;cases h3
 .exact h3
theorem pD{g:Bool}{m off:Nat}{cs cw:List C}{w:V}(hc:GI h g m w=true)(hw:fg h w cw)(hle:off+m<=cs.length)(he:(cs.drop off).take m=cw):∃x,DY g m (cs.drop off)=some x/\gb h w x:=by
 obtain⟨ha,hs,hm,_⟩:=oC hc;cases g with
 |true=>refine⟨.agg cw,?_,cq (x5 ha hw)⟩;simp only[DY,if_true];rw[if_pos (by simp;omega),he]
 |false=>obtain rfl:=hm rfl;cases hd:cs.drop off with|nil=>have:=congrArg List.length hd;simp at this;omega|cons c r=>rw[hd]at he;subst he;exact⟨.c c,rfl,cq (dV ha hw)⟩
theorem BZ{g:Bool}{m:Nat}{ds:List D}:Pw g m ds=DY g m (ds.map .d):=by
 unfold Pw DY;cases g
 .cases ds<;>simp
 .simp
theorem wn{p w:V}{l:List Nat}{g:Bool}{m nx:Nat}{c:Call}{x:TV}(hr:HR n h1 h)(hl:yS h p=some (w,l))(hc:GI h g m w=true)(hx:gb h p x)(hok:e_ n h p):
  ∃y,cP c (.load g m) [some x] h1 nx=some (y,[],l,nx)/\gb h w y/\e_ n h w:=by
 cases p with
 |pt t v=>obtain⟨rfl,rfl⟩:=ad (aa hl);obtain⟨hd,rfl⟩:=xZ hx;obtain⟨_,hs,_,_⟩:=oC hc;have hs':bA t=m:=hs;obtain⟨y,h2,h3⟩:=pD (cs:=(aS t v).map .d) (off:=0) hc (show fg h (.x t v) ((aS t v).map .d)from⟨hd,rfl⟩) (by simp[bJ];omega) (by rw[cS,dm (by simp[bJ];omega)]);refine⟨y,?_,h3,trivial⟩;rw[cS,<-BZ]at h2;simp only[cP,ie,h2]
 |op id t p=>
  obtain rfl:=vT hx;simp only[yS]at hl;split at hl
  .rename_i u cc ho;obtain⟨_,hb,hko⟩:=hr.ob id _ ho;obtain⟨cs,h2,h3,h4⟩:=hb;by_cases hu:u=t
   .subst hu;simp only[decide_true,cond_true]at hl;split at hl
    .rename_i w' hw;obtain⟨rfl,rfl⟩:=ad (aa hl);obtain⟨a,cw,q1,q2,q3,q4,q5⟩:=wy p cc u w' cs h4 h3 hok.2 hw;obtain⟨_,hs,_,_⟩:=oC hc;rw[gV _ _ _ q2]at hs;subst hs;obtain⟨y,h5,h6⟩:=pD hc q3 q4 q5;refine⟨y,?_,h6,B6 p cc w' hko hw⟩;simp only[cP,ie,h2,h5]
    .simp at hl
   .simp [hu]at hl
  .rename_i u v ho;obtain⟨_,hb,hko⟩:=hr.ob id _ ho;obtain⟨hd,h2⟩:=hb;by_cases hu:u=t
   .subst hu;simp only[decide_true,cond_true]at hl;split at hl
    .rename_i w' hw;obtain⟨rfl,rfl⟩:=ad (aa hl);obtain⟨a,cw,q1,q2,q3,q4,q5⟩:=wy (h:=h) p (.x u v) u w' ((aS u v).map .d) (by simp[eI]) ⟨hd,rfl⟩ hok.2 hw;obtain⟨_,hs,_,_⟩:=oC hc;rw[gV _ _ _ q2]at hs;subst hs;obtain⟨y,h5,h6⟩:=pD hc q3 q4 q5;refine⟨y,?_,h6,B6 p (.x u v) w' trivial hw⟩;rw[<-gz,<-BZ]at h5;simp only[cP,ie,h2,h5]
    .simp at hl
   .simp [hu]at hl
  .simp at hl
 |ep id k t p=>
  obtain rfl:=sC hx;obtain⟨_,hp,hk,_⟩:=hok
  have main:∀(u:Ty)(s:Sl (El u))(ver:Nat),(fO h id=some (.ar u s ver)\/fO h id=some (.im u s ver))->(bif decide (u=t)then(match pH (.x u (gt s.l k)) p with|some w=>some (w,[id])|none=>none)else none)=some (w,l)->
    ∃y,cP c (.load g m) [some (.c (.ep id k (mT t p)))] h1 nx=some (y,[],l,nx)/\gb h w y/\e_ n h w:=by
   intro u s ver ho hl;have hlt:=hk u s ver ho;by_cases hu:u=t
   .subst hu;simp only[decide_true,cond_true]at hl;split at hl
    .rename_i w' hw;obtain⟨rfl,rfl⟩:=ad (aa hl);cases s with
     |nil=>simp[Sl.l]at hlt
     |mk ls=>
     have hrow:(ls.map (aS u))[k]?=some (aS u (gt ls k)):=rE hlt;have hd:kI u=true:=by rcases ho with ho|ho<;>exact(hr.ob id _ ho).2.1.1
     obtain⟨a,cw,q1,q2,q3,q4,q5⟩:=wy (h:=h) p (.x u (gt ls k)) u w' ((aS u (gt ls k)).map .d) (by simp[eI]) ⟨hd,rfl⟩ hp hw;obtain⟨_,hs,_,_⟩:=oC hc;rw[gV _ _ _ q2]at hs;subst hs;obtain⟨y,h5,h6⟩:=pD hc q3 q4 q5;refine⟨y,?_,h6,B6 p (.x u (gt ls k)) w' trivial hw⟩;rw[<-gz,<-BZ]at h5;rcases ho with ho|ho
     .have h2:=(hr.ob id _ ho).2.1.2.2 ls rfl;simp only[cP,ie,h2,hrow,h5]
     .have h2:=(hr.ob id _ ho).2.1.2.2 ls rfl;simp only[cP,ie,h2,hrow,h5]
    .simp at hl
   .simp [hu]at hl
  simp only[yS]at hl;split at hl
  .rename_i u s ver ho;exact main u s ver (.inl ho) hl
  .rename_i u s ver ho;exact main u s ver (.inr ho) hl
  .simp at hl
 |_=>simp[yS]at hl
end
end Go.Ev
