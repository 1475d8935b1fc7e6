/- Typed data by codes: the types, the values that a frame holds, its objects, and how they are laid into the abstract machine's. Conditions: none, these are definitions. -/
import Derived.Test.YtoekkpmeeclpeaaGreatEvY
open Bool renaming and_eq_true->ak
open List renaming append_assoc->aM,append_nil->aV,drop_append_of_le_length->dX,drop_drop->eJ,drop_length->jX,drop_zero->eH,flatMap_cons->bL,length_append->ap,length_map->aD,length_replicate->aY,map_drop->gV,map_take->iM,nil_append->cz,replicate->aj,take_append_drop->cg,take_of_length_le->iG
open List.cons renaming inj->cj
open Nat renaming add_assoc->di,add_mul->bA,beq->gb,ble->jB,le_refl->am,mul_le_mul_right->az
open Option.some renaming inj->aa
open Prod.mk renaming inj->af
noncomputable section
namespace Go.Ev
inductive Ty where
 |i (k:IntKind)
 |b
 |s
 |f (k:FloatKind)
 |sl (t:Ty)
 |mp (k v:Ty)
 |un
 |pr (a c:Ty)
 |st (t:Ty)
 |ar (n:Nat) (t:Ty)
 |o (k:Nat)
 deriving Inhabited,DecidableEq
def Arr(n:Nat)(α:Type):Type:={l:List α//l.length=n}
def Arr.set{n:Nat}{α:Type}(v:Arr n α)(k:Nat)(x:α):Arr n α:=⟨v.1.set k x,by rw[List.length_set];exact v.2⟩
instance{n:Nat}{α:Type}[Inhabited α]:Inhabited (Arr n α):=⟨⟨aj n default,aY⟩⟩
instance{n:Nat}{α:Type}[DecidableEq α]:DecidableEq (Arr n α):=inferInstanceAs (DecidableEq {l:List α//l.length=n})
@[reducible] def El:Ty->Type
 |.i _=>Int
 |.b=>Bool
 |.s=>ByteArray
 |.f _=>Nat
 |.sl t=>Sl (El t)
 |.mp k v=>Mp (El k) (El v)
 |.un=>Unit
 |.pr a c=>El a×El c
 |.st t=>El t
 |.ar n t=>Arr n (El t)
 |.o _=>Unit
instance Jz:(t:Ty)->Inhabited (El t)
 |.i _=>⟨(0:Int)⟩
 |.b=>⟨false⟩
 |.s=>⟨(default:ByteArray)⟩
 |.f _=>⟨(0:Nat)⟩
 |.sl _=>⟨Sl.nil⟩
 |.mp _ _=>⟨Mp.none⟩
 |.un=>⟨()⟩
 |.pr a c=>⟨((Jz a).default,(Jz c).default)⟩
 |.st t=>Jz t
 |.ar n t=>⟨⟨aj n (Jz t).default,aY⟩⟩
 |.o _=>⟨()⟩
def u9:(t:Ty)->El t
 |.i _=>(0:Int)
 |.b=>false
 |.s=>(ByteArray.empty)
 |.f _=>(0:Nat)
 |.sl _=>Sl.nil
 |.mp _ _=>Mp.none
 |.un=>()
 |.pr a c=>(u9 a,u9 c)
 |.st t=>u9 t
 |.ar n t=>⟨aj n (u9 t),aY⟩
 |.o _=>()
def gg(t u:Ty)(v:El t):Option (El u):=if h:t=u then some (h▸v)else none
def bU:Ty->Nat
 |.un=>0
 |.pr a c=>bU a+bU c
 |.st t=>bU t
 |.ar n t=>n*bU t
 |_=>1
def kx:Ty->Bool
 |.o _|.mp _ _=>false
 |.pr a c=>kx a&&kx c
 |.st t|.ar _ t|.sl t=>kx t
 |_=>true
def mF:Ty->Bool
 |.st _|.ar _ _=>true
 |_=>false
def aR:(t:Ty)->El t->List D
 |.i k,x=>[.lit (.int k x)]
 |.b,x=>[.lit (.bool x)]
 |.s,x=>[.lit (.string x)]
 |.f k,x=>[.lit (.float k x)]
 |.sl t,x=>[yS (bU t) (aR t) x]
 |.mp _ _,_=>[.lit .nilFunc]
 |.un,_=>[]
 |.pr a c,x=>aR a x.1++aR c x.2
 |.st t,x=>aR t x
 |.ar _ t,x=>x.1.flatMap (aR t)
 |.o _,_=>[.lit .nilFunc]
inductive Pe where
 |fd (i:Nat)
 |ix (n:Nat)
abbrev qB:=List Pe
inductive V where
 |x (t:Ty) (v:El t)
 |kb (c:Bool)
 |nl (k:Nat)
 |so (id:Nat)
 |sr (id:Nat)
 |sb (id ver lo:Nat) (t:Ty) (r:Sl (El t))
 |op (id:Nat) (t:Ty) (p:qB)
 |ep (id n:Nat) (t:Ty) (p:qB)
 |pt (t:Ty) (v:El t)
 |fn (z:Bool) (f:Nat) (caps:V)
 |om (id:Nat)
 |rc (l:V)
 |tp (l:V)
 |ni
 |co (a r:V)
 |fl (l:List Value)
 |no
 |gn
inductive O where
 |ar (t:Ty) (s:Sl (El t)) (ver:Nat)
 |im (t:Ty) (s:Sl (El t)) (ver:Nat)
 |bx (t:Ty) (c:V)
 |ib (t:Ty) (v:El t)
 |mp (k v:Ty) (m:Mp (El k) (El v))
 |rw(t:Ty) (s:Sl (Sl (El t))) (ln:Option (Nat×Nat))
abbrev H2:=List (Nat×Option O)
def fO(h:H2)(id:Nat):Option O:=(bV h id).join
def BA:(t:Ty)->El t->Nat->Option V
 |.pr a _,v,0=>some (.x a v.1)
 |.pr _ c,v,n+1=>BA c v.2 n
 |t,v,0=>some (.x t v)
 |_,_,_=>none
def D4:Ty->Nat->Option Ty
 |.pr a _,0=>some a
 |.pr _ c,n+1=>D4 c n
 |t,0=>some t
 |_,_=>none
def pX:Ty->Nat->Nat
 |.pr _ _,0=>0
 |.pr a c,n+1=>bU a+pX c n
 |_,_=>0
def JZ:(t:Ty)->El t->V
 |.pr a c,v=>.co (.x a v.1) (JZ c v.2)
 |t,v=>.co (.x t v) .ni
def Vg(k:IntKind):List Value->Option (Int×List Value)
 |.int k' n::r=>if k'=k then some (n,r)else none
 |_=>none
def Vh:List Value->Option (Bool×List Value)
 |.bool c::r=>some (c,r)
 |_=>none
def Ve:List Value->Option (ByteArray×List Value)
 |.string c::r=>some (c,r)
 |_=>none
def Rt(k:FloatKind):List Value->Option (Nat×List Value)
 |.float k' n::r=>if k'=k then some (n,r)else none
 |_=>none
def Vf{α:Type}:List Value->Option (Sl α×List Value)
 |.slice none 0 0::r=>some (Sl.nil,r)
 |_=>none
def QA{α:Type}(f:List Value->Option (α×List Value)):(m:Nat)->List Value->Option (Arr m α×List Value)
 |0,l=>some (⟨[],rfl⟩,l)
 |m+1,l=>match f l with|some (x,l)=>(match QA f m l with|some (v,l)=>some (⟨x::v.1,by rw[List.length_cons,v.2]⟩,l)|none=>none)|none=>none
def vY:(t:Ty)->List Value->Option (El t×List Value)
 |.i k=>Vg k
 |.b=>Vh
 |.s=>Ve
 |.f k=>Rt k
 |.sl _=>Vf
 |.pr a c=>fun l=>match vY a l with|some (x,l)=>(match vY c l with|some (y,l)=>some ((x,y),l)|none=>none)|none=>none
 |.st t=>vY t
 |.ar n t=>QA (vY t) n
 |.mp _ _|.un|.o _=>fun _=>none
def iK(u:Ty):V->Option (El u)
 |.x t v=>gg t u v
 |.kb c=>gg .b u c
 |.nl 0=>(match u with|.sl _=>some Sl.nil|_=>none)
 |.fl l=>bif mF u then(match vY u l with|some (x,[])=>some x|_=>none)else none
 |_=>none
def J9:(t:Ty)->El t->Nat->V->Option (El t)
 |.pr a _,v,0,w=>match iK a w with|some y=>some (y,v.2)|none=>none
 |.pr _ c,v,n+1,w=>match J9 c v.2 n w with|some y=>some (v.1,y)|none=>none
 |t,_,0,w=>iK t w
 |_,_,_,_=>none
def tE:V->Nat->Option V
 |.co a _,0=>some a
 |.co _ r,n+1=>tE r n
 |_,_=>none
def MH:V->Nat->V->V
 |.co _ r,0,w=>.co w r
 |.co a r,n+1,w=>.co a (MH r n w)
 |l,_,_=>l
def qx:V->qB->Option V
 |v,[]=>some v
 |.x (.st t) v,.fd i::p=>match BA t v i with|some w=>qx w p|none=>none
 |.x (.ar _ t) v,.ix k::p=>qx (.x t (gt v.1 k)) p
 |.rc l,.fd i::p=>match tE l i with|some w=>qx w p|none=>none
 |_,_=>none
def pf:V->qB->V->Option V
 |_,[],w=>some w
 |.x (.st t) v,.fd i::p,w=>
  match BA t v i with
  |some y=>match pf y p w with|some y'=>(match J9 t v i y' with|some v'=>some (.x (.st t) v')|none=>some (.rc (MH (JZ t v) i y')))|none=>none
  |none=>none
 |.x (.ar n t) v,.ix k::p,w=>match pf (.x t (gt v.1 k)) p w with|some y=>(match iK t y with|some y'=>some (.x (.ar n t) (v.set k y'))|none=>none)|none=>none
 |.rc l,.fd i::p,w=>match tE l i with|some y=>(match pf y p w with|some y'=>some (.rc (MH l i y'))|none=>none)|none=>none
 |_,_,_=>none
def se:Ty->qB->Option Ty
 |t,[]=>some t
 |.st t,.fd i::p=>match D4 t i with|some u=>se u p|none=>none
 |.ar _ t,.ix _::p=>se t p
 |_,_=>none
def oD:Ty->qB->Nat
 |.st t,.fd i::p=>pX t i+(match D4 t i with|some u=>oD u p|none=>0)
 |.ar _ t,.ix k::p=>k*bU t+oD t p
 |_,_=>0
def KF:Ty->qB->Prop
 |.st t,.fd i::p=>∃u,D4 t i=some u/\KF u p
 |.ar n t,.ix k::p=>k<n/\KF t p
 |_,[]=>True
 |_,_=>False
def CK:Ty->V×V
 |.pr a c=>(.no,.co (CK a).1 (CK c).2)
 |.st t=>(bif kx t then .x (.st t) (u9 t)else .rc (CK t).2,.co (bif kx t then .x (.st t) (u9 t)else .rc (CK t).2) .ni)
 |.o k=>(.nl k,.co (.nl k) .ni)
 |.mp _ _=>(.nl 3,.co (.nl 3) .ni)
 |.sl t=>(bif kx t then .x (.sl t) Sl.nil else .nl 0,.co (bif kx t then .x (.sl t) Sl.nil else .nl 0) .ni)
 |.ar n t=>(bif kx t then .x (.ar n t) (u9 (.ar n t))else .no,.co (bif kx t then .x (.ar n t) (u9 (.ar n t))else .no) .ni)
 |.un=>(.x .un (),.co (.x .un ()) .ni)
 |.i k=>(.x (.i k) (0:Int),.co (.x (.i k) (0:Int)) .ni)
 |.b=>(.x .b false,.co (.x .b false) .ni)
 |.s=>(.x .s ByteArray.empty,.co (.x .s ByteArray.empty) .ni)
 |.f k=>(.x (.f k) (0:Nat),.co (.x (.f k) (0:Nat)) .ni)
abbrev Q7(t:Ty):V:=(CK t).1
def Fd(k:Nat):C:=.d (.lit (match k with|0=>.slice none 0 0|1=>.pointer none|2=>.nilFunc|3=>.map none|_=>.nilIface))
def BU(id:Nat):Option O->Option C
 |some (.ar t s _)=>some (nA (bU t) (aR t) id s)
 |some (.im t s _)=>some (nA (bU t) (aR t) id s)
 |_=>none
def p9(t:Ty):Sl (El t)->k8
 |.nil=>.nil
 |.mk l=>.bk (l.map (aR t))
def Kr{α:Type}(id:Nat):Sl α->k8
 |.nil=>.nil
 |.mk l=>.dQ id l.length
def fc(t:Ty)(l:List (Sl (El t))):Option (Nat×Nat)->List k8
 |none=>l.map (p9 t)
 |some (m,id)=>(l.map (p9 t)).set m (Kr id (gt l m))
def GO(id:Nat):Option O->Option C
 |some (.rw t s _)=>some (nA 1 (aR (.sl t)) id (s:Sl (Sl (El t))))
 |_=>none
def zo(id lo:Nat)(t:Ty):Sl (El t)->C
 |.nil=>.d (.lit (.slice none 0 0))
 |.mk l=>.fx (bU t) id lo (l.map (aR t)).length
def rC:V->Option (List D)
 |.pt t v=>if kx t then some [.pt (aR t v)]else none
 |.ni=>some []
 |.co a r=>match rC a,rC r with|some x,some y=>some (x++y)|_,_=>none
 |_=>none
def u7:V->Bool
 |.x t _=>mF t
 |.rc _|.fl _=>true
 |_=>false
deriving instance DecidableEq for Mp
instance AQ:(t:Ty)->DecidableEq (El t)
 |.i _=>inferInstanceAs (DecidableEq Int)
 |.b=>inferInstanceAs (DecidableEq Bool)
 |.s=>inferInstanceAs (DecidableEq ByteArray)
 |.f _=>inferInstanceAs (DecidableEq Nat)
 |.sl t=>@instDecidableEqSl (El t) (AQ t)
 |.mp k v=>@instDecidableEqMp (El k) (El v) (AQ k) (AQ v)
 |.un=>inferInstanceAs (DecidableEq Unit)
 |.pr a c=>@instDecidableEqProd (El a) (El c) (AQ a) (AQ c)
 |.st t=>AQ t
 |.ar n t=>@instDecidableEqArr n (El t) (AQ t)
 |.o _=>inferInstanceAs (DecidableEq Unit)
structure S2 where
 cW:List (Nat×V)
 heap:H2
 next:Nat
 wo:List Nat
 gh:V
structure OP where
 o:ol
 t:Ty
 fi:List Nat
def DR:V->Bool
 |.pt t _=>kx t
 |.ni=>true
 |.co a r=>DR a&&DR r
 |_=>false
def iw(h:H2):V->Bool
 |.x t _=>kx t
 |.pt t _=>kx t
 |.kb _|.nl _=>true
 |.op id _ _|.ep id _ _ _|.om id=>(match fO h id with|some _=>true|none=>false)
 |.so id=>(match fO h id with|some (.ar _ _ _)|some (.im _ _ _)=>true|_=>false)
 |.sr id=>(match fO h id with|some (.rw _ _ _)=>true|_=>false)
 |.sb id ver _ t _=>kx t&&(match fO h id with|some (.ar _ _ v)|some (.im _ _ v)=>v==ver|_=>false)
 |.fn true _ l=>DR l
 |.fn false _ l=>iw h l
 |.rc l|.tp l=>iw h l
 |.fl l=>l.all ez
 |.ni=>true
 |.co a r=>iw h a&&iw h r
 |.no|.gn=>false
def VG:Value->Option V
 |.bool c=>some (.kb c)
 |.int k n=>some (.x (.i k) n)
 |.float k n=>some (.x (.f k) n)
 |.string s=>some (.x .s s)
 |.pointer none=>some (.nl 1)
 |.slice none 0 0=>some (.nl 0)
 |.nilFunc=>some (.nl 2)
 |.map none=>some (.nl 3)
 |.nilIface=>some (.nl 4)
 |.agg cs=>if cs.toList.all ez then some (.fl cs.toList)else none
 |_=>none
def S8:Nat->Option V:=fun _ => none
def LN(e:List (Nat×V))(h:H2):Operand->Option V
 |.tmp t=>match bV e t with|some v=>bif iw h v then some v else none|none=>none
 |.const c=>VG c
 |.global g=>S8 g
 |.func f=>some (.fn true f .ni)
def Bg:V->Nat
 |.x t _=>bU t
 |.rc l=>Bg l
 |.co a r=>Bg a+Bg r
 |.ni=>0
 |.fl l=>l.length
 |_=>1
def Qn:V->Nat->Nat
 |.co a r,n+1=>Bg a+Qn r n
 |_,_=>0
def bv:List V->V
 |[]=>.ni
 |v::r=>.co v (bv r)
def BN:V->List V
 |.co a r=>a::BN r
 |_=>[]
def lO:V->Bool->(u:Ty)->Option (El u)
 |.rc l,false,.st u=>lO l true u
 |.co a r,true,.pr t u=>match lO a false t,lO r true u with|some x,some y=>some (x,y)|_,_=>none
 |.co a .ni,true,u=>lO a false u
 |.ni,_,_=>none
 |v,false,u=>iK u v
 |_,_,_=>none
abbrev uX(u:Ty)(v:V):Option (El u):=lO v false u
def d_:V->Bool->Ty->Bool
 |.x u _,false,t=>decide (u=t)
 |.rc l,false,.st t=>d_ l true t
 |.co a r,true,.pr t u=>d_ a false t&&d_ r true u
 |.co a .ni,true,t=>d_ a false t
 |.kb _,false,.b=>true
 |.nl 0,false,.sl _|.so _,false,.sl _|.sr _,false,.sl _|.sb _ _ _ _ _,false,.sl _=>true
 |.nl 3,false,.mp _ _|.om _,false,.mp _ _=>true
 |.nl _,false,.o _|.op _ _ _,false,.o _|.ep _ _ _ _,false,.o _|.pt _ _,false,.o _|.fn _ _ _,false,.o _=>true
 |_,_,_=>false
def O3(t:Ty)(v:V):Option V:=match(bif kx t then iK t v else none)with|some y=>some (.x t y)|none=>bif d_ v false t then some v else none
def wg(h:H2):V->Option ((t:Ty)×Sl (El t)×List Nat)
 |.x (.sl t) s=>some ⟨t,s,[]⟩
 |.so id=>(match fO h id with|some (.ar t s _)|some (.im t s _)=>some ⟨t,s,[id]⟩|_=>none)
 |.sb id _ _ t r=>some ⟨t,r,[id]⟩
 |_=>none
def Rc(t:Ty)(h:H2):V->Option ((t:Ty)×Sl (El t)×List Nat)
 |.nl 0=>some ⟨t,Sl.nil,[]⟩
 |v=>wg h v
def jI(h:H2):V->Option (V×List Nat)
 |.so id=>match wg h (.so id)with|some ⟨t,s,l⟩=>some (.x (.sl t) s,l)|none=>none
 |.sr id=>match fO h id with|some (.rw t s none)=>some (.x (.sl (.sl t)) s,[id])|_=>none
 |.sb id ver lo t r=>match wg h (.sb id ver lo t r)with|some ⟨t,s,l⟩=>some (.x (.sl t) s,l)|none=>none
 |.rc l=>match jI h l with|some (w,l)=>some (.rc w,l)|none=>none
 |.co a r=>match jI h a,jI h r with|some (x,l),some (y,m)=>some (.co x y,l++m)|_,_=>none
 |.x t v=>some (.x t v,[])
 |.kb c=>some (.kb c,[])
 |.nl k=>some (.nl k,[])
 |.fl l=>some (.fl l,[])
 |.ni=>some (.ni,[])
 |.fn true f l=>some (.fn true f l,[])
 |.pt t v=>some (.pt t v,[])
 |_=>none
def Yt(c:Bool):V->V->Option V
 |.kb a,.kb b=>some (.x .b (bif c then a else b))
 |.x t a,w=>match uX t w with|some b=>some (.x t (bif c then a else b))|none=>none
 |w,.x t b=>match uX t w with|some a=>some (.x t (bif c then a else b))|none=>none
 |_,_=>none
def VJ:Value->Value->Bool
 |.bool a,.bool b=>a==b
 |.int k a,.int k' b=>decide (k=k')&&a==b
 |.float k a,.float k' b=>decide (k=k')&&a==b
 |.string a,.string b=>decide (a=b)
 |.pointer none,.pointer none|.slice none 0 0,.slice none 0 0|.nilFunc,.nilFunc|.map none,.map none|.nilIface,.nilIface=>true
 |_,_=>false
def vc:List Value->List Value->Bool
 |[],[]=>true
 |a::r,b::s=>VJ a b&&vc r s
 |_,_=>false
def oK:Ty->List Value
 |.i k=>[.int k 0]
 |.b=>[.bool false]
 |.s=>[.string ByteArray.empty]
 |.f k=>[.float k 0]
 |.sl _=>[.slice none 0 0]
 |.mp _ _=>[.map none]
 |.un=>[]
 |.pr a c=>oK a++oK c
 |.st t=>oK t
 |.ar n t=>(aj n (oK t)).flatten
 |.o k=>[match k with|0=>.slice none 0 0|1=>.pointer none|2=>.nilFunc|3=>.map none|_=>.nilIface]
def Bi:Ty->Option (List Kd)
 |.i k=>some [.i k]
 |.b=>some [.b]
 |.s=>some [.s]
 |.pr a c=>match Bi a,Bi c with|some x,some y=>some (x++y)|_,_=>none
 |.st t=>Bi t
 |.ar n t=>match Bi t with|some x=>some ((aj n x).flatten)|none=>none
 |_=>none
def TK(z:Bool)(op:BinOp)(k k':IntKind)(a b:Int):Option V:=
 match op with
 |.shl=>bif z then some (.x (.i k) (TN k a b))else none
 |.shr=>bif z then some (.x (.i k) (fV k a b))else none
 |op=>bif decide (k=k')then(match op with
  |.add=>some (.x (.i k) (wr k (a+b)))
  |.sub=>some (.x (.i k) (wr k (a-b)))
  |.mul=>some (.x (.i k) (wr k (a*b)))
  |.quo=>bif z then some (.x (.i k) (wr k (a.tdiv b)))else none
  |.rem=>bif z then some (.x (.i k) (a.tmod b))else none
  |.and=>some (.x (.i k) (A9 k a b))
  |.or=>some (.x (.i k) (YM k a b))
  |.xor=>some (.x (.i k) (TM k a b))
  |.andNot=>some (.x (.i k) (zx k a b))
  |.eql=>some (.x .b (a==b))
  |.neq=>some (.x .b (a !=b))
  |.lss=>some (.x .b (decide (a<b)))
  |.leq=>some (.x .b (decide (a<=b)))
  |.gtr=>some (.x .b (decide (a>b)))
  |.geq=>some (.x .b (decide (a>=b)))
  |_=>none)else none
def yg(k:FloatKind)(a b:Nat):Nat:=(k.format.add a b).getD (vf k)
def YC(k:FloatKind)(a b:Nat):Nat:=(k.format.sub a b).getD (vf k)
def YD(k:FloatKind)(a b:Nat):Nat:=(k.format.mul a b).getD (vf k)
def YE(k:FloatKind)(a b:Nat):Nat:=(k.format.div a b).getD (vf k)
def GB(k:FloatKind)(a b:Nat):Bool:=k.format.order a b==some .eq
def Qs(k:FloatKind)(a b:Nat):Bool:=k.format.order a b==some .lt
def N3(k:FloatKind)(a b:Nat):Bool:=k.format.order a b==some .gt
def Lb(k:FloatKind)(a b:Nat):Nat:=match k.format.order a b with|none=>vf k|some .lt=>a|some .gt=>b|some .eq=>if(k.decode a).neg then a else b
def Tc(k:FloatKind)(a b:Nat):Nat:=match k.format.order a b with|none=>vf k|some .lt=>b|some .gt=>a|some .eq=>if(k.decode a).neg then b else a
def OD(op:BinOp)(k k':FloatKind)(a b:Nat):Option V:=
 bif decide (k=k')then(match op with
  |.add=>some (.x (.f k) (yg k a b))
  |.sub=>some (.x (.f k) (YC k a b))
  |.mul=>some (.x (.f k) (YD k a b))
  |.quo=>some (.x (.f k) (YE k a b))
  |.eql=>some (.x .b (GB k a b))
  |.neq=>some (.x .b (!(GB k a b)))
  |.lss=>some (.x .b (Qs k a b))
  |.leq=>some (.x .b (Qs k a b||GB k a b))
  |.gtr=>some (.x .b (N3 k a b))
  |.geq=>some (.x .b (N3 k a b||GB k a b))
  |_=>none)else none
def TJ(op:BinOp)(x y:ByteArray):Option V:=match op with|.eql=>some (.x .b (x.toList==y.toList))|.neq=>some (.x .b (!(x.toList==y.toList)))|.lss=>some (.x .b (Op.bytesLess x.toList y.toList))|.leq=>some (.x .b (Op.bytesLess x.toList y.toList||x.toList==y.toList))|.gtr=>some (.x .b (!(Op.bytesLess x.toList y.toList||x.toList==y.toList)))|.geq=>some (.x .b (!(Op.bytesLess x.toList y.toList)))|_=>none
def PO:List Operand->Bool
 |[_,.const (.int _ n)]=>decide (n>0)
 |_=>false
def T9(m:Bool)(k:IntKind):Int->List V->Option Int
 |x,[]=>some x
 |x,.x (.i k') y::r=>bif decide (k'=k)then T9 m k (bif m then(if y>x then y else x)else(if y<x then y else x)) r else none
 |_,_=>none
def KN(m:Bool)(k:FloatKind):Nat->List V->Option Nat
 |x,[]=>some x
 |x,.x (.f k') y::r=>bif decide (k'=k)then KN m k (bif m then Tc k x y else Lb k x y) r else none
 |_,_=>none
def Av(h:H2):V->Option (V×List Nat)
 |.pt t v=>some (.x t v,[])
 |.op id t p=>(match fO h id with
  |some (.bx u c)=>bif decide (u=t)then(match qx c p with|some w=>some (w,[id])|none=>none)else none
  |some (.ib u v)=>bif decide (u=t)then(match qx (.x u v) p with|some w=>some (w,[id])|none=>none)else none
  |_=>none)
 |.ep id n t p=>(match fO h id with
  |some (.ar u s _)|some (.im u s _)=>bif decide (u=t)then(match qx (.x u (gt s.l n)) p with|some w=>some (w,[id])|none=>none)else none
  |_=>none)
 |_=>none
def Ap(h:H2)(kind:Nat):V->Option V
 |.nl k=>bif(k==kind)&&Nat.blt k 3 then some (.kb true)else none
 |.pt _ _|.op _ _ _|.ep _ _ _ _=>bif kind==1 then some (.kb false)else none
 |.fn _ _ _=>bif kind==2 then some (.kb false)else none
 |v=>bif kind==0 then(match wg h v with|some ⟨_,s,_⟩=>some (.x .b s.fA)|none=>none)else none
def M6:V->V
 |.kb c=>.kb (!c)
 |.x .b c=>.x .b (!c)
 |v=>v
def HU(off n:Nat)(i:Nat):V->Option V
 |.op id t p=>(match se t p with
  |some (.st u)=>(match D4 u i with|some w=>bif(pX u i==off)&&(bU w==n)then some (.op id t (p++[.fd i]))else none|none=>none)
  |_=>none)
 |.ep id m t p=>(match se t p with
  |some (.st u)=>(match D4 u i with|some w=>bif(pX u i==off)&&(bU w==n)then some (.ep id m t (p++[.fd i]))else none|none=>none)
  |_=>none)
 |.pt (.st u) v=>(match BA u v i with|some (.x w y)=>bif(pX u i==off)&&(bU w==n)then some (.pt w y)else none|_=>none)
 |_=>none
def If(h:H2)(g:Bool)(n:Nat)(w:V):Bool:=(u7 w==g)&&(Bg w==n)&&(g||n==1)&&iw h w
def P8(h:H2):V->Option ((k:Ty)×(v:Ty)×Mp (El k) (El v)×List Nat)
 |.om id=>(match fO h id with|some (.mp k v m)=>some ⟨k,v,m,[id]⟩|_=>none)
 |_=>none
def yY(t:Ty):List Nat->List (Nat×Nat)->List V->V->Option V
 |[],[],[],c=>some c
 |i::is,(off,n)::ps,w::ws,c=>
  match t with
  |.st u=>(match D4 u i with
   |some a=>bif(pX u i==off)&&(bU a==n)then(match O3 a w with|some w=>(match pf c [.fd i] w with|some c=>bif d_ c false t then yY t is ps ws c else none|none=>none)|none=>none)else none
   |none=>none)
  |.ar m u=>bif(i*bU u==off)&&(bU u==n)&&decide (i<m)then(match O3 u w with|some w=>(match pf c [.ix i] w with|some c=>bif d_ c false t then yY t is ps ws c else none|none=>none)|none=>none)else none
  |_=>none
 |_,_,_,_=>none
def QO:V->Bool
 |.tp _|.no|.gn|.ni|.co _ _=>false
 |v=>!u7 v
def R3(o:OP)(vs:List V)(h:H2):Option (V×List Nat):=
 match o.o.k,vs with
 |.mv,[v]=>some (v,[])
 |.nilCheck,[v]=>(match v with|.pt _ _|.fn _ _ _|.ep _ _ _ _|.op _ _ _=>some (v,[])|_=>none)
 |.A6 op,[.x (.i k) a,.x (.i k') b]=>(match TK (PO o.o.args) op k k' a b with|some v=>some (v,[])|none=>none)
 |.A6 op,[.x (.f k) a,.x (.f k') b]=>(match OD op k k' a b with|some v=>some (v,[])|none=>none)
 |.A6 op,[.x .s a,.x .s b]=>(match TJ op a b with|some v=>some (v,[])|none=>none)
 |.vX neg,[x,y]=>(match uX .b x,uX .b y with|some a,some b=>some (.x .b (bif neg then !(a==b)else a==b),[])|_,_=>none)
 |.rT kind neg,[x]=>(match Ap h kind x with|some v=>some (bif neg then M6 v else v,[])|none=>none)
 |.AO neg ks,[.x t a,y]=>(match uX t y with|some b=>bif mF t&&decide (Bi t=some ks)then some (.x .b (bif neg then !(decide (a=b))else decide (a=b)),[])else none|none=>none)
 |.un .not,[.kb c]=>some (.kb (!c),[])
 |.un .not,[.x .b c]=>some (.x .b (!c),[])
 |.un .neg,[.x (.i k) n]=>some (.x (.i k) (wr k (0-n)),[])
 |.un .neg,[.x (.f k) n]=>some (.x (.f k) (Op.negFloat k n),[])
 |.un .xor,[.x (.i k) n]=>some (.x (.i k) (YN k n),[])
 |.xg k,[.x (.i _) n]=>some (.x (.i k) (wr k n),[])
 |.Ga k,[.x (.i _) n]=>some (.x (.f k) (k.nearest n),[])
 |.ur,[.x .s s]=>some (.x .s s,[])
 |.KQ f,vs=>bif vs.all QO then some (.fn false f (bv vs),[])else none
 |.load g n,[p]=>(match Av h p with|some (w,l)=>bif If h g n w then some (w,l)else none|none=>none)
 |.vq,[p]=>(match Av h p with|some (w,l)=>bif If h false 1 w then some (w,l)else none|none=>none)
 |.fieldAddr off n,[p]=>(match o.fi with|[i]=>(match HU off n i p with|some w=>some (w,[])|none=>none)|_=>none)
 |.field g off n,[.x (.st u) v]=>(match o.fi with|[i]=>(match BA u v i with|some w=>bif(pX u i==off)&&If h g n w then some (w,[])else none|none=>none)|_=>none)
 |.field g off n,[.rc l]=>(match o.fi with|[i]=>(match tE l i with|some w=>bif(Qn l i==off)&&If h g n w then some (w,[])else none|none=>none)|_=>none)
 |.extract i,[.tp l]=>(match tE l i with|some w=>some (w,[])|none=>none)
 |.len true,[.x .s s]=>some (.x (.i .i64) (s.size:Int),[])
 |.len false,[.nl 0]=>some (.x (.i .i64) (0:Int),[])
 |.len false,[.sr id]=>(match fO h id with|some (.rw _ s _)=>some (.x (.i .i64) (s.l.length:Int),[])|_=>none)
 |.len false,[v]=>(match wg h v with|some ⟨_,s,_⟩=>some (.x (.i .i64) (s.l.length:Int),[])|none=>none)
 |.sO m,.x (.i k) x::r=>(match T9 m k x r with|some y=>some (.x (.i k) y,[])|none=>none)
 |.sO m,.x (.f k) x::r=>(match KN m k x r with|some y=>some (.x (.f k) y,[])|none=>none)
 |.build z ps,vs=>bif vc (oK o.t) z&&mF o.t&&d_ (Q7 o.t) false o.t then(match yY o.t o.fi ps vs (Q7 o.t)with|some v=>some (v,[])|none=>none)else none
 |.lookup ka ks va z ok,[m,kv]=>(match P8 h m with
  |some ⟨kt,vt,mp,l⟩=>(match uX kt kv with
   |some k=>bif(mF kt==ka)&&(mF vt==va)&&decide (Bi kt=some ks)&&vc (oK vt) z&&kx vt&&(va||bU vt==1)then
     some (bif ok then .tp (.co (.x vt (pu mp (u9 vt) k)) (.co (.x .b (Nc mp k)) .ni))else .x vt (pu mp (u9 vt) k),l)else none
   |none=>none)
  |none=>none)
 |_,_=>none
def Ba{α:Type}(s:Sl α)(x r:List α):Sl α:=match x with|[]=>(match s with|.nil=>.nil|.mk _=>.mk r)|_::_=>.mk r
def kE{α:Type}:Sl α->Sl α->Option Unit
 |.nil,.nil=>some ()
 |.mk a,.mk b=>P_ a b
 |_,_=>none
def jp(s:S2)(o:O):S2:=⟨s.cW,(s.next,some o)::s.heap,s.next+1,s.next::s.wo,s.gh⟩
def dT(s:S2)(id:Nat)(o:Option O):S2:=⟨s.cW,(id,o)::s.heap,s.next,id::s.wo,s.gh⟩
def Dz(h:H2)(id:Nat):Option O:=match fO h id with|some (.ar t s v)|some (.im t s v)=>some (.im t s v)|some (.ib t v)=>some (.ib t v)|some (.bx t c)=>bif kx t&&Nat.blt (bU t) 300 then(match jI h c with|some (_,[])=>(match uX t c with|some v=>some (.ib t v)|none=>none)|_=>none)else none|_=>none
def rz(h:H2):List Nat->S2->Option S2
 |[],s=>some s
 |id::r,s=>match fO h id with|some (.rw _ _ none)=>(match rz h r s with|some s=>some (dT s id none)|none=>none)|_=>(match Dz h id,rz h r s with|some o,some s=>some (dT s id (some o))|_,_=>none)
def DZ(t:Ty):Bool:=kx t&&Nat.blt 0 (bU t)
def BY(h:H2)(t:Ty)(len:Nat):Nat->List Nat->List V->Option (List (El t)×List Nat)
 |m,[],[]=>some (aj (len-m) (u9 t),[])
 |m,i::is,v::vs=>
  match jI h v with
  |some (w,a)=>(match uX t w with
   |some y=>bif jB m i&&Nat.blt i len then(match BY h t len (i+1) is vs with|some (l,b)=>some (aj (i-m) (u9 t)++y::l,a++b)|none=>none)else none
   |none=>none)
  |none=>none
 |_,_,_=>none
def dV:List V->Option (List Int)
 |[]=>some []
 |.x (.i _) n::r=>match dV r with|some l=>some (n::l)|none=>none
 |_=>none
def HI(h:H2):V->Option Int
 |.nl 0=>some 0
 |v=>match wg h v with|some ⟨_,v,_⟩=>some (v.l.length:Int)|none=>none
def QK{α:Type}(w:Sl α)(lo n:Nat)(z:α):Option (Sl α):=match w with|.nil=>none|.mk l=>some (.mk (Cw l lo n (aj n z)))
def vi{β:Type}(sz:Nat)(h:H2)(x:V)(l u:Int)(k:V->Option β):Option β:=
 match x with
 |.x (.sl t) v=>bif bU t==sz then(nR v.l l u).bind fun y=>k (.x (.sl t) (v.to y))else none
 |.so id=>(match fO h id with
  |some (.ar t v ver)=>bif bU t==sz then(nR v.l l u).bind fun y=>k (.sb id ver l.toNat t (v.to y))else none
  |some (.im t v ver)=>bif bU t==sz then(nR v.l l u).bind fun y=>k (.sb id ver l.toNat t (v.to y))else none
  |_=>none)
 |.sb id ver lo t v=>bif bU t==sz then(nR v.l l u).bind fun y=>k (.sb id ver (lo+l.toNat) t (v.to y))else none
 |.nl 0=>(nR ([]:List Unit) l u).bind fun _=>k (.nl 0)
 |_=>none
def Vm{β:Type}(t:Ty)(sz len:Nat)(z:List Value)(pl:List Nat)(vs:List V)(s:S2)(k:V->S2->List Nat->Option β):Option β:=
 bif(bU t==sz)&&vc ((aj len (oK t)).flatten) z&&DZ t then
  (match BY s.heap t len 0 pl vs with
  |some (l,a)=>(match rz s.heap a s with|some s'=>k (.so s.next) (jp s' (.ar t (.mk l) 0)) a|none=>none)
  |none=>none)else none
def IH(ln:Option (Nat×Nat))(m:Nat):Bool:=match ln with|none=>true|some (m',_)=>gb m' m
def GL{β:Type}(id m:Nat)(t:Ty)(p:qB)(w:V)(s:S2)(k:S2->List Nat->Option β):Option β:=
 match fO s.heap id with
 |some (.rw u v ln)=>(match p,w with
  |[],.so id2=>(match fO s.heap id2 with
   |some (.ar u2 r _)=>(match gg (.sl u2) (.sl u) r with
    |some r=>bif decide (t=.sl u)&&!(id2==id)&&IH ln m then k (dT (dT s id2 none) id (some (.rw u (.mk (v.l.set m r)) none))) [id,id2]else none
    |none=>none)
   |_=>none)
  |_,_=>none)
 |some (.ar u l ver)=>(match jI s.heap w with
  |some (w,a)=>bif decide (u=t)then(match se u p with
   |some q=>(match uX q w with
    |some y=>(match pf (.x u (gt l.l m)) p (.x q y)with
     |some c=>(match iK u c with
      |some y=>(match rz s.heap a s with|some s=>bif !a.contains id then k (dT s id (some (.ar u (.mk (l.l.set m y)) (ver+1)))) (id::a)else none|none=>none)
      |none=>none)
     |none=>none)
    |none=>none)
   |none=>none)else none
  |none=>none)
 |_=>none
def part{β:Type}(o:OP)(vs:List V)(s:S2)(k:V->S2->List Nat->Option β):Option β:=
 match o.o.k,vs with
 |.A6 .quo,[.x (.i q) a,.x (.i q') b]=>bif decide (q=q')then(Tu q a b).bind fun x=>k (.x (.i q) x) s []else none
 |.A6 .rem,[.x (.i q) a,.x (.i q') b]=>bif decide (q=q')then(So q a b).bind fun x=>k (.x (.i q) x) s []else none
 |.A6 .shl,[.x (.i q) a,.x (.i _) b]=>(Se q a b).bind fun x=>k (.x (.i q) x) s []
 |.A6 .shr,[.x (.i q) a,.x (.i _) b]=>(Sd q a b).bind fun x=>k (.x (.i q) x) s []
 |.A6 .add,[.x .s a,.x .s b]=>(TF a b).bind fun x=>k (.x .s x) s []
 |.alloc z,[]=>bif vc (oK o.t) z&&d_ (Q7 o.t) false o.t then k (.op s.next o.t []) (jp s (.bx o.t (Q7 o.t))) []else none
 |.box,[v]=>(match O3 o.t v with|some w=>k (.op s.next o.t []) (jp s (.bx o.t w)) []|none=>none)
 |.buildSlice sz len z pl,vs=>Vm o.t sz len z pl vs s k
 |.store n,[.op id t p,w]=>bif(Bg w==n)then(match fO s.heap id with
  |some (.bx u c)=>bif decide (u=t)then(match se t p with
   |some a=>(match O3 a w with
    |some w=>(match pf c p w with|some c=>bif d_ c false t then k (.tp .ni) (dT s id (some (.bx t c))) [id]else none|none=>none)
    |none=>none)
   |none=>none)else none
  |_=>none)else none
 |.vq,[.ep id m u []]=>(match fO s.heap id with
  |some (.rw t v none)=>bif decide (u=.sl t)then k (.so s.next) (jp (dT s id (some (.rw t v (some (m,s.next))))) (.ar t (gt v.l m) 0)) [id]else none
  |_=>none)
 |.Cf szi,[.x (.i _) l,.x (.i _) c]=>(match o.t with
  |.sl t=>bif(bU t==szi)&&DZ t then(D2 (Sl.nil:Sl (El t)) l c).bind fun r=>k (.sr s.next) (jp s (.rw t (.mk r) none)) []else none
  |_=>none)
 |.store n,[.ep id m t p,w]=>bif(Bg w==n)then GL id m t p w s (fun s l=>k (.tp .ni) s l)else none
 |.makeSlice z,[.x (.i _) l,.x (.i _) c]=>bif vc (oK o.t) z&&DZ o.t then(D2 (u9 o.t) l c).bind fun r=>k (.so s.next) (jp s (.ar o.t (.mk r) 0)) []else none
 |.slice true _ lo hi,.x .s x::r=>(match lo,hi,dV r with
  |false,false,some []=>(Bo x 0 x.size).bind fun y=>k (.x .s y) s []
  |true,false,some [l]=>(Bo x l x.size).bind fun y=>k (.x .s y) s []
  |false,true,some [u]=>(Bo x 0 u).bind fun y=>k (.x .s y) s []
  |true,true,some [l,u]=>(Bo x l u).bind fun y=>k (.x .s y) s []
  |_,_,_=>none)
 |.slice false sz lo hi,x::r=>
  (match lo,hi,dV r,HI s.heap x with
  |false,false,some [],some n=>vi sz s.heap x 0 n fun v=>k v s []
  |true,false,some [l],some n=>vi sz s.heap x l n fun v=>k v s []
  |false,true,some [u],some _=>vi sz s.heap x 0 u fun v=>k v s []
  |true,true,some [l,u],some _=>vi sz s.heap x l u fun v=>k v s []
  |_,_,_,_=>none)
 |.indexAddr none sz,[x,.x (.i _) i]=>(match x with
  |.x (.sl t) v=>bif bU t==sz then(cC i v.l.length).bind fun m=>k (.pt t (gt v.l m)) s []else none
  |.so id=>(match wg s.heap (.so id)with|some ⟨t,v,_⟩=>bif bU t==sz then(cC i v.l.length).bind fun m=>k (.ep id m t []) s []else none|none=>none)
  |.sb id _ lo t v=>bif bU t==sz then(cC i v.l.length).bind fun m=>k (.ep id (lo+m) t []) s []else none
  |.sr id=>(match fO s.heap id with|some (.rw t v _)=>bif 1==sz then(cC i v.l.length).bind fun m=>k (.ep id m (.sl t) []) s []else none|_=>none)
  |_=>none)
 |.indexAddr (some n) sz,[x,.x (.i _) i]=>(match x with
  |.op id t p=>(match se t p with|some (.ar n' u)=>bif(n'==n)&&(bU u==sz)then(cC i n).bind fun m=>k (.op id t (p++[.ix m])) s []else none|_=>none)
  |.ep id q t p=>(match se t p with|some (.ar n' u)=>bif(n'==n)&&(bU u==sz)then(cC i n).bind fun m=>k (.ep id q t (p++[.ix m])) s []else none|_=>none)
  |.pt (.ar n' u) v=>bif(n'==n)&&(bU u==sz)then(cC i n).bind fun m=>k (.pt u (gt v.1 m)) s []else none
  |_=>none)
 |.ql,[.x .s x,.x (.i _) i]=>(VH x i).bind fun c=>k (.x (.i .u8) c) s []
 |.index g n sz,[.x (.ar n' u) v,.x (.i _) i]=>bif(n'==n)&&(bU u==sz)&&(mF u==g)&&kx u&&(g||sz==1)then(cC i n).bind fun m=>k (.x u (gt v.1 m)) s []else none
 |.append sz,[a,x]=>
  (match Rc o.t s.heap x with
  |some ⟨t,m,av⟩=>bif(bU t==sz)&&DZ t then(match a with
   |.nl 0=>(kc ([]++m.l)).bind fun r=>k (.so s.next) (jp s (.ar t (Ba Sl.nil m.l r) 0)) av
   |.x (.sl _) v=>bif Sl.fA v then((kc ([]++m.l)).bind fun r=>k (.so s.next) (jp s (.ar t (Ba Sl.nil m.l r) 0)) av)else none
   |.so id=>(match fO s.heap id with
    |some (.ar u v _)=>(match gg (.sl t) (.sl u) m with
     |some m=>(kc (v.l++m.l)).bind fun r=>k (.so s.next) (jp (dT s id none) (.ar u (Ba v m.l r) 0)) (id::av)
     |none=>none)
    |_=>none)
   |.sb id _ lo u v=>(match fO s.heap id,gg (.sl t) (.sl u) m with
    |some (.ar _ s0 _),some m=>bif jB s0.l.length (lo+(v.l.length+m.l.length))then((kc (v.l++m.l)).bind fun r=>k (.so s.next) (jp (dT s id none) (.ar u (Ba v m.l r) 0)) (id::av))else none
    |_,_=>none)
   |_=>none)else none
  |none=>none)
 |.copy sz,[a,x]=>
  (match Rc o.t s.heap x with
  |some ⟨t,m,av⟩=>bif bU t==sz then(match a with
   |.nl 0=>k (.x (.i .i64) (0:Int)) s av
   |.so id=>(match fO s.heap id with
    |some (.ar u v ver)=>(match gg (.sl t) (.sl u) m with
     |some m=>k (.x (.i .i64) ((min m.l.length v.l.length:Nat):Int)) (dT s id (some (.ar u (v.to (Cw v.l 0 v.l.length m.l)) (ver+1)))) (id::av)
     |none=>none)
    |_=>none)
   |.sb id ver lo _ v=>(match fO s.heap id with
    |some (.ar u w ver')=>(match gg (.sl t) (.sl u) m with
     |some m=>bif ver'==ver then k (.x (.i .i64) ((min m.l.length v.l.length:Nat):Int)) (dT s id (some (.ar u (w.to (Cw w.l lo v.l.length m.l)) (ver+1)))) (id::av)else none
     |none=>none)
    |_=>none)
   |_=>none)else none
  |none=>none)
 |.clear zz,[a]=>(match a with
  |.sb id ver lo _ v=>(match fO s.heap id with
   |some (.ar u w ver')=>bif(ver'==ver)&&vc (oK u) zz&&DZ u then(QK w lo v.l.length (u9 u)).bind fun w=>k (.tp .ni) (dT s id (some (.ar u w (ver+1)))) [id]else none
   |_=>none)
  |_=>none)
 |.makeMap ka va,[]=>(match o.t with
  |.mp kt vt=>bif(mF kt==ka)&&(mF vt==va)&&kx vt&&(Bi kt).isSome then k (.om s.next) (jp s (.mp kt vt Mp.none)) []else none
  |_=>none)
 |.mapEntry ka ks va z,[.om id,kv]=>(match fO s.heap id with
  |some (.mp kt vt m)=>(match uX kt kv with
   |some q=>bif(mF kt==ka)&&(mF vt==va)&&decide (Bi kt=some ks)&&vc (oK vt) z&&kx vt&&(va||bU vt==1)then
     k (.tp (.co (.x vt (mB m (u9 vt) q).2.1) (.co (.x (.i .i64) (mB m (u9 vt) q).2.2) .ni))) (dT s id (some (.mp kt vt (mB m (u9 vt) q).1))) [id]else none
   |none=>none)
  |_=>none)
 |.entryStore va n,[.om id,.x (.i _) st,w]=>(match fO s.heap id with
  |some (.mp kt vt m)=>(match uX vt w with
   |some y=>bif(mF vt==va)&&(bU vt==n)&&kx vt then(yF m st y).bind fun m=>k (.tp .ni) (dT s id (some (.mp kt vt m))) [id]else none
   |none=>none)
  |_=>none)
 |.uc ka ks va n,[.om id,kv,w]=>(match fO s.heap id with
  |some (.mp kt vt m)=>(match uX kt kv with
   |some q=>(match uX vt w with
    |some y=>bif(mF kt==ka)&&(mF vt==va)&&decide (Bi kt=some ks)&&(bU vt==n)&&kx vt then k (.tp .ni) (dT s id (some (.mp kt vt (Fj m q y)))) [id]else none
    |none=>none)
   |none=>none)
  |_=>none)
 |.ud ka ks,[.om id,kv]=>(match fO s.heap id with
  |some (.mp kt vt m)=>(match uX kt kv with
   |some q=>bif(mF kt==ka)&&decide (Bi kt=some ks)then k (.tp .ni) (dT s id (some (.mp kt vt (Fm m q)))) [id]else none
   |none=>none)
  |_=>none)
 |_,_=>none
@[reducible] def uz:List Ty->Type
 |[]=>Unit
 |a::r=>OZ a r
where OZ:Ty->List Ty->Type
 |a,[]=>El a
 |a,c::r=>El a×OZ c r
def yO(u:Ty):V->Option (El u)
 |.x t v=>gg t u v
 |_=>none
def JW{α β:Type}:Option α->Option β->Option (α×β)
 |some x,some y=>some (x,y)
 |_,_=>none
def JU:(a:Ty)->(r:List Ty)->List V->Option (uz.OZ a r)
 |a,[],l=>(match l with|[v]=>yO a v|_=>none)
 |a,c::r,l=>(match l with|v::l=>JW (yO a v) (JU c r l)|[]=>none)
def xG:(cs:List Ty)->List V->Option (uz cs)
 |[],[]=>some ()
 |a::r,l=>JU a r l
 |_,_=>none
def Pk:(a:Ty)->(r:List Ty)->uz.OZ a r->List V
 |a,[],v=>[.x a v]
 |a,c::r,v=>.x a v.1::Pk c r v.2
def pE:(cs:List Ty)->uz cs->List V
 |[],_=>[]
 |a::r,v=>Pk a r v
inductive Sh where
 | x (t : Ty)            -- data
 | pt (t : Ty)           -- a pointer to data
 | os (t : Ty)           -- a slice of its bk
 | rw (t : Ty)           -- a bv of rows of its bk
 | mp (k v : Ty)         -- a map of its bk
 | pb (t : Ty) (c : Sh)  -- a pointer to a box of its bk
 |st (c:Sh)
 |pr (a c:Sh)
 |nl (k:Nat)
 |fn (f:Nat) (l:Sh)
 |ni
 |gn
 deriving Inhabited,DecidableEq
def QF:Sh->List Ty
 |.x t|.pt t=>[t]
 |.os t=>[.sl t]
 |.rw t=>[.sl (.sl t)]
 |.mp k v=>[.mp k v]
 |.pb _ c|.st c|.fn _ c=>QF c
 |.pr a c=>QF a++QF c
 |_=>[]
def jx:List Sh->List Ty
 |[]=>[]
 |a::r=>QF a++jx r
abbrev Wy:=List (List Sh×List Sh)
@[reducible] def xo:Wy->Type
 |[]=>Empty
 |(r,o)::w=>Iu r o w
where Iu:List Sh->List Sh->Wy->Type
 |r,o,[]=>uz (jx r++jx o)
 |r,o,(r',o')::w=>uz (jx r++jx o)⊕Iu r' o' w
def RS{β:Type}(k:List Sh->List Sh->List V->Option β):(r o:List Sh)->(w:Wy)->xo.Iu r o w->Option β
 |r,o,[],z=>k r o (pE (jx r++jx o) z)
 |r,o,(r',o')::w,z=>match z with|.inl z=>k r o (pE (jx r++jx o) z)|.inr z=>RS k r' o' w z
def Ud{β:Type}(k:List Sh->List Sh->List V->Option β):(w:Wy)->xo w->Option β
 |[],z=>nomatch z
 |(r,o)::w,z=>RS k r o w z
structure iz where
 ps:List (Bool×Sh)
 al:Wy
 ro:Bool
 kq:List Bool
 fn:uz (jx (ps.map (·.2)))->Option (xo al)
abbrev Gu:=List (Nat×iz)
def pj(h:H2):Sh->V->Option (List V×List Nat)
 |.x t,v=>match jI h v with|some (w,l)=>(match uX t w with|some y=>some ([.x t y],l)|none=>none)|none=>none
 |.pt t,.pt u v=>match gg u t v with|some y=>some ([.x t y],[])|none=>none
 |.pt t,.op id u []=>(match fO h id with
  |some (.bx w c)=>bif decide (w=u)&&iw h c then(match jI h c with|some (c,l)=>(match uX t c with|some y=>some ([.x t y],id::l)|none=>none)|none=>none)else none
  |some (.ib w v)=>bif decide (w=u)then(match gg w t v with|some y=>some ([.x t y],[id])|none=>none)else none
  |_=>none)
 |.pt t,.ep id n u []=>(match fO h id with
  |some (.ar w s _)|some (.im w s _)=>bif decide (w=u)then(match gg w t (gt s.l n)with|some y=>some ([.x t y],[id])|none=>none)else none
  |_=>none)
 |.nl k,.nl k'=>bif k==k' then some ([],[])else none
 |.fn f c,.fn _ f' l=>bif f==f' then pj h c l else none
 |.pr a c,.co x r=>match pj h a x,pj h c r with|some (l,i),some (m,j)=>some (l++m,i++j)|_,_=>none
 |.ni,.ni=>some ([],[])
 |_,_=>none
def SO(t:Ty){u:Ty}(v:El (.sl u)):Option (List V×List Nat):=match(v:Sl (El u))with|.nil=>some ([.x (.sl t) Sl.nil],[])|.mk _=>none
def Xp(h:H2)(t:Ty)(id ver:Nat){u:Ty}(r:Sl (El u)):Option (List V×List Nat):=match fO h id with|some (.ar _ _ v)=>bif v==ver then(match gg (.sl u) (.sl t) r with|some s=>some ([.x (.sl t) s],[id])|none=>none)else none|_=>none
def du(h:H2):Sh->Bool->V->Option (List V×List Nat)
 |.os t,false,.so id=>(match fO h id with|some (.ar u s _)=>(match gg (.sl u) (.sl t) s with|some s=>some ([.x (.sl t) s],[id])|none=>none)|_=>none)
 |.os t,false,.nl 0=>some ([.x (.sl t) Sl.nil],[])
 |.rw t,false,.sr id=>(match fO h id with|some (.rw u s none)=>(match gg (.sl (.sl u)) (.sl (.sl t)) s with|some s=>some ([.x (.sl (.sl t)) s],[id])|none=>none)|_=>none)
 |.rw t,false,.nl 0=>some ([.x (.sl (.sl t)) Sl.nil],[])
 |.mp k v,false,.om id=>(match fO h id with|some (.mp k' v' m)=>(match gg (.mp k' v') (.mp k v) m with|some m=>some ([.x (.mp k v) m],[id])|none=>none)|_=>none)
 |.pb t c,false,.op id u []=>(match fO h id with|some (.bx w v)=>bif decide (w=u)&&decide (u=t)then(match du h c false v with|some (l,i)=>some (l,id::i)|none=>none)else none|_=>none)
 |.nl k,false,.nl k'=>bif k==k' then some ([],[])else none
 |.x t,false,v=>match uX t v with|some y=>some ([.x t y],[])|none=>none
 |.st c,false,.rc l=>du h c true l
 |.st c,false,.x (.st u) v=>du h c true (JZ u v)
 |.pr a c,true,.co x r=>match(match a,x with|.os t,.x (.sl _) v=>SO t v|.os t,.sb id ver _ _ r=>Xp h t id ver r|_,_=>du h a false x),du h c true r with|some (l,i),some (m,j)=>some (l++m,i++j)|_,_=>none
 |.ni,true,.ni=>some ([],[])
 |_,_,_=>none
def rF:Sh->Bool->List V->S2->Option (V×List V×S2)
 |.x t,false,.x u v::l,s=>bif decide (u=t)&&kx t then some (.x u v,l,{s with next:=s.next+bU t})else none
 |.os t,false,.x (.sl u) v::l,s=>bif decide (u=t)&&DZ t then some (.so s.next,l,jp s (.ar u v 0))else none
 |.rw t,false,.x (.sl (.sl u)) v::l,s=>bif decide (u=t)&&DZ t then some (.sr s.next,l,jp s (.rw u v none))else none
 |.mp k v,false,.x (.mp k' v') m::l,s=>bif decide (k'=k)&&decide (v'=v)&&kx v&&(Bi k).isSome then some (.om s.next,l,jp s (.mp k' v' m))else none
 |.pb t c,false,l,s=>
  match rF c false l {s with next:=s.next+1}with
  |some (w,l,s')=>bif d_ w false t then some (.op s.next t [],l,dT s' s.next (some (.bx t w)))else none
  |none=>none
 |.nl k,false,l,s=>some (.nl k,l,{s with next:=s.next+1})
 |.st c,false,l,s=>match rF c true l s with|some (w,l,s)=>some (.rc w,l,s)|none=>none
 |.pr a c,true,l,s=>match rF a false l s with|some (x,l,s)=>(match rF c true l s with|some (r,l,s)=>some (.co x r,l,s)|none=>none)|none=>none
 |.ni,true,l,s=>some (.ni,l,s)
 |_,_,_,_=>none
def KP:List Sh->List V->S2->Option (List V×List V×S2)
 |[],l,s=>some ([],l,s)
 |a::r,l,s=>match rF a false l s with|some (x,l,s)=>(match KP r l s with|some (xs,l,s)=>some (x::xs,l,s)|none=>none)|none=>none
def wd(h:H2):List (Bool×Sh)->List V->Option (List V×List Nat×List (V×List Nat))
 |[],[]=>some ([],[],[])
 |(b,c)::r,v::vs=>
  match wd h r vs with
  |some (m,j,q)=>
   bif b then(match du h c false v with|some (l,i)=>some (l++m,j,(v,i)::q)|none=>none)
   else(match pj h c v with|some (l,i)=>some (l++m,i++j,q)|none=>none)
  |none=>none
 |_,_=>none
def Co(h:H2)(f:Nat)(vs:List V):Gu->Option (iz×List V×List Nat×List (V×List Nat))
 |[]=>none
 |(g,sp)::r=>bif g==f then(match wd h sp.ps vs with|some (l,i,q)=>some (sp,l,i,q)|none=>Co h f vs r)else Co h f vs r
def jt:List Nat->S2->S2
 |[],s=>s
 |id::r,s=>dT (jt r s) id none
def ei{β:Type}:List Sh->List (V×List Nat)->List V->S2->(S2->Option β)->Option β
 |[],[],[],s,k=>k s
 |.nl _::r,(_,[])::q,l,s,k=>ei r q l s k
 |.gn::r,(_,i)::q,l,s,k=>ei r q l (jt i s) k
 |.os t::r,(.nl 0,[])::q,.x (.sl u) v::l,s,k=>(match gg (.sl u) (.sl t) v with|some v=>(kE v (Sl.nil:Sl (El t))).bind fun _=>ei r q l s k|none=>none)
 |.os t::r,(.so id,_)::q,.x (.sl u) v::l,s,k=>(match fO s.heap id,gg (.sl u) (.sl t) v with
  |some (.ar w old ver),some v=>(match gg (.sl t) (.sl w) v with
   |some v=>(kE v old).bind fun _=>ei r q l (dT s id (some (.ar w v (ver+1)))) k
   |none=>none)
  |_,_=>none)
 |.rw t::r,(.nl 0,[])::q,.x (.sl (.sl u)) v::l,s,k=>(match gg (.sl (.sl u)) (.sl (.sl t)) v with|some v=>(kE (v:Sl (Sl (El t))) (Sl.nil:Sl (Sl (El t)))).bind fun _=>ei r q l s k|none=>none)
 |.rw t::r,(.sr id,_)::q,.x (.sl (.sl u)) v::l,s,k=>(match fO s.heap id,gg (.sl (.sl u)) (.sl (.sl t)) v with
  |some (.rw w old _),some v=>(match gg (.sl (.sl t)) (.sl (.sl w)) v with
   |some v=>(kE (v:Sl (Sl (El w))) old).bind fun _=>ei r q l (dT s id (some (.rw w v none))) k
   |none=>none)
  |_,_=>none)
 |.pb t c::r,(.op id u [],i)::q,l,s,k=>(match fO s.heap id with
  |some _=>(match rF c false l s with
   |some (w,l,s)=>bif d_ w false t&&decide (u=t)then ei r q l (dT (jt i s) id (some (.bx t w))) k else none
   |none=>none)
  |none=>none)
 |_,_,_,_,_=>none
def Sn:List V->V
 |[v]=>v
 |l=>.tp (bv l)
def Am:List Nat->Bool
 |[]=>true
 |a::r=>!r.contains a&&Am r
def zF:V->Option (List V)
 |.ni=>some []
 |.co a r=>bif(Bg a==1)&&!u7 a then(match zF r with|some l=>some (a::l)|none=>none)else none
 |_=>none
def zw{β:Type}(tb:Gu)(ro:Bool)(kq:List Bool)(f:V)(vs:List V)(s:S2)(k:V->S2->List Nat->Option β):Option β:=
 match f with
 |.fn _ fid caps=>
  match(match zF caps with|some cs=>Co s.heap fid (vs++cs) tb|none=>none)with
  |some (sp,pay,av,q)=>
   bif(!ro||sp.ro)&&decide (sp.kq=kq)&&Am (q.flatMap (·.2))&&(q.flatMap (·.2)).all (fun i=>!av.contains i)then
    match xG (jx (sp.ps.map (·.2))) pay with
    |some p=>(sp.fn p).bind fun z=>Ud (fun rs os l=>
     match(bif ro then some s else rz s.heap av s)with
     |some s0=>ei os q (l.drop (jx rs).length) s0 fun s1=>
      (match KP rs (l.take (jx rs).length) s1 with
      |some (xs,_,s2)=>k (Sn xs) s2 (av++q.flatMap (·.2))
      |none=>none)
     |none=>none) sp.al z
    |none=>none
   else none
  |none=>none
 |_=>none
structure Rg where
 kn:List (Nat×Bool)
 cd:List (Nat×Nat×Bool×V)
def SX(kn:List (Nat×Bool))(g:Nat):Option Bool:=bV kn g
def LO(s:S2)(q:Rg)(gc:Option (Nat×Bool)):Operand->Option V
 |.tmp t=>match bV q.cd t with|some (g,b,v)=>bif decide (gc=some (g,b))||decide (SX q.kn g=some b)then(bif iw s.heap v then some v else none)else none|none=>LN s.cW s.heap (.tmp t)
 |o=>LN s.cW s.heap o
def Hq(s:S2)(q:Rg)(gc:Option (Nat×Bool)):List Operand->Option (List V)
 |[]=>some []
 |a::r=>match LO s q gc a,Hq s q gc r with|some x,some y=>some (x::y)|_,_=>none
inductive GV where
 |run
 |skip
 |L8 (g:Nat) (b:Bool) (c:Bool)
def Yz(e:List (Nat×V))(kn:List (Nat×Bool)):Option (Nat×Bool)->Option GV
 |none=>some .run
 |some (g,b)=>
  match SX kn g with
  |some c=>some (bif c==b then .run else .skip)
  |none=>(match bV e g with
   |some (.kb c)=>some (bif c==b then .run else .skip)
   |some (.x .b c)=>some (.L8 g b c)
   |some .no=>some .skip
   |_=>none)
def MJ(s:S2)(q:Rg)(gc:Option (Nat×Bool)):List Operand->Option V
 |[.tmp g,a,b]=>match SX q.kn g,bV s.cW g with|some c,_=>LO s q gc (bif c then a else b)|none,some (.kb c)=>LO s q gc (bif c then a else b)|none,some (.x .b c)=>(match LO s q (some (g,true)) a,LO s q (some (g,false)) b with|some x,some y=>Yt c x y|_,_=>none)|_,_=>none
 |[.const (.bool c),a,b]=>LO s q gc (bif c then a else b)
 |_=>none
def HM:K->Bool
 |.pick=>true
 |_=>false
def Pm(o:OP)(s:S2)(q:Rg)(gc:Option (Nat×Bool)):Option (V×List Nat):=
 bif HM o.o.k then(match MJ s q gc o.o.args with|some v=>some (v,[])|none=>none)
 else(match Hq s q gc o.o.args with|some vs=>R3 o vs s.heap|none=>none)
def vP(s:S2)(d:Option Nat)(v:V):S2:=match d with|some d=>{s with cW:=(d,v)::s.cW}|none=>s
def QL(q:Rg)(d:Option Nat):Option Rg:=match d with|none=>some q|some d=>bif q.cd.any (fun e=>e.2.1==d)||q.kn.any (fun e=>e.1==d)then none else some ⟨q.kn,q.cd.filter (fun e=>!(e.1==d))⟩
abbrev LR:=List (List Nat×List Nat)
def VD{β:Type}(tb:Gu)(o:OP)(s:S2)(q:Rg)(gc:Option (Nat×Bool))(k:V->S2->List Nat->Option β):Option β:=
 match Pm o s q gc with
 |some (v,l)=>k v s l
 |none=>
  match Hq s q gc o.o.args with
  |some vs=>
   (match o.o.k,vs with
   |.call ro kq,f::vs=>zw tb ro kq f vs s k
   |_,vs=>part o vs s k)
  |none=>none
def RF(dr:Option Nat)(i:Nat)(s:S2):S2:=match dr with|some b=>{s with next:=b+ig*i}|none=>s
def KY(dr:Option Nat)(i:Nat)(s:S2):Bool:=match dr with|some b=>jB s.next (b+ig*(i+1))|none=>true
def Ue(d:Option Nat)(r:List OP):Bool:=
 match d with
 |some d=>r.any fun o=>match o.o.guard with|some (g,_)=>gb g d|none=>false
 |none=>false
def nO{β:Type}(tb:Gu)(dr:Option Nat):List OP->Nat->S2->Rg->LR->(S2->LR->Option β)->Option β
 |[],_,s,_,tr,k=>k s tr
 |o::r,i,s0,q,tr,k=>
  let s:=RF dr i s0
  let go:Rg->Option β:=fun q=>VD tb o s q o.o.guard fun v s1 l=>
   bif KY dr i s1 then(match QL q o.o.dst with
    |some q=>nO tb dr r (i+1) (vP s1 o.o.dst v) q (tr++[(l,s1.wo.take (s1.wo.length-s.wo.length))]) k
    |none=>none)else none
  let no:Rg->Option β:=fun q=>match QL q o.o.dst with|some q=>nO tb dr r (i+1) (vP s o.o.dst .no) q (tr++[([],[])]) k|none=>none
  match Yz s.cW q.kn o.o.guard with
  |none=>none
  |some .run=>go q
  |some .skip=>no q
  |some (.L8 g b c)=>
   match(bif Ue o.o.dst r then none else Pm o s q (some (g,b)))with
   |some (v,l)=>
    (match QL q o.o.dst,o.o.dst with
    |some q,some d=>bif gb g d then none else nO tb dr r (i+1) (vP s (some d) .gn) ⟨q.kn,(d,g,b,v)::q.cd⟩ (tr++[(l,[])]) k
    |_,_=>none)
   |none=>(match b with
    |true=>bif c then go ⟨(g,true)::q.kn,q.cd⟩else no ⟨(g,false)::q.kn,q.cd⟩
    |false=>bif c then no ⟨(g,true)::q.kn,q.cd⟩else go ⟨(g,false)::q.kn,q.cd⟩)
inductive JV where
 |x (t:Ty)
 |pt (t:Ty)
 |so (j:Nat)
 |sr (j:Nat)
 |om (j:Nat)
 |op (j:Nat) (t:Ty) (p:List Nat)
 |nl (k:Nat)
 |fn (z:Bool) (f:Nat) (l:JV)
 |rc (l:JV)
 |ni
 |co (a r:JV)
 |sm
 |gn
 deriving Inhabited
inductive JO where
 |ar (t:Ty)
 |bx (t:Ty) (c:JV)
 |mp (k v:Ty)
 |rw(t:Ty)
 deriving Inhabited
structure J where
 vs:List (Nat×JV):=[]
 gs:JV:=.sm
 os:List JO:=[]
 kl:List Nat:=[]
 deriving Inhabited
def Lr:JV->List Ty
 |.x t|.pt t=>[t]
 |.fn _ _ l|.rc l=>Lr l
 |.co a r=>Lr a++Lr r
 |_=>[]
def Rw:List (Nat×JV)->List Ty
 |[]=>[]
 |(_,a)::r=>Lr a++Rw r
def YK:JO->List Ty
 |.ar t=>[.sl t]
 |.bx _ c=>Lr c
 |.mp k v=>[.mp k v]
 |.rw t=>[.sl (.sl t)]
def Rx:List JO->List Ty
 |[]=>[]
 |a::r=>YK a++Rx r
def qz(j:J):List Ty:=Rw j.vs++(Lr j.gs++Rx j.os)
structure Bd where
 j:Nat
 id:Option Nat
def OI:List Bd->Nat->Option Bd
 |[],_=>none
 |b::r,j=>bif b.j==j then some b else OI r j
def xj(m:List Bd)(b:Bd):Option (List Bd):=
 match OI m b.j with
 |none=>bif(match b.id with|some i=>m.all (fun c=>match c.id with|some i'=>!(i'==i)|none=>true)|none=>true)then some (b::m)else none
 |some c=>(match b.id,c.id with
  |some i,some i'=>bif i==i' then some m else none
  |_,_=>none)
def EV:qB->Option (List Nat)
 |[]=>some []
 |.fd i::p=>match EV p with|some l=>some (i::l)|none=>none
 |.ix _::_=>none
def de:JV->Bool->V->List Bd->Option (List V×List Bd)
 |.x t,false,v,m=>match uX t v with|some y=>some ([.x t y],m)|none=>none
 |.pt t,false,.pt u v,m=>match gg u t v with|some y=>some ([.x t y],m)|none=>none
 |.so j,false,.so id,m=>match xj m ⟨j,some id⟩with|some m=>some ([],m)|none=>none
 |.so j,false,.nl 0,m=>match xj m ⟨j,none⟩with|some m=>some ([],m)|none=>none
 |.so j,false,.x (.sl _) v,m=>bif Sl.fA v then(match xj m ⟨j,none⟩with|some m=>some ([],m)|none=>none)else none
 |.sr j,false,.sr id,m=>match xj m ⟨j,some id⟩with|some m=>some ([],m)|none=>none
 |.om j,false,.om id,m=>match xj m ⟨j,some id⟩with|some m=>some ([],m)|none=>none
 |.op j t p,false,.op id u q,m=>bif decide (u=t)&&decide (EV q=some p)then(match xj m ⟨j,some id⟩with|some m=>some ([],m)|none=>none)else none
 |.nl k,false,.nl k',m=>bif k==k' then some ([],m)else none
 |.fn z f l,false,.fn z' f' l',m=>bif(z==z')&&(f==f')then de l true l' m else none
 |.rc l,false,.rc l',m=>de l true l' m
 |.rc l,false,.x (.st t) v,m=>de l true (JZ t v) m
 |.ni,true,.ni,m=>some ([],m)
 |.co a r,true,.co x y,m=>match de a false x m with|some (l,m)=>(match de r true y m with|some (l',m)=>some (l++l',m)|none=>none)|none=>none
 |_,_,_,_=>none
def Cz(s:S2):List (Nat×JV)->List Bd->Option (List V×List Bd)
 |[],m=>some ([],m)
 |(t,a)::r,m=>match LN s.cW s.heap (.tmp t)with|some v=>(match de a false v m with|some (l,m)=>(match Cz s r m with|some (l',m)=>some (l++l',m)|none=>none)|none=>none)|none=>none
def Oz(h:H2)(j:Nat)(o:JO)(m:List Bd):Option (List V×List Bd):=
 match OI m j with
 |some b=>(match o,b.id with
  |.ar t,none=>bif DZ t then some ([.x (.sl t) Sl.nil],m)else none
  |.ar t,some id=>(match fO h id with|some (.ar u s _)=>(match gg (.sl u) (.sl t) s with|some s=>some ([.x (.sl t) s],m)|none=>none)|_=>none)
  |.rw t,some id=>(match fO h id with|some (.rw u s none)=>(match gg (.sl (.sl u)) (.sl (.sl t)) s with|some s=>some ([.x (.sl (.sl t)) s],m)|none=>none)|_=>none)
  |.bx t c,some id=>(match fO h id with|some (.bx u v)=>bif decide (u=t)then de c false v m else none|_=>none)
  |.mp k v,some id=>(match fO h id with|some (.mp k' v' y)=>(match gg (.mp k' v') (.mp k v) y with|some y=>some ([.x (.mp k v) y],m)|none=>none)|_=>none)
  |_,_=>none)
 |none=>none
def CA(h:H2):List JO->Nat->List Bd->Option (List V×List Bd)
 |[],_,m=>some ([],m)
 |o::r,j,m=>match Oz h j o m with|some (l,m)=>(match CA h r (j+1) m with|some (l',m)=>some (l++l',m)|none=>none)|none=>none
def vo:V->V->Bool
 |.so i,.so j=>i==j
 |.sr i,.sr j=>i==j
 |.op i t [],.op j u []=>(i==j)&&decide (t=u)
 |.nl k,.nl l=>k==l
 |.gn,.gn=>true
 |_,_=>false
def zV:V->V->Bool
 |.ni,.ni=>true
 |.co a r,.co x y=>vo a x&&zV r y
 |_,_=>false
def s_(h:H2):JV->V->V->List Bd->Option (List V×List Bd)
 |.sm,g0,g,m=>bif zV g0 g then some ([],m)else none
 |.ni,.ni,.ni,m=>some ([],m)
 |.co a r,.co x0 y0,.co x y,m=>match a with|.sm=>bif vo x0 x then s_ h r y0 y m else none|.gn=>s_ h r y0 y m|a=>bif iw h x then(match de a false x m with|some (l,m)=>(match s_ h r y0 y m with|some (l',m)=>some (l++l',m)|none=>none)|none=>none)else none
 |_,_,_,_=>none
def BD:List (Nat×JV)->S2->S2
 |[],s=>s
 |(t,.so _)::r,s=>(match bV s.cW t with
  |some (.sb id ver _ u x)=>(match fO s.heap id with
   |some (.ar _ _ v)=>bif kx u&&v==ver then BD r ⟨(t,.so s.next)::s.cW,(s.next,some (.ar u x 0))::(id,none)::s.heap,s.next+1,s.next::id::s.wo,s.gh⟩else BD r s
   |_=>BD r s)
  |_=>BD r s)
 |_::r,s=>BD r s
def CD(j:J)(s0:S2)(s:S2):Option (List V):=
 match Cz s j.vs []with
 |some (l1,m)=>match s_ s.heap j.gs s0.gh s.gh m with
  |some (l2,m)=>(match CA s.heap j.os 0 m with
   |some (l3,m)=>bif s.wo.all (fun i=>jB s0.next i||j.kl.contains i)&&m.all (fun b=>Nat.blt b.j j.os.length&&(match b.id with|some i=>jB s0.next i||j.kl.contains i|none=>true))then some (l1++(l2++l3))else none
   |none=>none)
  |none=>none
 |none=>none
def yX(j:J)(s0:S2)(s:S2):Option (List V):=match BD j.vs s with|⟨e,h,n,w,g⟩=>CD j s0 ⟨e,h,n,w,g⟩
def jb(b:Nat):JV->Bool->List V->V->Option (V×List V)
 |.x t,false,.x u v::l,_=>bif decide (u=t)&&kx u then some (.x u v,l)else none
 |.pt t,false,.x u v::l,_=>bif decide (u=t)&&kx u then some (.pt u v,l)else none
 |.so j,false,l,_=>some (.so (b+j),l)
 |.sr j,false,l,_=>some (.sr (b+j),l)
 |.om j,false,l,_=>some (.om (b+j),l)
 |.op j t p,false,l,_=>some (.op (b+j) t (p.map .fd),l)
 |.nl k,false,l,_=>some (.nl k,l)
 |.fn z f c,false,l,_=>match jb b c true l .ni with|some (w,l)=>some (.fn z f w,l)|none=>none
 |.rc c,false,l,_=>match jb b c true l .ni with|some (w,l)=>some (.rc w,l)|none=>none
 |.ni,true,l,_=>some (.ni,l)
 |.co a r,true,l,.co x y=>match jb b a false l x with|some (v,l)=>(match jb b r true l y with|some (w,l)=>some (.co v w,l)|none=>none)|none=>none
 |.co a r,true,l,_=>match jb b a false l .gn with|some (v,l)=>(match jb b r true l .ni with|some (w,l)=>some (.co v w,l)|none=>none)|none=>none
 |.sm,_,l,v=>some (v,l)
 |.gn,false,l,_=>some (.gn,l)
 |_,_,_,_=>none
def IP(b:Nat):List (Nat×JV)->List V->Option (List (Nat×V)×List V)
 |[],l=>some ([],l)
 |(t,a)::r,l=>match jb b a false l .gn with|some (v,l)=>(match IP b r l with|some (e,l)=>some ((t,v)::e,l)|none=>none)|none=>none
def Sf(b:Nat):JO->List V->Option (O×List V)
 |.ar t,.x (.sl u) v::l=>bif decide (u=t)then some (.ar u v 0,l)else none
 |.rw t,.x (.sl (.sl u)) v::l=>bif decide (u=t)&&DZ t then some (.rw u v none,l)else none
 |.bx t c,l=>match jb b c false l .gn with|some (w,l)=>bif d_ w false t then some (.bx t w,l)else none|none=>none
 |.mp k v,.x (.mp k' v') m::l=>bif decide (k'=k)&&decide (v'=v)then some (.mp k' v' m,l)else none
 |_,_=>none
def EB(b:Nat):List JO->Nat->List V->Option (H2×List V)
 |[],_,l=>some ([],l)
 |o::r,j,l=>match Sf b o l with|some (o,l)=>(match EB b r (j+1) l with|some (h,l)=>some ((b+j,some o)::h,l)|none=>none)|none=>none
def vN(j:J)(ds:List Nat)(s0:S2)(l:List V):Option S2:=
 match IP s0.next j.vs l with
 |some (e,l)=>(match jb s0.next j.gs true l s0.gh with
  |some (g,l)=>(match EB s0.next j.os 0 l with
   |some (h,_)=>some ⟨e++ds.map (fun t=>(t,V.gn))++s0.cW,h++j.kl.map (fun i=>(i,none))++s0.heap,s0.next+j.os.length,h.map (·.1)++j.kl++s0.wo,g⟩
   |none=>none)
  |none=>none)
 |none=>none
abbrev Ex:=List (rD×J)
@[reducible] def Gv:Ex->Type
 |[]=>Empty
 |(_,j)::r=>OW j r
where OW:J->Ex->Type
 |j,[]=>uz (qz j)
 |j,(_,j')::r=>uz (qz j)⊕OW j' r
def Qg(s0:S2)(o:rD)(s:S2):(o':rD)->(j:J)->(r:Ex)->Option (Gv.OW j r)
 |o',j,[]=>bif decide (o=o')then(match yX j s0 s with|some l=>xG (qz j) l|none=>none)else none
 |o',j,(o2,j2)::r=>bif decide (o=o')then(match yX j s0 s with|some l=>(match xG (qz j) l with|some p=>some (.inl p)|none=>none)|none=>none)
  else(match Qg s0 o s o2 j2 r with|some x=>some (.inr x)|none=>none)
def KX(s0:S2)(o:rD)(s:S2):(e:Ex)->Option (Gv e)
 |[]=>none
 |(o',j)::r=>Qg s0 o s o' j r
def Sr{β:Type}(ds:List Nat)(s0:S2)(k:rD->S2->Option β):(o:rD)->(j:J)->(r:Ex)->Gv.OW j r->Option β
 |o,j,[],p=>match vN j ds s0 (pE (qz j) p)with|some s=>k o s|none=>none
 |o,j,(o2,j2)::r,x=>match x with|.inl p=>(match vN j ds s0 (pE (qz j) p)with|some s=>k o s|none=>none)|.inr y=>Sr ds s0 k o2 j2 r y
def ML{β:Type}(ds:List Nat)(s0:S2)(k:rD->S2->Option β):(e:Ex)->Gv e->Option β
 |[],x=>nomatch x
 |(o,j)::r,x=>Sr ds s0 k o j r x
inductive C2 where
 |skip
 |PK (ops:List OP) (dr:Option (List (Nat×Nat))) (jn:Option J)
 |seq (a b:C2) (e:Ex)
 |cond (c:Operand) (a b:C2)
 |block (id:Nat) (a:C2)
 |loop (j:J) (e:Ex) (a:C2)
 |exit (id:Nat)
 |ret
 |fL
 deriving Inhabited
def nr:C2->List Nat
 |.PK ops _ _=>ops.filterMap (·.o.dst)
 |.seq a b _|.cond _ a b=>nr a++nr b
 |.block _ a|.loop _ _ a=>nr a
 |_=>[]
def NH:K->Bool
 |.lookup _ _ _ _ _=>true
 |_=>false
def Ra(ops:List OP)(tr:LR)(i j:Nat):Bool:=
 match ops[i]?,tr[i]?with
 |some o,some ([id],[])=>NH o.o.k&&((tr.take j).drop (i+1)).all (fun x=>!x.2.contains id)
 |_,_=>false
def Tt(ops:List OP)(tr:LR)(dyn:List (Nat×Nat)):Bool:=
 dyn.all fun p=>bif jB 1000 p.2 then(match tr[p.1]?,tr[p.2-1000]?with|some a,some b=>mh a b||Ra ops tr p.1 (p.2-1000)|_,_=>true)
  else(match tr[p.1]?,tr[p.2]?with|some a,some b=>mh a b|_,_=>true)
def TU(s:S2)(id:Nat):Option S2:=
 match fO s.heap id with
 |some (.rw t v (some (m,id2)))=>(match fO s.heap id2 with
  |some (.ar u r _)=>(match gg (.sl u) (.sl t) r with
   |some r=>some (dT (dT s id2 none) id (some (.rw t (.mk (v.l.set m r)) none)))
   |none=>none)
  |_=>none)
 |_=>some s
def DS:List Nat->S2->Option S2
 |[],s=>some s
 |id::r,s=>match TU s id with|some s=>DS r s|none=>none
def TW(s s':S2):Option S2:=DS (s'.wo.take (s'.wo.length-s.wo.length)) s'
def N7{β:Type}(tb:Gu)(ops:List OP)(dr:Option (List (Nat×Nat)))(s:S2)(k:S2->Option β):Option β:=match dr with|none=>nO tb none ops 0 s ⟨[],[]⟩ [] fun s' _=>(TW s s').bind k|some dyn=>nO tb (some s.next) ops 0 s ⟨[],[]⟩ [] fun s' tr=>bif Tt ops tr dyn then(TW s {s' with next:=s.next+ig*ops.length}).bind k else none
def yU{β:Type}(tb:Gu):C2->S2->(rD->S2->Option β)->Option β
 |.skip,s,k=>k .normal s
 |.PK ops dr none,s,k=>N7 tb ops dr s fun s=>k .normal s
 |.PK ops dr (some j),s,k=>(N7 tb ops dr {s with wo:=[]} fun s'=>match yX j s s' with|some l=>xG (qz j) l|none=>none).bind fun p=>match vN j (ops.filterMap (·.o.dst)) s (pE (qz j) p)with|some s=>k .normal s|none=>none
 |.seq a b [],s,k=>yU tb a s fun o s=>match o with|.normal=>yU tb b s k|o=>k o s
 |.seq a b (e::r),s,k=>(yU tb a {s with wo:=[]} fun o s'=>KX s o s' (e::r)).bind fun x=>ML (nr a) s (fun o s=>match o with|.normal=>yU tb b s k|o=>k o s) (e::r) x
 |.cond c a b,s,k=>(match LN s.cW s.heap c with
  |some (.kb t)=>bif t then yU tb a s k else yU tb b s k
  |some (.x .b t)=>bif t then yU tb a s k else yU tb b s k
  |_=>none)
 |.block id a,s,k=>yU tb a s fun o s=>match o with|.exit i=>k (bif i==id then .normal else .exit i) s|o=>k o s
 |.loop j e a,s,k=>
  bif e.all (fun x=>j.kl.all fun i=>x.2.kl.contains i)then(match yX j s {s with wo:=[]}with
  |some l=>(match xG (qz j) l with
   |some p0=>(aP (fun p=>match vN j (nr a) s (pE (qz j) p)with
     |some s1=>yU tb a {s1 with wo:=[]} fun o s'=>(match o with
      |.normal=>(match yX j s s' with|some l=>(match xG (qz j) l with|some q=>some (Sum.inl q)|none=>none)|none=>none)
      |o=>(match KX s o s' e with|some x=>some (Sum.inr x)|none=>none))
     |none=>none) p0).bind fun x=>ML (nr a) s k e x
   |none=>none)
  |none=>none)else none
 |.exit id,s,k=>k (.exit id) s
 |.ret,s,k=>k .ret s
 |.fL,_,_=>none
def eK(P:Program):Nat->TypeId->Ty
 |0,_=>.o 9
 |n+1,t=>match P.underlying t with|some (.int k)=>.i k|some .bool=>.b|some .string=>.s|some (.float k)=>.f k|some (.slice e)=>.sl (eK P n e)|some (.map k v)=>.mp (eK P n k) (eK P n v)|some (.struct fs)=>.st (Vl (fs.toList.map fun f=>eK P n f.type))|some (.array m e)=>.ar m (eK P n e)|some (.pointer _)=>.o 1|some (.func ..)=>.o 2|_=>.o 4
where Vl:List Ty->Ty
 |[]=>.un
 |[t]=>t
 |t::r=>.pr t (Vl r)
def Lk:Nat:=12
def Tn(P:Program)(t:TypeId):Ty:=match P.underlying t with|some (.slice e)=>eK P Lk e|some (.array _ e)=>eK P Lk e|_=>.o 9
def Rq(P:Program):Op->Ty×List Nat
 |.alloc e=>(eK P Lk e,[])
 |.box t _=>(eK P Lk t,[])
 |.build t parts=>(eK P Lk t,parts.toList.map (·.1))
 |.buildSlice t _ parts=>(Tn P t,parts.toList.map (·.1))
 |.fieldAddr _ _ f=>(.o 9,[f])
 |.field _ _ f=>(.o 9,[f])
 |.makeSlice t _ _=>(Tn P t,[])
 |.makeMap t _=>(eK P Lk t,[])
 |.call c=>(match c.callee,c.argTypes.toList with|.builtin _,t::_=>Tn P t|_,_=>.o 9,[])
 |_=>(.o 9,[])
def SA(P:Program)(bM:xp)(nt:Nat)(all:Array Oper)(o:Oper):OP:=⟨eE P bM nt all o,(Rq P o.op).1,(Rq P o.op).2⟩
structure An where
 j:Option J:=none
 e:Ex:=[]
 deriving Inhabited
def tu(P:Program)(bM:xp)(nt:Nat)(an:List (Nat×An)):Code->Nat->C2×Nat
 |.skip,n=>(.skip,n)
 |.region _ ops draw,n=>
  (if draw then(if Aj (OO ops.toList []) ops.toList 0&&zU (OO ops.toList []) (ops.toList.map (eE P bM nt ops)) 0&&decide (ops.toList.length<=1000)
   then .PK (ops.toList.map (SA P bM nt ops)) (some (up (OO ops.toList []) (ops.toList.map (eE P bM nt ops)) 0)) ((bV an n).bind (·.j))else .fL)
   else .PK (ops.toList.map (SA P bM nt ops)) none ((bV an n).bind (·.j)),n+1)
 |.seq a b,n=>
  let x:=tu P bM nt an a (n+1);let y:=tu P bM nt an b x.2
  (.seq x.1 y.1 (match bV an n with|some w=>w.e|none=>[]),y.2)
 |.cond c a b,n=>let x:=tu P bM nt an a n;let y:=tu P bM nt an b x.2;(.cond c x.1 y.1,y.2)
 |.block id a,n=>let x:=tu P bM nt an a n;(.block id x.1,x.2)
 |.loop a,n=>
  let x:=tu P bM nt an a (n+1)
  (match bV an n with|some ⟨some j,e⟩=>.loop j e x.1|_=>.fL,x.2)
 |.scope a,n=>tu P bM nt an a n
 |.label _,n=>(.skip,n)
 |.exit id,n=>(.exit id,n)
 |.ret,n=>(.ret,n)
 |_,n=>(.fL,n)
structure F2 where
 np:Nat
 jJ:List RV
 body:C2
def Gb(P:Program)(bM:xp)(f np:Nat)(an:List (Nat×An)):Option F2:=
 match P.funcs[f]?with
 |none=>none
 |some g=>
  match g.body with
  |none=>none
  |some code=>
   if(g.name== "runtime.NumGoroutine")=false/\np<=g.ntmps/\g.ntmps<1000000000 then
    match zW P g.results.toList with|some jJ=>some ⟨np,jJ,(tu P bM g.ntmps an code 0).1⟩|none=>none
   else none
def GE:Sh->List V->Option (V×List V)
 |.ni,l=>some (.ni,l)
 |.pr (.pt t) c,.x u v::l=>bif decide (u=t)&&kx t then(match GE c l with|some (w,l)=>some (.co (.pt u v) w,l)|none=>none)else none
 |_,_=>none
def vg:List (Bool×Sh)->Nat->List V->S2->Option (List (Nat×V)×S2)
 |[],_,[],s=>some ([],s)
 |(false,.x t)::r,i,.x u v::l,s=>bif decide (u=t)&&kx t then(match vg r (i+1) l s with|some (e,s)=>some ((i,.x u v)::e,s)|none=>none)else none
 |(false,.pt t)::r,i,.x u v::l,s=>bif decide (u=t)&&kx t then(match vg r (i+1) l s with|some (e,s)=>some ((i,.pt u v)::e,s)|none=>none)else none
 |(false,.nl k)::r,i,l,s=>(match vg r (i+1) l s with|some (e,s)=>some ((i,.nl k)::e,s)|none=>none)
 |(false,.fn f c)::r,i,l,s=>(match GE c l with|some (w,l)=>(match vg r (i+1) l s with|some (e,s)=>some ((i,.fn true f w)::e,s)|none=>none)|none=>none)
 |(true,c)::r,i,l,s=>(match rF c false l s with
  |some (w,l,s)=>(match vg r (i+1) l s with|some (e,s)=>some ((i,w)::e,{s with gh:=.co w s.gh})|none=>none)
  |none=>none)
 |_,_,_,_=>none
def Tm(ps:List (Bool×Sh))(l:List V):Option S2:=
 match vg ps 0 l ⟨[],[],0,[],.ni⟩with
 |some (e,s)=>some {s with cW:=e}
 |none=>none
def PH(s:S2):RV->Option V
 |.tmp t=>LN s.cW s.heap (.tmp t)
 |.cell t g n=>match LN s.cW s.heap (.tmp t)with|some p=>(match Av s.heap p with|some (w,_)=>bif If s.heap g n w then some w else none|none=>none)|none=>none
def PI(h:H2):Sh->V->Option (List V×List Nat)
 |.x t,v=>match jI h v with|some (w,l)=>(match uX t w with|some y=>some ([.x t y],l)|none=>none)|none=>none
 |.os t,.sb id _ _ u r=>(match fO h id with|some (.ar _ _ _)=>(match gg (.sl u) (.sl t) r with|some s=>some ([.x (.sl t) s],[id])|none=>none)|_=>none)
 |c,v=>du h c false v
def Xq(h:H2):Sh->V->Option (List V×List Nat)
 |.gn,_=>some ([],[])
 |c,v=>bif iw h v then du h c false v else none
def B4(h:H2):List Sh->List V->Option (List V×List Nat)
 |[],[]=>some ([],[])
 |c::r,v::vs=>match PI h c v,B4 h r vs with|some (l,i),some (m,j)=>some (l++m,i++j)|_,_=>none
 |_,_=>none
def B3(h:H2):List Sh->List V->Option (List V×List Nat)
 |[],[]=>some ([],[])
 |c::r,v::vs=>match Xq h c v,B3 h r vs with|some (l,i),some (m,j)=>some (l++m,i++j)|_,_=>none
 |_,_=>none
def Bx{α β:Type}(f:α->Option β):List α->Option (List β)
 |[]=>some []
 |a::r=>match f a,Bx f r with|some x,some y=>some (x::y)|_,_=>none
def K_(jJ:List RV)(rs os:List Sh)(s:S2):Option (List V):=
 match Bx (PH s) jJ with
 |some vs=>match B4 s.heap rs vs,B3 s.heap os (BN s.gh)with|some (l,i),some (m,j)=>bif Am (i++j)then some (l++m)else none|_,_=>none
 |none=>none
def La(jJ:List RV)(s:S2):(r o:List Sh)->(w:Wy)->Option (xo.Iu r o w)
 |r,o,[]=>match K_ jJ r o s with|some l=>xG (jx r++jx o) l|none=>none
 |r,o,(r',o')::w=>match K_ jJ r o s with|some l=>(match xG (jx r++jx o) l with|some z=>some (.inl z)|none=>none)|none=>(match La jJ s r' o' w with|some z=>some (.inr z)|none=>none)
def Qr(jJ:List RV)(s:S2):(w:Wy)->Option (xo w)
 |[]=>none
 |(r,o)::w=>La jJ s r o w
def VE(tb:Gu)(F:Option F2)(ps:List (Bool×Sh))(al:Wy)(p:uz (jx (ps.map (·.2)))):Option (xo al):=
 match F with
 |some F=>
  match Tm ps (pE _ p)with
  |some s=>yU tb F.body s fun o s=>match o with|.exit _=>none|_=>Qr F.jJ s al
  |none=>none
 |none=>none
theorem w9{α β:Type}{f:α->List β}{n:Nat}(h:∀a,(f a).length=n)(l:List α):(l.flatMap f).length=l.length*n:=by induction l with|nil=>simp|cons a l ih=>simp[bL,h,ih,bA];omega
theorem bH:∀(t:Ty)(v:El t),(aR t v).length=bU t:=by intro t;induction t with|pr a c iha ihc=>intro v;simp[aR,bU,iha,ihc]|st t ih=>intro v;simp[aR,bU,ih]|ar n t ih=>intro v;rw[aR,w9 ih,v.2];rfl|_=>intro v;rfl
theorem AH{α β:Type}[Inhabited α]{f:α->List β}{n:Nat}(h:∀a,(f a).length=n):∀(l:List α)(k:Nat),k<l.length->((l.flatMap f).drop (k*n)).take n=f (gt l k):=by
 intro l;induction l with
 |nil=>intro k hk;simp at hk
 |cons a l ih=>
  intro k hk;cases k with
  |zero=>simp[gt,h]
  |succ k=>
   have e:(k+1)*n=(f a).length+k*n:=by rw[h,bA];omega
   rw[bL,e,<-eJ,dX (am _),jX,cz,ih k (by simpa using hk)];rfl
theorem N0{α β:Type}{f:α->List β}{n:Nat}(h:∀a,(f a).length=n):∀(l:List α)(k:Nat)(x:α),k<l.length->(l.set k x).flatMap f=aT (l.flatMap f) (k*n) (f x):=by
 intro l;induction l with
 |nil=>intro k x hk;simp at hk
 |cons a l ih=>
  intro k x hk;cases k with
  |zero=>
   simp only[List.set_cons_zero,bL,aT,Nat.zero_mul,List.take_zero,cz,Nat.zero_add,h];have:(f a++l.flatMap f).drop n=l.flatMap f:=by rw[<-h a,dX (am _),jX,cz]
   rw[this]
  |succ k=>
   have e:(k+1)*n=(f a).length+k*n:=by rw[h,bA];omega
   simp only[List.set_cons_succ,bL,aT,e,List.take_length_add_append,di];rw[<-eJ,dX (am _),jX,cz,ih k x (by simpa using hk)];simp[aT]
theorem cH{t u:Ty}{v:El t}{y:El u}(h:gg t u v=some y):∃e:t=u,y=e▸v:=by
 unfold gg at h;split at h
 .rename_i e;exact⟨e,(aa h).symm⟩
 .simp at h
theorem ym{t u:Ty}{v:El t}{y:El u}(h:gg t u v=some y):aR u y=aR t v/\t=u:=by obtain⟨rfl,rfl⟩:=cH h;exact⟨rfl,rfl⟩
theorem rQ:∀(t:Ty)(v:El t)(i:Nat)(w:V),BA t v i=some w->∃u y,w=.x u y/\D4 t i=some u/\pX t i+bU u<=bU t/\((aR t v).drop (pX t i)).take (bU u)=aR u y:=by
 intro t;induction t with
 |pr a c iha ihc=>intro v i w h;cases i with|zero=>obtain rfl:=aa h;refine⟨a,v.1,rfl,rfl,by simp[pX,bU],?_⟩;simp[pX,aR,bH]|succ i=>obtain⟨u,y,rfl,h1,h2,h3⟩:=ihc v.2 i w h;refine⟨u,y,rfl,h1,by simp only[pX,bU];omega,?_⟩;simp only[pX,aR];rw[<-eJ,<-bH a v.1,dX (am _),jX,cz,h3]
 |_=>intro v i w h;cases i with|zero=>obtain rfl:=aa h;exact⟨_,v,rfl,rfl,by simp[pX],by simp[pX,iG,bH]⟩|succ i=>simp[BA]at h
theorem S9:∀(t:Ty)(i:Nat)(u:Ty),D4 t i=some u->pX t i+bU u<=bU t:=by
 intro t;induction t with
 |pr a c iha ihc=>intro i u h;cases i with|zero=>obtain rfl:=aa h;simp[pX,bU]|succ i=>have:=ihc i u h;simp only[pX,bU];omega
 |_=>intro i u h;cases i with|zero=>obtain rfl:=aa h;simp[pX]|succ i=>simp[D4]at h
theorem uG{α:Type}{a b p:List α}{off:Nat}:aT (a++b) (a.length+off) p=a++aT b off p:=by simp only[aT,List.take_length_add_append,di,aM];rw[<-eJ,dX (am _),jX,cz]
theorem uF{α:Type}{a b p:List α}{off:Nat}(h:off+p.length<=a.length):aT (a++b) off p=aT a off p++b:=by simp only[aT,aM];rw[List.take_append_of_le_length (by omega),dX h]
theorem m_{α:Type}{b p:List α}(h:p.length=b.length):aT b 0 p=p:=by simp[aT,h]
theorem vI{α:Type}{b p:List α}{off:Nat}(h:off+p.length<=b.length):(aT b off p).length=b.length:=by simp only[aT,ap,List.length_take,List.length_drop];omega
theorem vH{α β:Type}{f:α->β}{b p:List α}{off:Nat}:(aT b off p).map f=aT (b.map f) off (p.map f):=by simp[aT]
theorem rk{α:Type}{b c p:List α}{o1 o2 n:Nat}(hc:(b.drop o1).take n=c)(h1:o1+n<=b.length)(h2:o2+p.length<=n):aT b o1 (aT c o2 p)=aT b (o1+o2) p:=by
 have hcl:c.length=n:=by rw[<-hc];simp;omega
 have e:b=b.take o1++(c++b.drop (o1+n)):=by rw[<-hc,<-eJ,cg,cg]
 have hl:(b.take o1).length=o1:=by simp;omega
 have hs:(aT c o2 p).length=n:=by rw[vI (by omega),hcl]
 have r2:aT b (o1+o2) p=b.take o1++(aT c o2 p++b.drop (o1+n)):=by
  conv=>lhs;rw[e]
  have:=uG (a:=b.take o1) (b:=c++b.drop (o1+n)) (p:=p) (off:=o2);rw[hl]at this;rw[this,uF (by omega)]
 rw[r2];show b.take o1++aT c o2 p++b.drop (o1+(aT c o2 p).length)=_;rw[hs,aM]
theorem Ln:∀(t:Ty)(l r:List Value)(x:El t),vY t l=some (x,r)->l.all ez=true->∃p,l=p++r/\(aR t x)=p.map D.lit:=by
 intro t;induction t with
 |pr a c iha ihc=>
  intro l r x h hp;simp only[vY]at h;split at h
  .rename_i y l1 h1;split at h
   .rename_i z l2 h2;obtain⟨rfl,rfl⟩:=af (aa h);obtain⟨p,rfl,e1⟩:=iha _ _ _ h1 hp;obtain⟨q,rfl,e2⟩:=ihc _ _ _ h2 (by rw[List.all_append,ak]at hp;exact hp.2);exact⟨p++q,by simp,by simp[aR,e1,e2]⟩
   .simp at h
  .simp at h
 |st t ih=>intro l r x h hp;exact ih l r x h hp
 |ar n t ih=>
  intro l r x h hp;simp only[vY]at h
  have key:∀(m:Nat)(l r:List Value)(x:Arr m (El t)),QA (vY t) m l=some (x,r)->l.all ez=true->∃p,l=p++r/\x.1.flatMap (aR t)=p.map D.lit:=by
   intro m;induction m with
   |zero=>intro l r x h hp;obtain⟨rfl,rfl⟩:=af (aa h);exact⟨[],rfl,rfl⟩
   |succ m ihn=>
    intro l r x h hp;simp only[QA]at h;split at h
    .rename_i y l1 h1;split at h
     .rename_i v l2 h2;obtain⟨rfl,rfl⟩:=af (aa h);obtain⟨p,rfl,e1⟩:=ih _ _ _ h1 hp;obtain⟨q,rfl,e2⟩:=ihn _ _ _ h2 (by rw[List.all_append,ak]at hp;exact hp.2);exact⟨p++q,by simp,by simp[bL,e1,e2]⟩
     .simp at h
    .simp at h
  exact key n l r x h hp
 |i k=>
  intro l r x h hp;simp only[vY]at h;unfold Vg at h;split at h
  .split at h
   .rename_i e;subst e;obtain⟨rfl,rfl⟩:=af (aa h);exact⟨[_],rfl,rfl⟩
   .simp at h
  .simp at h
 |b=>
  intro l r x h hp;simp only[vY]at h;unfold Vh at h;split at h
  .obtain ⟨rfl,rfl⟩:=af (aa h);exact⟨[_],rfl,rfl⟩
  .simp at h
 |s=>
  intro l r x h hp;simp only[vY]at h;unfold Ve at h;split at h
  .obtain ⟨rfl,rfl⟩:=af (aa h);exact⟨[_],rfl,rfl⟩
  .simp at h
 |f k=>
  intro l r x h hp;simp only[vY]at h;unfold Rt at h;split at h
  .split at h
   .rename_i e;subst e;obtain⟨rfl,rfl⟩:=af (aa h);exact⟨[_],rfl,rfl⟩
   .simp at h
  .simp at h
 |sl t ih=>
  intro l r x h hp;simp only[vY]at h;unfold Vf at h;split at h
  .obtain ⟨rfl,rfl⟩:=af (aa h);exact⟨[_],rfl,rfl⟩
  .simp at h
 |_=>intro l r x h hp;simp[vY]at h
def Gr(h:H2)(id ver:Nat):Bool:=match fO h id with|some (.ar _ _ v)|some (.im _ _ v)=>v==ver|_=>false
def SZ(id:Nat)(c:C):Prop:=∀i∈eT c,i=id
def ff(h:H2):V->List C->Prop
 |.x t v,cs=>kx t=true/\cs=(aR t v).map .d
 |.kb c,cs=>cs=[.d (.lit (.bool c))]
 |.nl k,cs=>cs=[Fd k]
 |.so id,cs=>∃c,cs=[c]/\(∀c',BU id (fO h id)=some c'->c=c')/\SZ id c
 |.sr id,cs=>∃c,cs=[c]/\(∀c',GO id (fO h id)=some c'->c=c')/\SZ id c
 |.sb id ver lo t r,cs=>∃c,cs=[c]/\(Gr h id ver=true->c=zo id lo t r)/\SZ id c
 |.op id t p,cs=>cs=[.op id (oD t p)]
 |.ep id n t p,cs=>cs=[.ep id n (oD t p)]
 |.pt t v,cs=>kx t=true/\cs=[.d (.pt (aR t v))]
 |.fn true f l,cs=>∃ds,rC l=some ds/\cs=[.d (.fn f ds)]
 |.fn false f l,cs=>∃xs,ff h l xs/\cs=[.pJ f xs]
 |.om id,cs=>cs=[.om id]
 |.rc l,cs=>ff h l cs
 |.fl l,cs=>l.all ez=true/\cs=eS l
 |.ni,cs=>cs=[]
 |.co a r,cs=>∃x y,cs=x++y/\ff h a x/\ff h r y
 |.tp _,_|.no,_|.gn,_=>False
def tQ(h:H2)(v:V)(x:TV):Prop:=∃cs,ff h v cs/\(u7 v=true->x=.agg cs)/\(u7 v=false->∃c,cs=[c]/\x=.c c)
def CQ(h:H2):V->List TV->Prop
 |.ni,xs=>xs=[]
 |.co a r,xs=>∃x ys,xs=x::ys/\tQ h a x/\CQ h r ys
 |_,_=>False
def fC(h:H2):V->TV->Prop
 |.tp l,x=>∃xs,x=.gX xs/\CQ h l xs
 |.no,x=>x=.gX []
 |.gn,_=>False
 |v,x=>tQ h v x
def YI(t u:Ty)(s:Sl (El t))(lo:Nat)(r:Sl (El u)):Prop:=bU t=bU u/\match s,r with|.nil,.nil=>True|.mk l,.mk m=>lo+m.length<=l.length/\((l.map (aR t)).drop lo).take m.length=m.map (aR u)|_,_=>False
def eV(n:Nat)(h:H2):V->Prop
 |.so id|.sr id|.om id=>id<n
 |.sb id ver lo t r=>id<n/\∀u s v,(fO h id=some (.ar u s v)\/fO h id=some (.im u s v))->ver<=v/\(v=ver->YI u t s lo r)
 |.op id t p=>id<n/\KF t p
 |.ep id m t p=>id<n/\KF t p/\(∀u s v,(fO h id=some (.ar u s v)\/fO h id=some (.im u s v))->m<s.l.length)/\∀u s v,fO h id=some (.rw u s v)->m<s.l.length
 |.fn _ _ l|.rc l|.tp l=>eV n h l
 |.co a r=>eV n h a/\eV n h r
 |_=>True
def xx(h:H2):O->Option Ob->Prop
 |.ar t s _,b=>kx t=true/\0<bU t/\(∀l,s=.mk l->b=some (.aG (bU t) (l.map (aR t))))
 |.im t s _,b=>kx t=true/\0<bU t/\(∀l,s=.mk l->b=some (.qu (bU t) (l.map (aR t))))
 |.bx t c,b=>∃cs,b=some (.box cs)/\ff h c cs/\d_ c false t=true
 |.ib t v,b=>kx t=true/\b=some (.o7 (aR t v))
 |.mp k v m,b=>kx v=true/\(∃ks,Bi k=some ks)/\b=Ar (mF k) (mF v) (fun x=>(aR k x).map fun|.lit y=>y|_=>.nilFunc) (aR v) m
 |.rw t s ln,b=>kx t=true/\0<bU t/\(∀l,(s:Sl (Sl (El t)))=.mk l->b=some (.nst (bU t) (fc t l ln)))
def D1(n:Nat)(h:H2):O->Prop
 |.bx _ c=>eV n h c
 |.rw _ s (some (m,id))=>m<s.l.length/\id<n/\∀u r v,(fO h id=some (.ar u r v)\/fO h id=some (.im u r v))->r.fA=(gt s.l m).fA/\r.l.length=(gt s.l m).l.length
 |_=>True
structure HR(n:Nat)(h1:bp)(h2:H2):Prop where
 ob:∀id o,fO h2 id=some o->id<n/\xx h2 o (au h1 id)/\D1 n h2 o
abbrev O6(t:Ty)(s:Sl (El t)):(t:Ty)×Sl (El t):=⟨t,s⟩
abbrev Y8(t:Ty)(s:El t):(t:Ty)×El t:=⟨t,s⟩
def Q2(t u:Ty)(s:Sl (El t))(s':Sl (El u))(v v':Nat):Prop:=v<=v'/\t=u/\s.fA=s'.fA/\s.l.length=s'.l.length/\(v=v'->O6 t s=O6 u s')
def tC:O->O->Prop
 |.ar t s v,.ar u s' v'|.ar t s v,.im u s' v'=>Q2 t u s s' v v'
 |.im t s v,.im u s' v'=>v=v'/\O6 t s=O6 u s'
 |.bx t _,.bx u _=>t=u
 |.bx _ _,.ib _ _=>True
 |.ib t v,.ib u w=>Y8 t v=Y8 u w
 |.mp _ _ _,.mp _ _ _=>True
 |.rw t s _,.rw u s' _=>t=u/\s.fA=s'.fA/\s.l.length=s'.l.length
 |_,_=>False
def Qd:O->Bool
 |.bx _ _|.ib _ _=>true
 |_=>false
structure jy(n:Nat)(h h':H2):Prop where
 ob:∀id o',id<n->fO h' id=some o'->(∃o,fO h id=some o/\tC o o')\/Qd o'=true
theorem Q2.trans{t u w:Ty}{s:Sl (El t)}{s':Sl (El u)}{s2:Sl (El w)}{a b c:Nat}(h1:Q2 t u s s' a b)(h2:Q2 u w s' s2 b c):Q2 t w s s2 a c:=by
 obtain⟨a1,rfl,a3,a4,a5⟩:=h1;obtain⟨b1,rfl,b3,b4,b5⟩:=h2;refine⟨Nat.le_trans a1 b1,rfl,a3.trans b3,a4.trans b4,fun e=>?_⟩
 grind
theorem Q2.of_eq{t u:Ty}{s:Sl (El t)}{s':Sl (El u)}{a b:Nat}(h:a=b)(e:O6 t s=O6 u s'):Q2 t u s s' a b:=by subst h;cases e;exact⟨am _,rfl,rfl,rfl,fun _=>rfl⟩
theorem tC.refl(o:O):tC o o:=by cases o<;>simp[tC,Q2]
theorem tC.trans{a b c:O}(h1:tC a b)(h2:tC b c):tC a c:=by
 cases a<;>cases b<;>simp only[tC]at h1<;>first|exact h1.elim|skip
 all_goals(cases c<;>simp only[tC]at h2|-<;>first|exact h2.elim|skip)
 .exact h1.trans h2
 .exact h1.trans h2
 .exact h1.trans (Q2.of_eq h2.1 h2.2)
 .simp_all
 .exact h1.trans h2
 .exact h1.trans h2
 simp_all
theorem jy.refl(n:Nat)(h:H2):jy n h h:=⟨fun _ o _ h=>.inl ⟨o,h,tC.refl o⟩⟩
theorem jy.trans{n n':Nat}{a b c:H2}(hn:n<=n')(h1:jy n a b)(h2:jy n' b c):jy n a c:=
 ⟨fun id o' hi ho=>by
  rcases h2.ob id o' (by omega) ho with⟨o1,h3,h4⟩|q
  .rcases h1.ob id o1 hi h3 with⟨o2,h5,h6⟩|q
   .exact .inl ⟨o2,h5,h6.trans h4⟩
   .exact .inr (by cases o1<;>simp[Qd]at q<;>cases o'<;>simp[tC]at h4<;>rfl)
  .exact .inr q⟩
theorem CX{sz id:Nat}{α:Type}{e:α->List D}{s:Sl α}:SZ id (nA sz e id s):=by intro i hi;cases s with|nil=>simp[nA,eT]at hi|mk l=>simpa[nA,eT]using hi
theorem Mm{id lo:Nat}{t:Ty}{s:Sl (El t)}:SZ id (zo id lo t s):=by intro i hi;cases s with|nil=>simp[zo,eT]at hi|mk l=>simpa[zo,eT]using hi
section
variable{n n':Nat}{h h':H2}
theorem GU{t:Ty}{s s':Sl (El t)}{id:Nat}(h1:s.fA=s'.fA)(h2:s.l.length=s'.l.length):nA (bU t) (aR t) id s=nA (bU t) (aR t) id s':=by cases s<;>cases s'<;>simp_all[Sl.fA,nA]
theorem Mf(hs:jy n h h'){id:Nat}(hi:id<n){c:C}(hc:BU id (fO h' id)=some c):BU id (fO h id)=some c:=by
 cases ho:fO h' id with
 |none=>rw[ho]at hc;simp[BU]at hc
 |some o'=>
  rw[ho]at hc;obtain⟨o,h1,h2⟩:=(hs.ob id o' hi ho).resolve_right fun e=>by cases o'<;>simp[Qd]at e<;>simp[BU]at hc
  rw[h1];cases o'<;>simp[BU]at hc<;>first|cases hc;done|skip
  all_goals(cases o<;>simp only[tC]at h2<;>first|exact h2.elim|skip)
  .obtain ⟨_,rfl,h3,h4,_⟩:=h2;rw[<-hc];simp[BU];rw[GU h3 h4]
  .obtain ⟨_,rfl,h3,h4,_⟩:=h2;rw[<-hc];simp only[BU];rw[GU h3 h4]
  .obtain ⟨_,h3⟩:=h2;cases h3;rw[<-hc];rfl
theorem Md(hs:jy n h h'){id:Nat}(hi:id<n){c:C}(hc:GO id (fO h' id)=some c):GO id (fO h id)=some c:=by
 cases ho:fO h' id with
 |none=>rw[ho]at hc;simp[GO]at hc
 |some o'=>
  rw[ho]at hc;obtain⟨o,h1,h2⟩:=(hs.ob id o' hi ho).resolve_right fun e=>by cases o'<;>simp[Qd]at e<;>simp[GO]at hc
  rw[h1];cases o'<;>simp[GO]at hc<;>first|cases hc;done|skip
  all_goals(cases o<;>simp[tC]at h2<;>first|exact h2.elim|skip)
  .obtain ⟨rfl,h3,h4⟩:=h2;rw[<-hc];exact congrArg some (GU h3 h4)
theorem IK(hs:jy n h h'){id:Nat}(hi:id<n){u:Ty}{s:Sl (Sl (El u))}{ln:Option (Nat×Nat)}(ho:fO h' id=some (.rw u s ln)):∃s0 ln0,fO h id=some (.rw u s0 ln0)/\s0.fA=s.fA/\s0.l.length=s.l.length:=by
 obtain⟨o,h1,h2⟩:=(hs.ob id _ hi ho).resolve_right fun e=>by simp[Qd]at e
 cases o<;>simp[tC]at h2<;>first|exact h2.elim|skip
 grind
theorem Mh(hs:jy n h h'){id:Nat}(hi:id<n){u:Ty}{s:Sl (El u)}{v:Nat}(ho:fO h' id=some (.ar u s v)\/fO h' id=some (.im u s v)):
  ∃s0 v0,(fO h id=some (.ar u s0 v0)\/fO h id=some (.im u s0 v0))/\s0.fA=s.fA/\s0.l.length=s.l.length:=by
 rcases ho with ho|ho
 all_goals
  obtain⟨o,h1,h2⟩:=(hs.ob id _ hi ho).resolve_right fun e=>by simp[Qd]at e
  cases o<;>simp only[tC]at h2<;>first|exact h2.elim|skip
 .obtain ⟨_,rfl,h3,h4,_⟩:=h2;exact⟨_,_,.inl h1,h3,h4⟩
 .obtain ⟨_,rfl,h3,h4,_⟩:=h2;exact⟨_,_,.inl h1,h3,h4⟩
 .obtain ⟨rfl,h3⟩:=h2;obtain⟨rfl,h3⟩:=Sigma.mk.inj h3;simp_all
theorem uI(hs:jy n h h'){id:Nat}(hi:id<n){u:Ty}{s:Sl (El u)}{v:Nat}(ho:fO h' id=some (.ar u s v)\/fO h' id=some (.im u s v)):
  ∃s0 v0,(fO h id=some (.ar u s0 v0)\/fO h id=some (.im u s0 v0))/\v0<=v/\s0.l.length=s.l.length/\(v0=v->s0=s):=by
 rcases ho with ho|ho
 all_goals
  obtain⟨o,h1,h2⟩:=(hs.ob id _ hi ho).resolve_right fun e=>by simp[Qd]at e
  cases o<;>simp[tC]at h2<;>first|exact h2.elim|skip
 .obtain ⟨h3,rfl,_,h4,h5⟩:=h2
  grind
 .obtain ⟨h3,rfl,_,h4,h5⟩:=h2
  grind
 grind
theorem lY{id ver:Nat}(ha:Gr h id ver=true):∃u s,fO h id=some (.ar u s ver)\/fO h id=some (.im u s ver):=by
 unfold Gr at ha
 grind
theorem gI(hn:n<=n')(hs:jy n h h'):∀{v:V},eV n h v->eV n' h' v:=by
 intro v;induction v with
 |so id=>intro hv;simp[eV]at hv|-;omega
 |sr id=>intro hv;simp[eV]at hv|-;omega
 |om id=>intro hv;simp[eV]at hv|-;omega
 |sb id ver lo t r=>
  rintro⟨h1,h2⟩;refine⟨by omega,fun u s v ho=>?_⟩
  grind [uI]
 |op id t p=>rintro⟨h1,h2⟩;exact⟨by omega,h2⟩
 |ep id m t p=>
  rintro⟨h1,h2,h3,h6⟩;refine⟨by omega,h2,fun u s v ho=>?_,fun u s v ho=>?_⟩
  .grind [uI]
  grind [IK]
 |fn z f l ih=>intro hv;exact ih hv
 |rc l ih=>intro hv;exact ih hv
 |tp l ih=>intro hv;exact ih hv
 |co a r iha ihr=>rintro⟨h1,h2⟩;exact⟨iha h1,ihr h2⟩
 |_=>intro _;trivial
theorem lX(hs:jy n h h'):∀{v:V}{cs:List C},eV n h v->ff h v cs->ff h' v cs:=by
 intro v;induction v with
 |so id=>rintro cs hi ⟨c,rfl,hc,hid⟩;exact⟨c,rfl,fun c' hc'=>hc c' (Mf hs hi hc'),hid⟩
 |sr id=>rintro cs hi ⟨c,rfl,hc,hid⟩;exact⟨c,rfl,fun c' hc'=>hc c' (Md hs hi hc'),hid⟩
 |sb id ver lo t r=>
  rintro cs ⟨hi,h2⟩ ⟨c,rfl,hc,hid⟩;refine⟨c,rfl,fun ha=>hc ?_,hid⟩;obtain⟨u,s,ho⟩:=lY ha;obtain⟨s0,v0,h3,h4,_,_⟩:=uI hs hi ho;obtain⟨h7,_⟩:=h2 u s0 v0 h3;have:v0=ver:=by omega
  subst this;unfold Gr;rcases h3 with h3|h3<;>rw[h3]<;>simp
 |fn z f l ih=>intro cs hv hc;cases z with|true=>exact hc|false=>obtain⟨xs,h1,h2⟩:=hc;exact⟨xs,ih hv h1,h2⟩
 |rc l ih=>intro cs hv hc;exact ih hv hc
 |co a r iha ihr=>rintro cs ⟨h1,h2⟩ ⟨x,y,rfl,h3,h4⟩;exact⟨x,y,rfl,iha h1 h3,ihr h2 h4⟩
 |_=>intro cs _ hc;exact hc
theorem xF(hs:jy n h h'){v:V}{x:TV}(hv:eV n h v)(hx:tQ h v x):tQ h' v x:=by obtain⟨cs,h1,h2⟩:=hx;exact⟨cs,lX hs hv h1,h2⟩
theorem JT(hs:jy n h h'):∀{v:V}{xs:List TV},eV n h v->CQ h v xs->CQ h' v xs:=by intro v;induction v with|co a r iha ihr=>rintro xs ⟨h1,h2⟩ ⟨x,ys,rfl,h3,h4⟩;exact⟨x,ys,rfl,xF hs h1 h3,ihr h2 h4⟩|ni=>intro xs _ h;exact h|_=>intro xs _ h;exact h.elim
theorem wl(hs:jy n h h'){v:V}{x:TV}(hv:eV n h v)(hx:fC h v x):fC h' v x:=by cases v with|tp l=>obtain⟨xs,h1,h2⟩:=hx;exact⟨xs,h1,JT hs hv h2⟩|no=>exact hx|gn=>exact hx|_=>exact xF hs hv hx
theorem qg(hs:jy n h h'){o:O}{b:Option Ob}(ho:D1 n h o)(hb:xx h o b):xx h' o b:=by cases o with|bx t c=>obtain⟨cs,h1,h2,h3⟩:=hb;exact⟨cs,h1,lX hs ho h2,h3⟩|_=>exact hb
theorem oY(hn:n<=n')(hs:jy n h h'){o:O}(ho:D1 n h o):D1 n' h' o:=by
 cases o with
 |bx t c=>exact gI hn hs ho
 |rw t s ln=>
  cases ln with
  |none=>trivial
  |some q=>
   obtain⟨h1,h2,h3⟩:=ho;refine⟨h1,Nat.lt_of_lt_of_le h2 hn,fun u r v hu=>?_⟩
   grind [Mh]
 |_=>trivial
end
theorem iv{h:H2}:∀{v:V}{cs:List C},ff h v cs->cs.length=Bg v:=by
 intro v;induction v with
 |x t v=>rintro cs ⟨_,rfl⟩;simp[Bg,bH]
 |so id=>rintro cs ⟨c,rfl,_⟩;rfl
 |sr id=>rintro cs ⟨c,rfl,_⟩;rfl
 |sb id ver lo t r=>rintro cs ⟨c,rfl,_⟩;rfl
 |pt t v=>rintro cs ⟨_,rfl⟩;rfl
 |fn z f l ih=>intro cs hc;cases z with|true=>obtain⟨ds,_,rfl⟩:=hc;rfl|false=>obtain⟨ds,_,rfl⟩:=hc;rfl
 |rc l ih=>intro cs hc;exact ih hc
 |fl l=>rintro cs ⟨_,rfl⟩;simp[eS,Bg]
 |ni=>rintro cs rfl;rfl
 |co a r iha ihr=>rintro cs ⟨x,y,rfl,h1,h2⟩;simp[Bg,iha h1,ihr h2]
 |tp l=>intro cs hc;exact hc.elim
 |no=>intro cs hc;exact hc.elim
 |gn=>intro cs hc;exact hc.elim
 |_=>rintro cs rfl;rfl
theorem gO:∀(v:V)(ln:Bool)(t:Ty),d_ v ln t=true->Bg v=bU t:=by
 intro v;induction v with
 |rc l ih=>
  intro ln t hf;cases ln with
  |true=>cases t<;>simp[d_]at hf
  |false=>cases t with|st t=>exact ih true t hf|_=>simp[d_]at hf
 |co a r iha ihr=>
  intro ln t hf;cases ln with
  |false=>simp[d_]at hf
  |true=>
   cases t with
   |pr t u=>simp only[d_,ak]at hf;simp[Bg,bU,iha _ _ hf.1,ihr _ _ hf.2]
   |_=>cases r with|ni=>have hf':d_ a false _=true:=hf;simp[Bg,iha _ _ hf']|_=>simp[d_]at hf
 |x u v=>intro ln t hf;cases ln with|false=>simp only[d_,decide_eq_true_eq]at hf;subst hf;rfl|true=>cases t<;>simp[d_]at hf
 |nl k=>intro ln t hf;cases ln<;>cases t<;>first|rfl|(simp[d_]at hf;done)|skip
 |_=>intro ln t hf;cases ln<;>cases t<;>first|rfl|(simp[d_]at hf;done)
section
variable{h:H2}
theorem qr{v:V}{u:Ty}{y:El u}{cs:List C}(hc:iK u v=some y)(hv:ff h v cs):cs=(aR u y).map .d:=by
 cases v with
 |x t v=>obtain⟨rfl,rfl⟩:=cH hc;exact hv.2
 |kb c=>obtain⟨rfl,rfl⟩:=cH hc;exact hv
 |nl k=>
  cases k with
  |zero=>
   cases u<;>simp only[iK]at hc<;>first|cases hc;done|skip
   obtain rfl:=aa hc;exact hv
  |succ k=>simp[iK]at hc
 |fl l=>
  obtain⟨h1,rfl⟩:=hv;simp[iK]at hc;cases ha:mF u
  .rw [ha]at hc;simp at hc
  rw[ha]at hc;split at hc
  .rename_i x hx;obtain rfl:=aa hc;obtain⟨p,rfl,e⟩:=Ln u _ _ _ hx h1;rw[e];simp[eS]
  .simp at hc
 |_=>simp[iK]at hc
theorem iW:∀(v:V)(ln:Bool)(u:Ty)(y:El u)(cs:List C),lO v ln u=some y->ff h v cs->cs=(aR u y).map .d:=by
 intro v;induction v with
 |rc l ih=>
  intro ln u y cs hc hv;cases ln with
  |true=>cases u<;>simp[lO]at hc
  |false=>cases u with|st u=>exact ih true u y cs hc hv|_=>simp[lO,iK]at hc
 |co a r iha ihr=>
  intro ln u y cs hc hv;obtain⟨x1,x2,rfl,h1,h2⟩:=hv;cases ln with
  |false=>cases u<;>simp[lO,iK]at hc
  |true=>
   cases u with
   |pr t u=>
    simp only[lO]at hc;split at hc
    .rename_i p q hp hq;obtain rfl:=aa hc;rw[iha _ _ _ _ hp h1,ihr _ _ _ _ hq h2];simp[aR]
    .simp at hc
   |_=>
    cases r with
    |ni=>
     have hc':lO a false _=some y:=hc;obtain rfl:x2=[]:=h2
     grind
    |_=>simp[lO]at hc
 |_=>
  intro ln u y cs hc hv;cases ln with
  |true=>cases u<;>simp[lO]at hc
  |false=>first|exact qr hc hv|(simp[lO]at hc)
theorem Gh{v:V}{u:Ty}{y:El u}(hc:iK u v=some y):u7 v=mF u:=by
 cases v with
 |x t v=>obtain⟨rfl,_⟩:=cH hc;rfl
 |kb c=>obtain⟨rfl,_⟩:=cH hc;rfl
 |nl k=>
  cases k with
  |zero=>cases u<;>simp[iK]at hc<;>first|rfl|cases hc
  |succ k=>simp[iK]at hc
 |fl l=>
  simp[iK]at hc;cases ha:mF u
  .rw [ha]at hc;simp at hc
  .rfl
 |_=>simp[iK]at hc
theorem yi{v:V}{u:Ty}{y:El u}(hc:uX u v=some y):u7 v=mF u:=by
 cases v with
 |rc l=>cases u with|st u=>rfl|_=>simp[lO,iK]at hc
 |co a r=>cases u<;>simp[lO,iK]at hc
 |ni=>cases u<;>simp[lO]at hc
 |_=>exact Gh hc
theorem Cc:∀(l:V)(t:Ty)(i:Nat)(w:V)(cs:List C),d_ l true t=true->ff h l cs->tE l i=some w->
  ∃u cw,D4 t i=some u/\d_ w false u=true/\ff h w cw/\pX t i+bU u<=cs.length/\(cs.drop (pX t i)).take (bU u)=cw:=by
 intro l;induction l with
 |co a r iha ihr=>
  intro t i w cs hf hv hw;obtain⟨x,y,rfl,h1,h2⟩:=hv;have one:∀t,d_ a false t=true->r=.ni->D4 t 0=some t->pX t 0=0->i=0->∃u cw,D4 t i=some u/\d_ w false u=true/\ff h w cw/\pX t i+bU u<=(x++y).length/\((x++y).drop (pX t i)).take (bU u)=cw:=by intro t hf hr h3 h4 hi;subst hi;obtain rfl:=aa hw;have hs:=gO _ _ _ hf;have hl:=iv h1;refine⟨t,x,h3,hf,h1,by rw[h4];simp;omega,?_⟩;rw[h4,eH,<-hs,<-hl,List.take_left]
  cases t with
  |pr t u=>simp only[d_,ak]at hf;have hs:=gO _ _ _ hf.1;have hl:=iv h1;cases i with|zero=>obtain rfl:=aa hw;refine⟨t,x,rfl,hf.1,h1,by simp[pX];omega,?_⟩;simp only[pX,eH];rw[<-hs,<-hl,List.take_left]|succ i=>obtain⟨u',cw,q1,q2,q3,q4,q5⟩:=ihr u i w y hf.2 h2 hw;refine⟨u',cw,q1,q2,q3,by simp only[pX,ap];omega,?_⟩;simp only[pX];rw[<-eJ,<-hs,<-hl,List.drop_left,q5]
  |_=>
   cases r with
   |ni=>have hf':d_ a false _=true:=hf;cases i with|zero=>exact one _ hf' rfl rfl rfl rfl|succ i=>simp[tE]at hw
   |_=>simp[d_]at hf
 |_=>intro t i w cs hf hv hw;simp[tE]at hw
theorem B6:∀(l:V)(t:Ty)(i:Nat)(w:V)(cs cw:List C)(u:Ty),d_ l true t=true->ff h l cs->D4 t i=some u->ff h w cw->cw.length=bU u->(∃w0,tE l i=some w0)->ff h (MH l i w) (aT cs (pX t i) cw):=by
 intro l;induction l with
 |co a r iha ihr=>
  intro t i w cs cw u hf hv hu hw hlen hn;obtain⟨x,y,rfl,h1,h2⟩:=hv;cases t with
  |pr t u'=>simp only[d_,ak]at hf;have hs:=gO _ _ _ hf.1;have hl:=iv h1;cases i with|zero=>obtain rfl:=aa hu;refine⟨cw,y,?_,hw,h2⟩;simp only[pX];rw[uF (by omega),m_ (by omega)]|succ i=>have:=ihr u' i w y cw u hf.2 h2 hu hw hlen hn;refine⟨x,_,?_,h1,this⟩;simp only[pX];rw[<-hs,<-hl,uG]
  |_=>
   cases r with
   |ni=>cases i with|zero=>obtain rfl:=aa hu;have hf':d_ a false _=true:=hf;have hs:=gO _ _ _ hf';have hl:=iv h1;obtain rfl:y=[]:=h2;refine⟨cw,[],?_,hw,rfl⟩;simp only[pX,aV];rw[m_ (by omega)]|succ i=>obtain⟨w0,hn⟩:=hn;simp[tE]at hn
   |_=>simp[d_]at hf
 |_=>grind [tE]
theorem CS:∀(t:Ty)(v:El t),kx t=true->ff h (JZ t v) ((aR t v).map .d):=by intro t;induction t with|pr a c iha ihc=>intro v hd;simp[kx]at hd;exact⟨(aR a v.1).map .d,(aR c v.2).map .d,by simp[aR],⟨hd.1,rfl⟩,ihc v.2 hd.2⟩|_=>intro v hd;exact⟨_,[],(aV _).symm,⟨hd,rfl⟩,rfl⟩
theorem Po:∀(t:Ty)(v:El t),d_ (JZ t v) true t=true:=by intro t;induction t with|pr a c iha ihc=>simp[JZ,d_,ihc]|_=>simp[JZ,d_]
theorem Pn:∀(t:Ty)(v:El t)(i:Nat)(w:V),BA t v i=some w->tE (JZ t v) i=some w:=by
 intro t;induction t with
 |pr a c iha ihc=>intro v i w hw;cases i with|zero=>exact hw|succ i=>exact ihc v.2 i w hw
 |_=>intro v i w hw;cases i with|zero=>exact hw|succ i=>simp[BA]at hw
theorem AT:∀(t:Ty)(i:Nat)(u:Ty),kx t=true->D4 t i=some u->kx u=true:=by
 intro t;induction t with
 |pr a c iha ihc=>intro i u hd hu;simp[kx]at hd;cases i with|zero=>obtain rfl:=aa hu;exact hd.1|succ i=>exact ihc i u hd.2 hu
 |_=>intro i u hd hu;cases i with|zero=>obtain rfl:=aa hu;exact hd|succ i=>simp[D4]at hu
theorem xT:∀(p:qB)(t u:Ty),se t p=some u->KF t p->oD t p+bU u<=bU t:=by
 intro p;induction p with
 |nil=>
  intro t u hu _;have e2:se t []=some t:=by cases t<;>rfl
  have e:oD t []=0:=by cases t<;>rfl
  simp_all
 |cons q p ih=>
  intro t u hu hp;cases q with
  |fd i=>cases t with|st t=>obtain⟨a,ha,hp⟩:=hp;simp[se,ha]at hu;have:=ih a u hu hp;have:=S9 t i a ha;simp[oD,ha,bU];omega|_=>exact hp.elim
  |ix k=>cases t with|ar n t=>obtain⟨hk,hp⟩:=hp;have:=ih t u hu hp;have h2:(k+1)*bU t<=n*bU t:=az _ hk;rw[bA]at h2;simp[oD,bU];omega|_=>exact hp.elim
theorem yb:∀(p:qB)(c:V)(t:Ty)(w:V)(cs:List C),d_ c false t=true->ff h c cs->KF t p->qx c p=some w->
  ∃u cw,se t p=some u/\d_ w false u=true/\ff h w cw/\oD t p+bU u<=cs.length/\(cs.drop (oD t p)).take (bU u)=cw:=by
 intro p;induction p with
 |nil=>
  intro c t w cs hf hv _ hw;obtain rfl:c=w:=by simpa[qx]using hw
  have hs:=gO _ _ _ hf;have hl:=iv hv;refine⟨t,cs,by cases t<;>rfl,hf,hv,?_,?_⟩
  .cases t<;>simp[oD]<;>omega
  grind [oD,iG]
 |cons q p ih=>
  intro c t w cs hf hv hp hw
  have sub:∀(o n:Nat)(c2:V)(u:Ty)(c3:List C),d_ c2 false u=true->ff h c2 c3->(cs.drop o).take (bU u)=c3->o+bU u<=cs.length->KF u p->qx c2 p=some w->se t (q::p)=se u p->oD t (q::p)=o+oD u p->
    ∃u cw,se t (q::p)=some u/\d_ w false u=true/\ff h w cw/\oD t (q::p)+bU u<=cs.length/\(cs.drop (oD t (q::p))).take (bU u)=cw:=by
   grind [iv,gO,eJ,List.drop_take]
  cases q with
  |fd i=>
   cases t with
   |st t=>
    obtain⟨u,hu,hp⟩:=hp;have e7:se (.st t) (.fd i::p)=se u p:=by simp only[se,hu]
    have e8:oD (.st t) (.fd i::p)=pX t i+oD u p:=by simp only[oD,hu]
    cases c with
    |x t' v=>
     simp only[d_,decide_eq_true_eq]at hf;subst hf;obtain⟨hd,rfl⟩:=hv;simp only[qx]at hw;split at hw
     .rename_i y hy;obtain⟨u',y',rfl,h1,h2,h3⟩:=rQ _ _ _ _ hy;obtain rfl:u=u':=by rw[hu]at h1;exact aa h1
      refine sub (pX t i) 0 (.x u y') u ((aR u y').map .d) (by simp[d_]) ⟨AT t _ _ hd hu,rfl⟩ ?_ ?_ hp hw e7 e8
      .rw [<-h3,iM,gV];rfl
      .simp [bH,bU];exact h2
     .simp at hw
    |rc l=>
     simp only[qx]at hw;split at hw
     .rename_i y hy;obtain⟨u',cw,q1,q2,q3,q4,q5⟩:=Cc l t i y cs hf hv hy;obtain rfl:u=u':=by rw[hu]at q1;exact aa q1
      exact sub (pX t i) 0 y u cw q2 q3 q5 q4 hp hw e7 e8
     .simp at hw
    |_=>simp[qx]at hw
   |_=>exact hp.elim
  |ix k=>
   cases t with
   |ar n t=>
    obtain⟨hk,hp⟩:=hp;cases c with
    |x t' v=>
     simp only[d_,decide_eq_true_eq]at hf;subst hf;obtain⟨hd,rfl⟩:=hv;have hk':k<v.1.length:=by rw[v.2];exact hk
     have hg:=AH (bH t) v.1 k hk';refine sub (k*bU t) 0 (.x t (gt v.1 k)) t ((aR t (gt v.1 k)).map .d) (by simp[d_]) ⟨hd,rfl⟩ ?_ ?_ hp hw rfl rfl
     .rw [<-hg,iM,gV];rfl
     .simp only[aD,bH,bU];have:(k+1)*bU t<=n*bU t:=az _ hk;rw[bA]at this;omega
    |_=>simp[qx]at hw
   |_=>exact hp.elim
theorem J8:∀(t:Ty)(v:El t)(i:Nat)(w:V)(v':El t),J9 t v i w=some v'->∃u z,D4 t i=some u/\iK u w=some z/\aR t v'=aT (aR t v) (pX t i) (aR u z):=by
 intro t;induction t with
 |pr a c iha ihc=>
  intro v i w v' hs;cases i with
  |zero=>
   simp[J9]at hs;split at hs
   .rename_i y hy;obtain rfl:=aa hs;refine⟨a,y,rfl,hy,?_⟩;simp[aR,pX];rw[uF (by simp[bH]),m_ (by simp[bH])]
   .simp at hs
  |succ i=>
   simp[J9]at hs;split at hs
   .rename_i y hy;obtain rfl:=aa hs;obtain⟨u,z,h1,h2,h3⟩:=ihc _ _ _ _ hy;refine⟨u,z,h1,h2,?_⟩;simp only[aR,pX,h3];have:=uG (a:=aR a v.1) (b:=aR c v.2) (off:=pX c i) (p:=aR u z);rw[bH]at this;rw[this]
   .simp at hs
 |_=>intro v i w v' hs;cases i with|zero=>have hs':=hs;exact⟨_,v',rfl,hs',by simp[pX];rw[m_ (by simp[bH])]⟩|succ i=>simp[J9]at hs
theorem xH:∀(p:qB)(c:V)(t:Ty)(w c':V)(cs cw:List C)(u:Ty),d_ c false t=true->ff h c cs->KF t p->pf c p w=some c'->se t p=some u->ff h w cw->cw.length=bU u->
  ff h c' (aT cs (oD t p) cw):=by
 intro p;induction p with
 |nil=>
  intro c t w c' cs cw u hf hv _ hs hu hw hlen;obtain rfl:w=c':=by simpa[pf]using hs
  have e:oD t []=0:=by cases t<;>rfl
  have e2:se t []=some t:=by cases t<;>rfl
  have:=iv hv
  grind [gO,m_]
 |cons q p ih=>
  intro c t w c' cs cw u hf hv hp hs hu hw hlen;cases q with
  |fd i=>
   cases t with
   |st t=>
    obtain⟨a,ha,hp⟩:=hp;have hu':se a p=some u:=by simpa only[se,ha]using hu
    have e8:oD (.st t) (.fd i::p)=pX t i+oD a p:=by simp only[oD,ha]
    cases c with
    |x t' v=>
     simp only[d_,decide_eq_true_eq]at hf;subst hf;obtain⟨hd,rfl⟩:=hv;simp only[pf]at hs;split at hs
     .rename_i y hy;split at hs
      .rename_i y1 hy1;obtain⟨a',z,rfl,h1,h2,h3⟩:=rQ _ _ _ _ hy;obtain rfl:a=a':=by rw[ha]at h1;exact aa h1
       have hz:ff h (.x a z) ((aR a z).map .d):=⟨AT t _ _ hd ha,rfl⟩
       have h4:=ih (.x a z) a w y1 ((aR a z).map .d) cw u (by simp[d_]) hz hp hy1 hu' hw hlen;have hle:oD a p+cw.length<=bU a:=by have:=xT p a u hu' hp;omega
       have h5:((aR (.st t) v).map C.d|>.drop (pX t i)).take (bU a)=(aR a z).map .d:=by rw[<-h3,iM,gV];rfl
       have h6:=(rk h5 (by simp[bH,bU];exact h2) hle).symm;rw[e8,h6];split at hs
       .rename_i v' hv';obtain rfl:=aa hs;obtain⟨a2,z2,k1,k2,k3⟩:=J8 _ _ _ _ _ hv';refine⟨hd,?_⟩
        grind [qr,aR,vH]
       .obtain rfl:=aa hs;refine B6 (JZ t v) t i y1 _ _ a (Po t v) (CS t v hd) ha h4 ?_ ⟨_,Pn t v i _ hy⟩
        grind [vI,bH]
      .simp at hs
     .simp at hs
    |rc l=>
     simp only[pf]at hs;split at hs
     .rename_i y hy;split at hs
      .rename_i y1 hy1;obtain rfl:=aa hs;obtain⟨a',cw2,q1,q2,q3,q4,q5⟩:=Cc l t i y cs hf hv hy;obtain rfl:a=a':=by rw[ha]at q1;exact aa q1
       have h4:=ih y a w y1 cw2 cw u q2 q3 hp hy1 hu' hw hlen;have hl:=iv q3;rw[gO _ _ _ q2]at hl;have hle:oD a p+cw.length<=bU a:=by have:=xT p a u hu' hp;omega
       rw[e8,<-rk q5 q4 hle];exact B6 l t i y1 cs _ a hf hv ha h4 (by rw[vI (by omega),hl]) ⟨_,hy⟩
      .simp at hs
     .simp at hs
    |_=>simp[pf]at hs
   |_=>exact hp.elim
  |ix k=>
   cases t with
   |ar n t=>
    obtain⟨hk,hp⟩:=hp;have hu':se t p=some u:=hu;cases c with
    |x t' v=>
     simp only[d_,decide_eq_true_eq]at hf;subst hf;obtain⟨hd,rfl⟩:=hv;simp only[pf]at hs;split at hs
     .rename_i y1 hy1;split at hs
      .rename_i z hz;obtain rfl:=aa hs;have hk':k<v.1.length:=by rw[v.2];exact hk
       have hg:=AH (bH t) v.1 k hk';have h4:=ih (.x t (gt v.1 k)) t w y1 ((aR t (gt v.1 k)).map .d) cw u (by simp[d_]) ⟨hd,rfl⟩ hp hy1 hu' hw hlen;have h7:=qr hz h4;have hle:oD t p+cw.length<=bU t:=by have:=xT p t u hu' hp;omega
       have h5:((aR (.ar n t) v).map C.d|>.drop (k*bU t)).take (bU t)=(aR t (gt v.1 k)).map .d:=by rw[<-hg,iM,gV];rfl
       have h8:k*bU t+bU t<=((aR (.ar n t) v).map C.d).length:=by
        grind [aD,bH,bU,az,bA]
       refine⟨hd,?_⟩;show aT _ (k*bU t+oD t p) cw=_;rw[<-rk h5 h8 hle,h7,<-vH];show _=((v.1.set k z).flatMap (aR t)).map C.d;rw[N0 (bH t) v.1 k z hk'];rfl
      .simp at hs
     .simp at hs
    |_=>simp[pf]at hs
   |_=>exact hp.elim
theorem zr{n:Nat}:∀(l:V)(i:Nat)(w:V),eV n h l->tE l i=some w->eV n h w:=by
 intro l;induction l with
 |co a r iha ihr=>intro i w hk hw;cases i with|zero=>obtain rfl:=aa hw;exact hk.1|succ i=>exact ihr i w hk.2 hw
 |_=>intro i w hk hw;simp[tE]at hw
theorem IV{n:Nat}:∀(l:V)(i:Nat)(w:V),eV n h l->eV n h w->eV n h (MH l i w):=by
 intro l;induction l with
 |co a r iha ihr=>intro i w hk hw;cases i with|zero=>exact⟨hw,hk.2⟩|succ i=>exact⟨hk.1,ihr i w hk.2 hw⟩
 |_=>intro i w hk hw;exact hk
theorem Jt{n:Nat}{t:Ty}{v:El t}{i:Nat}{w:V}(hw:BA t v i=some w):eV n h w:=by obtain⟨u,y,rfl,_⟩:=rQ _ _ _ _ hw;trivial
theorem GI{n:Nat}:∀(t:Ty)(v:El t),eV n h (JZ t v):=by intro t;induction t with|pr a c iha ihc=>intro v;exact⟨trivial,ihc v.2⟩|_=>intro v;exact⟨trivial,trivial⟩
theorem Dx{n:Nat}:∀(p:qB)(c w:V),eV n h c->qx c p=some w->eV n h w:=by
 intro p;induction p with
 |nil=>intro c w hk hw;obtain rfl:c=w:=by simpa[qx]using hw
       exact hk
 |cons q p ih=>
  intro c w hk hw;cases q with
  |fd i=>
   cases c with
   |x t v=>cases t with|st t=>grind [qx,Jt]|_=>simp[qx]at hw
   |rc l=>
    simp[qx]at hw;split at hw
    .rename_i y hy;exact ih y w (zr l _ _ hk hy) hw
    .simp at hw
   |_=>simp[qx]at hw
  |ix k=>
   cases c with
   |x t v=>cases t with|ar m t=>exact ih (.x t _) w trivial hw|_=>simp[qx]at hw
   |_=>simp[qx]at hw
theorem IJ{n:Nat}:∀(p:qB)(c w c':V),eV n h c->eV n h w->pf c p w=some c'->eV n h c':=by
 intro p;induction p with
 |nil=>intro c w c' _ hw hs;obtain rfl:w=c':=by simpa[pf]using hs
       exact hw
 |cons q p ih=>
  intro c w c' hk hw hs;cases q with
  |fd i=>
   cases c with
   |x t v=>
    cases t with
    |st t=>
     simp[pf]at hs;split at hs
     .rename_i y hy;split at hs
      .rename_i y1 hy1;split at hs
       .obtain rfl:=aa hs;trivial
       .obtain rfl:=aa hs;exact IV _ _ _ (GI t v) (ih y w y1 (Jt hy) hw hy1)
      .simp at hs
     .simp at hs
    |_=>simp[pf]at hs
   |rc l=>
    simp[pf]at hs;split at hs
    .rename_i y hy;split at hs
     .rename_i y1 hy1;obtain rfl:=aa hs;exact IV l _ _ hk (ih y w y1 (zr l _ _ hk hy) hw hy1)
     .simp at hs
    .simp at hs
   |_=>simp[pf]at hs
  |ix k=>
   cases c with
   |x t v=>
    cases t with
    |ar m t=>
     simp[pf]at hs;split at hs
     .split at hs
      .obtain rfl:=aa hs;trivial
      .simp at hs
     .simp at hs
    |_=>simp[pf]at hs
   |_=>simp[pf]at hs
end
section
variable{h:H2}{n:Nat}{h1:bp}
theorem dv{v:V}{c:C}(ha:u7 v=false)(hc:ff h v [c]):tQ h v (.c c):=⟨[c],hc,fun e=>(by rw[ha]at e;cases e),fun _=>⟨c,rfl,rfl⟩⟩
theorem zK{v:V}{cs:List C}(ha:u7 v=true)(hc:ff h v cs):tQ h v (.agg cs):=⟨cs,hc,fun _=>rfl,fun e=>(by rw[ha]at e;cases e)⟩
theorem iY{v:V}{x:TV}(hx:tQ h v x)(ha:u7 v=false):∃c,x=.c c/\ff h v [c]:=by
 obtain⟨cs,h1,_,h2⟩:=hx
 grind
theorem rH{v:V}{x:TV}(hx:tQ h v x):∃cs,ff h v cs/\cellsOf x=some cs:=by obtain⟨cs,h1,h2,h3⟩:=hx;refine⟨cs,h1,?_⟩;cases ha:u7 v with|true=>rw[h2 ha];rfl|false=>obtain⟨c,rfl,rfl⟩:=h3 ha;rfl
theorem kf{k:IntKind}{a:Int}{x:TV}(hx:fC h (.x (.i k) a) x):x=tI k a:=by obtain⟨c,rfl,_,hc⟩:=iY hx rfl;obtain rfl:=(cj hc).1;rfl
theorem ID{a:Bool}{x:TV}(hx:fC h (.x .b a) x):x=tB a:=by obtain⟨c,rfl,_,hc⟩:=iY hx rfl;obtain rfl:=(cj hc).1;rfl
theorem yu{a:ByteArray}{x:TV}(hx:fC h (.x .s a) x):x=.c (.d (dS a)):=by obtain⟨c,rfl,_,hc⟩:=iY hx rfl;obtain rfl:=(cj hc).1;rfl
theorem zH{t:Ty}{s:Sl (El t)}{x:TV}(hx:fC h (.x (.sl t) s) x):x=.c (.d (yS (bU t) (aR t) s)):=by obtain⟨c,rfl,_,hc⟩:=iY hx rfl;obtain rfl:=(cj hc).1;rfl
theorem xE{a:Bool}{x:TV}(hx:fC h (.kb a) x):x=tB a:=by obtain⟨c,rfl,hc⟩:=iY hx rfl;obtain rfl:=(cj hc).1;rfl
theorem xD{k:Nat}{x:TV}(hx:fC h (.nl k) x):x=.c (Fd k):=by obtain⟨c,rfl,hc⟩:=iY hx rfl;obtain rfl:=(cj hc).1;rfl
theorem zI{t:Ty}{a:El t}{x:TV}(hx:fC h (.pt t a) x):kx t=true/\x=.c (.d (.pt (aR t a))):=by obtain⟨c,rfl,hd,hc⟩:=iY hx rfl;simp_all
theorem xC{id:Nat}{t:Ty}{p:qB}{x:TV}(hx:fC h (.op id t p) x):x=.c (.op id (oD t p)):=by obtain⟨c,rfl,hc⟩:=iY hx rfl;obtain rfl:=(cj hc).1;rfl
theorem tP{id m:Nat}{t:Ty}{p:qB}{x:TV}(hx:fC h (.ep id m t p) x):x=.c (.ep id m (oD t p)):=by obtain⟨c,rfl,hc⟩:=iY hx rfl;obtain rfl:=(cj hc).1;rfl
theorem zJ{id:Nat}{x:TV}(hx:fC h (.om id) x):x=.c (.om id):=by obtain⟨c,rfl,hc⟩:=iY hx rfl;obtain rfl:=(cj hc).1;rfl
theorem tO{id:Nat}{c:C}{x:TV}(hx:fC h (.so id) x)(hc:BU id (fO h id)=some c):x=.c c:=by obtain⟨c',rfl,c2,h2,h3⟩:=iY hx rfl;obtain rfl:=(cj h2).1;rw[h3.1 c hc]
theorem L1{id:Nat}{c:C}{x:TV}(hx:fC h (.sr id) x)(hc:GO id (fO h id)=some c):x=.c c:=by obtain⟨c',rfl,c2,h2,h3⟩:=iY hx rfl;obtain rfl:=(cj h2).1;rw[h3.1 c hc]
theorem tT{id:Nat}{t:Ty}{s:Sl (Sl (El t))}{ln:Option (Nat×Nat)}(ho:fO h id=some (.rw t s ln)):GO id (fO h id)=some (nA 1 (aR (.sl t)) id s):=by rw[ho];rfl
theorem rj{id ver lo:Nat}{t:Ty}{r:Sl (El t)}{x:TV}(hx:fC h (.sb id ver lo t r) x)(ha:iw h (.sb id ver lo t r)=true):x=.c (zo id lo t r):=by obtain⟨c',rfl,c2,h2,h3⟩:=iY hx rfl;obtain rfl:=(cj h2).1;rw[h3.1 (Bool.and_eq_true_iff.1 ha).2]
theorem GH{z:Bool}{f:Nat}{l:V}{x:TV}(hx:fC h (.fn z f l) x):(z=true/\∃ds,rC l=some ds/\x=.c (.d (.fn f ds)))\/(z=false/\∃cs,ff h l cs/\x=.c (.pJ f cs)):=by obtain⟨c',rfl,hc⟩:=iY hx rfl;cases z with|true=>obtain⟨ds,h2,h3⟩:=hc;simp_all|false=>obtain⟨ds,h2,h3⟩:=hc;simp_all
theorem R1{l:V}{x:TV}(hx:fC h (.tp l) x):∃xs,x=.gX xs/\CQ h l xs:=hx
def PQ:V->Prop
 |.tp _|.no|.gn=>False
 |_=>True
theorem pq{v:V}{x:TV}(hv:PQ v)(hx:fC h v x):tQ h v x:=by cases v<;>first|exact hx|exact hv.elim
theorem bW{v:V}{x:TV}(hx:tQ h v x):fC h v x:=by cases v<;>first|exact hx|(obtain⟨cs,hc,_⟩:=hx;exact hc.elim)
theorem Rv{v:V}{u:Ty}{y:El u}(hc:uX u v=some y):PQ v:=by cases v<;>first|trivial|(simp at hc)
theorem uW{v:V}{u:Ty}{y:El u}{x:TV}(hx:fC h v x)(hc:uX u v=some y):(mF u=true->x=.agg ((aR u y).map .d))/\(mF u=false->∃d,aR u y=[d]/\x=.c (.d d)):=by
 obtain⟨cs,h2,h3,h4⟩:=pq (Rv hc) hx;have h5:=iW v false u y cs hc h2;have ha:=yi hc;constructor
 .intro hu;rw[h3 (ha.trans hu),h5]
 .intro hu;obtain⟨c,rfl,rfl⟩:=h4 (ha.trans hu);cases he:aR u y with|nil=>rw[he]at h5;simp at h5|cons d ds=>simp_all
theorem Ru{v:V}{x:TV}{a:Bool}(hx:fC h v x)(hc:uX .b v=some a):x=tB a:=by obtain⟨d,h1,rfl⟩:=(uW hx hc).2 rfl;obtain rfl:=(cj h1).1;rfl
def mS(h:H2):List V->List TV->Prop
 |[],[]=>True
 |v::vs,x::xs=>fC h v x/\mS h vs xs
 |_,_=>False
theorem lc{xs:List TV}(hx:mS h [] xs):xs=[]:=by cases xs<;>first|rfl|exact hx.elim
theorem fX{v:V}{vs:List V}{xs:List TV}(hx:mS h (v::vs) xs):∃x ys,xs=x::ys/\fC h v x/\mS h vs ys:=by cases xs with|nil=>exact hx.elim|cons x ys=>exact⟨x,ys,rfl,hx.1,hx.2⟩
theorem ie{v:V}{xs:List TV}(hx:mS h [v] xs):∃x,xs=[x]/\fC h v x:=by obtain⟨x,ys,rfl,h1,h2⟩:=fX hx;obtain rfl:=lc h2;exact⟨x,rfl,h1⟩
theorem iD{v w:V}{xs:List TV}(hx:mS h [v,w] xs):∃x y,xs=[x,y]/\fC h v x/\fC h w y:=by obtain⟨x,ys,rfl,h1,h2⟩:=fX hx;obtain⟨y,rfl,h3⟩:=ie h2;exact⟨x,y,rfl,h1,h3⟩
theorem L0{v w z:V}{xs:List TV}(hx:mS h [v,w,z] xs):∃x y u,xs=[x,y,u]/\fC h v x/\fC h w y/\fC h z u:=by obtain⟨x,ys,rfl,h1,h2⟩:=fX hx;obtain⟨y,u,rfl,h3⟩:=iD h2;exact⟨x,y,u,rfl,h1,h3⟩
theorem LZ:∀{vs:List V}{xs:List TV},mS h vs xs->(∀v∈vs,PQ v/\u7 v=false)->∃cs,ff h (bv vs) cs/\xs=cs.map TV.c:=by intro vs;induction vs with|nil=>intro xs hx _;obtain rfl:=lc hx;exact⟨[],rfl,rfl⟩|cons v vs ih=>intro xs hx hv;obtain⟨x,ys,rfl,h1,h2⟩:=fX hx;obtain⟨hp,ha⟩:=hv v (by simp);obtain⟨c,rfl,h3⟩:=iY (pq hp h1) ha;obtain⟨cs,h4,rfl⟩:=ih h2 fun w hw=>hv w (by simp[hw]);exact⟨c::cs,⟨[c],cs,rfl,h3,h4⟩,rfl⟩
theorem vK{id:Nat}{q:(t:Ty)×Sl (El t)×List Nat}(hs:wg h (.so id)=some q):∃ver,(fO h id=some (.ar q.1 q.2.1 ver)\/fO h id=some (.im q.1 q.2.1 ver))/\q.2.2=[id]:=by
 simp[wg]at hs
 grind
theorem mV{id ver:Nat}{t:Ty}{s:Sl (El t)}(ho:fO h id=some (.ar t s ver)\/fO h id=some (.im t s ver)):BU id (fO h id)=some (nA (bU t) (aR t) id s):=by rcases ho with ho|ho<;>rw[ho]<;>rfl
theorem SW{id lo nx:Nat}{t:Ty}{r:Sl (El t)}{c:Call}{H:bp}:ci c (.len false) [some (.c (zo id lo t r))] H nx=some (tI .i64 r.l.length,[],[],nx):=by cases r with|nil=>rfl|mk l=>simp[ci,vu,zo,lv]
theorem SU{v:V}{x:TV}{q:(t:Ty)×Sl (El t)×List Nat}{c:Call}{H:bp}{nx:Nat}(hx:fC h v x)(ha:iw h v=true)(hs:wg h v=some q):
  ci c (.len false) [some x] H nx=some (tI .i64 q.2.1.l.length,[],[],nx):=by
 cases v with
 |x t s=>cases t with|sl t=>obtain rfl:=aa hs;rw[zH hx];exact SV|_=>simp[wg]at hs
 |so id=>obtain⟨ver,ho,_⟩:=vK hs;rw[tO hx (mV ho)];exact Rl
 |sb id ver lo t r=>obtain rfl:=aa hs;rw[rj hx ha];exact SW
 |_=>simp[wg]at hs
theorem NF{id lo nx:Nat}{t:Ty}{r:Sl (El t)}{c:Call}{H:bp}{neg:Bool}:ci c (.rT 0 neg) [some (.c (zo id lo t r))] H nx=some (tB (if neg then !r.fA else r.fA),[],[],nx):=by cases r<;>rfl
theorem SM{v:V}{x:TV}{q:(t:Ty)×Sl (El t)×List Nat}{c:Call}{H:bp}{nx:Nat}{neg:Bool}(hx:fC h v x)(ha:iw h v=true)(hs:wg h v=some q):
  ci c (.rT 0 neg) [some x] H nx=some (tB (if neg then !q.2.1.fA else q.2.1.fA),[],[],nx):=by
 cases v with
 |x t s=>cases t with|sl t=>obtain rfl:=aa hs;rw[zH hx];exact SN|_=>simp[wg]at hs
 |so id=>obtain⟨ver,ho,_⟩:=vK hs;rw[tO hx (mV ho)];exact UL
 |sb id ver lo t r=>obtain rfl:=aa hs;rw[rj hx ha];exact NF
 |_=>simp[wg]at hs
theorem pd{g:Bool}{m:Nat}{w:V}(hc:If h g m w=true):u7 w=g/\Bg w=m/\(g=false->m=1)/\iw h w=true:=by
 simp[If]at hc
 grind
theorem qj{g:Bool}{m off:Nat}{cs cw:List C}{w:V}(hc:If h g m w=true)(hw:ff h w cw)(hle:off+m<=cs.length)(he:(cs.drop off).take m=cw):∃x,FD g m (cs.drop off)=some x/\fC h w x:=by
 obtain⟨ha,hs,hm,_⟩:=pd hc;cases g with
 |true=>refine⟨.agg cw,?_,bW (zK ha hw)⟩;simp only[FD,if_true];rw[if_pos (by simp;omega),he]
 |false=>obtain rfl:=hm rfl;cases hd:cs.drop off with|nil=>have:=congrArg List.length hd;simp at this;omega|cons c r=>rw[hd]at he;subst he;exact⟨.c c,rfl,bW (dv ha hw)⟩
theorem Dp{g:Bool}{m:Nat}{ds:List D}:Rm g m ds=FD g m (ds.map .d):=by
 unfold Rm FD;cases g
 .cases ds<;>simp
 .simp
theorem xZ{p w:V}{l:List Nat}{g:Bool}{m nx:Nat}{c:Call}{x:TV}(hr:HR n h1 h)(hl:Av h p=some (w,l))(hc:If h g m w=true)(hx:fC h p x)(hok:eV n h p):
  ∃y,ci c (.load g m) [some x] h1 nx=some (y,[],l,nx)/\fC h w y/\eV n h w:=by
 cases p with
 |pt t v=>obtain⟨rfl,rfl⟩:=af (aa hl);obtain⟨hd,rfl⟩:=zI hx;obtain⟨_,hs,_,_⟩:=pd hc;have hs':bU t=m:=hs;obtain⟨y,h2,h3⟩:=qj (cs:=(aR t v).map .d) (off:=0) hc (⟨hd,rfl⟩) (by simp[bH];omega) (by rw[eH,iG (by simp[bH];omega)]);refine⟨y,?_,h3,trivial⟩;rw[eH,<-Dp]at h2;simp only[ci,g_,h2]
 |op id t p=>
  obtain rfl:=xC hx;simp only[Av]at hl;split at hl
  .rename_i u cc ho;obtain⟨_,hb,hko⟩:=hr.ob id _ ho;obtain⟨cs,h2,h3,h4⟩:=hb;by_cases hu:u=t
   .subst hu;simp only[decide_true,cond_true]at hl;split at hl
    .rename_i w' hw;obtain⟨rfl,rfl⟩:=af (aa hl);obtain⟨a,cw,q1,q2,q3,q4,q5⟩:=yb p cc u w' cs h4 h3 hok.2 hw;obtain⟨_,hs,_,_⟩:=pd hc;rw[gO _ _ _ q2]at hs;subst hs;obtain⟨y,h5,h6⟩:=qj hc q3 q4 q5;refine⟨y,?_,h6,Dx p cc w' hko hw⟩;simp only[ci,g_,h2,h5]
    .simp at hl
   .simp [hu]at hl
  .rename_i u v ho;obtain⟨_,hb,hko⟩:=hr.ob id _ ho;obtain⟨hd,h2⟩:=hb;by_cases hu:u=t
   .subst hu;simp only[decide_true,cond_true]at hl;split at hl
    .rename_i w' hw;obtain⟨rfl,rfl⟩:=af (aa hl);obtain⟨a,cw,q1,q2,q3,q4,q5⟩:=yb (h:=h) p (.x u v) u w' ((aR u v).map .d) (by simp[d_]) ⟨hd,rfl⟩ hok.2 hw;obtain⟨_,hs,_,_⟩:=pd hc;rw[gO _ _ _ q2]at hs;subst hs;obtain⟨y,h5,h6⟩:=qj hc q3 q4 q5;refine⟨y,?_,h6,Dx p (.x u v) w' trivial hw⟩;rw[<-gV,<-Dp]at h5;simp only[ci,g_,h2,h5]
    .simp at hl
   .simp [hu]at hl
  .simp at hl
 |ep id k t p=>
  obtain rfl:=tP hx;obtain⟨_,hp,hk,_⟩:=hok
  have main:∀(u:Ty)(s:Sl (El u))(ver:Nat),(fO h id=some (.ar u s ver)\/fO h id=some (.im u s ver))->(bif decide (u=t)then(match qx (.x u (gt s.l k)) p with|some w=>some (w,[id])|none=>none)else none)=some (w,l)->
    ∃y,ci c (.load g m) [some (.c (.ep id k (oD t p)))] h1 nx=some (y,[],l,nx)/\fC h w y/\eV n h w:=by
   intro u s ver ho hl;have hlt:=hk u s ver ho;by_cases hu:u=t
   .subst hu;simp only[decide_true,cond_true]at hl;split at hl
    .rename_i w' hw;obtain⟨rfl,rfl⟩:=af (aa hl);cases s with
     |nil=>simp[Sl.l]at hlt
     |mk ls=>
     have hrow:(ls.map (aR u))[k]?=some (aR u (gt ls k)):=Dv hlt;have hd:kx u=true:=by rcases ho with ho|ho<;>exact(hr.ob id _ ho).2.1.1
     obtain⟨a,cw,q1,q2,q3,q4,q5⟩:=yb (h:=h) p (.x u (gt ls k)) u w' ((aR u (gt ls k)).map .d) (by simp[d_]) ⟨hd,rfl⟩ hp hw;obtain⟨_,hs,_,_⟩:=pd hc;rw[gO _ _ _ q2]at hs;subst hs;obtain⟨y,h5,h6⟩:=qj hc q3 q4 q5;refine⟨y,?_,h6,Dx p (.x u (gt ls k)) w' trivial hw⟩;rw[<-gV,<-Dp]at h5;rcases ho with ho|ho
     .have h2:=(hr.ob id _ ho).2.1.2.2 ls rfl;simp only[ci,g_,h2,hrow,h5]
     .have h2:=(hr.ob id _ ho).2.1.2.2 ls rfl;simp only[ci,g_,h2,hrow,h5]
    .simp at hl
   .simp [hu]at hl
  grind [Av]
 |_=>simp[Av]at hl
end
end Go.Ev
