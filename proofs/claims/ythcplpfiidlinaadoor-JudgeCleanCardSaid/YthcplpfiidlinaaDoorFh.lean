/- Typed data by codes: the types, the values that a frame holds, its objects, and how they are laid into the abstract machine's. Conditions: none, these are definitions. -/
import Derived.Test.YthcplpfiidlinaaDoorEvY
noncomputable section
open Bool renaming and_eq_true->ai
open List renaming append_assoc->aJ,append_nil->bC,drop_append_of_le_length->ew,drop_drop->dO,drop_length->fD,drop_zero->cP,flatMap_cons->bi,length_append->az,length_map->aN,length_replicate->db,map_drop->gm,map_take->gX,nil_append->br,replicate->aw,take_append_drop->kJ,take_of_length_le->dN
open List.cons renaming inj->ck
open Nat renaming add_assoc->cM,add_mul->bN,beq->kR,ble->iY,blt->me,le_refl->au,mul_le_mul_right->aI
open Option.some renaming inj->aa
open Prod.mk renaming inj->ad
open Sigma.mk renaming inj->js
namespace Go.Ev
inductive Ty where
 |i (k:IntKind)
 |b
 |s
 |f (k:FloatKind)
 |sl (t:Ty)
 |mp (k v:Ty)
 |un
 |pr (a c:Ty)
 |st (t:Ty)
 |ar (n:Nat) (t:Ty)
 |o (k:Nat)
 deriving Inhabited,DecidableEq
def Arr(n:Nat)(α:Type):Type:={l:List α//l.length=n}
def Arr.set{n:Nat}{α:Type}(v:Arr n α)(k:Nat)(x:α):Arr n α:=⟨v.1.set k x,by rw[List.length_set];exact v.2⟩
instance{n:Nat}{α:Type}[Inhabited α]:Inhabited (Arr n α):=⟨⟨aw n default,db⟩⟩
instance{n:Nat}{α:Type}[DecidableEq α]:DecidableEq (Arr n α):=inferInstanceAs (DecidableEq {l:List α//l.length=n})
@[reducible] def El:Ty->Type
 |.i _=>Int
 |.b=>Bool
 |.s=>ByteArray
 |.f _=>Nat
 |.sl t=>Sl (El t)
 |.mp k v=>Mp (El k) (El v)
 |.un=>Unit
 |.pr a c=>El a×El c
 |.st t=>El t
 |.ar n t=>Arr n (El t)
 |.o _=>Unit
instance Ho:(t:Ty)->Inhabited (El t)
 |.i _=>⟨(0:Int)⟩
 |.b=>⟨false⟩
 |.s=>⟨(default:ByteArray)⟩
 |.f _=>⟨(0:Nat)⟩
 |.sl _=>⟨Sl.nil⟩
 |.mp _ _=>⟨Mp.none⟩
 |.un=>⟨()⟩
 |.pr a c=>⟨((Ho a).default,(Ho c).default)⟩
 |.st t=>Ho t
 |.ar n t=>⟨⟨aw n (Ho t).default,db⟩⟩
 |.o _=>⟨()⟩
def sd:(t:Ty)->El t
 |.i _=>(0:Int)
 |.b=>false
 |.s=>(ByteArray.empty)
 |.f _=>(0:Nat)
 |.sl _=>Sl.nil
 |.mp _ _=>Mp.none
 |.un=>()
 |.pr a c=>(sd a,sd c)
 |.st t=>sd t
 |.ar n t=>⟨aw n (sd t),db⟩
 |.o _=>()
def gE(t u:Ty)(v:El t):Option (El u):=if h:t=u then some (h▸v)else none
def bz:Ty->Nat
 |.un=>0
 |.pr a c=>bz a+bz c
 |.st t=>bz t
 |.ar n t=>n*bz t
 |_=>1
def kD:Ty->Bool
 |.o _|.mp _ _=>false
 |.pr a c=>kD a&&kD c
 |.st t|.ar _ t|.sl t=>kD t
 |_=>true
def nc:Ty->Bool
 |.st _|.ar _ _=>true
 |_=>false
def aR:(t:Ty)->El t->List D
 |.i k,x=>[.lit (.int k x)]
 |.b,x=>[.lit (.bool x)]
 |.s,x=>[.lit (.string x)]
 |.f k,x=>[.lit (.float k x)]
 |.sl t,x=>[vQ (bz t) (aR t) x]
 |.mp _ _,_=>[.lit .nilFunc]
 |.un,_=>[]
 |.pr a c,x=>aR a x.1++aR c x.2
 |.st t,x=>aR t x
 |.ar _ t,x=>x.1.flatMap (aR t)
 |.o _,_=>[.lit .nilFunc]
inductive Pe where
 |fd (i:Nat)
 |ix (n:Nat)
abbrev pO:=List Pe
inductive V where
 |x (t:Ty) (v:El t)
 |kb (c:Bool)
 |nl (k:Nat)
 |so (id:Nat)
 |sr (id:Nat)
 |sb (id ver lo:Nat) (t:Ty) (r:Sl (El t))
 |op (id:Nat) (t:Ty) (p:pO)
 |ep (id n:Nat) (t:Ty) (p:pO)
 |pt (t:Ty) (v:El t)
 |fn (z:Bool) (f:Nat) (caps:V)
 |om (id:Nat)
 |rc (l:V)
 |tp (l:V)
 |ni
 |co (a r:V)
 |fl (l:List Value)
 |no
 |gn
inductive O where
 |ar (t:Ty) (s:Sl (El t)) (ver:Nat)
 |im (t:Ty) (s:Sl (El t)) (ver:Nat)
 |bx (t:Ty) (c:V)
 |ib (t:Ty) (v:El t)
 |mp (k v:Ty) (m:Mp (El k) (El v))
 |rw(t:Ty) (s:Sl (Sl (El t))) (ln:Option (Nat×Nat))
abbrev H2:=List (Nat×Option O)
def fO(h:H2)(id:Nat):Option O:=(cq h id).join
def z8:(t:Ty)->El t->Nat->Option V
 |.pr a _,v,0=>some (.x a v.1)
 |.pr _ c,v,n+1=>z8 c v.2 n
 |t,v,0=>some (.x t v)
 |_,_,_=>none
def Cq:Ty->Nat->Option Ty
 |.pr a _,0=>some a
 |.pr _ c,n+1=>Cq c n
 |t,0=>some t
 |_,_=>none
def oR:Ty->Nat->Nat
 |.pr _ _,0=>0
 |.pr a c,n+1=>bz a+oR c n
 |_,_=>0
def HK:(t:Ty)->El t->V
 |.pr a c,v=>.co (.x a v.1) (HK c v.2)
 |t,v=>.co (.x t v) .ni
def Si(k:IntKind):List Value->Option (Int×List Value)
 |.int k' n::r=>if k'=k then some (n,r)else none
 |_=>none
def Sj:List Value->Option (Bool×List Value)
 |.bool c::r=>some (c,r)
 |_=>none
def Sf:List Value->Option (ByteArray×List Value)
 |.string c::r=>some (c,r)
 |_=>none
def Pj(k:FloatKind):List Value->Option (Nat×List Value)
 |.float k' n::r=>if k'=k then some (n,r)else none
 |_=>none
def Sg{α:Type}:List Value->Option (Sl α×List Value)
 |.slice none 0 0::r=>some (Sl.nil,r)
 |_=>none
def Oq{α:Type}(f:List Value->Option (α×List Value)):(m:Nat)->List Value->Option (Arr m α×List Value)
 |0,l=>some (⟨[],rfl⟩,l)
 |m+1,l=>match f l with|some (x,l)=>(match Oq f m l with|some (v,l)=>some (⟨x::v.1,by rw[List.length_cons,v.2]⟩,l)|none=>none)|none=>none
def uH:(t:Ty)->List Value->Option (El t×List Value)
 |.i k=>Si k
 |.b=>Sj
 |.s=>Sf
 |.f k=>Pj k
 |.sl _=>Sg
 |.pr a c=>fun l=>match uH a l with|some (x,l)=>(match uH c l with|some (y,l)=>some ((x,y),l)|none=>none)|none=>none
 |.st t=>uH t
 |.ar n t=>Oq (uH t) n
 |.mp _ _|.un|.o _=>fun _=>none
def ic(u:Ty):V->Option (El u)
 |.x t v=>gE t u v
 |.kb c=>gE .b u c
 |.nl 0=>(match u with|.sl _=>some Sl.nil|_=>none)
 |.fl l=>bif nc u then(match uH u l with|some (x,[])=>some x|_=>none)else none
 |_=>none
def HZ:(t:Ty)->El t->Nat->V->Option (El t)
 |.pr a _,v,0,w=>match ic a w with|some y=>some (y,v.2)|none=>none
 |.pr _ c,v,n+1,w=>match HZ c v.2 n w with|some y=>some (v.1,y)|none=>none
 |t,_,0,w=>ic t w
 |_,_,_,_=>none
def rV:V->Nat->Option V
 |.co a _,0=>some a
 |.co _ r,n+1=>rV r n
 |_,_=>none
def Km:V->Nat->V->V
 |.co _ r,0,w=>.co w r
 |.co a r,n+1,w=>.co a (Km r n w)
 |l,_,_=>l
def pz:V->pO->Option V
 |v,[]=>some v
 |.x (.st t) v,.fd i::p=>match z8 t v i with|some w=>pz w p|none=>none
 |.x (.ar _ t) v,.ix k::p=>pz (.x t (gt v.1 k)) p
 |.rc l,.fd i::p=>match rV l i with|some w=>pz w p|none=>none
 |_,_=>none
def ou:V->pO->V->Option V
 |_,[],w=>some w
 |.x (.st t) v,.fd i::p,w=>
  match z8 t v i with
  |some y=>match ou y p w with|some y'=>(match HZ t v i y' with|some v'=>some (.x (.st t) v')|none=>some (.rc (Km (HK t v) i y')))|none=>none
  |none=>none
 |.x (.ar n t) v,.ix k::p,w=>match ou (.x t (gt v.1 k)) p w with|some y=>(match ic t y with|some y'=>some (.x (.ar n t) (v.set k y'))|none=>none)|none=>none
 |.rc l,.fd i::p,w=>match rV l i with|some y=>(match ou y p w with|some y'=>some (.rc (Km l i y'))|none=>none)|none=>none
 |_,_,_=>none
def qT:Ty->pO->Option Ty
 |t,[]=>some t
 |.st t,.fd i::p=>match Cq t i with|some u=>qT u p|none=>none
 |.ar _ t,.ix _::p=>qT t p
 |_,_=>none
def mI:Ty->pO->Nat
 |.st t,.fd i::p=>oR t i+(match Cq t i with|some u=>mI u p|none=>0)
 |.ar _ t,.ix k::p=>k*bz t+mI t p
 |_,_=>0
def Iw:Ty->pO->Prop
 |.st t,.fd i::p=>∃u,Cq t i=some u/\Iw u p
 |.ar n t,.ix k::p=>k<n/\Iw t p
 |_,[]=>True
 |_,_=>False
def Bl:Ty->V×V
 |.pr a c=>(.no,.co (Bl a).1 (Bl c).2)
 |.st t=>(bif kD t then .x (.st t) (sd t)else .rc (Bl t).2,.co (bif kD t then .x (.st t) (sd t)else .rc (Bl t).2) .ni)
 |.o k=>(.nl k,.co (.nl k) .ni)
 |.mp _ _=>(.nl 3,.co (.nl 3) .ni)
 |.sl t=>(bif kD t then .x (.sl t) Sl.nil else .nl 0,.co (bif kD t then .x (.sl t) Sl.nil else .nl 0) .ni)
 |.ar n t=>(bif kD t then .x (.ar n t) (sd (.ar n t))else .no,.co (bif kD t then .x (.ar n t) (sd (.ar n t))else .no) .ni)
 |.un=>(.x .un (),.co (.x .un ()) .ni)
 |.i k=>(.x (.i k) (0:Int),.co (.x (.i k) (0:Int)) .ni)
 |.b=>(.x .b false,.co (.x .b false) .ni)
 |.s=>(.x .s ByteArray.empty,.co (.x .s ByteArray.empty) .ni)
 |.f k=>(.x (.f k) (0:Nat),.co (.x (.f k) (0:Nat)) .ni)
abbrev O0(t:Ty):V:=(Bl t).1
def Dt(k:Nat):C:=.d (.lit (match k with|0=>.slice none 0 0|1=>.pointer none|2=>.nilFunc|3=>.map none|_=>.nilIface))
def Aq(id:Nat):Option O->Option C
 |some (.ar t s _)=>some (mj (bz t) (aR t) id s)
 |some (.im t s _)=>some (mj (bz t) (aR t) id s)
 |_=>none
def oL(t:Ty):Sl (El t)->kT
 |.nil=>.nil
 |.mk l=>.bq (l.map (aR t))
def Ik{α:Type}(id:Nat):Sl α->kT
 |.nil=>.nil
 |.mk l=>.dX id l.length
def eQ(t:Ty)(l:List (Sl (El t))):Option (Nat×Nat)->List kT
 |none=>l.map (oL t)
 |some (m,id)=>(l.map (oL t)).set m (Ik id (gt l m))
def EC(id:Nat):Option O->Option C
 |some (.rw t s _)=>some (mj 1 (aR (.sl t)) id (s:Sl (Sl (El t))))
 |_=>none
def yb(id lo:Nat)(t:Ty):Sl (El t)->C
 |.nil=>.d (.lit (.slice none 0 0))
 |.mk l=>.fh (bz t) id lo (l.map (aR t)).length
def qt:V->Option (List D)
 |.pt t v=>if kD t then some [.pt (aR t v)]else none
 |.ni=>some []
 |.co a r=>match qt a,qt r with|some x,some y=>some (x++y)|_,_=>none
 |_=>none
def sW:V->Bool
 |.x t _=>nc t
 |.rc _|.fl _=>true
 |_=>false
deriving instance DecidableEq for Mp
instance zh:(t:Ty)->DecidableEq (El t)
 |.i _=>inferInstanceAs (DecidableEq Int)
 |.b=>inferInstanceAs (DecidableEq Bool)
 |.s=>inferInstanceAs (DecidableEq ByteArray)
 |.f _=>inferInstanceAs (DecidableEq Nat)
 |.sl t=>@instDecidableEqSl (El t) (zh t)
 |.mp k v=>@instDecidableEqMp (El k) (El v) (zh k) (zh v)
 |.un=>inferInstanceAs (DecidableEq Unit)
 |.pr a c=>@instDecidableEqProd (El a) (El c) (zh a) (zh c)
 |.st t=>zh t
 |.ar n t=>@instDecidableEqArr n (El t) (zh t)
 |.o _=>inferInstanceAs (DecidableEq Unit)
structure S2 where
 dD:List (Nat×V)
 heap:H2
 next:Nat
 wo:List Nat
 gh:V
structure OP where
 o:nQ
 t:Ty
 fi:List Nat
def Ch:V->Bool
 |.pt t _=>kD t
 |.ni=>true
 |.co a r=>Ch a&&Ch r
 |_=>false
def iq(h:H2):V->Bool
 |.x t _=>kD t
 |.pt t _=>kD t
 |.kb _|.nl _=>true
 |.op id _ _|.ep id _ _ _|.om id=>(match fO h id with|some _=>true|none=>false)
 |.so id=>(match fO h id with|some (.ar _ _ _)|some (.im _ _ _)=>true|_=>false)
 |.sr id=>(match fO h id with|some (.rw _ _ _)=>true|_=>false)
 |.sb id ver _ t _=>kD t&&(match fO h id with|some (.ar _ _ v)|some (.im _ _ v)=>v==ver|_=>false)
 |.fn true _ l=>Ch l
 |.fn false _ l=>iq h l
 |.rc l|.tp l=>iq h l
 |.fl l=>l.all d_
 |.ni=>true
 |.co a r=>iq h a&&iq h r
 |.no|.gn=>false
def SH:Value->Option V
 |.bool c=>some (.kb c)
 |.int k n=>some (.x (.i k) n)
 |.float k n=>some (.x (.f k) n)
 |.string s=>some (.x .s s)
 |.pointer none=>some (.nl 1)
 |.slice none 0 0=>some (.nl 0)
 |.nilFunc=>some (.nl 2)
 |.map none=>some (.nl 3)
 |.nilIface=>some (.nl 4)
 |.agg cs=>if cs.toList.all d_ then some (.fl cs.toList)else none
 |_=>none
def LG:Nat->Option V:=fun g => if g = 0 then some (.pt (.ar 32 (.i .u8)) (⟨[0, 1, 28, 2, 29, 14, 24, 3, 30, 22, 20, 15, 25, 17, 4, 8, 31, 27, 13, 23, 21, 19, 16, 7, 26, 12, 18, 6, 11, 5, 10, 9], rfl⟩ : Arr 32 Int)) else none
def JG(e:List (Nat×V))(h:H2):Operand->Option V
 |.tmp t=>match cq e t with|some v=>bif iq h v then some v else none|none=>none
 |.const c=>SH c
 |.global g=>LG g
 |.func f=>some (.fn true f .ni)
def xV:V->Nat
 |.x t _=>bz t
 |.rc l=>xV l
 |.co a r=>xV a+xV r
 |.ni=>0
 |.fl l=>l.length
 |_=>1
def Oe:V->Nat->Nat
 |.co a r,n+1=>xV a+Oe r n
 |_,_=>0
def di:List V->V
 |[]=>.ni
 |v::r=>.co v (di r)
def Am:V->List V
 |.co a r=>a::Am r
 |_=>[]
def kN:V->Bool->(u:Ty)->Option (El u)
 |.rc l,false,.st u=>kN l true u
 |.co a r,true,.pr t u=>match kN a false t,kN r true u with|some x,some y=>some (x,y)|_,_=>none
 |.co a .ni,true,u=>kN a false u
 |.ni,_,_=>none
 |v,false,u=>ic u v
 |_,_,_=>none
abbrev tM(u:Ty)(v:V):Option (El u):=kN v false u
def eE:V->Bool->Ty->Bool
 |.x u _,false,t=>decide (u=t)
 |.rc l,false,.st t=>eE l true t
 |.co a r,true,.pr t u=>eE a false t&&eE r true u
 |.co a .ni,true,t=>eE a false t
 |.kb _,false,.b=>true
 |.nl 0,false,.sl _|.so _,false,.sl _|.sr _,false,.sl _|.sb _ _ _ _ _,false,.sl _=>true
 |.nl 3,false,.mp _ _|.om _,false,.mp _ _=>true
 |.nl _,false,.o _|.op _ _ _,false,.o _|.ep _ _ _ _,false,.o _|.pt _ _,false,.o _|.fn _ _ _,false,.o _=>true
 |_,_,_=>false
def MZ(t:Ty)(v:V):Option V:=match(bif kD t then ic t v else none)with|some y=>some (.x t y)|none=>bif eE v false t then some v else none
def tT(h:H2):V->Option ((t:Ty)×Sl (El t)×List Nat)
 |.x (.sl t) s=>some ⟨t,s,[]⟩
 |.so id=>(match fO h id with|some (.ar t s _)|some (.im t s _)=>some ⟨t,s,[id]⟩|_=>none)
 |.sb id _ _ t r=>some ⟨t,r,[id]⟩
 |_=>none
def J_(t:Ty)(h:H2):V->Option ((t:Ty)×Sl (El t)×List Nat)
 |.nl 0=>some ⟨t,Sl.nil,[]⟩
 |v=>tT h v
def je(h:H2):V->Option (V×List Nat)
 |.so id=>match tT h (.so id)with|some ⟨t,s,l⟩=>some (.x (.sl t) s,l)|none=>none
 |.sr id=>match fO h id with|some (.rw t s none)=>some (.x (.sl (.sl t)) s,[id])|_=>none
 |.sb id ver lo t r=>match tT h (.sb id ver lo t r)with|some ⟨t,s,l⟩=>some (.x (.sl t) s,l)|none=>none
 |.rc l=>match je h l with|some (w,l)=>some (.rc w,l)|none=>none
 |.co a r=>match je h a,je h r with|some (x,l),some (y,m)=>some (.co x y,l++m)|_,_=>none
 |.x t v=>some (.x t v,[])
 |.kb c=>some (.kb c,[])
 |.nl k=>some (.nl k,[])
 |.fl l=>some (.fl l,[])
 |.ni=>some (.ni,[])
 |.fn true f l=>some (.fn true f l,[])
 |.pt t v=>some (.pt t v,[])
 |_=>none
def Us(c:Bool):V->V->Option V
 |.kb a,.kb b=>some (.x .b (bif c then a else b))
 |.x t a,w=>match tM t w with|some b=>some (.x t (bif c then a else b))|none=>none
 |w,.x t b=>match tM t w with|some a=>some (.x t (bif c then a else b))|none=>none
 |_,_=>none
def SL:Value->Value->Bool
 |.bool a,.bool b=>a==b
 |.int k a,.int k' b=>decide (k=k')&&a==b
 |.float k a,.float k' b=>decide (k=k')&&a==b
 |.string a,.string b=>decide (a=b)
 |.pointer none,.pointer none|.slice none 0 0,.slice none 0 0|.nilFunc,.nilFunc|.map none,.map none|.nilIface,.nilIface=>true
 |_,_=>false
def tQ:List Value->List Value->Bool
 |[],[]=>true
 |a::r,b::s=>SL a b&&tQ r s
 |_,_=>false
def nk:Ty->List Value
 |.i k=>[.int k 0]
 |.b=>[.bool false]
 |.s=>[.string ByteArray.empty]
 |.f k=>[.float k 0]
 |.sl _=>[.slice none 0 0]
 |.mp _ _=>[.map none]
 |.un=>[]
 |.pr a c=>nk a++nk c
 |.st t=>nk t
 |.ar n t=>(aw n (nk t)).flatten
 |.o k=>[match k with|0=>.slice none 0 0|1=>.pointer none|2=>.nilFunc|3=>.map none|_=>.nilIface]
def DO:Ty->Option (List Kd)
 |.i k=>some [.i k]
 |.b=>some [.b]
 |.s=>some [.s]
 |.pr a c=>match DO a,DO c with|some x,some y=>some (x++y)|_,_=>none
 |.st t=>DO t
 |.ar n t=>match DO t with|some x=>some ((aw n x).flatten)|none=>none
 |_=>none
def QZ(z:Bool)(op:BinOp)(k k':IntKind)(a b:Int):Option V:=
 match op with
 |.shl=>bif z then some (.x (.i k) (Q2 k a b))else none
 |.shr=>bif z then some (.x (.i k) (Jz k a b))else none
 |op=>bif decide (k=k')then(match op with
  |.add=>some (.x (.i k) (wr k (a+b)))
  |.sub=>some (.x (.i k) (wr k (a-b)))
  |.mul=>some (.x (.i k) (wr k (a*b)))
  |.quo=>bif z then some (.x (.i k) (wr k (a.tdiv b)))else none
  |.rem=>bif z then some (.x (.i k) (a.tmod b))else none
  |.and=>some (.x (.i k) (JA k a b))
  |.or=>some (.x (.i k) (Rq k a b))
  |.xor=>some (.x (.i k) (Q1 k a b))
  |.andNot=>some (.x (.i k) (rG k a b))
  |.eql=>some (.x .b (a==b))
  |.neq=>some (.x .b (a !=b))
  |.lss=>some (.x .b (decide (a<b)))
  |.leq=>some (.x .b (decide (a<=b)))
  |.gtr=>some (.x .b (decide (a>b)))
  |.geq=>some (.x .b (decide (a>=b)))
  |_=>none)else none
def QY(op:BinOp)(x y:ByteArray):Option V:=match op with|.eql=>some (.x .b (x.toList==y.toList))|.neq=>some (.x .b (!(x.toList==y.toList)))|.lss=>some (.x .b (Op.bytesLess x.toList y.toList))|.leq=>some (.x .b (Op.bytesLess x.toList y.toList||x.toList==y.toList))|.gtr=>some (.x .b (!(Op.bytesLess x.toList y.toList||x.toList==y.toList)))|.geq=>some (.x .b (!(Op.bytesLess x.toList y.toList)))|_=>none
def NH:List Operand->Bool
 |[_,.const (.int _ n)]=>decide (n>0)
 |_=>false
def Ro(m:Bool)(k:IntKind):Int->List V->Option Int
 |x,[]=>some x
 |x,.x (.i k') y::r=>bif decide (k'=k)then Ro m k (bif m then(if y>x then y else x)else(if y<x then y else x)) r else none
 |_,_=>none
def yJ(h:H2):V->Option (V×List Nat)
 |.pt t v=>some (.x t v,[])
 |.op id t p=>(match fO h id with
  |some (.bx u c)=>bif decide (u=t)then(match pz c p with|some w=>some (w,[id])|none=>none)else none
  |some (.ib u v)=>bif decide (u=t)then(match pz (.x u v) p with|some w=>some (w,[id])|none=>none)else none
  |_=>none)
 |.ep id n t p=>(match fO h id with
  |some (.ar u s _)|some (.im u s _)=>bif decide (u=t)then(match pz (.x u (gt s.l n)) p with|some w=>some (w,[id])|none=>none)else none
  |_=>none)
 |_=>none
def yD(h:H2)(kind:Nat):V->Option V
 |.nl k=>bif(k==kind)&&me k 3 then some (.kb true)else none
 |.pt _ _|.op _ _ _|.ep _ _ _ _=>bif kind==1 then some (.kb false)else none
 |.fn _ _ _=>bif kind==2 then some (.kb false)else none
 |v=>bif kind==0 then(match tT h v with|some ⟨_,s,_⟩=>some (.x .b s.fI)|none=>none)else none
def KO:V->V
 |.kb c=>.kb (!c)
 |.x .b c=>.x .b (!c)
 |v=>v
def F6(off n:Nat)(i:Nat):V->Option V
 |.op id t p=>(match qT t p with
  |some (.st u)=>(match Cq u i with|some w=>bif(oR u i==off)&&(bz w==n)then some (.op id t (p++[.fd i]))else none|none=>none)
  |_=>none)
 |.ep id m t p=>(match qT t p with
  |some (.st u)=>(match Cq u i with|some w=>bif(oR u i==off)&&(bz w==n)then some (.ep id m t (p++[.fd i]))else none|none=>none)
  |_=>none)
 |.pt (.st u) v=>(match z8 u v i with|some (.x w y)=>bif(oR u i==off)&&(bz w==n)then some (.pt w y)else none|_=>none)
 |_=>none
def Gp(h:H2)(g:Bool)(n:Nat)(w:V):Bool:=(sW w==g)&&(xV w==n)&&(g||n==1)&&iq h w
def N1(h:H2):V->Option ((k:Ty)×(v:Ty)×Mp (El k) (El v)×List Nat)
 |.om id=>(match fO h id with|some (.mp k v m)=>some ⟨k,v,m,[id]⟩|_=>none)
 |_=>none
def xo(t:Ty):List Nat->List (Nat×Nat)->List V->V->Option V
 |[],[],[],c=>some c
 |i::is,(off,n)::ps,w::ws,c=>
  match t with
  |.st u=>(match Cq u i with
   |some a=>bif(oR u i==off)&&(bz a==n)then(match MZ a w with|some w=>(match ou c [.fd i] w with|some c=>bif eE c false t then xo t is ps ws c else none|none=>none)|none=>none)else none
   |none=>none)
  |.ar m u=>bif(i*bz u==off)&&(bz u==n)&&decide (i<m)then(match MZ u w with|some w=>(match ou c [.ix i] w with|some c=>bif eE c false t then xo t is ps ws c else none|none=>none)|none=>none)else none
  |_=>none
 |_,_,_,_=>none
def OC:V->Bool
 |.tp _|.no|.gn|.ni|.co _ _=>false
 |v=>!sW v
def PM(o:OP)(vs:List V)(h:H2):Option (V×List Nat):=
 match o.o.k,vs with
 |.mv,[v]=>some (v,[])
 |.nilCheck,[v]=>(match v with|.pt _ _|.fn _ _ _|.ep _ _ _ _|.op _ _ _=>some (v,[])|_=>none)
 |.Ad op,[.x (.i k) a,.x (.i k') b]=>(match QZ (NH o.o.args) op k k' a b with|some v=>some (v,[])|none=>none)
 |.Ad op,[.x .s a,.x .s b]=>(match QY op a b with|some v=>some (v,[])|none=>none)
 |.uG neg,[x,y]=>(match tM .b x,tM .b y with|some a,some b=>some (.x .b (bif neg then !(a==b)else a==b),[])|_,_=>none)
 |.qL kind neg,[x]=>(match yD h kind x with|some v=>some (bif neg then KO v else v,[])|none=>none)
 |.zf neg ks,[.x t a,y]=>(match tM t y with|some b=>bif nc t&&decide (DO t=some ks)then some (.x .b (bif neg then !(decide (a=b))else decide (a=b)),[])else none|none=>none)
 |.un .not,[.kb c]=>some (.kb (!c),[])
 |.un .not,[.x .b c]=>some (.x .b (!c),[])
 |.un .neg,[.x (.i k) n]=>some (.x (.i k) (wr k (0-n)),[])
 |.un .xor,[.x (.i k) n]=>some (.x (.i k) (UE k n),[])
 |.vw k,[.x (.i _) n]=>some (.x (.i k) (wr k n),[])
 |.sP,[.x .s s]=>some (.x .s s,[])
 |.IF f,vs=>bif vs.all OC then some (.fn false f (di vs),[])else none
 |.load g n,[p]=>(match yJ h p with|some (w,l)=>bif Gp h g n w then some (w,l)else none|none=>none)
 |.t7,[p]=>(match yJ h p with|some (w,l)=>bif Gp h false 1 w then some (w,l)else none|none=>none)
 |.fieldAddr off n,[p]=>(match o.fi with|[i]=>(match F6 off n i p with|some w=>some (w,[])|none=>none)|_=>none)
 |.field g off n,[.x (.st u) v]=>(match o.fi with|[i]=>(match z8 u v i with|some w=>bif(oR u i==off)&&Gp h g n w then some (w,[])else none|none=>none)|_=>none)
 |.field g off n,[.rc l]=>(match o.fi with|[i]=>(match rV l i with|some w=>bif(Oe l i==off)&&Gp h g n w then some (w,[])else none|none=>none)|_=>none)
 |.extract i,[.tp l]=>(match rV l i with|some w=>some (w,[])|none=>none)
 |.len true,[.x .s s]=>some (.x (.i .i64) (s.size:Int),[])
 |.len false,[.nl 0]=>some (.x (.i .i64) (0:Int),[])
 |.len false,[.sr id]=>(match fO h id with|some (.rw _ s _)=>some (.x (.i .i64) (s.l.length:Int),[])|_=>none)
 |.len false,[v]=>(match tT h v with|some ⟨_,s,_⟩=>some (.x (.i .i64) (s.l.length:Int),[])|none=>none)
 |.uB m,.x (.i k) x::r=>(match Ro m k x r with|some y=>some (.x (.i k) y,[])|none=>none)
 |.build z ps,vs=>bif tQ (nk o.t) z&&nc o.t&&eE (O0 o.t) false o.t then(match xo o.t o.fi ps vs (O0 o.t)with|some v=>some (v,[])|none=>none)else none
 |.lookup ka ks va z ok,[m,kv]=>(match N1 h m with
  |some ⟨kt,vt,mp,l⟩=>(match tM kt kv with
   |some k=>bif(nc kt==ka)&&(nc vt==va)&&decide (DO kt=some ks)&&tQ (nk vt) z&&kD vt&&(va||bz vt==1)then
     some (bif ok then .tp (.co (.x vt (oP mp (sd vt) k)) (.co (.x .b (KW mp k)) .ni))else .x vt (oP mp (sd vt) k),l)else none
   |none=>none)
  |none=>none)
 |_,_=>none
def wI{α:Type}(s:Sl α)(x r:List α):Sl α:=match x with|[]=>(match s with|.nil=>.nil|.mk _=>.mk r)|_::_=>.mk r
def zX{α:Type}:Sl α->Sl α->Option Unit
 |.nil,.nil=>some ()
 |.mk a,.mk b=>FM a b
 |_,_=>none
def jz(s:S2)(o:O):S2:=⟨s.dD,(s.next,some o)::s.heap,s.next+1,s.next::s.wo,s.gh⟩
def ez(s:S2)(id:Nat)(o:Option O):S2:=⟨s.dD,(id,o)::s.heap,s.next,id::s.wo,s.gh⟩
def BX(h:H2)(id:Nat):Option O:=match fO h id with|some (.ar t s v)|some (.im t s v)=>some (.im t s v)|some (.ib t v)=>some (.ib t v)|some (.bx t c)=>bif kD t&&me (bz t) 300 then(match je h c with|some (_,[])=>(match tM t c with|some v=>some (.ib t v)|none=>none)|_=>none)else none|_=>none
def qn(h:H2):List Nat->S2->Option S2
 |[],s=>some s
 |id::r,s=>match fO h id with|some (.rw _ _ none)=>(match qn h r s with|some s=>some (ez s id none)|none=>none)|_=>(match BX h id,qn h r s with|some o,some s=>some (ez s id (some o))|_,_=>none)
def Co(t:Ty):Bool:=kD t&&me 0 (bz t)
def yi(h:H2)(t:Ty)(len:Nat):Nat->List Nat->List V->Option (List (El t)×List Nat)
 |m,[],[]=>some (aw (len-m) (sd t),[])
 |m,i::is,v::vs=>
  match je h v with
  |some (w,a)=>(match tM t w with
   |some y=>bif iY m i&&me i len then(match yi h t len (i+1) is vs with|some (l,b)=>some (aw (i-m) (sd t)++y::l,a++b)|none=>none)else none
   |none=>none)
  |none=>none
 |_,_,_=>none
def jE:List V->Option (List Int)
 |[]=>some []
 |.x (.i _) n::r=>match jE r with|some l=>some (n::l)|none=>none
 |_=>none
def FL(h:H2):V->Option Int
 |.nl 0=>some 0
 |v=>match tT h v with|some ⟨_,v,_⟩=>some (v.l.length:Int)|none=>none
def Oz{α:Type}(w:Sl α)(lo n:Nat)(z:α):Option (Sl α):=match w with|.nil=>none|.mk l=>some (.mk (Mn l lo n (aw n z)))
def tX{β:Type}(sz:Nat)(h:H2)(x:V)(l u:Int)(k:V->Option β):Option β:=
 match x with
 |.x (.sl t) v=>bif bz t==sz then(tY v.l l u).bind fun y=>k (.x (.sl t) (v.to y))else none
 |.so id=>(match fO h id with
  |some (.ar t v ver)=>bif bz t==sz then(tY v.l l u).bind fun y=>k (.sb id ver l.toNat t (v.to y))else none
  |some (.im t v ver)=>bif bz t==sz then(tY v.l l u).bind fun y=>k (.sb id ver l.toNat t (v.to y))else none
  |_=>none)
 |.sb id ver lo t v=>bif bz t==sz then(tY v.l l u).bind fun y=>k (.sb id ver (lo+l.toNat) t (v.to y))else none
 |.nl 0=>(tY ([]:List Unit) l u).bind fun _=>k (.nl 0)
 |_=>none
def QX{β:Type}(t:Ty)(sz len:Nat)(z:List Value)(pl:List Nat)(vs:List V)(s:S2)(k:V->S2->List Nat->Option β):Option β:=
 bif(bz t==sz)&&tQ ((aw len (nk t)).flatten) z&&Co t then
  (match yi s.heap t len 0 pl vs with
  |some (l,a)=>(match qn s.heap a s with|some s'=>k (.so s.next) (jz s' (.ar t (.mk l) 0)) a|none=>none)
  |none=>none)else none
def GN(ln:Option (Nat×Nat))(m:Nat):Bool:=match ln with|none=>true|some (m',_)=>kR m' m
def EU{β:Type}(id m:Nat)(t:Ty)(p:pO)(w:V)(s:S2)(k:S2->List Nat->Option β):Option β:=
 match fO s.heap id with
 |some (.rw u v ln)=>(match p,w with
  |[],.so id2=>(match fO s.heap id2 with
   |some (.ar u2 r _)=>(match gE (.sl u2) (.sl u) r with
    |some r=>bif decide (t=.sl u)&&!(id2==id)&&GN ln m then k (ez (ez s id2 none) id (some (.rw u (.mk (v.l.set m r)) none))) [id,id2]else none
    |none=>none)
   |_=>none)
  |_,_=>none)
 |some (.ar u l ver)=>(match je s.heap w with
  |some (w,a)=>bif decide (u=t)then(match qT u p with
   |some q=>(match tM q w with
    |some y=>(match ou (.x u (gt l.l m)) p (.x q y)with
     |some c=>(match ic u c with
      |some y=>(match qn s.heap a s with|some s=>bif !a.contains id then k (ez s id (some (.ar u (.mk (l.l.set m y)) (ver+1)))) (id::a)else none|none=>none)
      |none=>none)
     |none=>none)
    |none=>none)
   |none=>none)else none
  |none=>none)
 |_=>none
def part{β:Type}(o:OP)(vs:List V)(s:S2)(k:V->S2->List Nat->Option β):Option β:=
 match o.o.k,vs with
 |.Ad .quo,[.x (.i q) a,.x (.i q') b]=>bif decide (q=q')then(QK q a b).bind fun x=>k (.x (.i q) x) s []else none
 |.Ad .rem,[.x (.i q) a,.x (.i q') b]=>bif decide (q=q')then(PY q a b).bind fun x=>k (.x (.i q) x) s []else none
 |.Ad .shl,[.x (.i q) a,.x (.i _) b]=>(x9 q a b).bind fun x=>k (.x (.i q) x) s []
 |.Ad .shr,[.x (.i q) a,.x (.i _) b]=>(PS q a b).bind fun x=>k (.x (.i q) x) s []
 |.Ad .add,[.x .s a,.x .s b]=>(QU a b).bind fun x=>k (.x .s x) s []
 |.alloc z,[]=>bif tQ (nk o.t) z&&eE (O0 o.t) false o.t then k (.op s.next o.t []) (jz s (.bx o.t (O0 o.t))) []else none
 |.box,[v]=>(match MZ o.t v with|some w=>k (.op s.next o.t []) (jz s (.bx o.t w)) []|none=>none)
 |.buildSlice sz len z pl,vs=>QX o.t sz len z pl vs s k
 |.store n,[.op id t p,w]=>bif(xV w==n)then(match fO s.heap id with
  |some (.bx u c)=>bif decide (u=t)then(match qT t p with
   |some a=>(match MZ a w with
    |some w=>(match ou c p w with|some c=>bif eE c false t then k (.tp .ni) (ez s id (some (.bx t c))) [id]else none|none=>none)
    |none=>none)
   |none=>none)else none
  |_=>none)else none
 |.t7,[.ep id m u []]=>(match fO s.heap id with
  |some (.rw t v none)=>bif decide (u=.sl t)then k (.so s.next) (jz (ez s id (some (.rw t v (some (m,s.next))))) (.ar t (gt v.l m) 0)) [id]else none
  |_=>none)
 |.AI szi,[.x (.i _) l,.x (.i _) c]=>(match o.t with
  |.sl t=>bif(bz t==szi)&&Co t then(zE (Sl.nil:Sl (El t)) l c).bind fun r=>k (.sr s.next) (jz s (.rw t (.mk r) none)) []else none
  |_=>none)
 |.store n,[.ep id m t p,w]=>bif(xV w==n)then EU id m t p w s (fun s l=>k (.tp .ni) s l)else none
 |.makeSlice z,[.x (.i _) l,.x (.i _) c]=>bif tQ (nk o.t) z&&Co o.t then(zE (sd o.t) l c).bind fun r=>k (.so s.next) (jz s (.ar o.t (.mk r) 0)) []else none
 |.slice true _ lo hi,.x .s x::r=>(match lo,hi,jE r with
  |false,false,some []=>(zK x 0 x.size).bind fun y=>k (.x .s y) s []
  |true,false,some [l]=>(zK x l x.size).bind fun y=>k (.x .s y) s []
  |false,true,some [u]=>(zK x 0 u).bind fun y=>k (.x .s y) s []
  |true,true,some [l,u]=>(zK x l u).bind fun y=>k (.x .s y) s []
  |_,_,_=>none)
 |.slice false sz lo hi,x::r=>
  (match lo,hi,jE r,FL s.heap x with
  |false,false,some [],some n=>tX sz s.heap x 0 n fun v=>k v s []
  |true,false,some [l],some n=>tX sz s.heap x l n fun v=>k v s []
  |false,true,some [u],some _=>tX sz s.heap x 0 u fun v=>k v s []
  |true,true,some [l,u],some _=>tX sz s.heap x l u fun v=>k v s []
  |_,_,_,_=>none)
 |.indexAddr none sz,[x,.x (.i _) i]=>(match x with
  |.x (.sl t) v=>bif bz t==sz then(fw i v.l.length).bind fun m=>k (.pt t (gt v.l m)) s []else none
  |.so id=>(match tT s.heap (.so id)with|some ⟨t,v,_⟩=>bif bz t==sz then(fw i v.l.length).bind fun m=>k (.ep id m t []) s []else none|none=>none)
  |.sb id _ lo t v=>bif bz t==sz then(fw i v.l.length).bind fun m=>k (.ep id (lo+m) t []) s []else none
  |.sr id=>(match fO s.heap id with|some (.rw t v _)=>bif 1==sz then(fw i v.l.length).bind fun m=>k (.ep id m (.sl t) []) s []else none|_=>none)
  |_=>none)
 |.indexAddr (some n) sz,[x,.x (.i _) i]=>(match x with
  |.op id t p=>(match qT t p with|some (.ar n' u)=>bif(n'==n)&&(bz u==sz)then(fw i n).bind fun m=>k (.op id t (p++[.ix m])) s []else none|_=>none)
  |.ep id q t p=>(match qT t p with|some (.ar n' u)=>bif(n'==n)&&(bz u==sz)then(fw i n).bind fun m=>k (.ep id q t (p++[.ix m])) s []else none|_=>none)
  |.pt (.ar n' u) v=>bif(n'==n)&&(bz u==sz)then(fw i n).bind fun m=>k (.pt u (gt v.1 m)) s []else none
  |_=>none)
 |.px,[.x .s x,.x (.i _) i]=>(UF x i).bind fun c=>k (.x (.i .u8) c) s []
 |.index g n sz,[.x (.ar n' u) v,.x (.i _) i]=>bif(n'==n)&&(bz u==sz)&&(nc u==g)&&kD u&&(g||sz==1)then(fw i n).bind fun m=>k (.x u (gt v.1 m)) s []else none
 |.append sz,[a,x]=>
  (match J_ o.t s.heap x with
  |some ⟨t,m,aA⟩=>bif(bz t==sz)&&Co t then(match a with
   |.nl 0=>(jF ([]++m.l)).bind fun r=>k (.so s.next) (jz s (.ar t (wI Sl.nil m.l r) 0)) aA
   |.x (.sl _) v=>bif Sl.fI v then((jF ([]++m.l)).bind fun r=>k (.so s.next) (jz s (.ar t (wI Sl.nil m.l r) 0)) aA)else none
   |.so id=>(match fO s.heap id with
    |some (.ar u v _)=>(match gE (.sl t) (.sl u) m with
     |some m=>(jF (v.l++m.l)).bind fun r=>k (.so s.next) (jz (ez s id none) (.ar u (wI v m.l r) 0)) (id::aA)
     |none=>none)
    |_=>none)
   |.sb id _ lo u v=>(match fO s.heap id,gE (.sl t) (.sl u) m with
    |some (.ar _ s0 _),some m=>bif iY s0.l.length (lo+(v.l.length+m.l.length))then((jF (v.l++m.l)).bind fun r=>k (.so s.next) (jz (ez s id none) (.ar u (wI v m.l r) 0)) (id::aA))else none
    |_,_=>none)
   |_=>none)else none
  |none=>none)
 |.copy sz,[a,x]=>
  (match J_ o.t s.heap x with
  |some ⟨t,m,aA⟩=>bif bz t==sz then(match a with
   |.nl 0=>k (.x (.i .i64) (0:Int)) s aA
   |.so id=>(match fO s.heap id with
    |some (.ar u v ver)=>(match gE (.sl t) (.sl u) m with
     |some m=>k (.x (.i .i64) ((min m.l.length v.l.length:Nat):Int)) (ez s id (some (.ar u (v.to (Mn v.l 0 v.l.length m.l)) (ver+1)))) (id::aA)
     |none=>none)
    |_=>none)
   |.sb id ver lo _ v=>(match fO s.heap id with
    |some (.ar u w ver')=>(match gE (.sl t) (.sl u) m with
     |some m=>bif ver'==ver then k (.x (.i .i64) ((min m.l.length v.l.length:Nat):Int)) (ez s id (some (.ar u (w.to (Mn w.l lo v.l.length m.l)) (ver+1)))) (id::aA)else none
     |none=>none)
    |_=>none)
   |_=>none)else none
  |none=>none)
 |.clear zz,[a]=>(match a with
  |.sb id ver lo _ v=>(match fO s.heap id with
   |some (.ar u w ver')=>bif(ver'==ver)&&tQ (nk u) zz&&Co u then(Oz w lo v.l.length (sd u)).bind fun w=>k (.tp .ni) (ez s id (some (.ar u w (ver+1)))) [id]else none
   |_=>none)
  |_=>none)
 |.makeMap ka va,[]=>(match o.t with
  |.mp kt vt=>bif(nc kt==ka)&&(nc vt==va)&&kD vt&&(DO kt).isSome then k (.om s.next) (jz s (.mp kt vt Mp.none)) []else none
  |_=>none)
 |.mapEntry ka ks va z,[.om id,kv]=>(match fO s.heap id with
  |some (.mp kt vt m)=>(match tM kt kv with
   |some q=>bif(nc kt==ka)&&(nc vt==va)&&decide (DO kt=some ks)&&tQ (nk vt) z&&kD vt&&(va||bz vt==1)then
     k (.tp (.co (.x vt (lU m (sd vt) q).2.1) (.co (.x (.i .i64) (lU m (sd vt) q).2.2) .ni))) (ez s id (some (.mp kt vt (lU m (sd vt) q).1))) [id]else none
   |none=>none)
  |_=>none)
 |.entryStore va n,[.om id,.x (.i _) st,w]=>(match fO s.heap id with
  |some (.mp kt vt m)=>(match tM vt w with
   |some y=>bif(nc vt==va)&&(bz vt==n)&&kD vt then(vd m st y).bind fun m=>k (.tp .ni) (ez s id (some (.mp kt vt m))) [id]else none
   |none=>none)
  |_=>none)
 |_,_=>none
@[reducible] def qu:List Ty->Type
 |[]=>Unit
 |a::r=>EA a r
where EA:Ty->List Ty->Type
 |a,[]=>El a
 |a,c::r=>El a×EA c r
def uf(u:Ty):V->Option (El u)
 |.x t v=>gE t u v
 |_=>none
def HI{α β:Type}:Option α->Option β->Option (α×β)
 |some x,some y=>some (x,y)
 |_,_=>none
def EN:(a:Ty)->(r:List Ty)->List V->Option (qu.EA a r)
 |a,[],l=>(match l with|[v]=>uf a v|_=>none)
 |a,c::r,l=>(match l with|v::l=>HI (uf a v) (EN c r l)|[]=>none)
def vP:(cs:List Ty)->List V->Option (qu cs)
 |[],[]=>some ()
 |a::r,l=>EN a r l
 |_,_=>none
def Nc:(a:Ty)->(r:List Ty)->qu.EA a r->List V
 |a,[],v=>[.x a v]
 |a,c::r,v=>.x a v.1::Nc c r v.2
def oS:(cs:List Ty)->qu cs->List V
 |[],_=>[]
 |a::r,v=>Nc a r v
inductive Sh where
 | x (t : Ty)            -- data
 | pt (t : Ty)           -- a pointer to data
 | os (t : Ty)           -- a slice of its bq
 | rw (t : Ty)           -- a di of ao of its bq
 | mp (k v : Ty)         -- a map of its bq
 | pb (t : Ty) (c : Sh)  -- a pointer to a box of its bq
 |st (c:Sh)
 |pr (a c:Sh)
 |nl (k:Nat)
 |fn (f:Nat) (l:Sh)
 |ni
 |gn
 deriving Inhabited,DecidableEq
def Ow:Sh->List Ty
 |.x t|.pt t=>[t]
 |.os t=>[.sl t]
 |.rw t=>[.sl (.sl t)]
 |.mp k v=>[.mp k v]
 |.pb _ c|.st c|.fn _ c=>Ow c
 |.pr a c=>Ow a++Ow c
 |_=>[]
def gU:List Sh->List Ty
 |[]=>[]
 |a::r=>Ow a++gU r
abbrev Wy:=List (List Sh×List Sh)
@[reducible] def vC:Wy->Type
 |[]=>Empty
 |(r,o)::w=>GB r o w
where GB:List Sh->List Sh->Wy->Type
 |r,o,[]=>qu (gU r++gU o)
 |r,o,(r',o')::w=>qu (gU r++gU o)⊕GB r' o' w
def PE{β:Type}(k:List Sh->List Sh->List V->Option β):(r o:List Sh)->(w:Wy)->vC.GB r o w->Option β
 |r,o,[],z=>k r o (oS (gU r++gU o) z)
 |r,o,(r',o')::w,z=>match z with|.inl z=>k r o (oS (gU r++gU o) z)|.inr z=>PE k r' o' w z
def Ru{β:Type}(k:List Sh->List Sh->List V->Option β):(w:Wy)->vC w->Option β
 |[],z=>nomatch z
 |(r,o)::w,z=>PE k r o w z
structure lD where
 ps:List (Bool×Sh)
 al:Wy
 ro:Bool
 j8:List Bool
 fn:qu (gU (ps.map (·.2)))->Option (vC al)
abbrev Eu:=List (Nat×lD)
def oH(h:H2):Sh->V->Option (List V×List Nat)
 |.x t,v=>match je h v with|some (w,l)=>(match tM t w with|some y=>some ([.x t y],l)|none=>none)|none=>none
 |.pt t,.pt u v=>match gE u t v with|some y=>some ([.x t y],[])|none=>none
 |.pt t,.op id u []=>(match fO h id with
  |some (.bx w c)=>bif decide (w=u)&&iq h c then(match je h c with|some (c,l)=>(match tM t c with|some y=>some ([.x t y],id::l)|none=>none)|none=>none)else none
  |some (.ib w v)=>bif decide (w=u)then(match gE w t v with|some y=>some ([.x t y],[id])|none=>none)else none
  |_=>none)
 |.pt t,.ep id n u []=>(match fO h id with
  |some (.ar w s _)|some (.im w s _)=>bif decide (w=u)then(match gE w t (gt s.l n)with|some y=>some ([.x t y],[id])|none=>none)else none
  |_=>none)
 |.nl k,.nl k'=>bif k==k' then some ([],[])else none
 |.fn f c,.fn _ f' l=>bif f==f' then oH h c l else none
 |.pr a c,.co x r=>match oH h a x,oH h c r with|some (l,i),some (m,j)=>some (l++m,i++j)|_,_=>none
 |.ni,.ni=>some ([],[])
 |_,_=>none
def Qg(t:Ty){u:Ty}(v:El (.sl u)):Option (List V×List Nat):=match(v:Sl (El u))with|.nil=>some ([.x (.sl t) Sl.nil],[])|.mk _=>none
def dY(h:H2):Sh->Bool->V->Option (List V×List Nat)
 |.os t,false,.so id=>(match fO h id with|some (.ar u s _)=>(match gE (.sl u) (.sl t) s with|some s=>some ([.x (.sl t) s],[id])|none=>none)|_=>none)
 |.os t,false,.nl 0=>some ([.x (.sl t) Sl.nil],[])
 |.rw t,false,.sr id=>(match fO h id with|some (.rw u s none)=>(match gE (.sl (.sl u)) (.sl (.sl t)) s with|some s=>some ([.x (.sl (.sl t)) s],[id])|none=>none)|_=>none)
 |.rw t,false,.nl 0=>some ([.x (.sl (.sl t)) Sl.nil],[])
 |.pb t c,false,.op id u []=>(match fO h id with|some (.bx w v)=>bif decide (w=u)&&decide (u=t)then(match dY h c false v with|some (l,i)=>some (l,id::i)|none=>none)else none|_=>none)
 |.nl k,false,.nl k'=>bif k==k' then some ([],[])else none
 |.x t,false,v=>match tM t v with|some y=>some ([.x t y],[])|none=>none
 |.st c,false,.rc l=>dY h c true l
 |.st c,false,.x (.st u) v=>dY h c true (HK u v)
 |.pr a c,true,.co x r=>match(match a,x with|.os t,.x (.sl _) v=>Qg t v|_,_=>dY h a false x),dY h c true r with|some (l,i),some (m,j)=>some (l++m,i++j)|_,_=>none
 |.ni,true,.ni=>some ([],[])
 |_,_,_=>none
def qU:Sh->Bool->List V->S2->Option (V×List V×S2)
 |.x t,false,.x u v::l,s=>bif decide (u=t)&&kD t then some (.x u v,l,{s with next:=s.next+bz t})else none
 |.os t,false,.x (.sl u) v::l,s=>bif decide (u=t)&&Co t then some (.so s.next,l,jz s (.ar u v 0))else none
 |.rw t,false,.x (.sl (.sl u)) v::l,s=>bif decide (u=t)&&Co t then some (.sr s.next,l,jz s (.rw u v none))else none
 |.pb t c,false,l,s=>
  match qU c false l {s with next:=s.next+1}with
  |some (w,l,s')=>bif eE w false t then some (.op s.next t [],l,ez s' s.next (some (.bx t w)))else none
  |none=>none
 |.nl k,false,l,s=>some (.nl k,l,{s with next:=s.next+1})
 |.st c,false,l,s=>match qU c true l s with|some (w,l,s)=>some (.rc w,l,s)|none=>none
 |.pr a c,true,l,s=>match qU a false l s with|some (x,l,s)=>(match qU c true l s with|some (r,l,s)=>some (.co x r,l,s)|none=>none)|none=>none
 |.ni,true,l,s=>some (.ni,l,s)
 |_,_,_,_=>none
def IE:List Sh->List V->S2->Option (List V×List V×S2)
 |[],l,s=>some ([],l,s)
 |a::r,l,s=>match qU a false l s with|some (x,l,s)=>(match IE r l s with|some (xs,l,s)=>some (x::xs,l,s)|none=>none)|none=>none
def oI(h:H2):List (Bool×Sh)->List V->Option (List V×List Nat×List (V×List Nat))
 |[],[]=>some ([],[],[])
 |(b,c)::r,v::vs=>
  match oI h r vs with
  |some (m,j,q)=>
   bif b then(match dY h c false v with|some (l,i)=>some (l++m,j,(v,i)::q)|none=>none)
   else(match oH h c v with|some (l,i)=>some (l++m,i++j,q)|none=>none)
  |none=>none
 |_,_=>none
def AX(h:H2)(f:Nat)(vs:List V):Eu->Option (lD×List V×List Nat×List (V×List Nat))
 |[]=>none
 |(g,sp)::r=>bif g==f then(match oI h sp.ps vs with|some (l,i,q)=>some (sp,l,i,q)|none=>AX h f vs r)else AX h f vs r
def iW:List Nat->S2->S2
 |[],s=>s
 |id::r,s=>ez (iW r s) id none
def fX{β:Type}:List Sh->List (V×List Nat)->List V->S2->(S2->Option β)->Option β
 |[],[],[],s,k=>k s
 |.nl _::r,(_,[])::q,l,s,k=>fX r q l s k
 |.gn::r,(_,i)::q,l,s,k=>fX r q l (iW i s) k
 |.os t::r,(.nl 0,[])::q,.x (.sl u) v::l,s,k=>(match gE (.sl u) (.sl t) v with|some v=>(zX v (Sl.nil:Sl (El t))).bind fun _=>fX r q l s k|none=>none)
 |.os t::r,(.so id,_)::q,.x (.sl u) v::l,s,k=>(match fO s.heap id,gE (.sl u) (.sl t) v with
  |some (.ar w old ver),some v=>(match gE (.sl t) (.sl w) v with
   |some v=>(zX v old).bind fun _=>fX r q l (ez s id (some (.ar w v (ver+1)))) k
   |none=>none)
  |_,_=>none)
 |.rw t::r,(.nl 0,[])::q,.x (.sl (.sl u)) v::l,s,k=>(match gE (.sl (.sl u)) (.sl (.sl t)) v with|some v=>(zX (v:Sl (Sl (El t))) (Sl.nil:Sl (Sl (El t)))).bind fun _=>fX r q l s k|none=>none)
 |.rw t::r,(.sr id,_)::q,.x (.sl (.sl u)) v::l,s,k=>(match fO s.heap id,gE (.sl (.sl u)) (.sl (.sl t)) v with
  |some (.rw w old _),some v=>(match gE (.sl (.sl t)) (.sl (.sl w)) v with
   |some v=>(zX (v:Sl (Sl (El w))) old).bind fun _=>fX r q l (ez s id (some (.rw w v none))) k
   |none=>none)
  |_,_=>none)
 |.pb t c::r,(.op id u [],i)::q,l,s,k=>(match fO s.heap id with
  |some _=>(match qU c false l s with
   |some (w,l,s)=>bif eE w false t&&decide (u=t)then fX r q l (ez (iW i s) id (some (.bx t w))) k else none
   |none=>none)
  |none=>none)
 |_,_,_,_,_=>none
def PX:List V->V
 |[v]=>v
 |l=>.tp (di l)
def yB:List Nat->Bool
 |[]=>true
 |a::r=>!r.contains a&&yB r
def vH:V->Option (List V)
 |.ni=>some []
 |.co a r=>bif(xV a==1)&&!sW a then(match vH r with|some l=>some (a::l)|none=>none)else none
 |_=>none
def xG{β:Type}(tb:Eu)(ro:Bool)(j8:List Bool)(f:V)(vs:List V)(s:S2)(k:V->S2->List Nat->Option β):Option β:=
 match f with
 |.fn _ fid caps=>
  match(match vH caps with|some cs=>AX s.heap fid (vs++cs) tb|none=>none)with
  |some (sp,pay,aA,q)=>
   bif(!ro||sp.ro)&&decide (sp.j8=j8)&&yB (q.flatMap (·.2))&&(q.flatMap (·.2)).all (fun i=>!aA.contains i)then
    match vP (gU (sp.ps.map (·.2))) pay with
    |some p=>(sp.fn p).bind fun z=>Ru (fun rs os l=>
     match(bif ro then some s else qn s.heap aA s)with
     |some s0=>fX os q (l.drop (gU rs).length) s0 fun s1=>
      (match IE rs (l.take (gU rs).length) s1 with
      |some (xs,_,s2)=>k (PX xs) s2 (aA++q.flatMap (·.2))
      |none=>none)
     |none=>none) sp.al z
    |none=>none
   else none
  |none=>none
 |_=>none
structure Rg where
 kn:List (Nat×Bool)
 cd:List (Nat×Nat×Bool×V)
def Qq(kn:List (Nat×Bool))(g:Nat):Option Bool:=cq kn g
def JH(s:S2)(q:Rg)(gc:Option (Nat×Bool)):Operand->Option V
 |.tmp t=>match cq q.cd t with|some (g,b,v)=>bif decide (gc=some (g,b))||decide (Qq q.kn g=some b)then(bif iq s.heap v then some v else none)else none|none=>JG s.dD s.heap (.tmp t)
 |o=>JG s.dD s.heap o
def Fw(s:S2)(q:Rg)(gc:Option (Nat×Bool)):List Operand->Option (List V)
 |[]=>some []
 |a::r=>match JH s q gc a,Fw s q gc r with|some x,some y=>some (x::y)|_,_=>none
inductive GV where
 |run
 |skip
 |Rm (g:Nat) (b:Bool) (c:Bool)
def Ux(e:List (Nat×V))(kn:List (Nat×Bool)):Option (Nat×Bool)->Option GV
 |none=>some .run
 |some (g,b)=>
  match Qq kn g with
  |some c=>some (bif c==b then .run else .skip)
  |none=>(match cq e g with
   |some (.kb c)=>some (bif c==b then .run else .skip)
   |some (.x .b c)=>some (.Rm g b c)
   |some .no=>some .skip
   |_=>none)
def Ks(s:S2)(q:Rg)(gc:Option (Nat×Bool)):List Operand->Option V
 |[.tmp g,a,b]=>match Qq q.kn g,cq s.dD g with|some c,_=>JH s q gc (bif c then a else b)|none,some (.kb c)=>JH s q gc (bif c then a else b)|none,some (.x .b c)=>(match JH s q (some (g,true)) a,JH s q (some (g,false)) b with|some x,some y=>Us c x y|_,_=>none)|_,_=>none
 |[.const (.bool c),a,b]=>JH s q gc (bif c then a else b)
 |_=>none
def FR:K->Bool
 |.pick=>true
 |_=>false
def Nf(o:OP)(s:S2)(q:Rg)(gc:Option (Nat×Bool)):Option (V×List Nat):=
 bif FR o.o.k then(match Ks s q gc o.o.args with|some v=>some (v,[])|none=>none)
 else(match Fw s q gc o.o.args with|some vs=>PM o vs s.heap|none=>none)
def tV(s:S2)(d:Option Nat)(v:V):S2:=match d with|some d=>{s with dD:=(d,v)::s.dD}|none=>s
def OA(q:Rg)(d:Option Nat):Option Rg:=match d with|none=>some q|some d=>bif q.cd.any (fun e=>e.2.1==d)||q.kn.any (fun e=>e.1==d)then none else some ⟨q.kn,q.cd.filter (fun e=>!(e.1==d))⟩
abbrev JK:=List (List Nat×List Nat)
def SG{β:Type}(tb:Eu)(o:OP)(s:S2)(q:Rg)(gc:Option (Nat×Bool))(k:V->S2->List Nat->Option β):Option β:=
 match Nf o s q gc with
 |some (v,l)=>k v s l
 |none=>
  match Fw s q gc o.o.args with
  |some vs=>
   (match o.o.k,vs with
   |.call ro j8,f::vs=>xG tb ro j8 f vs s k
   |_,vs=>part o vs s k)
  |none=>none
def M1(dr:Option Nat)(i:Nat)(s:S2):S2:=match dr with|some b=>{s with next:=b+iQ*i}|none=>s
def IS(dr:Option Nat)(i:Nat)(s:S2):Bool:=match dr with|some b=>iY s.next (b+iQ*(i+1))|none=>true
def Rv(d:Option Nat)(r:List OP):Bool:=
 match d with
 |some d=>r.any fun o=>match o.o.guard with|some (g,_)=>kR g d|none=>false
 |none=>false
def mV{β:Type}(tb:Eu)(dr:Option Nat):List OP->Nat->S2->Rg->JK->(S2->JK->Option β)->Option β
 |[],_,s,_,tr,k=>k s tr
 |o::r,i,s0,q,tr,k=>
  let s:=M1 dr i s0
  let go:Rg->Option β:=fun q=>SG tb o s q o.o.guard fun v s1 l=>
   bif IS dr i s1 then(match OA q o.o.dst with
    |some q=>mV tb dr r (i+1) (tV s1 o.o.dst v) q (tr++[(l,s1.wo.take (s1.wo.length-s.wo.length))]) k
    |none=>none)else none
  let no:Rg->Option β:=fun q=>match OA q o.o.dst with|some q=>mV tb dr r (i+1) (tV s o.o.dst .no) q (tr++[([],[])]) k|none=>none
  match Ux s.dD q.kn o.o.guard with
  |none=>none
  |some .run=>go q
  |some .skip=>no q
  |some (.Rm g b c)=>
   match(bif Rv o.o.dst r then none else Nf o s q (some (g,b)))with
   |some (v,l)=>
    (match OA q o.o.dst,o.o.dst with
    |some q,some d=>bif kR g d then none else mV tb dr r (i+1) (tV s (some d) .gn) ⟨q.kn,(d,g,b,v)::q.cd⟩ (tr++[(l,[])]) k
    |_,_=>none)
   |none=>(match b with
    |true=>bif c then go ⟨(g,true)::q.kn,q.cd⟩else no ⟨(g,false)::q.kn,q.cd⟩
    |false=>bif c then no ⟨(g,true)::q.kn,q.cd⟩else go ⟨(g,false)::q.kn,q.cd⟩)
inductive JV where
 |x (t:Ty)
 |pt (t:Ty)
 |so (j:Nat)
 |sr (j:Nat)
 |om (j:Nat)
 |op (j:Nat) (t:Ty) (p:List Nat)
 |nl (k:Nat)
 |fn (z:Bool) (f:Nat) (l:JV)
 |rc (l:JV)
 |ni
 |co (a r:JV)
 |sm
 |gn
 deriving Inhabited
inductive JO where
 |ar (t:Ty)
 |bx (t:Ty) (c:JV)
 |mp (k v:Ty)
 |rw(t:Ty)
 deriving Inhabited
structure J where
 vs:List (Nat×JV):=[]
 gs:JV:=.sm
 os:List JO:=[]
 kl:List Nat:=[]
 deriving Inhabited
def Jk:JV->List Ty
 |.x t|.pt t=>[t]
 |.fn _ _ l|.rc l=>Jk l
 |.co a r=>Jk a++Jk r
 |_=>[]
def Po:List (Nat×JV)->List Ty
 |[]=>[]
 |(_,a)::r=>Jk a++Po r
def UC:JO->List Ty
 |.ar t=>[.sl t]
 |.bx _ c=>Jk c
 |.mp k v=>[.mp k v]
 |.rw t=>[.sl (.sl t)]
def Pp:List JO->List Ty
 |[]=>[]
 |a::r=>UC a++Pp r
def pM(j:J):List Ty:=Po j.vs++(Jk j.gs++Pp j.os)
structure Bd where
 j:Nat
 id:Option Nat
def ME:List Bd->Nat->Option Bd
 |[],_=>none
 |b::r,j=>bif b.j==j then some b else ME r j
def vy(m:List Bd)(b:Bd):Option (List Bd):=
 match ME m b.j with
 |none=>bif(match b.id with|some i=>m.all (fun c=>match c.id with|some i'=>!(i'==i)|none=>true)|none=>true)then some (b::m)else none
 |some c=>(match b.id,c.id with
  |some i,some i'=>bif i==i' then some m else none
  |_,_=>none)
def C9:pO->Option (List Nat)
 |[]=>some []
 |.fd i::p=>match C9 p with|some l=>some (i::l)|none=>none
 |.ix _::_=>none
def dv:JV->Bool->V->List Bd->Option (List V×List Bd)
 |.x t,false,v,m=>match tM t v with|some y=>some ([.x t y],m)|none=>none
 |.pt t,false,.pt u v,m=>match gE u t v with|some y=>some ([.x t y],m)|none=>none
 |.so j,false,.so id,m=>match vy m ⟨j,some id⟩with|some m=>some ([],m)|none=>none
 |.so j,false,.nl 0,m=>match vy m ⟨j,none⟩with|some m=>some ([],m)|none=>none
 |.so j,false,.x (.sl _) v,m=>bif Sl.fI v then(match vy m ⟨j,none⟩with|some m=>some ([],m)|none=>none)else none
 |.sr j,false,.sr id,m=>match vy m ⟨j,some id⟩with|some m=>some ([],m)|none=>none
 |.om j,false,.om id,m=>match vy m ⟨j,some id⟩with|some m=>some ([],m)|none=>none
 |.op j t p,false,.op id u q,m=>bif decide (u=t)&&decide (C9 q=some p)then(match vy m ⟨j,some id⟩with|some m=>some ([],m)|none=>none)else none
 |.nl k,false,.nl k',m=>bif k==k' then some ([],m)else none
 |.fn z f l,false,.fn z' f' l',m=>bif(z==z')&&(f==f')then dv l true l' m else none
 |.rc l,false,.rc l',m=>dv l true l' m
 |.rc l,false,.x (.st t) v,m=>dv l true (HK t v) m
 |.ni,true,.ni,m=>some ([],m)
 |.co a r,true,.co x y,m=>match dv a false x m with|some (l,m)=>(match dv r true y m with|some (l',m)=>some (l++l',m)|none=>none)|none=>none
 |_,_,_,_=>none
def A7(s:S2):List (Nat×JV)->List Bd->Option (List V×List Bd)
 |[],m=>some ([],m)
 |(t,a)::r,m=>match JG s.dD s.heap (.tmp t)with|some v=>(match dv a false v m with|some (l,m)=>(match A7 s r m with|some (l',m)=>some (l++l',m)|none=>none)|none=>none)|none=>none
def Mz(h:H2)(j:Nat)(o:JO)(m:List Bd):Option (List V×List Bd):=
 match ME m j with
 |some b=>(match o,b.id with
  |.ar t,none=>bif Co t then some ([.x (.sl t) Sl.nil],m)else none
  |.ar t,some id=>(match fO h id with|some (.ar u s _)=>(match gE (.sl u) (.sl t) s with|some s=>some ([.x (.sl t) s],m)|none=>none)|_=>none)
  |.rw t,some id=>(match fO h id with|some (.rw u s none)=>(match gE (.sl (.sl u)) (.sl (.sl t)) s with|some s=>some ([.x (.sl (.sl t)) s],m)|none=>none)|_=>none)
  |.bx t c,some id=>(match fO h id with|some (.bx u v)=>bif decide (u=t)then dv c false v m else none|_=>none)
  |.mp k v,some id=>(match fO h id with|some (.mp k' v' y)=>(match gE (.mp k' v') (.mp k v) y with|some y=>some ([.x (.mp k v) y],m)|none=>none)|_=>none)
  |_,_=>none)
 |none=>none
def A8(h:H2):List JO->Nat->List Bd->Option (List V×List Bd)
 |[],_,m=>some ([],m)
 |o::r,j,m=>match Mz h j o m with|some (l,m)=>(match A8 h r (j+1) m with|some (l',m)=>some (l++l',m)|none=>none)|none=>none
def rM:V->V->Bool
 |.so i,.so j=>i==j
 |.sr i,.sr j=>i==j
 |.op i t [],.op j u []=>(i==j)&&decide (t=u)
 |.nl k,.nl l=>k==l
 |.gn,.gn=>true
 |_,_=>false
def yd:V->V->Bool
 |.ni,.ni=>true
 |.co a r,.co x y=>rM a x&&yd r y
 |_,_=>false
def pN(h:H2):JV->V->V->List Bd->Option (List V×List Bd)
 |.sm,g0,g,m=>bif yd g0 g then some ([],m)else none
 |.ni,.ni,.ni,m=>some ([],m)
 |.co a r,.co x0 y0,.co x y,m=>match a with|.sm=>bif rM x0 x then pN h r y0 y m else none|.gn=>pN h r y0 y m|a=>bif iq h x then(match dv a false x m with|some (l,m)=>(match pN h r y0 y m with|some (l',m)=>some (l++l',m)|none=>none)|none=>none)else none
 |_,_,_,_=>none
def Ab:List (Nat×JV)->S2->S2
 |[],s=>s
 |(t,.so _)::r,s=>(match cq s.dD t with
  |some (.sb id ver _ u x)=>(match fO s.heap id with
   |some (.ar _ _ v)=>bif kD u&&v==ver then Ab r ⟨(t,.so s.next)::s.dD,(s.next,some (.ar u x 0))::(id,none)::s.heap,s.next+1,s.next::id::s.wo,s.gh⟩else Ab r s
   |_=>Ab r s)
  |_=>Ab r s)
 |_::r,s=>Ab r s
def A_(j:J)(s0:S2)(s:S2):Option (List V):=
 match A7 s j.vs []with
 |some (l1,m)=>match pN s.heap j.gs s0.gh s.gh m with
  |some (l2,m)=>(match A8 s.heap j.os 0 m with
   |some (l3,m)=>bif s.wo.all (fun i=>iY s0.next i||j.kl.contains i)&&m.all (fun b=>me b.j j.os.length&&(match b.id with|some i=>iY s0.next i||j.kl.contains i|none=>true))then some (l1++(l2++l3))else none
   |none=>none)
  |none=>none
 |none=>none
def xm(j:J)(s0:S2)(s:S2):Option (List V):=match Ab j.vs s with|⟨e,h,n,w,g⟩=>A_ j s0 ⟨e,h,n,w,g⟩
def iP(b:Nat):JV->Bool->List V->V->Option (V×List V)
 |.x t,false,.x u v::l,_=>bif decide (u=t)&&kD u then some (.x u v,l)else none
 |.pt t,false,.x u v::l,_=>bif decide (u=t)&&kD u then some (.pt u v,l)else none
 |.so j,false,l,_=>some (.so (b+j),l)
 |.sr j,false,l,_=>some (.sr (b+j),l)
 |.om j,false,l,_=>some (.om (b+j),l)
 |.op j t p,false,l,_=>some (.op (b+j) t (p.map .fd),l)
 |.nl k,false,l,_=>some (.nl k,l)
 |.fn z f c,false,l,_=>match iP b c true l .ni with|some (w,l)=>some (.fn z f w,l)|none=>none
 |.rc c,false,l,_=>match iP b c true l .ni with|some (w,l)=>some (.rc w,l)|none=>none
 |.ni,true,l,_=>some (.ni,l)
 |.co a r,true,l,.co x y=>match iP b a false l x with|some (v,l)=>(match iP b r true l y with|some (w,l)=>some (.co v w,l)|none=>none)|none=>none
 |.co a r,true,l,_=>match iP b a false l .gn with|some (v,l)=>(match iP b r true l .ni with|some (w,l)=>some (.co v w,l)|none=>none)|none=>none
 |.sm,_,l,v=>some (v,l)
 |.gn,false,l,_=>some (.gn,l)
 |_,_,_,_=>none
def GR(b:Nat):List (Nat×JV)->List V->Option (List (Nat×V)×List V)
 |[],l=>some ([],l)
 |(t,a)::r,l=>match iP b a false l .gn with|some (v,l)=>(match GR b r l with|some (e,l)=>some ((t,v)::e,l)|none=>none)|none=>none
def Fa(b:Nat):JO->List V->Option (O×List V)
 |.ar t,.x (.sl u) v::l=>bif decide (u=t)then some (.ar u v 0,l)else none
 |.rw t,.x (.sl (.sl u)) v::l=>bif decide (u=t)&&Co t then some (.rw u v none,l)else none
 |.bx t c,l=>match iP b c false l .gn with|some (w,l)=>bif eE w false t then some (.bx t w,l)else none|none=>none
 |.mp k v,.x (.mp k' v') m::l=>bif decide (k'=k)&&decide (v'=v)then some (.mp k' v' m,l)else none
 |_,_=>none
def CT(b:Nat):List JO->Nat->List V->Option (H2×List V)
 |[],_,l=>some ([],l)
 |o::r,j,l=>match Fa b o l with|some (o,l)=>(match CT b r (j+1) l with|some (h,l)=>some ((b+j,some o)::h,l)|none=>none)|none=>none
def uw(j:J)(ds:List Nat)(s0:S2)(l:List V):Option S2:=
 match GR s0.next j.vs l with
 |some (e,l)=>(match iP s0.next j.gs true l s0.gh with
  |some (g,l)=>(match CT s0.next j.os 0 l with
   |some (h,_)=>some ⟨e++ds.map (fun t=>(t,V.gn))++s0.dD,h++j.kl.map (fun i=>(i,none))++s0.heap,s0.next+j.os.length,h.map (·.1)++j.kl++s0.wo,g⟩
   |none=>none)
  |none=>none)
 |none=>none
abbrev Ex:=List (rU×J)
@[reducible] def Ew:Ex->Type
 |[]=>Empty
 |(_,j)::r=>MQ j r
where MQ:J->Ex->Type
 |j,[]=>qu (pM j)
 |j,(_,j')::r=>qu (pM j)⊕MQ j' r
def Lu(s0:S2)(o:rU)(s:S2):(o':rU)->(j:J)->(r:Ex)->Option (Ew.MQ j r)
 |o',j,[]=>bif decide (o=o')then(match xm j s0 s with|some l=>vP (pM j) l|none=>none)else none
 |o',j,(o2,j2)::r=>bif decide (o=o')then(match xm j s0 s with|some l=>(match vP (pM j) l with|some p=>some (.inl p)|none=>none)|none=>none)
  else(match Lu s0 o s o2 j2 r with|some x=>some (.inr x)|none=>none)
def IR(s0:S2)(o:rU)(s:S2):(e:Ex)->Option (Ew e)
 |[]=>none
 |(o',j)::r=>Lu s0 o s o' j r
def P3{β:Type}(ds:List Nat)(s0:S2)(k:rU->S2->Option β):(o:rU)->(j:J)->(r:Ex)->Ew.MQ j r->Option β
 |o,j,[],p=>match uw j ds s0 (oS (pM j) p)with|some s=>k o s|none=>none
 |o,j,(o2,j2)::r,x=>match x with|.inl p=>(match uw j ds s0 (oS (pM j) p)with|some s=>k o s|none=>none)|.inr y=>P3 ds s0 k o2 j2 r y
def Ku{β:Type}(ds:List Nat)(s0:S2)(k:rU->S2->Option β):(e:Ex)->Ew e->Option β
 |[],x=>nomatch x
 |(o,j)::r,x=>P3 ds s0 k o j r x
inductive C2 where
 |skip
 |NE (ops:List OP) (dr:Option (List (Nat×Nat))) (jn:Option J)
 |seq (a b:C2) (e:Ex)
 |cond (c:Operand) (a b:C2)
 |block (id:Nat) (a:C2)
 |loop (j:J) (e:Ex) (a:C2)
 |exit (id:Nat)
 |ret
 |gj
 deriving Inhabited
def mH:C2->List Nat
 |.NE ops _ _=>ops.filterMap (·.o.dst)
 |.seq a b _|.cond _ a b=>mH a++mH b
 |.block _ a|.loop _ _ a=>mH a
 |_=>[]
def Lq:K->Bool
 |.lookup _ _ _ _ _=>true
 |_=>false
def O2(ops:List OP)(tr:JK)(i j:Nat):Bool:=
 match ops[i]?,tr[i]?with
 |some o,some ([id],[])=>Lq o.o.k&&((tr.take j).drop (i+1)).all (fun x=>!x.2.contains id)
 |_,_=>false
def QJ(ops:List OP)(tr:JK)(dyn:List (Nat×Nat)):Bool:=
 dyn.all fun p=>bif iY 1000 p.2 then(match tr[p.1]?,tr[p.2-1000]?with|some a,some b=>lZ a b||O2 ops tr p.1 (p.2-1000)|_,_=>true)
  else(match tr[p.1]?,tr[p.2]?with|some a,some b=>lZ a b|_,_=>true)
def Ra(s:S2)(id:Nat):Option S2:=
 match fO s.heap id with
 |some (.rw t v (some (m,id2)))=>(match fO s.heap id2 with
  |some (.ar u r _)=>(match gE (.sl u) (.sl t) r with
   |some r=>some (ez (ez s id2 none) id (some (.rw t (.mk (v.l.set m r)) none)))
   |none=>none)
  |_=>none)
 |_=>some s
def Cj:List Nat->S2->Option S2
 |[],s=>some s
 |id::r,s=>match Ra s id with|some s=>Cj r s|none=>none
def Rb(s s':S2):Option S2:=Cj (s'.wo.take (s'.wo.length-s.wo.length)) s'
def Hn{β:Type}(tb:Eu)(ops:List OP)(dr:Option (List (Nat×Nat)))(s:S2)(k:S2->Option β):Option β:=match dr with|none=>mV tb none ops 0 s ⟨[],[]⟩ [] fun s' _=>(Rb s s').bind k|some dyn=>mV tb (some s.next) ops 0 s ⟨[],[]⟩ [] fun s' tr=>bif QJ ops tr dyn then(Rb s {s' with next:=s.next+iQ*ops.length}).bind k else none
def xk{β:Type}(tb:Eu):C2->S2->(rU->S2->Option β)->Option β
 |.skip,s,k=>k .normal s
 |.NE ops dr none,s,k=>Hn tb ops dr s fun s=>k .normal s
 |.NE ops dr (some j),s,k=>(Hn tb ops dr {s with wo:=[]} fun s'=>match xm j s s' with|some l=>vP (pM j) l|none=>none).bind fun p=>match uw j (ops.filterMap (·.o.dst)) s (oS (pM j) p)with|some s=>k .normal s|none=>none
 |.seq a b [],s,k=>xk tb a s fun o s=>match o with|.normal=>xk tb b s k|o=>k o s
 |.seq a b (e::r),s,k=>(xk tb a {s with wo:=[]} fun o s'=>IR s o s' (e::r)).bind fun x=>Ku (mH a) s (fun o s=>match o with|.normal=>xk tb b s k|o=>k o s) (e::r) x
 |.cond c a b,s,k=>(match JG s.dD s.heap c with
  |some (.kb t)=>bif t then xk tb a s k else xk tb b s k
  |some (.x .b t)=>bif t then xk tb a s k else xk tb b s k
  |_=>none)
 |.block id a,s,k=>xk tb a s fun o s=>match o with|.exit i=>k (bif i==id then .normal else .exit i) s|o=>k o s
 |.loop j e a,s,k=>
  bif e.all (fun x=>j.kl.all fun i=>x.2.kl.contains i)then(match xm j s {s with wo:=[]}with
  |some l=>(match vP (pM j) l with
   |some p0=>(bE (fun p=>match uw j (mH a) s (oS (pM j) p)with
     |some s1=>xk tb a {s1 with wo:=[]} fun o s'=>(match o with
      |.normal=>(match xm j s s' with|some l=>(match vP (pM j) l with|some q=>some (Sum.inl q)|none=>none)|none=>none)
      |o=>(match IR s o s' e with|some x=>some (Sum.inr x)|none=>none))
     |none=>none) p0).bind fun x=>Ku (mH a) s k e x
   |none=>none)
  |none=>none)else none
 |.exit id,s,k=>k (.exit id) s
 |.ret,s,k=>k .ret s
 |.gj,_,_=>none
def eM(P:Program):Nat->TypeId->Ty
 |0,_=>.o 9
 |n+1,t=>match P.underlying t with|some (.int k)=>.i k|some .bool=>.b|some .string=>.s|some (.float k)=>.f k|some (.slice e)=>.sl (eM P n e)|some (.map k v)=>.mp (eM P n k) (eM P n v)|some (.struct fs)=>.st (So (fs.toList.map fun f=>eM P n f.type))|some (.array m e)=>.ar m (eM P n e)|some (.pointer _)=>.o 1|some (.func ..)=>.o 2|_=>.o 4
where So:List Ty->Ty
 |[]=>.un
 |[t]=>t
 |t::r=>.pr t (So r)
def Je:Nat:=12
def QG(P:Program)(t:TypeId):Ty:=match P.underlying t with|some (.slice e)=>eM P Je e|some (.array _ e)=>eM P Je e|_=>.o 9
def Pf(P:Program):Op->Ty×List Nat
 |.alloc e=>(eM P Je e,[])
 |.box t _=>(eM P Je t,[])
 |.build t parts=>(eM P Je t,parts.toList.map (·.1))
 |.buildSlice t _ parts=>(QG P t,parts.toList.map (·.1))
 |.fieldAddr _ _ f=>(.o 9,[f])
 |.field _ _ f=>(.o 9,[f])
 |.makeSlice t _ _=>(QG P t,[])
 |.makeMap t _=>(eM P Je t,[])
 |.call c=>(match c.callee,c.argTypes.toList with|.builtin _,t::_=>QG P t|_,_=>.o 9,[])
 |_=>(.o 9,[])
def P_(P:Program)(dg:Ah)(nt:Nat)(all:Array Oper)(o:Oper):OP:=⟨gw P dg nt all o,(Pf P o.op).1,(Pf P o.op).2⟩
structure An where
 j:Option J:=none
 e:Ex:=[]
 deriving Inhabited
def pC(P:Program)(dg:Ah)(nt:Nat)(an:List (Nat×An)):Code->Nat->C2×Nat
 |.skip,n=>(.skip,n)
 |.region _ ops draw,n=>
  (if draw then(if yy (MM ops.toList []) ops.toList 0&&x_ (MM ops.toList []) (ops.toList.map (gw P dg nt ops)) 0&&decide (ops.toList.length<=1000)
   then .NE (ops.toList.map (P_ P dg nt ops)) (some (sO (MM ops.toList []) (ops.toList.map (gw P dg nt ops)) 0)) ((cq an n).bind (·.j))else .gj)
   else .NE (ops.toList.map (P_ P dg nt ops)) none ((cq an n).bind (·.j)),n+1)
 |.seq a b,n=>
  let x:=pC P dg nt an a (n+1);let y:=pC P dg nt an b x.2
  (.seq x.1 y.1 (match cq an n with|some w=>w.e|none=>[]),y.2)
 |.cond c a b,n=>let x:=pC P dg nt an a n;let y:=pC P dg nt an b x.2;(.cond c x.1 y.1,y.2)
 |.block id a,n=>let x:=pC P dg nt an a n;(.block id x.1,x.2)
 |.loop a,n=>
  let x:=pC P dg nt an a (n+1)
  (match cq an n with|some ⟨some j,e⟩=>.loop j e x.1|_=>.gj,x.2)
 |.scope a,n=>pC P dg nt an a n
 |.label _,n=>(.skip,n)
 |.exit id,n=>(.exit id,n)
 |.ret,n=>(.ret,n)
 |_,n=>(.gj,n)
structure F2 where
 np:Nat
 kF:List RV
 body:C2
def A6(P:Program)(dg:Ah)(f np:Nat)(an:List (Nat×An)):Option F2:=
 match P.funcs[f]?with
 |none=>none
 |some g=>
  match g.body with
  |none=>none
  |some code=>
   if(g.name== "runtime.NumGoroutine")=false/\np<=g.ntmps/\g.ntmps<1000000000 then
    match Av P g.results.toList with|some kF=>some ⟨np,kF,(pC P dg g.ntmps an code 0).1⟩|none=>none
   else none
def Cz:Sh->List V->Option (V×List V)
 |.ni,l=>some (.ni,l)
 |.pr (.pt t) c,.x u v::l=>bif decide (u=t)&&kD t then(match Cz c l with|some (w,l)=>some (.co (.pt u v) w,l)|none=>none)else none
 |_,_=>none
def sN:List (Bool×Sh)->Nat->List V->S2->Option (List (Nat×V)×S2)
 |[],_,[],s=>some ([],s)
 |(false,.x t)::r,i,.x u v::l,s=>bif decide (u=t)&&kD t then(match sN r (i+1) l s with|some (e,s)=>some ((i,.x u v)::e,s)|none=>none)else none
 |(false,.pt t)::r,i,.x u v::l,s=>bif decide (u=t)&&kD t then(match sN r (i+1) l s with|some (e,s)=>some ((i,.pt u v)::e,s)|none=>none)else none
 |(false,.nl k)::r,i,l,s=>(match sN r (i+1) l s with|some (e,s)=>some ((i,.nl k)::e,s)|none=>none)
 |(false,.fn f c)::r,i,l,s=>(match Cz c l with|some (w,l)=>(match sN r (i+1) l s with|some (e,s)=>some ((i,.fn true f w)::e,s)|none=>none)|none=>none)
 |(true,c)::r,i,l,s=>(match qU c false l s with
  |some (w,l,s)=>(match sN r (i+1) l s with|some (e,s)=>some ((i,w)::e,{s with gh:=.co w s.gh})|none=>none)
  |none=>none)
 |_,_,_,_=>none
def QF(ps:List (Bool×Sh))(l:List V):Option S2:=
 match sN ps 0 l ⟨[],[],0,[],.ni⟩with
 |some (e,s)=>some {s with dD:=e}
 |none=>none
def NB(s:S2):RV->Option V
 |.tmp t=>JG s.dD s.heap (.tmp t)
 |.cell t g n=>match JG s.dD s.heap (.tmp t)with|some p=>(match yJ s.heap p with|some (w,_)=>bif Gp s.heap g n w then some w else none|none=>none)|none=>none
def NC(h:H2):Sh->V->Option (List V×List Nat)
 |.x t,v=>match je h v with|some (w,l)=>(match tM t w with|some y=>some ([.x t y],l)|none=>none)|none=>none
 |.os t,.sb id _ _ u r=>(match fO h id with|some (.ar _ _ _)=>(match gE (.sl u) (.sl t) r with|some s=>some ([.x (.sl t) s],[id])|none=>none)|_=>none)
 |c,v=>dY h c false v
def TJ(h:H2):Sh->V->Option (List V×List Nat)
 |.gn,_=>some ([],[])
 |c,v=>bif iq h v then dY h c false v else none
def Ay(h:H2):List Sh->List V->Option (List V×List Nat)
 |[],[]=>some ([],[])
 |c::r,v::vs=>match NC h c v,Ay h r vs with|some (l,i),some (m,j)=>some (l++m,i++j)|_,_=>none
 |_,_=>none
def Ax(h:H2):List Sh->List V->Option (List V×List Nat)
 |[],[]=>some ([],[])
 |c::r,v::vs=>match TJ h c v,Ax h r vs with|some (l,i),some (m,j)=>some (l++m,i++j)|_,_=>none
 |_,_=>none
def N2{α β:Type}(f:α->Option β):List α->Option (List β)
 |[]=>some []
 |a::r=>match f a,N2 f r with|some x,some y=>some (x::y)|_,_=>none
def I3(kF:List RV)(rs os:List Sh)(s:S2):Option (List V):=
 match N2 (NB s) kF with
 |some vs=>match Ay s.heap rs vs,Ax s.heap os (Am s.gh)with|some (l,i),some (m,j)=>bif yB (i++j)then some (l++m)else none|_,_=>none
 |none=>none
def I4(kF:List RV)(s:S2):(r o:List Sh)->(w:Wy)->Option (vC.GB r o w)
 |r,o,[]=>match I3 kF r o s with|some l=>vP (gU r++gU o) l|none=>none
 |r,o,(r',o')::w=>match I3 kF r o s with|some l=>(match vP (gU r++gU o) l with|some z=>some (.inl z)|none=>none)|none=>(match I4 kF s r' o' w with|some z=>some (.inr z)|none=>none)
def Oi(kF:List RV)(s:S2):(w:Wy)->Option (vC w)
 |[]=>none
 |(r,o)::w=>I4 kF s r o w
def Sa(tb:Eu)(F:Option F2)(ps:List (Bool×Sh))(al:Wy)(p:qu (gU (ps.map (·.2)))):Option (vC al):=
 match F with
 |some F=>
  match QF ps (oS _ p)with
  |some s=>xk tb F.body s fun o s=>match o with|.exit _=>none|_=>Oi F.kF s al
  |none=>none
 |none=>none
theorem gK{α β:Type}{f:α->List β}{n:Nat}(h:∀a,(f a).length=n)(l:List α):(l.flatMap f).length=l.length*n:=by induction l with|nil=>simp|cons a l ih=>simp[bi,h,ih,bN];omega
theorem bJ:∀(t:Ty)(v:El t),(aR t v).length=bz t:=by intro t;induction t with|pr a c iha ihc=>intro v;simp[aR,bz,iha,ihc]|st t ih=>intro v;simp[aR,bz,ih]|ar n t ih=>intro v;rw[aR,gK ih,v.2];rfl|_=>intro v;rfl
theorem y_{α β:Type}[Inhabited α]{f:α->List β}{n:Nat}(h:∀a,(f a).length=n):∀(l:List α)(k:Nat),k<l.length->((l.flatMap f).drop (k*n)).take n=f (gt l k):=by
 intro l;induction l with
 |nil=>intro k hk;simp at hk
 |cons a l ih=>
  intro k hk;cases k with
  |zero=>simp[gt,h]
  |succ k=>
   have e:(k+1)*n=(f a).length+k*n:=by rw[h,bN];omega
   rw[bi,e,<-dO,ew (au _),fD,br,ih k (by simpa using hk)];rfl
theorem LW{α β:Type}{f:α->List β}{n:Nat}(h:∀a,(f a).length=n):∀(l:List α)(k:Nat)(x:α),k<l.length->(l.set k x).flatMap f=aU (l.flatMap f) (k*n) (f x):=by
 intro l;induction l with
 |nil=>intro k x hk;simp at hk
 |cons a l ih=>
  intro k x hk;cases k with
  |zero=>
   simp only[List.set_cons_zero,bi,aU,Nat.zero_mul,List.take_zero,br,Nat.zero_add,h];have:(f a++l.flatMap f).drop n=l.flatMap f:=by rw[<-h a,ew (au _),fD,br]
   rw[this]
  |succ k=>
   have e:(k+1)*n=(f a).length+k*n:=by rw[h,bN];omega
   simp only[List.set_cons_succ,bi,aU,e,List.take_length_add_append,cM];rw[<-dO,ew (au _),fD,br,ih k x (by simpa using hk)];simp[aU]
theorem du{t u:Ty}{v:El t}{y:El u}(h:gE t u v=some y):∃e:t=u,y=e▸v:=by
 unfold gE at h;split at h
 .rename_i e;exact⟨e,(aa h).symm⟩
 .simp at h
theorem wC{t u:Ty}{v:El t}{y:El u}(h:gE t u v=some y):aR u y=aR t v/\t=u:=by obtain⟨rfl,rfl⟩:=du h;exact⟨rfl,rfl⟩
theorem qI:∀(t:Ty)(v:El t)(i:Nat)(w:V),z8 t v i=some w->∃u y,w=.x u y/\Cq t i=some u/\oR t i+bz u<=bz t/\((aR t v).drop (oR t i)).take (bz u)=aR u y:=by
 intro t;induction t with
 |pr a c iha ihc=>intro v i w h;cases i with|zero=>obtain rfl:=aa h;refine⟨a,v.1,rfl,rfl,by simp[oR,bz],?_⟩;simp[oR,aR,bJ]|succ i=>obtain⟨u,y,rfl,h1,h2,h3⟩:=ihc v.2 i w h;refine⟨u,y,rfl,h1,by simp only[oR,bz];omega,?_⟩;simp only[oR,aR];rw[<-dO,<-bJ a v.1,ew (au _),fD,br,h3]
 |_=>intro v i w h;cases i with|zero=>obtain rfl:=aa h;exact⟨_,v,rfl,rfl,by simp[oR],by simp[oR,dN,bJ]⟩|succ i=>simp[z8]at h
theorem Qv:∀(t:Ty)(i:Nat)(u:Ty),Cq t i=some u->oR t i+bz u<=bz t:=by
 intro t;induction t with
 |pr a c iha ihc=>intro i u h;cases i with|zero=>obtain rfl:=aa h;simp[oR,bz]|succ i=>have:=ihc i u h;simp only[oR,bz];omega
 |_=>intro i u h;cases i with|zero=>obtain rfl:=aa h;simp[oR]|succ i=>simp[Cq]at h
theorem te{α:Type}{a b p:List α}{off:Nat}:aU (a++b) (a.length+off) p=a++aU b off p:=by simp only[aU,List.take_length_add_append,cM,aJ];rw[<-dO,ew (au _),fD,br]
theorem s_{α:Type}{a b p:List α}{off:Nat}(h:off+p.length<=a.length):aU (a++b) off p=aU a off p++b:=by simp only[aU,aJ];rw[List.take_append_of_le_length (by omega),ew h]
theorem mx{α:Type}{b p:List α}(h:p.length=b.length):aU b 0 p=p:=by simp[aU,h]
theorem up{α:Type}{b p:List α}{off:Nat}(h:off+p.length<=b.length):(aU b off p).length=b.length:=by simp only[aU,az,List.length_take,List.length_drop];omega
theorem uo{α β:Type}{f:α->β}{b p:List α}{off:Nat}:(aU b off p).map f=aU (b.map f) off (p.map f):=by simp[aU]
theorem qc{α:Type}{b c p:List α}{o1 o2 n:Nat}(hc:(b.drop o1).take n=c)(h1:o1+n<=b.length)(h2:o2+p.length<=n):aU b o1 (aU c o2 p)=aU b (o1+o2) p:=by
 have hcl:c.length=n:=by rw[<-hc];simp;omega
 have e:b=b.take o1++(c++b.drop (o1+n)):=by rw[<-hc,<-dO,kJ,kJ]
 have hl:(b.take o1).length=o1:=by simp;omega
 have hs:(aU c o2 p).length=n:=by rw[up (by omega),hcl]
 have r2:aU b (o1+o2) p=b.take o1++(aU c o2 p++b.drop (o1+n)):=by
  conv=>lhs;rw[e]
  have:=te (a:=b.take o1) (b:=c++b.drop (o1+n)) (p:=p) (off:=o2);rw[hl]at this;rw[this,s_ (by omega)]
 rw[r2];show b.take o1++aU c o2 p++b.drop (o1+(aU c o2 p).length)=_;rw[hs,aJ]
theorem Jf:∀(t:Ty)(l r:List Value)(x:El t),uH t l=some (x,r)->l.all d_=true->∃p,l=p++r/\(aR t x)=p.map D.lit:=by
 intro t;induction t with
 |pr a c iha ihc=>
  intro l r x h hp;simp only[uH]at h;split at h
  .rename_i y l1 h1;split at h
   .rename_i z l2 h2;obtain⟨rfl,rfl⟩:=ad (aa h);obtain⟨p,rfl,e1⟩:=iha _ _ _ h1 hp;obtain⟨q,rfl,e2⟩:=ihc _ _ _ h2 (by rw[List.all_append,ai]at hp;exact hp.2);exact⟨p++q,by simp,by simp[aR,e1,e2]⟩
   .simp at h
  .simp at h
 |st t ih=>intro l r x h hp;exact ih l r x h hp
 |ar n t ih=>
  intro l r x h hp;simp only[uH]at h
  have key:∀(m:Nat)(l r:List Value)(x:Arr m (El t)),Oq (uH t) m l=some (x,r)->l.all d_=true->∃p,l=p++r/\x.1.flatMap (aR t)=p.map D.lit:=by
   intro m;induction m with
   |zero=>intro l r x h hp;obtain⟨rfl,rfl⟩:=ad (aa h);exact⟨[],rfl,rfl⟩
   |succ m ihn=>
    intro l r x h hp;simp only[Oq]at h;split at h
    .rename_i y l1 h1;split at h
     .rename_i v l2 h2;obtain⟨rfl,rfl⟩:=ad (aa h);obtain⟨p,rfl,e1⟩:=ih _ _ _ h1 hp;obtain⟨q,rfl,e2⟩:=ihn _ _ _ h2 (by rw[List.all_append,ai]at hp;exact hp.2);exact⟨p++q,by simp,by simp[bi,e1,e2]⟩
     .simp at h
    .simp at h
  exact key n l r x h hp
 |i k=>
  intro l r x h hp;simp only[uH]at h;unfold Si at h;split at h
  .split at h
   .rename_i e;subst e;obtain⟨rfl,rfl⟩:=ad (aa h);exact⟨[_],rfl,rfl⟩
   .simp at h
  .simp at h
 |b=>
  intro l r x h hp;simp only[uH]at h;unfold Sj at h;split at h
  .obtain ⟨rfl,rfl⟩:=ad (aa h);exact⟨[_],rfl,rfl⟩
  .simp at h
 |s=>
  intro l r x h hp;simp only[uH]at h;unfold Sf at h;split at h
  .obtain ⟨rfl,rfl⟩:=ad (aa h);exact⟨[_],rfl,rfl⟩
  .simp at h
 |f k=>
  intro l r x h hp;simp only[uH]at h;unfold Pj at h;split at h
  .split at h
   .rename_i e;subst e;obtain⟨rfl,rfl⟩:=ad (aa h);exact⟨[_],rfl,rfl⟩
   .simp at h
  .simp at h
 |sl t ih=>
  intro l r x h hp;simp only[uH]at h;unfold Sg at h;split at h
  .obtain ⟨rfl,rfl⟩:=ad (aa h);exact⟨[_],rfl,rfl⟩
  .simp at h
 |_=>intro l r x h hp;simp[uH]at h
def Ci(h:H2)(id ver:Nat):Bool:=match fO h id with|some (.ar _ _ v)|some (.im _ _ v)=>v==ver|_=>false
def Qr(id:Nat)(c:C):Prop:=∀i∈eO c,i=id
def eZ(h:H2):V->List C->Prop
 |.x t v,cs=>kD t=true/\cs=(aR t v).map .d
 |.kb c,cs=>cs=[.d (.lit (.bool c))]
 |.nl k,cs=>cs=[Dt k]
 |.so id,cs=>∃c,cs=[c]/\(∀c',Aq id (fO h id)=some c'->c=c')/\Qr id c
 |.sr id,cs=>∃c,cs=[c]/\(∀c',EC id (fO h id)=some c'->c=c')/\Qr id c
 |.sb id ver lo t r,cs=>∃c,cs=[c]/\(Ci h id ver=true->c=yb id lo t r)/\Qr id c
 |.op id t p,cs=>cs=[.op id (mI t p)]
 |.ep id n t p,cs=>cs=[.ep id n (mI t p)]
 |.pt t v,cs=>kD t=true/\cs=[.d (.pt (aR t v))]
 |.fn true f l,cs=>∃ds,qt l=some ds/\cs=[.d (.fn f ds)]
 |.fn false f l,cs=>∃xs,eZ h l xs/\cs=[.oN f xs]
 |.om id,cs=>cs=[.om id]
 |.rc l,cs=>eZ h l cs
 |.fl l,cs=>l.all d_=true/\cs=fk l
 |.ni,cs=>cs=[]
 |.co a r,cs=>∃x y,cs=x++y/\eZ h a x/\eZ h r y
 |.tp _,_|.no,_|.gn,_=>False
def sq(h:H2)(v:V)(x:TV):Prop:=∃cs,eZ h v cs/\(sW v=true->x=.agg cs)/\(sW v=false->∃c,cs=[c]/\x=.c c)
def Bo(h:H2):V->List TV->Prop
 |.ni,xs=>xs=[]
 |.co a r,xs=>∃x ys,xs=x::ys/\sq h a x/\Bo h r ys
 |_,_=>False
def fV(h:H2):V->TV->Prop
 |.tp l,x=>∃xs,x=.iN xs/\Bo h l xs
 |.no,x=>x=.iN []
 |.gn,_=>False
 |v,x=>sq h v x
def UA(t u:Ty)(s:Sl (El t))(lo:Nat)(r:Sl (El u)):Prop:=bz t=bz u/\match s,r with|.nil,.nil=>True|.mk l,.mk m=>lo+m.length<=l.length/\((l.map (aR t)).drop lo).take m.length=m.map (aR u)|_,_=>False
def eX(n:Nat)(h:H2):V->Prop
 |.so id|.sr id|.om id=>id<n
 |.sb id ver lo t r=>id<n/\∀u s v,(fO h id=some (.ar u s v)\/fO h id=some (.im u s v))->ver<=v/\(v=ver->UA u t s lo r)
 |.op id t p=>id<n/\Iw t p
 |.ep id m t p=>id<n/\Iw t p/\(∀u s v,(fO h id=some (.ar u s v)\/fO h id=some (.im u s v))->m<s.l.length)/\∀u s v,fO h id=some (.rw u s v)->m<s.l.length
 |.fn _ _ l|.rc l|.tp l=>eX n h l
 |.co a r=>eX n h a/\eX n h r
 |_=>True
def vc(h:H2):O->Option Ob->Prop
 |.ar t s _,b=>kD t=true/\0<bz t/\(∀l,s=.mk l->b=some (.aL (bz t) (l.map (aR t))))
 |.im t s _,b=>kD t=true/\0<bz t/\(∀l,s=.mk l->b=some (.py (bz t) (l.map (aR t))))
 |.bx t c,b=>∃cs,b=some (.box cs)/\eZ h c cs/\eE c false t=true
 |.ib t v,b=>kD t=true/\b=some (.oe (aR t v))
 |.mp k v m,b=>kD v=true/\(∃ks,DO k=some ks)/\b=EE (nc k) (nc v) (fun x=>(aR k x).map fun|.lit y=>y|_=>.nilFunc) (aR v) m
 |.rw t s ln,b=>kD t=true/\0<bz t/\(∀l,(s:Sl (Sl (El t)))=.mk l->b=some (.nst (bz t) (eQ t l ln)))
def Cp(n:Nat)(h:H2):O->Prop
 |.bx _ c=>eX n h c
 |.rw _ s (some (m,id))=>m<s.l.length/\id<n/\∀u r v,(fO h id=some (.ar u r v)\/fO h id=some (.im u r v))->r.fI=(gt s.l m).fI/\r.l.length=(gt s.l m).l.length
 |_=>True
structure HR(n:Nat)(h1:bF)(h2:H2):Prop where
 ob:∀id o,fO h2 id=some o->id<n/\vc h2 o (aB h1 id)/\Cp n h2 o
abbrev M2(t:Ty)(s:Sl (El t)):(t:Ty)×Sl (El t):=⟨t,s⟩
abbrev UT(t:Ty)(s:El t):(t:Ty)×El t:=⟨t,s⟩
def OV(t u:Ty)(s:Sl (El t))(s':Sl (El u))(v v':Nat):Prop:=v<=v'/\t=u/\s.fI=s'.fI/\s.l.length=s'.l.length/\(v=v'->M2 t s=M2 u s')
def sh:O->O->Prop
 |.ar t s v,.ar u s' v'|.ar t s v,.im u s' v'=>OV t u s s' v v'
 |.im t s v,.im u s' v'=>v=v'/\M2 t s=M2 u s'
 |.bx t _,.bx u _=>t=u
 |.bx _ _,.ib _ _=>True
 |.ib t v,.ib u w=>UT t v=UT u w
 |.mp _ _ _,.mp _ _ _=>True
 |.rw t s _,.rw u s' _=>t=u/\s.fI=s'.fI/\s.l.length=s'.l.length
 |_,_=>False
def ua:O->Bool
 |.bx _ _|.ib _ _=>true
 |_=>false
structure jr(n:Nat)(h h':H2):Prop where
 ob:∀id o',id<n->fO h' id=some o'->(∃o,fO h id=some o/\sh o o')\/ua o'=true
theorem OV.trans{t u w:Ty}{s:Sl (El t)}{s':Sl (El u)}{s2:Sl (El w)}{a b c:Nat}(h1:OV t u s s' a b)(h2:OV u w s' s2 b c):OV t w s s2 a c:=by obtain⟨a1,rfl,a3,a4,a5⟩:=h1;obtain⟨b1,rfl,b3,b4,b5⟩:=h2;refine⟨Nat.le_trans a1 b1,rfl,a3.trans b3,a4.trans b4,fun e=>?_⟩;have e1:a=b:=Nat.le_antisymm a1 (e▸b1);exact(a5 e1).trans (b5 (e1▸e))
theorem OV.R1{t u:Ty}{s:Sl (El t)}{s':Sl (El u)}{a b:Nat}(h:a=b)(e:M2 t s=M2 u s'):OV t u s s' a b:=by subst h;obtain⟨rfl,e⟩:=js e;cases e;exact⟨au _,rfl,rfl,rfl,fun _=>rfl⟩
theorem sh.refl(o:O):sh o o:=by cases o<;>simp[sh,OV]
theorem sh.trans{a b c:O}(h1:sh a b)(h2:sh b c):sh a c:=by
 cases a<;>cases b<;>simp only[sh]at h1<;>first|exact h1.elim|skip
 all_goals(cases c<;>simp only[sh]at h2|-<;>first|exact h2.elim|skip)
 .exact h1.trans h2
 .exact h1.trans h2
 .exact h1.trans (OV.R1 h2.1 h2.2)
 .exact ⟨h1.1.trans h2.1,h1.2.trans h2.2⟩
 .exact h1.trans h2
 .exact h1.trans h2
 .exact ⟨h1.1.trans h2.1,h1.2.1.trans h2.2.1,h1.2.2.trans h2.2.2⟩
theorem jr.refl(n:Nat)(h:H2):jr n h h:=⟨fun _ o _ h=>.inl ⟨o,h,sh.refl o⟩⟩
theorem jr.trans{n n':Nat}{a b c:H2}(hn:n<=n')(h1:jr n a b)(h2:jr n' b c):jr n a c:=
 ⟨fun id o' hi ho=>by
  rcases h2.ob id o' (by omega) ho with⟨o1,h3,h4⟩|q
  .rcases h1.ob id o1 hi h3 with⟨o2,h5,h6⟩|q
   .exact .inl ⟨o2,h5,h6.trans h4⟩
   .exact .inr (by cases o1<;>simp[ua]at q<;>cases o'<;>simp[sh]at h4<;>rfl)
  .exact .inr q⟩
theorem Bw{sz id:Nat}{α:Type}{e:α->List D}{s:Sl α}:Qr id (mj sz e id s):=by intro i hi;cases s with|nil=>simp[mj,eO]at hi|mk l=>simpa[mj,eO]using hi
theorem Kc{id lo:Nat}{t:Ty}{s:Sl (El t)}:Qr id (yb id lo t s):=by intro i hi;cases s with|nil=>simp[yb,eO]at hi|mk l=>simpa[yb,eO]using hi
section
variable{n n':Nat}{h h':H2}
theorem E2{t:Ty}{s s':Sl (El t)}{id:Nat}(h1:s.fI=s'.fI)(h2:s.l.length=s'.l.length):mj (bz t) (aR t) id s=mj (bz t) (aR t) id s':=by cases s<;>cases s'<;>simp_all[Sl.fI,mj]
theorem J6(hs:jr n h h'){id:Nat}(hi:id<n){c:C}(hc:Aq id (fO h' id)=some c):Aq id (fO h id)=some c:=by
 cases ho:fO h' id with
 |none=>rw[ho]at hc;simp[Aq]at hc
 |some o'=>
  rw[ho]at hc;obtain⟨o,h1,h2⟩:=(hs.ob id o' hi ho).resolve_right fun e=>by cases o'<;>simp[ua]at e<;>simp[Aq]at hc
  rw[h1];cases o'<;>simp only[Aq]at hc<;>first|cases hc;done|skip
  all_goals(cases o<;>simp only[sh]at h2<;>first|exact h2.elim|skip)
  .obtain ⟨_,rfl,h3,h4,_⟩:=h2;rw[<-hc];simp only[Aq];rw[E2 h3 h4]
  .obtain ⟨_,rfl,h3,h4,_⟩:=h2;rw[<-hc];simp only[Aq];rw[E2 h3 h4]
  .obtain ⟨_,h3⟩:=h2;obtain⟨rfl,h3⟩:=js h3;cases h3;rw[<-hc];rfl
  all_goals simp at hc
theorem J2(hs:jr n h h'){id:Nat}(hi:id<n){c:C}(hc:EC id (fO h' id)=some c):EC id (fO h id)=some c:=by
 cases ho:fO h' id with
 |none=>rw[ho]at hc;simp[EC]at hc
 |some o'=>
  rw[ho]at hc;obtain⟨o,h1,h2⟩:=(hs.ob id o' hi ho).resolve_right fun e=>by cases o'<;>simp[ua]at e<;>simp[EC]at hc
  rw[h1];cases o'<;>simp only[EC]at hc<;>first|cases hc;done|skip
  all_goals(cases o<;>simp only[sh]at h2<;>first|exact h2.elim|skip)
  .obtain ⟨rfl,h3,h4⟩:=h2;rw[<-hc];simp only[EC];exact congrArg some (E2 (t:=.sl _) h3 h4)
  all_goals simp at hc
theorem GP(hs:jr n h h'){id:Nat}(hi:id<n){u:Ty}{s:Sl (Sl (El u))}{ln:Option (Nat×Nat)}(ho:fO h' id=some (.rw u s ln)):∃s0 ln0,fO h id=some (.rw u s0 ln0)/\s0.fI=s.fI/\s0.l.length=s.l.length:=by
 obtain⟨o,h1,h2⟩:=(hs.ob id _ hi ho).resolve_right fun e=>by simp[ua]at e
 cases o<;>simp only[sh]at h2<;>first|exact h2.elim|skip
 obtain⟨rfl,h3,h4⟩:=h2;exact⟨_,_,h1,h3,h4⟩
theorem J9(hs:jr n h h'){id:Nat}(hi:id<n){u:Ty}{s:Sl (El u)}{v:Nat}(ho:fO h' id=some (.ar u s v)\/fO h' id=some (.im u s v)):
  ∃s0 v0,(fO h id=some (.ar u s0 v0)\/fO h id=some (.im u s0 v0))/\s0.fI=s.fI/\s0.l.length=s.l.length:=by
 rcases ho with ho|ho
 all_goals
  obtain⟨o,h1,h2⟩:=(hs.ob id _ hi ho).resolve_right fun e=>by simp[ua]at e
  cases o<;>simp only[sh]at h2<;>first|exact h2.elim|skip
 .obtain ⟨_,rfl,h3,h4,_⟩:=h2;exact⟨_,_,.inl h1,h3,h4⟩
 .obtain ⟨_,rfl,h3,h4,_⟩:=h2;exact⟨_,_,.inl h1,h3,h4⟩
 .obtain ⟨rfl,h3⟩:=h2;obtain⟨rfl,h3⟩:=js h3;cases h3;exact⟨_,_,.inr h1,rfl,rfl⟩
theorem tf(hs:jr n h h'){id:Nat}(hi:id<n){u:Ty}{s:Sl (El u)}{v:Nat}(ho:fO h' id=some (.ar u s v)\/fO h' id=some (.im u s v)):
  ∃s0 v0,(fO h id=some (.ar u s0 v0)\/fO h id=some (.im u s0 v0))/\v0<=v/\s0.l.length=s.l.length/\(v0=v->s0=s):=by
 rcases ho with ho|ho
 all_goals
  obtain⟨o,h1,h2⟩:=(hs.ob id _ hi ho).resolve_right fun e=>by simp[ua]at e
  cases o<;>simp only[sh]at h2<;>first|exact h2.elim|skip
 .obtain ⟨h3,rfl,_,h4,h5⟩:=h2;exact⟨_,_,.inl h1,h3,h4,fun e=>by have:=h5 e;simpa using this⟩
 .obtain ⟨h3,rfl,_,h4,h5⟩:=h2;exact⟨_,_,.inl h1,h3,h4,fun e=>by have:=h5 e;simpa using this⟩
 .obtain ⟨rfl,h3⟩:=h2;obtain⟨rfl,h3⟩:=js h3;cases h3;exact⟨_,_,.inr h1,au _,rfl,fun _=>rfl⟩
theorem lC{id ver:Nat}(ha:Ci h id ver=true):∃u s,fO h id=some (.ar u s ver)\/fO h id=some (.im u s ver):=by
 unfold Ci at ha;split at ha
 .rename_i u s v ho;obtain rfl:v=ver:=by simpa using ha
  exact⟨u,s,.inl ho⟩
 .rename_i u s v ho;obtain rfl:v=ver:=by simpa using ha
  exact⟨u,s,.inr ho⟩
 .simp at ha
theorem gJ(hn:n<=n')(hs:jr n h h'):∀{v:V},eX n h v->eX n' h' v:=by
 intro v;induction v with
 |so id=>intro hv;simp only[eX]at hv|-;omega
 |sr id=>intro hv;simp only[eX]at hv|-;omega
 |om id=>intro hv;simp only[eX]at hv|-;omega
 |sb id ver lo t r=>
  rintro⟨h1,h2⟩;refine⟨by omega,fun u s v ho=>?_⟩;obtain⟨s0,v0,h3,h4,h5,h6⟩:=tf hs h1 ho;obtain⟨h7,h8⟩:=h2 u s0 v0 h3;refine⟨by omega,fun e=>?_⟩;have e2:v0=ver:=by omega
  have:=h6 (by omega);subst this;exact h8 e2
 |op id t p=>rintro⟨h1,h2⟩;exact⟨by omega,h2⟩
 |ep id m t p=>
  rintro⟨h1,h2,h3,h6⟩;refine⟨by omega,h2,fun u s v ho=>?_,fun u s v ho=>?_⟩
  .obtain ⟨s0,v0,h4,_,h5,_⟩:=tf hs h1 ho;have:=h3 u s0 v0 h4;omega
  .obtain ⟨s0,v0,h4,_,h5⟩:=GP hs h1 ho;have:=h6 u s0 v0 h4;omega
 |fn z f l ih=>intro hv;exact ih hv
 |rc l ih=>intro hv;exact ih hv
 |tp l ih=>intro hv;exact ih hv
 |co a r iha ihr=>rintro⟨h1,h2⟩;exact⟨iha h1,ihr h2⟩
 |_=>intro _;trivial
theorem lB(hs:jr n h h'):∀{v:V}{cs:List C},eX n h v->eZ h v cs->eZ h' v cs:=by
 intro v;induction v with
 |so id=>rintro cs hi ⟨c,rfl,hc,hid⟩;exact⟨c,rfl,fun c' hc'=>hc c' (J6 hs hi hc'),hid⟩
 |sr id=>rintro cs hi ⟨c,rfl,hc,hid⟩;exact⟨c,rfl,fun c' hc'=>hc c' (J2 hs hi hc'),hid⟩
 |sb id ver lo t r=>
  rintro cs ⟨hi,h2⟩ ⟨c,rfl,hc,hid⟩;refine⟨c,rfl,fun ha=>hc ?_,hid⟩;obtain⟨u,s,ho⟩:=lC ha;obtain⟨s0,v0,h3,h4,_,_⟩:=tf hs hi ho;obtain⟨h7,_⟩:=h2 u s0 v0 h3;have:v0=ver:=by omega
  subst this;unfold Ci;rcases h3 with h3|h3<;>rw[h3]<;>simp
 |fn z f l ih=>intro cs hv hc;cases z with|true=>exact hc|false=>obtain⟨xs,h1,h2⟩:=hc;exact⟨xs,ih hv h1,h2⟩
 |rc l ih=>intro cs hv hc;exact ih hv hc
 |co a r iha ihr=>rintro cs ⟨h1,h2⟩ ⟨x,y,rfl,h3,h4⟩;exact⟨x,y,rfl,iha h1 h3,ihr h2 h4⟩
 |_=>intro cs _ hc;exact hc
theorem vO(hs:jr n h h'){v:V}{x:TV}(hv:eX n h v)(hx:sq h v x):sq h' v x:=by obtain⟨cs,h1,h2⟩:=hx;exact⟨cs,lB hs hv h1,h2⟩
theorem HH(hs:jr n h h'):∀{v:V}{xs:List TV},eX n h v->Bo h v xs->Bo h' v xs:=by intro v;induction v with|co a r iha ihr=>rintro xs ⟨h1,h2⟩ ⟨x,ys,rfl,h3,h4⟩;exact⟨x,ys,rfl,vO hs h1 h3,ihr h2 h4⟩|ni=>intro xs _ h;exact h|_=>intro xs _ h;exact h.elim
theorem uQ(hs:jr n h h'){v:V}{x:TV}(hv:eX n h v)(hx:fV h v x):fV h' v x:=by cases v with|tp l=>obtain⟨xs,h1,h2⟩:=hx;exact⟨xs,h1,HH hs hv h2⟩|no=>exact hx|gn=>exact hx|_=>exact vO hs hv hx
theorem pp(hs:jr n h h'){o:O}{b:Option Ob}(ho:Cp n h o)(hb:vc h o b):vc h' o b:=by cases o with|bx t c=>obtain⟨cs,h1,h2,h3⟩:=hb;exact⟨cs,h1,lB hs ho h2,h3⟩|_=>exact hb
theorem nX(hn:n<=n')(hs:jr n h h'){o:O}(ho:Cp n h o):Cp n' h' o:=by
 cases o with
 |bx t c=>exact gJ hn hs ho
 |rw t s ln=>cases ln with|none=>trivial|some q=>obtain⟨m,id⟩:=q;obtain⟨h1,h2,h3⟩:=ho;refine⟨h1,Nat.lt_of_lt_of_le h2 hn,fun u r v hu=>?_⟩;obtain⟨s0,v0,h4,h5,h6⟩:=J9 hs h2 hu;obtain⟨h7,h8⟩:=h3 u s0 v0 h4;exact⟨h5▸h7,h6▸h8⟩
 |_=>trivial
end
theorem iw{h:H2}:∀{v:V}{cs:List C},eZ h v cs->cs.length=xV v:=by
 intro v;induction v with
 |x t v=>rintro cs ⟨_,rfl⟩;simp[xV,bJ]
 |so id=>rintro cs ⟨c,rfl,_⟩;rfl
 |sr id=>rintro cs ⟨c,rfl,_⟩;rfl
 |sb id ver lo t r=>rintro cs ⟨c,rfl,_⟩;rfl
 |pt t v=>rintro cs ⟨_,rfl⟩;rfl
 |fn z f l ih=>intro cs hc;cases z with|true=>obtain⟨ds,_,rfl⟩:=hc;rfl|false=>obtain⟨ds,_,rfl⟩:=hc;rfl
 |rc l ih=>intro cs hc;exact ih hc
 |fl l=>rintro cs ⟨_,rfl⟩;simp[fk,xV]
 |ni=>rintro cs rfl;rfl
 |co a r iha ihr=>rintro cs ⟨x,y,rfl,h1,h2⟩;simp[xV,iha h1,ihr h2]
 |tp l=>intro cs hc;exact hc.elim
 |no=>intro cs hc;exact hc.elim
 |gn=>intro cs hc;exact hc.elim
 |_=>rintro cs rfl;rfl
theorem gN:∀(v:V)(ln:Bool)(t:Ty),eE v ln t=true->xV v=bz t:=by
 intro v;induction v with
 |rc l ih=>
  intro ln t hf;cases ln with
  |true=>cases t<;>simp[eE]at hf
  |false=>cases t with|st t=>exact ih true t hf|_=>simp[eE]at hf
 |co a r iha ihr=>
  intro ln t hf;cases ln with
  |false=>simp[eE]at hf
  |true=>
   cases t with
   |pr t u=>simp only[eE,ai]at hf;simp[xV,bz,iha _ _ hf.1,ihr _ _ hf.2]
   |_=>cases r with|ni=>have hf':eE a false _=true:=hf;simp[xV,iha _ _ hf']|_=>simp[eE]at hf
 |x u v=>intro ln t hf;cases ln with|false=>simp only[eE,decide_eq_true_eq]at hf;subst hf;rfl|true=>cases t<;>simp[eE]at hf
 |nl k=>intro ln t hf;cases ln<;>cases t<;>first|rfl|(simp[eE]at hf;done)|skip
 |_=>intro ln t hf;cases ln<;>cases t<;>first|rfl|(simp[eE]at hf;done)
section
variable{h:H2}
theorem pD{v:V}{u:Ty}{y:El u}{cs:List C}(hc:ic u v=some y)(hv:eZ h v cs):cs=(aR u y).map .d:=by
 cases v with
 |x t v=>obtain⟨rfl,rfl⟩:=du hc;exact hv.2
 |kb c=>obtain⟨rfl,rfl⟩:=du (t:=.b) hc;exact hv
 |nl k=>
  cases k with
  |zero=>
   cases u<;>simp only[ic]at hc<;>first|cases hc;done|skip
   obtain rfl:=aa hc;exact hv
  |succ k=>simp[ic]at hc
 |fl l=>
  obtain⟨h1,rfl⟩:=hv;simp only[ic]at hc;cases ha:nc u
  .rw [ha]at hc;simp at hc
  rw[ha,cond_true]at hc;split at hc
  .rename_i x hx;obtain rfl:=aa hc;obtain⟨p,rfl,e⟩:=Jf u _ _ _ hx h1;rw[e];simp[fk]
  .simp at hc
 |_=>simp[ic]at hc
theorem iS:∀(v:V)(ln:Bool)(u:Ty)(y:El u)(cs:List C),kN v ln u=some y->eZ h v cs->cs=(aR u y).map .d:=by
 intro v;induction v with
 |rc l ih=>
  intro ln u y cs hc hv;cases ln with
  |true=>cases u<;>simp[kN]at hc
  |false=>cases u with|st u=>exact ih true u y cs hc hv|_=>simp[kN,ic]at hc
 |co a r iha ihr=>
  intro ln u y cs hc hv;obtain⟨x1,x2,rfl,h1,h2⟩:=hv;cases ln with
  |false=>cases u<;>simp[kN,ic]at hc
  |true=>
   cases u with
   |pr t u=>
    simp only[kN]at hc;split at hc
    .rename_i p q hp hq;obtain rfl:=aa hc;rw[iha _ _ _ _ hp h1,ihr _ _ _ _ hq h2];simp[aR]
    .simp at hc
   |_=>cases r with|ni=>have hc':kN a false _=some y:=hc;obtain rfl:x2=[]:=h2;rw[bC];exact iha _ _ _ _ hc' h1|_=>simp[kN]at hc
 |_=>
  intro ln u y cs hc hv;cases ln with
  |true=>cases u<;>simp[kN]at hc
  |false=>first|exact pD hc hv|(simp[kN]at hc)
theorem Eg{v:V}{u:Ty}{y:El u}(hc:ic u v=some y):sW v=nc u:=by
 cases v with
 |x t v=>obtain⟨rfl,_⟩:=du hc;rfl
 |kb c=>obtain⟨rfl,_⟩:=du (t:=.b) hc;rfl
 |nl k=>
  cases k with
  |zero=>cases u<;>simp only[ic]at hc<;>first|rfl|cases hc
  |succ k=>simp[ic]at hc
 |fl l=>
  simp only[ic]at hc;cases ha:nc u
  .rw [ha]at hc;simp at hc
  .rfl
 |_=>simp[ic]at hc
theorem wy{v:V}{u:Ty}{y:El u}(hc:tM u v=some y):sW v=nc u:=by
 cases v with
 |rc l=>cases u with|st u=>rfl|_=>simp[tM,kN,ic]at hc
 |co a r=>cases u<;>simp[tM,kN,ic]at hc
 |ni=>cases u<;>simp[tM,kN]at hc
 |_=>exact Eg hc
theorem AF:∀(l:V)(t:Ty)(i:Nat)(w:V)(cs:List C),eE l true t=true->eZ h l cs->rV l i=some w->
  ∃u cw,Cq t i=some u/\eE w false u=true/\eZ h w cw/\oR t i+bz u<=cs.length/\(cs.drop (oR t i)).take (bz u)=cw:=by
 intro l;induction l with
 |co a r iha ihr=>
  intro t i w cs hf hv hw;obtain⟨x,y,rfl,h1,h2⟩:=hv;have one:∀t,eE a false t=true->r=.ni->Cq t 0=some t->oR t 0=0->i=0->∃u cw,Cq t i=some u/\eE w false u=true/\eZ h w cw/\oR t i+bz u<=(x++y).length/\((x++y).drop (oR t i)).take (bz u)=cw:=by intro t hf hr h3 h4 hi;subst hi;obtain rfl:=aa hw;have hs:=gN _ _ _ hf;have hl:=iw h1;refine⟨t,x,h3,hf,h1,by rw[h4];simp;omega,?_⟩;rw[h4,cP,<-hs,<-hl,List.take_left]
  cases t with
  |pr t u=>simp only[eE,ai]at hf;have hs:=gN _ _ _ hf.1;have hl:=iw h1;cases i with|zero=>obtain rfl:=aa hw;refine⟨t,x,rfl,hf.1,h1,by simp[oR];omega,?_⟩;simp only[oR,cP];rw[<-hs,<-hl,List.take_left]|succ i=>obtain⟨u',cw,q1,q2,q3,q4,q5⟩:=ihr u i w y hf.2 h2 hw;refine⟨u',cw,q1,q2,q3,by simp only[oR,az];omega,?_⟩;simp only[oR];rw[<-dO,<-hs,<-hl,List.drop_left,q5]
  |_=>
   cases r with
   |ni=>have hf':eE a false _=true:=hf;cases i with|zero=>exact one _ hf' rfl rfl rfl rfl|succ i=>simp[rV]at hw
   |_=>simp[eE]at hf
 |_=>intro t i w cs hf hv hw;simp[rV]at hw
theorem Az:∀(l:V)(t:Ty)(i:Nat)(w:V)(cs cw:List C)(u:Ty),eE l true t=true->eZ h l cs->Cq t i=some u->eZ h w cw->cw.length=bz u->(∃w0,rV l i=some w0)->eZ h (Km l i w) (aU cs (oR t i) cw):=by
 intro l;induction l with
 |co a r iha ihr=>
  intro t i w cs cw u hf hv hu hw hlen hn;obtain⟨x,y,rfl,h1,h2⟩:=hv;cases t with
  |pr t u'=>simp only[eE,ai]at hf;have hs:=gN _ _ _ hf.1;have hl:=iw h1;cases i with|zero=>obtain rfl:=aa hu;refine⟨cw,y,?_,hw,h2⟩;simp only[oR];rw[s_ (by omega),mx (by omega)]|succ i=>have:=ihr u' i w y cw u hf.2 h2 hu hw hlen hn;refine⟨x,_,?_,h1,this⟩;simp only[oR];rw[<-hs,<-hl,te]
  |_=>
   cases r with
   |ni=>cases i with|zero=>obtain rfl:=aa hu;have hf':eE a false _=true:=hf;have hs:=gN _ _ _ hf';have hl:=iw h1;obtain rfl:y=[]:=h2;refine⟨cw,[],?_,hw,rfl⟩;simp only[oR,bC];rw[mx (by omega)]|succ i=>obtain⟨w0,hn⟩:=hn;simp[rV]at hn
   |_=>simp[eE]at hf
 |_=>intro t i w cs cw u hf hv hu hw hlen hn;obtain⟨w0,hn⟩:=hn;simp[rV]at hn
theorem Br:∀(t:Ty)(v:El t),kD t=true->eZ h (HK t v) ((aR t v).map .d):=by intro t;induction t with|pr a c iha ihc=>intro v hd;simp only[kD,ai]at hd;exact⟨(aR a v.1).map .d,(aR c v.2).map .d,by simp[aR],⟨hd.1,rfl⟩,ihc v.2 hd.2⟩|_=>intro v hd;exact⟨_,[],(bC _).symm,⟨hd,rfl⟩,rfl⟩
theorem Nh:∀(t:Ty)(v:El t),eE (HK t v) true t=true:=by intro t;induction t with|pr a c iha ihc=>intro v;simp[HK,eE,ihc]|_=>intro v;simp[HK,eE]
theorem Ng:∀(t:Ty)(v:El t)(i:Nat)(w:V),z8 t v i=some w->rV (HK t v) i=some w:=by
 intro t;induction t with
 |pr a c iha ihc=>intro v i w hw;cases i with|zero=>exact hw|succ i=>exact ihc v.2 i w hw
 |_=>intro v i w hw;cases i with|zero=>exact hw|succ i=>simp[z8]at hw
theorem zj:∀(t:Ty)(i:Nat)(u:Ty),kD t=true->Cq t i=some u->kD u=true:=by
 intro t;induction t with
 |pr a c iha ihc=>intro i u hd hu;simp only[kD,ai]at hd;cases i with|zero=>obtain rfl:=aa hu;exact hd.1|succ i=>exact ihc i u hd.2 hu
 |_=>intro i u hd hu;cases i with|zero=>obtain rfl:=aa hu;exact hd|succ i=>simp[Cq]at hu
theorem v6:∀(p:pO)(t u:Ty),qT t p=some u->Iw t p->mI t p+bz u<=bz t:=by
 intro p;induction p with
 |nil=>
  intro t u hu _;have e2:qT t []=some t:=by cases t<;>rfl
  have e:mI t []=0:=by cases t<;>rfl
  obtain rfl:t=u:=by rw[e2]at hu;exact aa hu
  omega
 |cons q p ih=>
  intro t u hu hp;cases q with
  |fd i=>cases t with|st t=>obtain⟨a,ha,hp⟩:=hp;simp only[qT,ha]at hu;have:=ih a u hu hp;have:=Qv t i a ha;simp only[mI,ha,bz];omega|_=>exact hp.elim
  |ix k=>cases t with|ar n t=>obtain⟨hk,hp⟩:=hp;have:=ih t u hu hp;have h2:(k+1)*bz t<=n*bz t:=aI _ hk;rw[bN]at h2;simp only[mI,bz];omega|_=>exact hp.elim
theorem wl:∀(p:pO)(c:V)(t:Ty)(w:V)(cs:List C),eE c false t=true->eZ h c cs->Iw t p->pz c p=some w->
  ∃u cw,qT t p=some u/\eE w false u=true/\eZ h w cw/\mI t p+bz u<=cs.length/\(cs.drop (mI t p)).take (bz u)=cw:=by
 intro p;induction p with
 |nil=>
  intro c t w cs hf hv _ hw;obtain rfl:c=w:=by simpa[pz]using hw
  have hs:=gN _ _ _ hf;have hl:=iw hv;refine⟨t,cs,by cases t<;>rfl,hf,hv,?_,?_⟩
  .cases t<;>simp[mI]<;>omega
  .have e:mI t []=0:=by cases t<;>rfl
   rw[e,cP,dN (by omega)]
 |cons q p ih=>
  intro c t w cs hf hv hp hw
  have sub:∀(o n:Nat)(c2:V)(u:Ty)(c3:List C),eE c2 false u=true->eZ h c2 c3->(cs.drop o).take (bz u)=c3->o+bz u<=cs.length->Iw u p->pz c2 p=some w->qT t (q::p)=qT u p->mI t (q::p)=o+mI u p->
    ∃u cw,qT t (q::p)=some u/\eE w false u=true/\eZ h w cw/\mI t (q::p)+bz u<=cs.length/\(cs.drop (mI t (q::p))).take (bz u)=cw:=by
   intro o n c2 u c3 hf2 hv2 h3 h4 h5 h6 h7 h8;obtain⟨u',cw,q1,q2,q3,q4,q5⟩:=ih c2 u w c3 hf2 hv2 h5 h6;have hl:=iw hv2;rw[gN _ _ _ hf2]at hl;refine⟨u',cw,h7.trans q1,q2,q3,by rw[h8];omega,?_⟩;rw[h8,<-q5,<-h3,<-dO];rw[List.drop_take,List.take_take];congr 1;omega
  cases q with
  |fd i=>
   cases t with
   |st t=>
    obtain⟨u,hu,hp⟩:=hp;have e7:qT (.st t) (.fd i::p)=qT u p:=by simp only[qT,hu]
    have e8:mI (.st t) (.fd i::p)=oR t i+mI u p:=by simp only[mI,hu]
    cases c with
    |x t' v=>
     simp only[eE,decide_eq_true_eq]at hf;subst hf;obtain⟨hd,rfl⟩:=hv;simp only[pz]at hw;split at hw
     .rename_i y hy;obtain⟨u',y',rfl,h1,h2,h3⟩:=qI _ _ _ _ hy;obtain rfl:u=u':=by rw[hu]at h1;exact aa h1
      refine sub (oR t i) 0 (.x u y') u ((aR u y').map .d) (by simp[eE]) ⟨zj t _ _ hd hu,rfl⟩ ?_ ?_ hp hw e7 e8
      .rw [<-h3,gX,gm];rfl
      .simp [bJ,bz];exact h2
     .simp at hw
    |rc l=>
     simp only[pz]at hw;split at hw
     .rename_i y hy;obtain⟨u',cw,q1,q2,q3,q4,q5⟩:=AF l t i y cs hf hv hy;obtain rfl:u=u':=by rw[hu]at q1;exact aa q1
      exact sub (oR t i) 0 y u cw q2 q3 q5 q4 hp hw e7 e8
     .simp at hw
    |_=>simp[pz]at hw
   |_=>exact hp.elim
  |ix k=>
   cases t with
   |ar n t=>
    obtain⟨hk,hp⟩:=hp;cases c with
    |x t' v=>
     simp only[eE,decide_eq_true_eq]at hf;subst hf;obtain⟨hd,rfl⟩:=hv;simp only[pz]at hw;have hk':k<v.1.length:=by rw[v.2];exact hk
     have hg:=y_ (bJ t) v.1 k hk';refine sub (k*bz t) 0 (.x t (gt v.1 k)) t ((aR t (gt v.1 k)).map .d) (by simp[eE]) ⟨hd,rfl⟩ ?_ ?_ hp hw rfl rfl
     .rw [<-hg,gX,gm];rfl
     .simp only[aN,bJ,bz];have:(k+1)*bz t<=n*bz t:=aI _ hk;rw[bN]at this;omega
    |_=>simp[pz]at hw
   |_=>exact hp.elim
theorem HY:∀(t:Ty)(v:El t)(i:Nat)(w:V)(v':El t),HZ t v i w=some v'->∃u z,Cq t i=some u/\ic u w=some z/\aR t v'=aU (aR t v) (oR t i) (aR u z):=by
 intro t;induction t with
 |pr a c iha ihc=>
  intro v i w v' hs;cases i with
  |zero=>
   simp only[HZ]at hs;split at hs
   .rename_i y hy;obtain rfl:=aa hs;refine⟨a,y,rfl,hy,?_⟩;simp only[aR,oR];rw[s_ (by simp[bJ]),mx (by simp[bJ])]
   .simp at hs
  |succ i=>
   simp only[HZ]at hs;split at hs
   .rename_i y hy;obtain rfl:=aa hs;obtain⟨u,z,h1,h2,h3⟩:=ihc _ _ _ _ hy;refine⟨u,z,h1,h2,?_⟩;simp only[aR,oR,h3];have:=te (a:=aR a v.1) (b:=aR c v.2) (off:=oR c i) (p:=aR u z);rw[bJ]at this;rw[this]
   .simp at hs
 |_=>intro v i w v' hs;cases i with|zero=>have hs':ic _ w=some v':=hs;exact⟨_,v',rfl,hs',by simp only[oR];rw[mx (by simp[bJ])]⟩|succ i=>simp[HZ]at hs
theorem vR:∀(p:pO)(c:V)(t:Ty)(w c':V)(cs cw:List C)(u:Ty),eE c false t=true->eZ h c cs->Iw t p->ou c p w=some c'->qT t p=some u->eZ h w cw->cw.length=bz u->
  eZ h c' (aU cs (mI t p) cw):=by
 intro p;induction p with
 |nil=>
  intro c t w c' cs cw u hf hv _ hs hu hw hlen;obtain rfl:w=c':=by simpa[ou]using hs
  have e:mI t []=0:=by cases t<;>rfl
  have e2:qT t []=some t:=by cases t<;>rfl
  obtain rfl:t=u:=by rw[e2]at hu;exact aa hu
  have:=iw hv;rw[gN _ _ _ hf]at this;rw[e,mx (by omega)];exact hw
 |cons q p ih=>
  intro c t w c' cs cw u hf hv hp hs hu hw hlen;cases q with
  |fd i=>
   cases t with
   |st t=>
    obtain⟨a,ha,hp⟩:=hp;have hu':qT a p=some u:=by simpa only[qT,ha]using hu
    have e8:mI (.st t) (.fd i::p)=oR t i+mI a p:=by simp only[mI,ha]
    cases c with
    |x t' v=>
     simp only[eE,decide_eq_true_eq]at hf;subst hf;obtain⟨hd,rfl⟩:=hv;simp only[ou]at hs;split at hs
     .rename_i y hy;split at hs
      .rename_i y1 hy1;obtain⟨a',z,rfl,h1,h2,h3⟩:=qI _ _ _ _ hy;obtain rfl:a=a':=by rw[ha]at h1;exact aa h1
       have hz:eZ h (.x a z) ((aR a z).map .d):=⟨zj t _ _ hd ha,rfl⟩
       have h4:=ih (.x a z) a w y1 ((aR a z).map .d) cw u (by simp[eE]) hz hp hy1 hu' hw hlen;have hle:mI a p+cw.length<=bz a:=by have:=v6 p a u hu' hp;omega
       have h5:((aR (.st t) v).map C.d|>.drop (oR t i)).take (bz a)=(aR a z).map .d:=by rw[<-h3,gX,gm];rfl
       have h6:aU ((aR (.st t) v).map C.d) (oR t i+mI a p) cw=aU ((aR (.st t) v).map C.d) (oR t i) (aU ((aR a z).map .d) (mI a p) cw):=(qc h5 (by simp[bJ,bz];exact h2) hle).symm;rw[e8,h6];split at hs
       .rename_i v' hv';obtain rfl:=aa hs;obtain⟨a2,z2,k1,k2,k3⟩:=HY _ _ _ _ _ hv';obtain rfl:a=a2:=by rw[ha]at k1;exact aa k1
        refine⟨hd,?_⟩;have:=pD k2 h4;rw[this];show _=(aR t v').map C.d;rw[k3,uo];rfl
       .obtain rfl:=aa hs;refine Az (HK t v) t i y1 _ _ a (Nh t v) (Br t v hd) ha h4 ?_ ⟨_,Ng t v i _ hy⟩;rw[up (by simp[bJ];exact hle)];simp[bJ]
      .simp at hs
     .simp at hs
    |rc l=>
     simp only[ou]at hs;split at hs
     .rename_i y hy;split at hs
      .rename_i y1 hy1;obtain rfl:=aa hs;obtain⟨a',cw2,q1,q2,q3,q4,q5⟩:=AF l t i y cs hf hv hy;obtain rfl:a=a':=by rw[ha]at q1;exact aa q1
       have h4:=ih y a w y1 cw2 cw u q2 q3 hp hy1 hu' hw hlen;have hl:=iw q3;rw[gN _ _ _ q2]at hl;have hle:mI a p+cw.length<=bz a:=by have:=v6 p a u hu' hp;omega
       rw[e8,<-qc q5 q4 hle];exact Az l t i y1 cs _ a hf hv ha h4 (by rw[up (by omega),hl]) ⟨_,hy⟩
      .simp at hs
     .simp at hs
    |_=>simp[ou]at hs
   |_=>exact hp.elim
  |ix k=>
   cases t with
   |ar n t=>
    obtain⟨hk,hp⟩:=hp;have hu':qT t p=some u:=hu;cases c with
    |x t' v=>
     simp only[eE,decide_eq_true_eq]at hf;subst hf;obtain⟨hd,rfl⟩:=hv;simp only[ou]at hs;split at hs
     .rename_i y1 hy1;split at hs
      .rename_i z hz;obtain rfl:=aa hs;have hk':k<v.1.length:=by rw[v.2];exact hk
       have hg:=y_ (bJ t) v.1 k hk';have h4:=ih (.x t (gt v.1 k)) t w y1 ((aR t (gt v.1 k)).map .d) cw u (by simp[eE]) ⟨hd,rfl⟩ hp hy1 hu' hw hlen;have h7:=pD hz h4;have hle:mI t p+cw.length<=bz t:=by have:=v6 p t u hu' hp;omega
       have h5:((aR (.ar n t) v).map C.d|>.drop (k*bz t)).take (bz t)=(aR t (gt v.1 k)).map .d:=by rw[<-hg,gX,gm];rfl
       have h8:k*bz t+bz t<=((aR (.ar n t) v).map C.d).length:=by simp only[aN,bJ,bz];have:(k+1)*bz t<=n*bz t:=aI _ hk;rw[bN]at this;omega
       refine⟨hd,?_⟩;show aU _ (k*bz t+mI t p) cw=_;rw[<-qc h5 h8 hle,h7,<-uo];show _=((v.1.set k z).flatMap (aR t)).map C.d;rw[LW (bJ t) v.1 k z hk'];rfl
      .simp at hs
     .simp at hs
    |_=>simp[ou]at hs
   |_=>exact hp.elim
theorem xA{n:Nat}:∀(l:V)(i:Nat)(w:V),eX n h l->rV l i=some w->eX n h w:=by
 intro l;induction l with
 |co a r iha ihr=>intro i w hk hw;cases i with|zero=>obtain rfl:=aa hw;exact hk.1|succ i=>exact ihr i w hk.2 hw
 |_=>intro i w hk hw;simp[rV]at hw
theorem GT{n:Nat}:∀(l:V)(i:Nat)(w:V),eX n h l->eX n h w->eX n h (Km l i w):=by
 intro l;induction l with
 |co a r iha ihr=>intro i w hk hw;cases i with|zero=>exact⟨hw,hk.2⟩|succ i=>exact⟨hk.1,ihr i w hk.2 hw⟩
 |_=>intro i w hk hw;exact hk
theorem Hh{n:Nat}{t:Ty}{v:El t}{i:Nat}{w:V}(hw:z8 t v i=some w):eX n h w:=by obtain⟨u,y,rfl,_⟩:=qI _ _ _ _ hw;trivial
theorem EP{n:Nat}:∀(t:Ty)(v:El t),eX n h (HK t v):=by intro t;induction t with|pr a c iha ihc=>intro v;exact⟨trivial,ihc v.2⟩|_=>intro v;exact⟨trivial,trivial⟩
theorem BV{n:Nat}:∀(p:pO)(c w:V),eX n h c->pz c p=some w->eX n h w:=by
 intro p;induction p with
 |nil=>intro c w hk hw;obtain rfl:c=w:=by simpa[pz]using hw
       exact hk
 |cons q p ih=>
  intro c w hk hw;cases q with
  |fd i=>
   cases c with
   |x t v=>
    cases t with
    |st t=>
     simp only[pz]at hw;split at hw
     .rename_i y hy;exact ih y w (Hh hy) hw
     .simp at hw
    |_=>simp[pz]at hw
   |rc l=>
    simp only[pz]at hw;split at hw
    .rename_i y hy;exact ih y w (xA l _ _ hk hy) hw
    .simp at hw
   |_=>simp[pz]at hw
  |ix k=>
   cases c with
   |x t v=>cases t with|ar m t=>exact ih (.x t (gt v.1 k)) w trivial hw|_=>simp[pz]at hw
   |_=>simp[pz]at hw
theorem GO{n:Nat}:∀(p:pO)(c w c':V),eX n h c->eX n h w->ou c p w=some c'->eX n h c':=by
 intro p;induction p with
 |nil=>intro c w c' _ hw hs;obtain rfl:w=c':=by simpa[ou]using hs
       exact hw
 |cons q p ih=>
  intro c w c' hk hw hs;cases q with
  |fd i=>
   cases c with
   |x t v=>
    cases t with
    |st t=>
     simp only[ou]at hs;split at hs
     .rename_i y hy;split at hs
      .rename_i y1 hy1;split at hs
       .obtain rfl:=aa hs;trivial
       .obtain rfl:=aa hs;exact GT _ _ _ (EP t v) (ih y w y1 (Hh hy) hw hy1)
      .simp at hs
     .simp at hs
    |_=>simp[ou]at hs
   |rc l=>
    simp only[ou]at hs;split at hs
    .rename_i y hy;split at hs
     .rename_i y1 hy1;obtain rfl:=aa hs;exact GT l _ _ hk (ih y w y1 (xA l _ _ hk hy) hw hy1)
     .simp at hs
    .simp at hs
   |_=>simp[ou]at hs
  |ix k=>
   cases c with
   |x t v=>
    cases t with
    |ar m t=>
     simp only[ou]at hs;split at hs
     .split at hs
      .obtain rfl:=aa hs;trivial
      .simp at hs
     .simp at hs
    |_=>simp[ou]at hs
   |_=>simp[ou]at hs
end
section
variable{h:H2}{n:Nat}{h1:bF}
theorem dR{v:V}{c:C}(ha:sW v=false)(hc:eZ h v [c]):sq h v (.c c):=⟨[c],hc,fun e=>(by rw[ha]at e;cases e),fun _=>⟨c,rfl,rfl⟩⟩
theorem xR{v:V}{cs:List C}(ha:sW v=true)(hc:eZ h v cs):sq h v (.agg cs):=⟨cs,hc,fun _=>rfl,fun e=>(by rw[ha]at e;cases e)⟩
theorem jk{v:V}{x:TV}(hx:sq h v x)(ha:sW v=false):∃c,x=.c c/\eZ h v [c]:=by obtain⟨cs,h1,_,h2⟩:=hx;obtain⟨c,rfl,rfl⟩:=h2 ha;exact⟨c,rfl,h1⟩
theorem qx{v:V}{x:TV}(hx:sq h v x):∃cs,eZ h v cs/\cellsOf x=some cs:=by obtain⟨cs,h1,h2,h3⟩:=hx;refine⟨cs,h1,?_⟩;cases ha:sW v with|true=>rw[h2 ha];rfl|false=>obtain⟨c,rfl,rfl⟩:=h3 ha;rfl
theorem kq{k:IntKind}{a:Int}{x:TV}(hx:fV h (.x (.i k) a) x):x=tI k a:=by obtain⟨c,rfl,_,hc⟩:=jk (v:=.x (.i k) a) hx rfl;obtain rfl:=(ck hc).1;rfl
theorem GL{a:Bool}{x:TV}(hx:fV h (.x .b a) x):x=tB a:=by obtain⟨c,rfl,_,hc⟩:=jk (v:=.x .b a) hx rfl;obtain rfl:=(ck hc).1;rfl
theorem wO{a:ByteArray}{x:TV}(hx:fV h (.x .s a) x):x=.c (.d (dS a)):=by obtain⟨c,rfl,_,hc⟩:=jk (v:=.x .s a) hx rfl;obtain rfl:=(ck hc).1;rfl
theorem xP{t:Ty}{s:Sl (El t)}{x:TV}(hx:fV h (.x (.sl t) s) x):x=.c (.d (vQ (bz t) (aR t) s)):=by obtain⟨c,rfl,_,hc⟩:=jk (v:=.x (.sl t) s) hx rfl;obtain rfl:=(ck hc).1;rfl
theorem vN{a:Bool}{x:TV}(hx:fV h (.kb a) x):x=tB a:=by obtain⟨c,rfl,hc⟩:=jk (v:=.kb a) hx rfl;obtain rfl:=(ck hc).1;rfl
theorem vM{k:Nat}{x:TV}(hx:fV h (.nl k) x):x=.c (Dt k):=by obtain⟨c,rfl,hc⟩:=jk (v:=.nl k) hx rfl;obtain rfl:=(ck hc).1;rfl
theorem xQ{t:Ty}{a:El t}{x:TV}(hx:fV h (.pt t a) x):kD t=true/\x=.c (.d (.pt (aR t a))):=by obtain⟨c,rfl,hd,hc⟩:=jk (v:=.pt t a) hx rfl;obtain rfl:=(ck hc).1;exact⟨hd,rfl⟩
theorem vL{id:Nat}{t:Ty}{p:pO}{x:TV}(hx:fV h (.op id t p) x):x=.c (.op id (mI t p)):=by obtain⟨c,rfl,hc⟩:=jk (v:=.op id t p) hx rfl;obtain rfl:=(ck hc).1;rfl
theorem sn{id m:Nat}{t:Ty}{p:pO}{x:TV}(hx:fV h (.ep id m t p) x):x=.c (.ep id m (mI t p)):=by obtain⟨c,rfl,hc⟩:=jk (v:=.ep id m t p) hx rfl;obtain rfl:=(ck hc).1;rfl
theorem EL{id:Nat}{x:TV}(hx:fV h (.om id) x):x=.c (.om id):=by obtain⟨c,rfl,hc⟩:=jk (v:=.om id) hx rfl;obtain rfl:=(ck hc).1;rfl
theorem sj{id:Nat}{c:C}{x:TV}(hx:fV h (.so id) x)(hc:Aq id (fO h id)=some c):x=.c c:=by obtain⟨c',rfl,c2,h2,h3⟩:=jk (v:=.so id) hx rfl;obtain rfl:=(ck h2).1;rw[h3.1 c hc]
theorem JU{id:Nat}{c:C}{x:TV}(hx:fV h (.sr id) x)(hc:EC id (fO h id)=some c):x=.c c:=by obtain⟨c',rfl,c2,h2,h3⟩:=jk (v:=.sr id) hx rfl;obtain rfl:=(ck h2).1;rw[h3.1 c hc]
theorem su{id:Nat}{t:Ty}{s:Sl (Sl (El t))}{ln:Option (Nat×Nat)}(ho:fO h id=some (.rw t s ln)):EC id (fO h id)=some (mj 1 (aR (.sl t)) id s):=by rw[ho];rfl
theorem qa{id ver lo:Nat}{t:Ty}{r:Sl (El t)}{x:TV}(hx:fV h (.sb id ver lo t r) x)(ha:iq h (.sb id ver lo t r)=true):x=.c (yb id lo t r):=by obtain⟨c',rfl,c2,h2,h3⟩:=jk (v:=.sb id ver lo t r) hx rfl;obtain rfl:=(ck h2).1;rw[h3.1 (Bool.and_eq_true_iff.1 ha).2]
theorem EM{z:Bool}{f:Nat}{l:V}{x:TV}(hx:fV h (.fn z f l) x):(z=true/\∃ds,qt l=some ds/\x=.c (.d (.fn f ds)))\/(z=false/\∃cs,eZ h l cs/\x=.c (.oN f cs)):=by obtain⟨c',rfl,hc⟩:=jk (v:=.fn z f l) hx rfl;cases z with|true=>obtain⟨ds,h2,h3⟩:=hc;exact .inl ⟨rfl,ds,h2,by rw[(ck h3).1]⟩|false=>obtain⟨ds,h2,h3⟩:=hc;exact .inr ⟨rfl,ds,h2,by rw[(ck h3).1]⟩
theorem PL{l:V}{x:TV}(hx:fV h (.tp l) x):∃xs,x=.iN xs/\Bo h l xs:=hx
def NJ:V->Prop
 |.tp _|.no|.gn=>False
 |_=>True
theorem oK{v:V}{x:TV}(hv:NJ v)(hx:fV h v x):sq h v x:=by cases v<;>first|exact hx|exact hv.elim
theorem ci{v:V}{x:TV}(hx:sq h v x):fV h v x:=by cases v<;>first|exact hx|(obtain⟨cs,hc,_⟩:=hx;exact hc.elim)
theorem Pn{v:V}{u:Ty}{y:El u}(hc:tM u v=some y):NJ v:=by cases v<;>first|trivial|(simp[tM,kN,ic]at hc)
theorem vv{v:V}{u:Ty}{y:El u}{x:TV}(hx:fV h v x)(hc:tM u v=some y):(nc u=true->x=.agg ((aR u y).map .d))/\(nc u=false->∃d,aR u y=[d]/\x=.c (.d d)):=by
 obtain⟨cs,h2,h3,h4⟩:=oK (Pn hc) hx;have h5:=iS v false u y cs hc h2;have ha:=wy hc;constructor
 .intro hu;rw[h3 (ha.trans hu),h5]
 .intro hu;obtain⟨c,rfl,rfl⟩:=h4 (ha.trans hu);cases he:aR u y with
  |nil=>rw[he]at h5;simp at h5
  |cons d ds=>
   rw[he]at h5;simp only[List.map_cons,List.cons.injEq]at h5;obtain⟨rfl,h6⟩:=h5;have:ds=[]:=by simpa using h6.symm
   subst this;exact⟨d,rfl,rfl⟩
theorem Pm{v:V}{x:TV}{a:Bool}(hx:fV h v x)(hc:tM .b v=some a):x=tB a:=by obtain⟨d,h1,rfl⟩:=(vv hx hc).2 rfl;obtain rfl:=(ck h1).1;rfl
def mE(h:H2):List V->List TV->Prop
 |[],[]=>True
 |v::vs,x::xs=>fV h v x/\mE h vs xs
 |_,_=>False
theorem lO{xs:List TV}(hx:mE h [] xs):xs=[]:=by cases xs<;>first|rfl|exact hx.elim
theorem gL{v:V}{vs:List V}{xs:List TV}(hx:mE h (v::vs) xs):∃x ys,xs=x::ys/\fV h v x/\mE h vs ys:=by cases xs with|nil=>exact hx.elim|cons x ys=>exact⟨x,ys,rfl,hx.1,hx.2⟩
theorem iM{v:V}{xs:List TV}(hx:mE h [v] xs):∃x,xs=[x]/\fV h v x:=by obtain⟨x,ys,rfl,h1,h2⟩:=gL hx;obtain rfl:=lO h2;exact⟨x,rfl,h1⟩
theorem ja{v w:V}{xs:List TV}(hx:mE h [v,w] xs):∃x y,xs=[x,y]/\fV h v x/\fV h w y:=by obtain⟨x,ys,rfl,h1,h2⟩:=gL hx;obtain⟨y,rfl,h3⟩:=iM h2;exact⟨x,y,rfl,h1,h3⟩
theorem PK{v w z:V}{xs:List TV}(hx:mE h [v,w,z] xs):∃x y u,xs=[x,y,u]/\fV h v x/\fV h w y/\fV h z u:=by obtain⟨x,ys,rfl,h1,h2⟩:=gL hx;obtain⟨y,u,rfl,h3⟩:=ja h2;exact⟨x,y,u,rfl,h1,h3⟩
theorem JT:∀{vs:List V}{xs:List TV},mE h vs xs->(∀v∈vs,NJ v/\sW v=false)->∃cs,eZ h (di vs) cs/\xs=cs.map TV.c:=by intro vs;induction vs with|nil=>intro xs hx _;obtain rfl:=lO hx;exact⟨[],rfl,rfl⟩|cons v vs ih=>intro xs hx hv;obtain⟨x,ys,rfl,h1,h2⟩:=gL hx;obtain⟨hp,ha⟩:=hv v (by simp);obtain⟨c,rfl,h3⟩:=jk (oK hp h1) ha;obtain⟨cs,h4,rfl⟩:=ih h2 fun w hw=>hv w (by simp[hw]);exact⟨c::cs,⟨[c],cs,rfl,h3,h4⟩,rfl⟩
theorem ur{id:Nat}{q:(t:Ty)×Sl (El t)×List Nat}(hs:tT h (.so id)=some q):∃ver,(fO h id=some (.ar q.1 q.2.1 ver)\/fO h id=some (.im q.1 q.2.1 ver))/\q.2.2=[id]:=by
 simp only[tT]at hs;split at hs
 .rename_i t s v ho;obtain rfl:=aa hs;exact⟨v,.inl ho,rfl⟩
 .rename_i t s v ho;obtain rfl:=aa hs;exact⟨v,.inr ho,rfl⟩
 .simp at hs
theorem mi{id ver:Nat}{t:Ty}{s:Sl (El t)}(ho:fO h id=some (.ar t s ver)\/fO h id=some (.im t s ver)):Aq id (fO h id)=some (mj (bz t) (aR t) id s):=by rcases ho with ho|ho<;>rw[ho]<;>rfl
theorem Qp{id lo nx:Nat}{t:Ty}{r:Sl (El t)}{c:Call}{H:bF}:cN c (.len false) [some (.c (yb id lo t r))] H nx=some (tI .i64 r.l.length,[],[],nx):=by cases r with|nil=>rfl|mk l=>simp[cN,ud,yb,Sl.l,lv]
theorem Qn{v:V}{x:TV}{q:(t:Ty)×Sl (El t)×List Nat}{c:Call}{H:bF}{nx:Nat}(hx:fV h v x)(ha:iq h v=true)(hs:tT h v=some q):
  cN c (.len false) [some x] H nx=some (tI .i64 q.2.1.l.length,[],[],nx):=by
 cases v with
 |x t s=>cases t with|sl t=>obtain rfl:=aa hs;rw[xP hx];exact Qo|_=>simp[tT]at hs
 |so id=>obtain⟨ver,ho,_⟩:=ur hs;rw[sj hx (mi ho)];exact O_
 |sb id ver lo t r=>obtain rfl:=aa hs;rw[qa hx ha];exact Qp
 |_=>simp[tT]at hs
theorem Lp{id lo nx:Nat}{t:Ty}{r:Sl (El t)}{c:Call}{H:bF}{neg:Bool}:cN c (.qL 0 neg) [some (.c (yb id lo t r))] H nx=some (tB (if neg then !r.fI else r.fI),[],[],nx):=by cases r<;>rfl
theorem Qe{v:V}{x:TV}{q:(t:Ty)×Sl (El t)×List Nat}{c:Call}{H:bF}{nx:Nat}{neg:Bool}(hx:fV h v x)(ha:iq h v=true)(hs:tT h v=some q):
  cN c (.qL 0 neg) [some x] H nx=some (tB (if neg then !q.2.1.fI else q.2.1.fI),[],[],nx):=by
 cases v with
 |x t s=>cases t with|sl t=>obtain rfl:=aa hs;rw[xP hx];exact Qf|_=>simp[tT]at hs
 |so id=>obtain⟨ver,ho,_⟩:=ur hs;rw[sj hx (mi ho)];exact R3
 |sb id ver lo t r=>obtain rfl:=aa hs;rw[qa hx ha];exact Lp
 |_=>simp[tT]at hs
theorem ol{g:Bool}{m:Nat}{w:V}(hc:Gp h g m w=true):sW w=g/\xV w=m/\(g=false->m=1)/\iq h w=true:=by
 simp only[Gp,ai,beq_iff_eq,Bool.or_eq_true]at hc;obtain⟨⟨⟨h1,h2⟩,h3⟩,h4⟩:=hc;refine⟨h1,h2,fun e=>?_,h4⟩;rcases h3 with h3|h3
 .rw [e]at h3;cases h3
 .exact h3
theorem pu{g:Bool}{m off:Nat}{cs cw:List C}{w:V}(hc:Gp h g m w=true)(hw:eZ h w cw)(hle:off+m<=cs.length)(he:(cs.drop off).take m=cw):∃x,DJ g m (cs.drop off)=some x/\fV h w x:=by
 obtain⟨ha,hs,hm,_⟩:=ol hc;cases g with
 |true=>refine⟨.agg cw,?_,ci (xR ha hw)⟩;simp only[DJ,if_true];rw[if_pos (by simp;omega),he]
 |false=>obtain rfl:=hm rfl;cases hd:cs.drop off with|nil=>have:=congrArg List.length hd;simp at this;omega|cons c r=>rw[hd]at he;subst he;exact⟨.c c,rfl,ci (dR ha hw)⟩
theorem BO{g:Bool}{m:Nat}{ds:List D}:Pb g m ds=DJ g m (ds.map .d):=by
 unfold Pb DJ;cases g
 .cases ds<;>simp
 .simp
theorem wa{p w:V}{l:List Nat}{g:Bool}{m nx:Nat}{c:Call}{x:TV}(hr:HR n h1 h)(hl:yJ h p=some (w,l))(hc:Gp h g m w=true)(hx:fV h p x)(hok:eX n h p):
  ∃y,cN c (.load g m) [some x] h1 nx=some (y,[],l,nx)/\fV h w y/\eX n h w:=by
 cases p with
 |pt t v=>obtain⟨rfl,rfl⟩:=ad (aa hl);obtain⟨hd,rfl⟩:=xQ hx;obtain⟨_,hs,_,_⟩:=ol hc;have hs':bz t=m:=hs;obtain⟨y,h2,h3⟩:=pu (cs:=(aR t v).map .d) (off:=0) hc (show eZ h (.x t v) ((aR t v).map .d)from⟨hd,rfl⟩) (by simp[bJ];omega) (by rw[cP,dN (by simp[bJ];omega)]);refine⟨y,?_,h3,trivial⟩;rw[cP,<-BO]at h2;simp only[cN,h_,h2]
 |op id t p=>
  obtain rfl:=vL hx;simp only[yJ]at hl;split at hl
  .rename_i u cc ho;obtain⟨_,hb,hko⟩:=hr.ob id _ ho;obtain⟨cs,h2,h3,h4⟩:=hb;by_cases hu:u=t
   .subst hu;simp only[decide_true,cond_true]at hl;split at hl
    .rename_i w' hw;obtain⟨rfl,rfl⟩:=ad (aa hl);obtain⟨a,cw,q1,q2,q3,q4,q5⟩:=wl p cc u w' cs h4 h3 hok.2 hw;obtain⟨_,hs,_,_⟩:=ol hc;rw[gN _ _ _ q2]at hs;subst hs;obtain⟨y,h5,h6⟩:=pu hc q3 q4 q5;refine⟨y,?_,h6,BV p cc w' hko hw⟩;simp only[cN,h_,h2,h5]
    .simp at hl
   .simp [hu]at hl
  .rename_i u v ho;obtain⟨_,hb,hko⟩:=hr.ob id _ ho;obtain⟨hd,h2⟩:=hb;by_cases hu:u=t
   .subst hu;simp only[decide_true,cond_true]at hl;split at hl
    .rename_i w' hw;obtain⟨rfl,rfl⟩:=ad (aa hl);obtain⟨a,cw,q1,q2,q3,q4,q5⟩:=wl (h:=h) p (.x u v) u w' ((aR u v).map .d) (by simp[eE]) ⟨hd,rfl⟩ hok.2 hw;obtain⟨_,hs,_,_⟩:=ol hc;rw[gN _ _ _ q2]at hs;subst hs;obtain⟨y,h5,h6⟩:=pu hc q3 q4 q5;refine⟨y,?_,h6,BV p (.x u v) w' trivial hw⟩;rw[<-gm,<-BO]at h5;simp only[cN,h_,h2,h5]
    .simp at hl
   .simp [hu]at hl
  .simp at hl
 |ep id k t p=>
  obtain rfl:=sn hx;obtain⟨_,hp,hk,_⟩:=hok
  have main:∀(u:Ty)(s:Sl (El u))(ver:Nat),(fO h id=some (.ar u s ver)\/fO h id=some (.im u s ver))->(bif decide (u=t)then(match pz (.x u (gt s.l k)) p with|some w=>some (w,[id])|none=>none)else none)=some (w,l)->
    ∃y,cN c (.load g m) [some (.c (.ep id k (mI t p)))] h1 nx=some (y,[],l,nx)/\fV h w y/\eX n h w:=by
   intro u s ver ho hl;have hlt:=hk u s ver ho;by_cases hu:u=t
   .subst hu;simp only[decide_true,cond_true]at hl;split at hl
    .rename_i w' hw;obtain⟨rfl,rfl⟩:=ad (aa hl);cases s with
     |nil=>simp[Sl.l]at hlt
     |mk ls=>
     have hrow:(ls.map (aR u))[k]?=some (aR u (gt ls k)):=rt hlt;have hd:kD u=true:=by rcases ho with ho|ho<;>exact(hr.ob id _ ho).2.1.1
     obtain⟨a,cw,q1,q2,q3,q4,q5⟩:=wl (h:=h) p (.x u (gt ls k)) u w' ((aR u (gt ls k)).map .d) (by simp[eE]) ⟨hd,rfl⟩ hp hw;obtain⟨_,hs,_,_⟩:=ol hc;rw[gN _ _ _ q2]at hs;subst hs;obtain⟨y,h5,h6⟩:=pu hc q3 q4 q5;refine⟨y,?_,h6,BV p (.x u (gt ls k)) w' trivial hw⟩;rw[<-gm,<-BO]at h5;rcases ho with ho|ho
     .have h2:=(hr.ob id _ ho).2.1.2.2 ls rfl;simp only[cN,h_,h2,hrow,h5]
     .have h2:=(hr.ob id _ ho).2.1.2.2 ls rfl;simp only[cN,h_,h2,hrow,h5]
    .simp at hl
   .simp [hu]at hl
  simp only[yJ]at hl;split at hl
  .rename_i u s ver ho;exact main u s ver (.inl ho) hl
  .rename_i u s ver ho;exact main u s ver (.inr ho) hl
  .simp at hl
 |_=>simp[yJ]at hl
end
end Go.Ev
