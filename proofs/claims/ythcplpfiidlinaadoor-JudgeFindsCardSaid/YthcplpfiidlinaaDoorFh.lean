/- Typed data by codes: the types, the values that a frame holds, its objects, and how they are laid into the abstract machine's. Conditions: none, these are definitions. -/
import Derived.Test.YthcplpfiidlinaaDoorEvY
noncomputable section
open Bool renaming and_eq_true->ai
open List renaming append_assoc->aL,append_nil->bB,drop_append_of_le_length->eu,drop_drop->dv,drop_length->fH,drop_zero->cS,flatMap_cons->bi,length_append->av,length_map->aN,length_replicate->de,map_drop->gy,map_take->g_,nil_append->bh,replicate->az,take_append_drop->je,take_of_length_le->dm
open List.cons renaming inj->ct
open Nat renaming add_assoc->cO,add_mul->bO,beq->kT,ble->jc,blt->nn,le_refl->au,mul_le_mul_right->aI
open Option.some renaming inj->aa
open Prod.mk renaming inj->ad
open Sigma.mk renaming inj->kj
namespace Go.Ev
inductive Ty where
 |i (k:IntKind)
 |b
 |s
 |f (k:FloatKind)
 |sl (t:Ty)
 |mp (k v:Ty)
 |un
 |pr (a c:Ty)
 |st (t:Ty)
 |ar (n:Nat) (t:Ty)
 |o (k:Nat)
 deriving Inhabited,DecidableEq
def Arr(n:Nat)(α:Type):Type:={l:List α//l.length=n}
instance{n:Nat}{α:Type}[Inhabited α]:Inhabited (Arr n α):=⟨⟨az n default,de⟩⟩
instance{n:Nat}{α:Type}[DecidableEq α]:DecidableEq (Arr n α):=inferInstanceAs (DecidableEq {l:List α//l.length=n})
instance Hz:(t:Ty)->Inhabited (El t)
 |.i _=>⟨(0:Int)⟩
 |.b=>⟨false⟩
 |.s=>⟨(default:ByteArray)⟩
 |.f _=>⟨(0:Nat)⟩
 |.sl _=>⟨Sl.nil⟩
 |.mp _ _=>⟨Mp.none⟩
 |.un=>⟨()⟩
 |.pr a c=>⟨((Hz a).default,(Hz c).default)⟩
 |.st t=>Hz t
 |.ar n t=>⟨⟨az n (Hz t).default,de⟩⟩
 |.o _=>⟨()⟩
def sd:(t:Ty)->El t
 |.i _=>(0:Int)
 |.b=>false
 |.s=>(ByteArray.empty)
 |.f _=>(0:Nat)
 |.sl _=>Sl.nil
 |.mp _ _=>Mp.none
 |.un=>()
 |.pr a c=>(sd a,sd c)
 |.st t=>sd t
 |.ar n t=>⟨az n (sd t),de⟩
 |.o _=>()
def gM(t u:Ty)(v:El t):Option (El u):=if h:t=u then some (h▸v)else none
def bE:Ty->Nat
 |.un=>0
 |.pr a c=>bE a+bE c
 |.st t=>bE t
 |.ar n t=>n*bE t
 |_=>1
def kV:Ty->Bool
 |.o _|.mp _ _=>false
 |.pr a c=>kV a&&kV c
 |.st t|.ar _ t|.sl t=>kV t
 |_=>true
def nq:Ty->Bool
 |.st _|.ar _ _=>true
 |_=>false
def aT:(t:Ty)->El t->List D
 |.i k,x=>[.lit (.int k x)]
 |.b,x=>[.lit (.bool x)]
 |.s,x=>[.lit (.string x)]
 |.f k,x=>[.lit (.float k x)]
 |.sl t,x=>[By (bE t) (aT t) x]
 |.mp _ _,_=>[.lit .nilFunc]
 |.un,_=>[]
 |.pr a c,x=>aT a x.1++aT c x.2
 |.st t,x=>aT t x
 |.ar _ t,x=>x.1.flatMap (aT t)
 |.o _,_=>[.lit .nilFunc]
inductive Pe where
 |fd (i:Nat)
 |ix (n:Nat)
abbrev pR:=List Pe
inductive V where
 |x (t:Ty) (v:El t)
 |kb (c:Bool)
 |nl (k:Nat)
 |so (id:Nat)
 |sr (id:Nat)
 |sb (id ver lo:Nat) (t:Ty) (r:Sl (El t))
 |op (id:Nat) (t:Ty) (p:pR)
 |ep (id n:Nat) (t:Ty) (p:pR)
 |pt (t:Ty) (v:El t)
 |fn (z:Bool) (f:Nat) (caps:V)
 |om (id:Nat)
 |rc (l:V)
 |tp (l:V)
 |ni
 |co (a r:V)
 |fl (l:List Value)
 |no
 |gn
inductive O where
 |ar (t:Ty) (s:Sl (El t)) (ver:Nat)
 |im (t:Ty) (s:Sl (El t)) (ver:Nat)
 |bx (t:Ty) (c:V)
 |ib (t:Ty) (v:El t)
 |mp (k v:Ty) (m:Mp (El k) (El v))
 |rw(t:Ty) (s:Sl (Sl (El t))) (ln:Option (Nat×Nat))
def Aa:(t:Ty)->El t->Nat->Option V
 |.pr a _,v,0=>some (.x a v.1)
 |.pr _ c,v,n+1=>Aa c v.2 n
 |t,v,0=>some (.x t v)
 |_,_,_=>none
def Cr:Ty->Nat->Option Ty
 |.pr a _,0=>some a
 |.pr _ c,n+1=>Cr c n
 |t,0=>some t
 |_,_=>none
def oU:Ty->Nat->Nat
 |.pr _ _,0=>0
 |.pr a c,n+1=>bE a+oU c n
 |_,_=>0
def HX:(t:Ty)->El t->V
 |.pr a c,v=>.co (.x a v.1) (HX c v.2)
 |t,v=>.co (.x t v) .ni
def So(k:IntKind):List Value->Option (Int×List Value)
 |.int k' n::r=>if k'=k then some (n,r)else none
 |_=>none
def Sp:List Value->Option (Bool×List Value)
 |.bool c::r=>some (c,r)
 |_=>none
def Sm:List Value->Option (ByteArray×List Value)
 |.string c::r=>some (c,r)
 |_=>none
def Po(k:FloatKind):List Value->Option (Nat×List Value)
 |.float k' n::r=>if k'=k then some (n,r)else none
 |_=>none
def Sn{α:Type}:List Value->Option (Sl α×List Value)
 |.slice none 0 0::r=>some (Sl.nil,r)
 |_=>none
def OA{α:Type}(f:List Value->Option (α×List Value)):(m:Nat)->List Value->Option (Arr m α×List Value)
 |0,l=>some (⟨[],rfl⟩,l)
 |m+1,l=>match f l with|some (x,l)=>(match OA f m l with|some (v,l)=>some (⟨x::v.1,by rw[List.length_cons,v.2]⟩,l)|none=>none)|none=>none
def uF:(t:Ty)->List Value->Option (El t×List Value)
 |.i k=>So k
 |.b=>Sp
 |.s=>Sm
 |.f k=>Po k
 |.sl _=>Sn
 |.pr a c=>fun l=>match uF a l with|some (x,l)=>(match uF c l with|some (y,l)=>some ((x,y),l)|none=>none)|none=>none
 |.st t=>uF t
 |.ar n t=>OA (uF t) n
 |.mp _ _|.un|.o _=>fun _=>none
def ii(u:Ty):V->Option (El u)
 |.x t v=>gM t u v
 |.kb c=>gM .b u c
 |.nl 0=>(match u with|.sl _=>some Sl.nil|_=>none)
 |.fl l=>bif nq u then(match uF u l with|some (x,[])=>some x|_=>none)else none
 |_=>none
def Ie:(t:Ty)->El t->Nat->V->Option (El t)
 |.pr a _,v,0,w=>match ii a w with|some y=>some (y,v.2)|none=>none
 |.pr _ c,v,n+1,w=>match Ie c v.2 n w with|some y=>some (v.1,y)|none=>none
 |t,_,0,w=>ii t w
 |_,_,_,_=>none
def rU:V->Nat->Option V
 |.co a _,0=>some a
 |.co _ r,n+1=>rU r n
 |_,_=>none
def KA:V->Nat->V->V
 |.co _ r,0,w=>.co w r
 |.co a r,n+1,w=>.co a (KA r n w)
 |l,_,_=>l
def pB:V->pR->Option V
 |v,[]=>some v
 |.x (.st t) v,.fd i::p=>match Aa t v i with|some w=>pB w p|none=>none
 |.x (.ar _ t) v,.ix k::p=>pB (.x t (gt v.1 k)) p
 |.rc l,.fd i::p=>match rU l i with|some w=>pB w p|none=>none
 |_,_=>none
def oB:V->pR->V->Option V
 |_,[],w=>some w
 |.x (.st t) v,.fd i::p,w=>
  match Aa t v i with
  |some y=>match oB y p w with|some y'=>(match Ie t v i y' with|some v'=>some (.x (.st t) v')|none=>some (.rc (KA (HX t v) i y')))|none=>none
  |none=>none
 |.x (.ar n t) v,.ix k::p,w=>match oB (.x t (gt v.1 k)) p w with|some y=>(match ii t y with|some y'=>some (.x (.ar n t) (v.set k y'))|none=>none)|none=>none
 |.rc l,.fd i::p,w=>match rU l i with|some y=>(match oB y p w with|some y'=>some (.rc (KA l i y'))|none=>none)|none=>none
 |_,_,_=>none
def qT:Ty->pR->Option Ty
 |t,[]=>some t
 |.st t,.fd i::p=>match Cr t i with|some u=>qT u p|none=>none
 |.ar _ t,.ix _::p=>qT t p
 |_,_=>none
def mM:Ty->pR->Nat
 |.st t,.fd i::p=>oU t i+(match Cr t i with|some u=>mM u p|none=>0)
 |.ar _ t,.ix k::p=>k*bE t+mM t p
 |_,_=>0
def II:Ty->pR->Prop
 |.st t,.fd i::p=>∃u,Cr t i=some u/\II u p
 |.ar n t,.ix k::p=>k<n/\II t p
 |_,[]=>True
 |_,_=>False
def Bn:Ty->V×V
 |.pr a c=>(.no,.co (Bn a).1 (Bn c).2)
 |.st t=>(bif kV t then .x (.st t) (sd t)else .rc (Bn t).2,.co (bif kV t then .x (.st t) (sd t)else .rc (Bn t).2) .ni)
 |.o k=>(.nl k,.co (.nl k) .ni)
 |.mp _ _=>(.nl 3,.co (.nl 3) .ni)
 |.sl t=>(bif kV t then .x (.sl t) Sl.nil else .nl 0,.co (bif kV t then .x (.sl t) Sl.nil else .nl 0) .ni)
 |.ar n t=>(bif kV t then .x (.ar n t) (sd (.ar n t))else .no,.co (bif kV t then .x (.ar n t) (sd (.ar n t))else .no) .ni)
 |.un=>(.x .un (),.co (.x .un ()) .ni)
 |.i k=>(.x (.i k) (0:Int),.co (.x (.i k) (0:Int)) .ni)
 |.b=>(.x .b false,.co (.x .b false) .ni)
 |.s=>(.x .s ByteArray.empty,.co (.x .s ByteArray.empty) .ni)
 |.f k=>(.x (.f k) (0:Nat),.co (.x (.f k) (0:Nat)) .ni)
abbrev O5(t:Ty):V:=(Bn t).1
def Dt(k:Nat):C:=.d (.lit (match k with|0=>.slice none 0 0|1=>.pointer none|2=>.nilFunc|3=>.map none|_=>.nilIface))
def Au(id:Nat):Option O->Option C
 |some (.ar t s _)=>some (mQ (bE t) (aT t) id s)
 |some (.im t s _)=>some (mQ (bE t) (aT t) id s)
 |_=>none
def pm(t:Ty):Sl (El t)->kW
 |.nil=>.nil
 |.mk l=>.bt (l.map (aT t))
def Iy{α:Type}(id:Nat):Sl α->kW
 |.nil=>.nil
 |.mk l=>.dV id l.length
def fR(t:Ty)(l:List (Sl (El t))):Option (Nat×Nat)->List kW
 |none=>l.map (pm t)
 |some (m,id)=>(l.map (pm t)).set m (Iy id (gt l m))
def EZ(id:Nat):Option O->Option C
 |some (.rw t s _)=>some (mQ 1 (aT (.sl t)) id (s:Sl (Sl (El t))))
 |_=>none
def zO(id lo:Nat)(t:Ty):Sl (El t)->C
 |.nil=>.d (.lit (.slice none 0 0))
 |.mk l=>.fk (bE t) id lo (l.map (aT t)).length
def qt:V->Option (List D)
 |.pt t v=>if kV t then some [.pt (aT t v)]else none
 |.ni=>some []
 |.co a r=>match qt a,qt r with|some x,some y=>some (x++y)|_,_=>none
 |_=>none
def sW:V->Bool
 |.x t _=>nq t
 |.rc _|.fl _=>true
 |_=>false
deriving instance DecidableEq for Mp
instance zf:(t:Ty)->DecidableEq (El t)
 |.i _=>inferInstanceAs (DecidableEq Int)
 |.b=>inferInstanceAs (DecidableEq Bool)
 |.s=>inferInstanceAs (DecidableEq ByteArray)
 |.f _=>inferInstanceAs (DecidableEq Nat)
 |.sl t=>@instDecidableEqSl (El t) (zf t)
 |.mp k v=>@instDecidableEqMp (El k) (El v) (zf k) (zf v)
 |.un=>inferInstanceAs (DecidableEq Unit)
 |.pr a c=>@instDecidableEqProd (El a) (El c) (zf a) (zf c)
 |.st t=>zf t
 |.ar n t=>@instDecidableEqArr n (El t) (zf t)
 |.o _=>inferInstanceAs (DecidableEq Unit)
structure S2 where
 dO:List (Nat×V)
 heap:H2
 next:Nat
 wo:List Nat
 gh:V
structure OP where
 o:nY
 t:Ty
 fi:List Nat
def Cj:V->Bool
 |.pt t _=>kV t
 |.ni=>true
 |.co a r=>Cj a&&Cj r
 |_=>false
def iB(h:H2):V->Bool
 |.x t _=>kV t
 |.pt t _=>kV t
 |.kb _|.nl _=>true
 |.op id _ _|.ep id _ _ _|.om id=>(match fO h id with|some _=>true|none=>false)
 |.so id=>(match fO h id with|some (.ar _ _ _)|some (.im _ _ _)=>true|_=>false)
 |.sr id=>(match fO h id with|some (.rw _ _ _)=>true|_=>false)
 |.sb id ver _ t _=>kV t&&(match fO h id with|some (.ar _ _ v)|some (.im _ _ v)=>v==ver|_=>false)
 |.fn true _ l=>Cj l
 |.fn false _ l=>iB h l
 |.rc l|.tp l=>iB h l
 |.fl l=>l.all dY
 |.ni=>true
 |.co a r=>iB h a&&iB h r
 |.no|.gn=>false
def SM:Value->Option V
 |.bool c=>some (.kb c)
 |.int k n=>some (.x (.i k) n)
 |.float k n=>some (.x (.f k) n)
 |.string s=>some (.x .s s)
 |.pointer none=>some (.nl 1)
 |.slice none 0 0=>some (.nl 0)
 |.nilFunc=>some (.nl 2)
 |.map none=>some (.nl 3)
 |.nilIface=>some (.nl 4)
 |.agg cs=>if cs.toList.all dY then some (.fl cs.toList)else none
 |_=>none
def LS:Nat->Option V:=fun g => if g = 0 then some (.pt (.ar 32 (.i .u8)) (⟨[0, 1, 28, 2, 29, 14, 24, 3, 30, 22, 20, 15, 25, 17, 4, 8, 31, 27, 13, 23, 21, 19, 16, 7, 26, 12, 18, 6, 11, 5, 10, 9], rfl⟩ : Arr 32 Int)) else none
def JT(e:List (Nat×V))(h:H2):Operand->Option V
 |.tmp t=>match cu e t with|some v=>bif iB h v then some v else none|none=>none
 |.const c=>SM c
 |.global g=>LS g
 |.func f=>some (.fn true f .ni)
def xT:V->Nat
 |.x t _=>bE t
 |.rc l=>xT l
 |.co a r=>xT a+xT r
 |.ni=>0
 |.fl l=>l.length
 |_=>1
def On:V->Nat->Nat
 |.co a r,n+1=>xT a+On r n
 |_,_=>0
def dj:List V->V
 |[]=>.ni
 |v::r=>.co v (dj r)
def Aq:V->List V
 |.co a r=>a::Aq r
 |_=>[]
def kP:V->Bool->(u:Ty)->Option (El u)
 |.rc l,false,.st u=>kP l true u
 |.co a r,true,.pr t u=>match kP a false t,kP r true u with|some x,some y=>some (x,y)|_,_=>none
 |.co a .ni,true,u=>kP a false u
 |.ni,_,_=>none
 |v,false,u=>ii u v
 |_,_,_=>none
abbrev tL(u:Ty)(v:V):Option (El u):=kP v false u
def eC:V->Bool->Ty->Bool
 |.x u _,false,t=>decide (u=t)
 |.rc l,false,.st t=>eC l true t
 |.co a r,true,.pr t u=>eC a false t&&eC r true u
 |.co a .ni,true,t=>eC a false t
 |.kb _,false,.b=>true
 |.nl 0,false,.sl _|.so _,false,.sl _|.sr _,false,.sl _|.sb _ _ _ _ _,false,.sl _=>true
 |.nl 3,false,.mp _ _|.om _,false,.mp _ _=>true
 |.nl _,false,.o _|.op _ _ _,false,.o _|.ep _ _ _ _,false,.o _|.pt _ _,false,.o _|.fn _ _ _,false,.o _=>true
 |_,_,_=>false
def Na(t:Ty)(v:V):Option V:=match(bif kV t then ii t v else none)with|some y=>some (.x t y)|none=>bif eC v false t then some v else none
def tZ(h:H2):V->Option ((t:Ty)×Sl (El t)×List Nat)
 |.x (.sl t) s=>some ⟨t,s,[]⟩
 |.so id=>(match fO h id with|some (.ar t s _)|some (.im t s _)=>some ⟨t,s,[id]⟩|_=>none)
 |.sb id _ _ t r=>some ⟨t,r,[id]⟩
 |_=>none
def Ko(t:Ty)(h:H2):V->Option ((t:Ty)×Sl (El t)×List Nat)
 |.nl 0=>some ⟨t,Sl.nil,[]⟩
 |v=>tZ h v
def kK(h:H2):V->Option (V×List Nat)
 |.so id=>match tZ h (.so id)with|some ⟨t,s,l⟩=>some (.x (.sl t) s,l)|none=>none
 |.sr id=>match fO h id with|some (.rw t s none)=>some (.x (.sl (.sl t)) s,[id])|_=>none
 |.sb id ver lo t r=>match tZ h (.sb id ver lo t r)with|some ⟨t,s,l⟩=>some (.x (.sl t) s,l)|none=>none
 |.rc l=>match kK h l with|some (w,l)=>some (.rc w,l)|none=>none
 |.co a r=>match kK h a,kK h r with|some (x,l),some (y,m)=>some (.co x y,l++m)|_,_=>none
 |.x t v=>some (.x t v,[])
 |.kb c=>some (.kb c,[])
 |.nl k=>some (.nl k,[])
 |.fl l=>some (.fl l,[])
 |.ni=>some (.ni,[])
 |.fn true f l=>some (.fn true f l,[])
 |.pt t v=>some (.pt t v,[])
 |_=>none
def Uy(c:Bool):V->V->Option V
 |.kb a,.kb b=>some (.x .b (bif c then a else b))
 |.x t a,w=>match tL t w with|some b=>some (.x t (bif c then a else b))|none=>none
 |w,.x t b=>match tL t w with|some a=>some (.x t (bif c then a else b))|none=>none
 |_,_=>none
def SQ:Value->Value->Bool
 |.bool a,.bool b=>a==b
 |.int k a,.int k' b=>decide (k=k')&&a==b
 |.float k a,.float k' b=>decide (k=k')&&a==b
 |.string a,.string b=>decide (a=b)
 |.pointer none,.pointer none|.slice none 0 0,.slice none 0 0|.nilFunc,.nilFunc|.map none,.map none|.nilIface,.nilIface=>true
 |_,_=>false
def tQ:List Value->List Value->Bool
 |[],[]=>true
 |a::r,b::s=>SQ a b&&tQ r s
 |_,_=>false
def nu:Ty->List Value
 |.i k=>[.int k 0]
 |.b=>[.bool false]
 |.s=>[.string ByteArray.empty]
 |.f k=>[.float k 0]
 |.sl _=>[.slice none 0 0]
 |.mp _ _=>[.map none]
 |.un=>[]
 |.pr a c=>nu a++nu c
 |.st t=>nu t
 |.ar n t=>(az n (nu t)).flatten
 |.o k=>[match k with|0=>.slice none 0 0|1=>.pointer none|2=>.nilFunc|3=>.map none|_=>.nilIface]
def DQ:Ty->Option (List Kd)
 |.i k=>some [.i k]
 |.b=>some [.b]
 |.s=>some [.s]
 |.pr a c=>match DQ a,DQ c with|some x,some y=>some (x++y)|_,_=>none
 |.st t=>DQ t
 |.ar n t=>match DQ t with|some x=>some ((az n x).flatten)|none=>none
 |_=>none
def Q4(z:Bool)(op:BinOp)(k k':IntKind)(a b:Int):Option V:=
 match op with
 |.shl=>bif z then some (.x (.i k) (Q7 k a b))else none
 |.shr=>bif z then some (.x (.i k) (JK k a b))else none
 |op=>bif decide (k=k')then(match op with
  |.add=>some (.x (.i k) (wr k (a+b)))
  |.sub=>some (.x (.i k) (wr k (a-b)))
  |.mul=>some (.x (.i k) (wr k (a*b)))
  |.quo=>bif z then some (.x (.i k) (wr k (a.tdiv b)))else none
  |.rem=>bif z then some (.x (.i k) (a.tmod b))else none
  |.and=>some (.x (.i k) (JL k a b))
  |.or=>some (.x (.i k) (Rv k a b))
  |.xor=>some (.x (.i k) (Q6 k a b))
  |.andNot=>some (.x (.i k) (rG k a b))
  |.eql=>some (.x .b (a==b))
  |.neq=>some (.x .b (a !=b))
  |.lss=>some (.x .b (decide (a<b)))
  |.leq=>some (.x .b (decide (a<=b)))
  |.gtr=>some (.x .b (decide (a>b)))
  |.geq=>some (.x .b (decide (a>=b)))
  |_=>none)else none
def Q3(op:BinOp)(x y:ByteArray):Option V:=match op with|.eql=>some (.x .b (x.toList==y.toList))|.neq=>some (.x .b (!(x.toList==y.toList)))|.lss=>some (.x .b (Op.bytesLess x.toList y.toList))|.leq=>some (.x .b (Op.bytesLess x.toList y.toList||x.toList==y.toList))|.gtr=>some (.x .b (!(Op.bytesLess x.toList y.toList||x.toList==y.toList)))|.geq=>some (.x .b (!(Op.bytesLess x.toList y.toList)))|_=>none
def NR:List Operand->Bool
 |[_,.const (.int _ n)]=>decide (n>0)
 |_=>false
def Rt(m:Bool)(k:IntKind):Int->List V->Option Int
 |x,[]=>some x
 |x,.x (.i k') y::r=>bif decide (k'=k)then Rt m k (bif m then(if y>x then y else x)else(if y<x then y else x)) r else none
 |_,_=>none
def yG(h:H2):V->Option (V×List Nat)
 |.pt t v=>some (.x t v,[])
 |.op id t p=>(match fO h id with
  |some (.bx u c)=>bif decide (u=t)then(match pB c p with|some w=>some (w,[id])|none=>none)else none
  |some (.ib u v)=>bif decide (u=t)then(match pB (.x u v) p with|some w=>some (w,[id])|none=>none)else none
  |_=>none)
 |.ep id n t p=>(match fO h id with
  |some (.ar u s _)|some (.im u s _)=>bif decide (u=t)then(match pB (.x u (gt s.l n)) p with|some w=>some (w,[id])|none=>none)else none
  |_=>none)
 |_=>none
def yA(h:H2)(kind:Nat):V->Option V
 |.nl k=>bif(k==kind)&&nn k 3 then some (.kb true)else none
 |.pt _ _|.op _ _ _|.ep _ _ _ _=>bif kind==1 then some (.kb false)else none
 |.fn _ _ _=>bif kind==2 then some (.kb false)else none
 |v=>bif kind==0 then(match tZ h v with|some ⟨_,s,_⟩=>some (.x .b s.fN)|none=>none)else none
def K3:V->V
 |.kb c=>.kb (!c)
 |.x .b c=>.x .b (!c)
 |v=>v
def Gb(off n:Nat)(i:Nat):V->Option V
 |.op id t p=>(match qT t p with
  |some (.st u)=>(match Cr u i with|some w=>bif(oU u i==off)&&(bE w==n)then some (.op id t (p++[.fd i]))else none|none=>none)
  |_=>none)
 |.ep id m t p=>(match qT t p with
  |some (.st u)=>(match Cr u i with|some w=>bif(oU u i==off)&&(bE w==n)then some (.ep id m t (p++[.fd i]))else none|none=>none)
  |_=>none)
 |.pt (.st u) v=>(match Aa u v i with|some (.x w y)=>bif(oU u i==off)&&(bE w==n)then some (.pt w y)else none|_=>none)
 |_=>none
def Gv(h:H2)(g:Bool)(n:Nat)(w:V):Bool:=(sW w==g)&&(xT w==n)&&(g||n==1)&&iB h w
def N9(h:H2):V->Option ((k:Ty)×(v:Ty)×Mp (El k) (El v)×List Nat)
 |.om id=>(match fO h id with|some (.mp k v m)=>some ⟨k,v,m,[id]⟩|_=>none)
 |_=>none
def xo(t:Ty):List Nat->List (Nat×Nat)->List V->V->Option V
 |[],[],[],c=>some c
 |i::is,(off,n)::ps,w::ws,c=>
  match t with
  |.st u=>(match Cr u i with
   |some a=>bif(oU u i==off)&&(bE a==n)then(match Na a w with|some w=>(match oB c [.fd i] w with|some c=>bif eC c false t then xo t is ps ws c else none|none=>none)|none=>none)else none
   |none=>none)
  |.ar m u=>bif(i*bE u==off)&&(bE u==n)&&decide (i<m)then(match Na u w with|some w=>(match oB c [.ix i] w with|some c=>bif eC c false t then xo t is ps ws c else none|none=>none)|none=>none)else none
  |_=>none
 |_,_,_,_=>none
def OK:V->Bool
 |.tp _|.no|.gn|.ni|.co _ _=>false
 |v=>!sW v
def PS(o:OP)(vs:List V)(h:H2):Option (V×List Nat):=
 match o.o.k,vs with
 |.mv,[v]=>some (v,[])
 |.nilCheck,[v]=>(match v with|.pt _ _|.fn _ _ _|.ep _ _ _ _|.op _ _ _=>some (v,[])|_=>none)
 |.Af op,[.x (.i k) a,.x (.i k') b]=>(match Q4 (NR o.o.args) op k k' a b with|some v=>some (v,[])|none=>none)
 |.Af op,[.x .s a,.x .s b]=>(match Q3 op a b with|some v=>some (v,[])|none=>none)
 |.uE neg,[x,y]=>(match tL .b x,tL .b y with|some a,some b=>some (.x .b (bif neg then !(a==b)else a==b),[])|_,_=>none)
 |.qN kind neg,[x]=>(match yA h kind x with|some v=>some (bif neg then K3 v else v,[])|none=>none)
 |.zd neg ks,[.x t a,y]=>(match tL t y with|some b=>bif nq t&&decide (DQ t=some ks)then some (.x .b (bif neg then !(decide (a=b))else decide (a=b)),[])else none|none=>none)
 |.un .not,[.kb c]=>some (.kb (!c),[])
 |.un .not,[.x .b c]=>some (.x .b (!c),[])
 |.un .neg,[.x (.i k) n]=>some (.x (.i k) (wr k (0-n)),[])
 |.un .xor,[.x (.i k) n]=>some (.x (.i k) (UL k n),[])
 |.vv k,[.x (.i _) n]=>some (.x (.i k) (wr k n),[])
 |.sP,[.x .s s]=>some (.x .s s,[])
 |.IS f,vs=>bif vs.all OK then some (.fn false f (dj vs),[])else none
 |.load g n,[p]=>(match yG h p with|some (w,l)=>bif Gv h g n w then some (w,l)else none|none=>none)
 |.t6,[p]=>(match yG h p with|some (w,l)=>bif Gv h false 1 w then some (w,l)else none|none=>none)
 |.fieldAddr off n,[p]=>(match o.fi with|[i]=>(match Gb off n i p with|some w=>some (w,[])|none=>none)|_=>none)
 |.field g off n,[.x (.st u) v]=>(match o.fi with|[i]=>(match Aa u v i with|some w=>bif(oU u i==off)&&Gv h g n w then some (w,[])else none|none=>none)|_=>none)
 |.field g off n,[.rc l]=>(match o.fi with|[i]=>(match rU l i with|some w=>bif(On l i==off)&&Gv h g n w then some (w,[])else none|none=>none)|_=>none)
 |.extract i,[.tp l]=>(match rU l i with|some w=>some (w,[])|none=>none)
 |.len true,[.x .s s]=>some (.x (.i .i64) (s.size:Int),[])
 |.len false,[.nl 0]=>some (.x (.i .i64) (0:Int),[])
 |.len false,[.sr id]=>(match fO h id with|some (.rw _ s _)=>some (.x (.i .i64) (s.l.length:Int),[])|_=>none)
 |.len false,[v]=>(match tZ h v with|some ⟨_,s,_⟩=>some (.x (.i .i64) (s.l.length:Int),[])|none=>none)
 |.uz m,.x (.i k) x::r=>(match Rt m k x r with|some y=>some (.x (.i k) y,[])|none=>none)
 |.build z ps,vs=>bif tQ (nu o.t) z&&nq o.t&&eC (O5 o.t) false o.t then(match xo o.t o.fi ps vs (O5 o.t)with|some v=>some (v,[])|none=>none)else none
 |.lookup ka ks va z ok,[m,kv]=>(match N9 h m with
  |some ⟨kt,vt,mp,l⟩=>(match tL kt kv with
   |some k=>bif(nq kt==ka)&&(nq vt==va)&&decide (DQ kt=some ks)&&tQ (nu vt) z&&kV vt&&(va||bE vt==1)then
     some (bif ok then .tp (.co (.x vt (oS mp (sd vt) k)) (.co (.x .b (K_ mp k)) .ni))else .x vt (oS mp (sd vt) k),l)else none
   |none=>none)
  |none=>none)
 |_,_=>none
def kL{α:Type}(s:Sl α)(x r:List α):Sl α:=match x with|[]=>(match s with|.nil=>.nil|.mk _=>.mk r)|_::_=>.mk r
def zZ{α:Type}:Sl α->Sl α->Option Unit
 |.nil,.nil=>some ()
 |.mk a,.mk b=>FS a b
 |_,_=>none
def j9(s:S2)(o:O):S2:=⟨s.dO,(s.next,some o)::s.heap,s.next+1,s.next::s.wo,s.gh⟩
def e9(s:S2)(id:Nat)(o:Option O):S2:=⟨s.dO,(id,o)::s.heap,s.next,id::s.wo,s.gh⟩
def UE(h:H2)(id:Nat):Option O:=match fO h id with|some (.ar t s v)|some (.im t s v)=>some (.im t s v)|some (.ib t v)=>some (.ib t v)|some (.bx t c)=>bif kV t&&nn (bE t) 300 then(match kK h c with|some (_,[])=>(match tL t c with|some v=>some (.ib t v)|none=>none)|_=>none)else none|_=>none
def yX(h:H2):List Nat->S2->Option S2
 |[],s=>some s
 |id::r,s=>match fO h id with|some (.rw _ _ none)=>(match yX h r s with|some s=>some (e9 s id none)|none=>none)|_=>(match UE h id,yX h r s with|some o,some s=>some (e9 s id (some o))|_,_=>none)
def Cq(t:Ty):Bool:=kV t&&nn 0 (bE t)
def yf(h:H2)(t:Ty)(len:Nat):Nat->List Nat->List V->Option (List (El t)×List Nat)
 |m,[],[]=>some (az (len-m) (sd t),[])
 |m,i::is,v::vs=>
  match kK h v with
  |some (w,a)=>(match tL t w with
   |some y=>bif jc m i&&nn i len then(match yf h t len (i+1) is vs with|some (l,b)=>some (az (i-m) (sd t)++y::l,a++b)|none=>none)else none
   |none=>none)
  |none=>none
 |_,_,_=>none
def FR(h:H2):V->Option Int
 |.nl 0=>some 0
 |v=>match tZ h v with|some ⟨_,v,_⟩=>some (v.l.length:Int)|none=>none
def OH{α:Type}(w:Sl α)(lo n:Nat)(z:α):Option (Sl α):=match w with|.nil=>none|.mk l=>some (.mk (MB l lo n (az n z)))
def tW{β:Type}(sz:Nat)(h:H2)(x:V)(l u:Int)(k:V->Option β):Option β:=
 match x with
 |.x (.sl t) v=>bif bE t==sz then(qr v.l l u).bind fun y=>k (.x (.sl t) (v.to y))else none
 |.so id=>(match fO h id with
  |some (.ar t v ver)=>bif bE t==sz then(qr v.l l u).bind fun y=>k (.sb id ver l.toNat t (v.to y))else none
  |some (.im t v ver)=>bif bE t==sz then(qr v.l l u).bind fun y=>k (.sb id ver l.toNat t (v.to y))else none
  |_=>none)
 |.sb id ver lo t v=>bif bE t==sz then(qr v.l l u).bind fun y=>k (.sb id ver (lo+l.toNat) t (v.to y))else none
 |.nl 0=>(qr ([]:List Unit) l u).bind fun _=>k (.nl 0)
 |_=>none
def Q2{β:Type}(t:Ty)(sz len:Nat)(z:List Value)(pl:List Nat)(vs:List V)(s:S2)(k:V->S2->List Nat->Option β):Option β:=
 bif(bE t==sz)&&tQ ((az len (nu t)).flatten) z&&Cq t then
  (match yf s.heap t len 0 pl vs with
  |some (l,a)=>(match yX s.heap a s with|some s'=>k (.so s.next) (j9 s' (.ar t (.mk l) 0)) a|none=>none)
  |none=>none)else none
def GU(ln:Option (Nat×Nat))(m:Nat):Bool:=match ln with|none=>true|some (m',_)=>kT m' m
def EX{β:Type}(id m:Nat)(t:Ty)(p:pR)(w:V)(s:S2)(k:S2->List Nat->Option β):Option β:=
 match fO s.heap id with
 |some (.rw u v ln)=>(match p,w with
  |[],.so id2=>(match fO s.heap id2 with
   |some (.ar u2 r _)=>(match gM (.sl u2) (.sl u) r with
    |some r=>bif decide (t=.sl u)&&!(id2==id)&&GU ln m then k (e9 (e9 s id2 none) id (some (.rw u (.mk (v.l.set m r)) none))) [id,id2]else none
    |none=>none)
   |_=>none)
  |_,_=>none)
 |some (.ar u l ver)=>(match kK s.heap w with
  |some (w,a)=>bif decide (u=t)then(match qT u p with
   |some q=>(match tL q w with
    |some y=>(match oB (.x u (gt l.l m)) p (.x q y)with
     |some c=>(match ii u c with
      |some y=>(match yX s.heap a s with|some s=>bif !a.contains id then k (e9 s id (some (.ar u (.mk (l.l.set m y)) (ver+1)))) (id::a)else none|none=>none)
      |none=>none)
     |none=>none)
    |none=>none)
   |none=>none)else none
  |none=>none)
 |_=>none
def part{β:Type}(o:OP)(vs:List V)(s:S2)(k:V->S2->List Nat->Option β):Option β:=
 match o.o.k,vs with
 |.Af .quo,[.x (.i q) a,.x (.i q') b]=>bif decide (q=q')then(QP q a b).bind fun x=>k (.x (.i q) x) s []else none
 |.Af .rem,[.x (.i q) a,.x (.i q') b]=>bif decide (q=q')then(P3 q a b).bind fun x=>k (.x (.i q) x) s []else none
 |.Af .shl,[.x (.i q) a,.x (.i _) b]=>(x7 q a b).bind fun x=>k (.x (.i q) x) s []
 |.Af .shr,[.x (.i q) a,.x (.i _) b]=>(PX q a b).bind fun x=>k (.x (.i q) x) s []
 |.Af .add,[.x .s a,.x .s b]=>(QZ a b).bind fun x=>k (.x .s x) s []
 |.alloc z,[]=>bif tQ (nu o.t) z&&eC (O5 o.t) false o.t then k (.op s.next o.t []) (j9 s (.bx o.t (O5 o.t))) []else none
 |.box,[v]=>(match Na o.t v with|some w=>k (.op s.next o.t []) (j9 s (.bx o.t w)) []|none=>none)
 |.buildSlice sz len z pl,vs=>Q2 o.t sz len z pl vs s k
 |.store n,[.op id t p,w]=>bif(xT w==n)then(match fO s.heap id with
  |some (.bx u c)=>bif decide (u=t)then(match qT t p with
   |some a=>(match Na a w with
    |some w=>(match oB c p w with|some c=>bif eC c false t then k (.tp .ni) (e9 s id (some (.bx t c))) [id]else none|none=>none)
    |none=>none)
   |none=>none)else none
  |_=>none)else none
 |.t6,[.ep id m u []]=>(match fO s.heap id with
  |some (.rw t v none)=>bif decide (u=.sl t)then k (.so s.next) (j9 (e9 s id (some (.rw t v (some (m,s.next))))) (.ar t (gt v.l m) 0)) [id]else none
  |_=>none)
 |.AK szi,[.x (.i _) l,.x (.i _) c]=>(match o.t with
  |.sl t=>bif(bE t==szi)&&Cq t then(zD (Sl.nil:Sl (El t)) l c).bind fun r=>k (.sr s.next) (j9 s (.rw t (.mk r) none)) []else none
  |_=>none)
 |.store n,[.ep id m t p,w]=>bif(xT w==n)then EX id m t p w s (fun s l=>k (.tp .ni) s l)else none
 |.makeSlice z,[.x (.i _) l,.x (.i _) c]=>bif tQ (nu o.t) z&&Cq o.t then(zD (sd o.t) l c).bind fun r=>k (.so s.next) (j9 s (.ar o.t (.mk r) 0)) []else none
 |.slice true _ lo hi,.x .s x::r=>(match lo,hi,j5 r with
  |false,false,some []=>(zL x 0 x.size).bind fun y=>k (.x .s y) s []
  |true,false,some [l]=>(zL x l x.size).bind fun y=>k (.x .s y) s []
  |false,true,some [u]=>(zL x 0 u).bind fun y=>k (.x .s y) s []
  |true,true,some [l,u]=>(zL x l u).bind fun y=>k (.x .s y) s []
  |_,_,_=>none)
 |.slice false sz lo hi,x::r=>
  (match lo,hi,j5 r,FR s.heap x with
  |false,false,some [],some n=>tW sz s.heap x 0 n fun v=>k v s []
  |true,false,some [l],some n=>tW sz s.heap x l n fun v=>k v s []
  |false,true,some [u],some _=>tW sz s.heap x 0 u fun v=>k v s []
  |true,true,some [l,u],some _=>tW sz s.heap x l u fun v=>k v s []
  |_,_,_,_=>none)
 |.indexAddr none sz,[x,.x (.i _) i]=>(match x with
  |.x (.sl t) v=>bif bE t==sz then(eX i v.l.length).bind fun m=>k (.pt t (gt v.l m)) s []else none
  |.so id=>(match tZ s.heap (.so id)with|some ⟨t,v,_⟩=>bif bE t==sz then(eX i v.l.length).bind fun m=>k (.ep id m t []) s []else none|none=>none)
  |.sb id _ lo t v=>bif bE t==sz then(eX i v.l.length).bind fun m=>k (.ep id (lo+m) t []) s []else none
  |.sr id=>(match fO s.heap id with|some (.rw t v _)=>bif 1==sz then(eX i v.l.length).bind fun m=>k (.ep id m (.sl t) []) s []else none|_=>none)
  |_=>none)
 |.indexAddr (some n) sz,[x,.x (.i _) i]=>(match x with
  |.op id t p=>(match qT t p with|some (.ar n' u)=>bif(n'==n)&&(bE u==sz)then(eX i n).bind fun m=>k (.op id t (p++[.ix m])) s []else none|_=>none)
  |.ep id q t p=>(match qT t p with|some (.ar n' u)=>bif(n'==n)&&(bE u==sz)then(eX i n).bind fun m=>k (.ep id q t (p++[.ix m])) s []else none|_=>none)
  |.pt (.ar n' u) v=>bif(n'==n)&&(bE u==sz)then(eX i n).bind fun m=>k (.pt u (gt v.1 m)) s []else none
  |_=>none)
 |.pA,[.x .s x,.x (.i _) i]=>(UM x i).bind fun c=>k (.x (.i .u8) c) s []
 |.index g n sz,[.x (.ar n' u) v,.x (.i _) i]=>bif(n'==n)&&(bE u==sz)&&(nq u==g)&&kV u&&(g||sz==1)then(eX i n).bind fun m=>k (.x u (gt v.1 m)) s []else none
 |.append sz,[a,x]=>
  (match Ko o.t s.heap x with
  |some ⟨t,m,aD⟩=>bif(bE t==sz)&&Cq t then(match a with
   |.nl 0=>(iF ([]++m.l)).bind fun r=>k (.so s.next) (j9 s (.ar t (kL Sl.nil m.l r) 0)) aD
   |.x (.sl _) v=>bif Sl.fN v then((iF ([]++m.l)).bind fun r=>k (.so s.next) (j9 s (.ar t (kL Sl.nil m.l r) 0)) aD)else none
   |.so id=>(match fO s.heap id with
    |some (.ar u v _)=>(match gM (.sl t) (.sl u) m with
     |some m=>(iF (v.l++m.l)).bind fun r=>k (.so s.next) (j9 (e9 s id none) (.ar u (kL v m.l r) 0)) (id::aD)
     |none=>none)
    |_=>none)
   |.sb id _ lo u v=>(match fO s.heap id,gM (.sl t) (.sl u) m with
    |some (.ar _ s0 _),some m=>bif jc s0.l.length (lo+(v.l.length+m.l.length))then((iF (v.l++m.l)).bind fun r=>k (.so s.next) (j9 (e9 s id none) (.ar u (kL v m.l r) 0)) (id::aD))else none
    |_,_=>none)
   |_=>none)else none
  |none=>none)
 |.copy sz,[a,x]=>
  (match Ko o.t s.heap x with
  |some ⟨t,m,aD⟩=>bif bE t==sz then(match a with
   |.nl 0=>k (.x (.i .i64) (0:Int)) s aD
   |.so id=>(match fO s.heap id with
    |some (.ar u v ver)=>(match gM (.sl t) (.sl u) m with
     |some m=>k (.x (.i .i64) ((min m.l.length v.l.length:Nat):Int)) (e9 s id (some (.ar u (v.to (MB v.l 0 v.l.length m.l)) (ver+1)))) (id::aD)
     |none=>none)
    |_=>none)
   |.sb id ver lo _ v=>(match fO s.heap id with
    |some (.ar u w ver')=>(match gM (.sl t) (.sl u) m with
     |some m=>bif ver'==ver then k (.x (.i .i64) ((min m.l.length v.l.length:Nat):Int)) (e9 s id (some (.ar u (w.to (MB w.l lo v.l.length m.l)) (ver+1)))) (id::aD)else none
     |none=>none)
    |_=>none)
   |_=>none)else none
  |none=>none)
 |.clear zz,[a]=>(match a with
  |.sb id ver lo _ v=>(match fO s.heap id with
   |some (.ar u w ver')=>bif(ver'==ver)&&tQ (nu u) zz&&Cq u then(OH w lo v.l.length (sd u)).bind fun w=>k (.tp .ni) (e9 s id (some (.ar u w (ver+1)))) [id]else none
   |_=>none)
  |_=>none)
 |.makeMap ka va,[]=>(match o.t with
  |.mp kt vt=>bif(nq kt==ka)&&(nq vt==va)&&kV vt&&(DQ kt).isSome then k (.om s.next) (j9 s (.mp kt vt Mp.none)) []else none
  |_=>none)
 |.mapEntry ka ks va z,[.om id,kv]=>(match fO s.heap id with
  |some (.mp kt vt m)=>(match tL kt kv with
   |some q=>bif(nq kt==ka)&&(nq vt==va)&&decide (DQ kt=some ks)&&tQ (nu vt) z&&kV vt&&(va||bE vt==1)then
     k (.tp (.co (.x vt (lX m (sd vt) q).2.1) (.co (.x (.i .i64) (lX m (sd vt) q).2.2) .ni))) (e9 s id (some (.mp kt vt (lX m (sd vt) q).1))) [id]else none
   |none=>none)
  |_=>none)
 |.entryStore va n,[.om id,.x (.i _) st,w]=>(match fO s.heap id with
  |some (.mp kt vt m)=>(match tL vt w with
   |some y=>bif(nq vt==va)&&(bE vt==n)&&kV vt then(vb m st y).bind fun m=>k (.tp .ni) (e9 s id (some (.mp kt vt m))) [id]else none
   |none=>none)
  |_=>none)
 |_,_=>none
@[reducible] def qu:List Ty->Type
 |[]=>Unit
 |a::r=>EE a r
where EE:Ty->List Ty->Type
 |a,[]=>El a
 |a,c::r=>El a×EE c r
def ud(u:Ty):V->Option (El u)
 |.x t v=>gM t u v
 |_=>none
def HV{α β:Type}:Option α->Option β->Option (α×β)
 |some x,some y=>some (x,y)
 |_,_=>none
def EQ:(a:Ty)->(r:List Ty)->List V->Option (qu.EE a r)
 |a,[],l=>(match l with|[v]=>ud a v|_=>none)
 |a,c::r,l=>(match l with|v::l=>HV (ud a v) (EQ c r l)|[]=>none)
def vO:(cs:List Ty)->List V->Option (qu cs)
 |[],[]=>some ()
 |a::r,l=>EQ a r l
 |_,_=>none
def Nn:(a:Ty)->(r:List Ty)->qu.EE a r->List V
 |a,[],v=>[.x a v]
 |a,c::r,v=>.x a v.1::Nn c r v.2
def oV:(cs:List Ty)->qu cs->List V
 |[],_=>[]
 |a::r,v=>Nn a r v
inductive Sh where
 | x (t : Ty)            -- data
 | pt (t : Ty)           -- a pointer to data
 | os (t : Ty)           -- a slice of its bt
 | rw (t : Ty)           -- a dj of ao of its bt
 | mp (k v : Ty)         -- a map of its bt
 | pb (t : Ty) (c : Sh)  -- a pointer to a box of its bt
 |st (c:Sh)
 |pr (a c:Sh)
 |nl (k:Nat)
 |fn (f:Nat) (l:Sh)
 |ni
 |gn
 deriving Inhabited,DecidableEq
def OE:Sh->List Ty
 |.x t|.pt t=>[t]
 |.os t=>[.sl t]
 |.rw t=>[.sl (.sl t)]
 |.mp k v=>[.mp k v]
 |.pb _ c|.st c|.fn _ c=>OE c
 |.pr a c=>OE a++OE c
 |_=>[]
def gX:List Sh->List Ty
 |[]=>[]
 |a::r=>OE a++gX r
@[reducible] def vB:Wy->Type
 |[]=>Empty
 |(r,o)::w=>GG r o w
where GG:List Sh->List Sh->Wy->Type
 |r,o,[]=>qu (gX r++gX o)
 |r,o,(r',o')::w=>qu (gX r++gX o)⊕GG r' o' w
def PK{β:Type}(k:List Sh->List Sh->List V->Option β):(r o:List Sh)->(w:Wy)->vB.GG r o w->Option β
 |r,o,[],z=>k r o (oV (gX r++gX o) z)
 |r,o,(r',o')::w,z=>match z with|.inl z=>k r o (oV (gX r++gX o) z)|.inr z=>PK k r' o' w z
def Rz{β:Type}(k:List Sh->List Sh->List V->Option β):(w:Wy)->vB w->Option β
 |[],z=>nomatch z
 |(r,o)::w,z=>PK k r o w z
structure lD where
 ps:List (Bool×Sh)
 al:Wy
 ro:Bool
 j_:List Bool
 fn:qu (gX (ps.map (·.2)))->Option (vB al)
abbrev EA:=List (Nat×lD)
def oM(h:H2):Sh->V->Option (List V×List Nat)
 |.x t,v=>match kK h v with|some (w,l)=>(match tL t w with|some y=>some ([.x t y],l)|none=>none)|none=>none
 |.pt t,.pt u v=>match gM u t v with|some y=>some ([.x t y],[])|none=>none
 |.pt t,.op id u []=>(match fO h id with
  |some (.bx w c)=>bif decide (w=u)&&iB h c then(match kK h c with|some (c,l)=>(match tL t c with|some y=>some ([.x t y],id::l)|none=>none)|none=>none)else none
  |some (.ib w v)=>bif decide (w=u)then(match gM w t v with|some y=>some ([.x t y],[id])|none=>none)else none
  |_=>none)
 |.pt t,.ep id n u []=>(match fO h id with
  |some (.ar w s _)|some (.im w s _)=>bif decide (w=u)then(match gM w t (gt s.l n)with|some y=>some ([.x t y],[id])|none=>none)else none
  |_=>none)
 |.nl k,.nl k'=>bif k==k' then some ([],[])else none
 |.fn f c,.fn _ f' l=>bif f==f' then oM h c l else none
 |.pr a c,.co x r=>match oM h a x,oM h c r with|some (l,i),some (m,j)=>some (l++m,i++j)|_,_=>none
 |.ni,.ni=>some ([],[])
 |_,_=>none
def Ql(t:Ty){u:Ty}(v:El (.sl u)):Option (List V×List Nat):=match(v:Sl (El u))with|.nil=>some ([.x (.sl t) Sl.nil],[])|.mk _=>none
def dW(h:H2):Sh->Bool->V->Option (List V×List Nat)
 |.os t,false,.so id=>(match fO h id with|some (.ar u s _)=>(match gM (.sl u) (.sl t) s with|some s=>some ([.x (.sl t) s],[id])|none=>none)|_=>none)
 |.os t,false,.nl 0=>some ([.x (.sl t) Sl.nil],[])
 |.rw t,false,.sr id=>(match fO h id with|some (.rw u s none)=>(match gM (.sl (.sl u)) (.sl (.sl t)) s with|some s=>some ([.x (.sl (.sl t)) s],[id])|none=>none)|_=>none)
 |.rw t,false,.nl 0=>some ([.x (.sl (.sl t)) Sl.nil],[])
 |.pb t c,false,.op id u []=>(match fO h id with|some (.bx w v)=>bif decide (w=u)&&decide (u=t)then(match dW h c false v with|some (l,i)=>some (l,id::i)|none=>none)else none|_=>none)
 |.nl k,false,.nl k'=>bif k==k' then some ([],[])else none
 |.x t,false,v=>match tL t v with|some y=>some ([.x t y],[])|none=>none
 |.st c,false,.rc l=>dW h c true l
 |.st c,false,.x (.st u) v=>dW h c true (HX u v)
 |.pr a c,true,.co x r=>match(match a,x with|.os t,.x (.sl _) v=>Ql t v|_,_=>dW h a false x),dW h c true r with|some (l,i),some (m,j)=>some (l++m,i++j)|_,_=>none
 |.ni,true,.ni=>some ([],[])
 |_,_,_=>none
def qU:Sh->Bool->List V->S2->Option (V×List V×S2)
 |.x t,false,.x u v::l,s=>bif decide (u=t)&&kV t then some (.x u v,l,{s with next:=s.next+bE t})else none
 |.os t,false,.x (.sl u) v::l,s=>bif decide (u=t)&&Cq t then some (.so s.next,l,j9 s (.ar u v 0))else none
 |.rw t,false,.x (.sl (.sl u)) v::l,s=>bif decide (u=t)&&Cq t then some (.sr s.next,l,j9 s (.rw u v none))else none
 |.pb t c,false,l,s=>
  match qU c false l {s with next:=s.next+1}with
  |some (w,l,s')=>bif eC w false t then some (.op s.next t [],l,e9 s' s.next (some (.bx t w)))else none
  |none=>none
 |.nl k,false,l,s=>some (.nl k,l,{s with next:=s.next+1})
 |.st c,false,l,s=>match qU c true l s with|some (w,l,s)=>some (.rc w,l,s)|none=>none
 |.pr a c,true,l,s=>match qU a false l s with|some (x,l,s)=>(match qU c true l s with|some (r,l,s)=>some (.co x r,l,s)|none=>none)|none=>none
 |.ni,true,l,s=>some (.ni,l,s)
 |_,_,_,_=>none
def IR:List Sh->List V->S2->Option (List V×List V×S2)
 |[],l,s=>some ([],l,s)
 |a::r,l,s=>match qU a false l s with|some (x,l,s)=>(match IR r l s with|some (xs,l,s)=>some (x::xs,l,s)|none=>none)|none=>none
def oN(h:H2):List (Bool×Sh)->List V->Option (List V×List Nat×List (V×List Nat))
 |[],[]=>some ([],[],[])
 |(b,c)::r,v::vs=>
  match oN h r vs with
  |some (m,j,q)=>
   bif b then(match dW h c false v with|some (l,i)=>some (l++m,j,(v,i)::q)|none=>none)
   else(match oM h c v with|some (l,i)=>some (l++m,i++j,q)|none=>none)
  |none=>none
 |_,_=>none
def AZ(h:H2)(f:Nat)(vs:List V):EA->Option (lD×List V×List Nat×List (V×List Nat))
 |[]=>none
 |(g,sp)::r=>bif g==f then(match oN h sp.ps vs with|some (l,i,q)=>some (sp,l,i,q)|none=>AZ h f vs r)else AZ h f vs r
def ja:List Nat->S2->S2
 |[],s=>s
 |id::r,s=>e9 (ja r s) id none
def gb{β:Type}:List Sh->List (V×List Nat)->List V->S2->(S2->Option β)->Option β
 |[],[],[],s,k=>k s
 |.nl _::r,(_,[])::q,l,s,k=>gb r q l s k
 |.gn::r,(_,i)::q,l,s,k=>gb r q l (ja i s) k
 |.os t::r,(.nl 0,[])::q,.x (.sl u) v::l,s,k=>(match gM (.sl u) (.sl t) v with|some v=>(zZ v (Sl.nil:Sl (El t))).bind fun _=>gb r q l s k|none=>none)
 |.os t::r,(.so id,_)::q,.x (.sl u) v::l,s,k=>(match fO s.heap id,gM (.sl u) (.sl t) v with
  |some (.ar w old ver),some v=>(match gM (.sl t) (.sl w) v with
   |some v=>(zZ v old).bind fun _=>gb r q l (e9 s id (some (.ar w v (ver+1)))) k
   |none=>none)
  |_,_=>none)
 |.rw t::r,(.nl 0,[])::q,.x (.sl (.sl u)) v::l,s,k=>(match gM (.sl (.sl u)) (.sl (.sl t)) v with|some v=>(zZ (v:Sl (Sl (El t))) (Sl.nil:Sl (Sl (El t)))).bind fun _=>gb r q l s k|none=>none)
 |.rw t::r,(.sr id,_)::q,.x (.sl (.sl u)) v::l,s,k=>(match fO s.heap id,gM (.sl (.sl u)) (.sl (.sl t)) v with
  |some (.rw w old _),some v=>(match gM (.sl (.sl t)) (.sl (.sl w)) v with
   |some v=>(zZ (v:Sl (Sl (El w))) old).bind fun _=>gb r q l (e9 s id (some (.rw w v none))) k
   |none=>none)
  |_,_=>none)
 |.pb t c::r,(.op id u [],i)::q,l,s,k=>(match fO s.heap id with
  |some _=>(match qU c false l s with
   |some (w,l,s)=>bif eC w false t&&decide (u=t)then gb r q l (e9 (ja i s) id (some (.bx t w))) k else none
   |none=>none)
  |none=>none)
 |_,_,_,_,_=>none
def P2:List V->V
 |[v]=>v
 |l=>.tp (dj l)
def yz:List Nat->Bool
 |[]=>true
 |a::r=>!r.contains a&&yz r
def vG:V->Option (List V)
 |.ni=>some []
 |.co a r=>bif(xT a==1)&&!sW a then(match vG r with|some l=>some (a::l)|none=>none)else none
 |_=>none
def xF{β:Type}(tb:EA)(ro:Bool)(j_:List Bool)(f:V)(vs:List V)(s:S2)(k:V->S2->List Nat->Option β):Option β:=
 match f with
 |.fn _ fid caps=>
  match(match vG caps with|some cs=>AZ s.heap fid (vs++cs) tb|none=>none)with
  |some (sp,pay,aD,q)=>
   bif(!ro||sp.ro)&&decide (sp.j_=j_)&&yz (q.flatMap (·.2))&&(q.flatMap (·.2)).all (fun i=>!aD.contains i)then
    match vO (gX (sp.ps.map (·.2))) pay with
    |some p=>(sp.fn p).bind fun z=>Rz (fun rs os l=>
     match(bif ro then some s else yX s.heap aD s)with
     |some s0=>gb os q (l.drop (gX rs).length) s0 fun s1=>
      (match IR rs (l.take (gX rs).length) s1 with
      |some (xs,_,s2)=>k (P2 xs) s2 (aD++q.flatMap (·.2))
      |none=>none)
     |none=>none) sp.al z
    |none=>none
   else none
  |none=>none
 |_=>none
structure Rg where
 kn:List (Nat×Bool)
 cd:List (Nat×Nat×Bool×V)
def Qv(kn:List (Nat×Bool))(g:Nat):Option Bool:=cu kn g
def JU(s:S2)(q:Rg)(gc:Option (Nat×Bool)):Operand->Option V
 |.tmp t=>match cu q.cd t with|some (g,b,v)=>bif decide (gc=some (g,b))||decide (Qv q.kn g=some b)then(bif iB s.heap v then some v else none)else none|none=>JT s.dO s.heap (.tmp t)
 |o=>JT s.dO s.heap o
def FB(s:S2)(q:Rg)(gc:Option (Nat×Bool)):List Operand->Option (List V)
 |[]=>some []
 |a::r=>match JU s q gc a,FB s q gc r with|some x,some y=>some (x::y)|_,_=>none
inductive GV where
 |run
 |skip
 |Rq (g:Nat) (b:Bool) (c:Bool)
def UD(e:List (Nat×V))(kn:List (Nat×Bool)):Option (Nat×Bool)->Option GV
 |none=>some .run
 |some (g,b)=>
  match Qv kn g with
  |some c=>some (bif c==b then .run else .skip)
  |none=>(match cu e g with
   |some (.kb c)=>some (bif c==b then .run else .skip)
   |some (.x .b c)=>some (.Rq g b c)
   |some .no=>some .skip
   |_=>none)
def KF(s:S2)(q:Rg)(gc:Option (Nat×Bool)):List Operand->Option V
 |[.tmp g,a,b]=>match Qv q.kn g,cu s.dO g with|some c,_=>JU s q gc (bif c then a else b)|none,some (.kb c)=>JU s q gc (bif c then a else b)|none,some (.x .b c)=>(match JU s q (some (g,true)) a,JU s q (some (g,false)) b with|some x,some y=>Uy c x y|_,_=>none)|_,_=>none
 |[.const (.bool c),a,b]=>JU s q gc (bif c then a else b)
 |_=>none
def FX:K->Bool
 |.pick=>true
 |_=>false
def Nq(o:OP)(s:S2)(q:Rg)(gc:Option (Nat×Bool)):Option (V×List Nat):=
 bif FX o.o.k then(match KF s q gc o.o.args with|some v=>some (v,[])|none=>none)
 else(match FB s q gc o.o.args with|some vs=>PS o vs s.heap|none=>none)
def tU(s:S2)(d:Option Nat)(v:V):S2:=match d with|some d=>{s with dO:=(d,v)::s.dO}|none=>s
def OI(q:Rg)(d:Option Nat):Option Rg:=match d with|none=>some q|some d=>bif q.cd.any (fun e=>e.2.1==d)||q.kn.any (fun e=>e.1==d)then none else some ⟨q.kn,q.cd.filter (fun e=>!(e.1==d))⟩
abbrev JY:=List (List Nat×List Nat)
def SL{β:Type}(tb:EA)(o:OP)(s:S2)(q:Rg)(gc:Option (Nat×Bool))(k:V->S2->List Nat->Option β):Option β:=
 match Nq o s q gc with
 |some (v,l)=>k v s l
 |none=>
  match FB s q gc o.o.args with
  |some vs=>
   (match o.o.k,vs with
   |.call ro j_,f::vs=>xF tb ro j_ f vs s k
   |_,vs=>part o vs s k)
  |none=>none
def Nc(dr:Option Nat)(i:Nat)(s:S2):S2:=match dr with|some b=>{s with next:=b+iT*i}|none=>s
def I5(dr:Option Nat)(i:Nat)(s:S2):Bool:=match dr with|some b=>jc s.next (b+iT*(i+1))|none=>true
def RB(d:Option Nat)(r:List OP):Bool:=
 match d with
 |some d=>r.any fun o=>match o.o.guard with|some (g,_)=>kT g d|none=>false
 |none=>false
def m7{β:Type}(tb:EA)(dr:Option Nat):List OP->Nat->S2->Rg->JY->(S2->JY->Option β)->Option β
 |[],_,s,_,tr,k=>k s tr
 |o::r,i,s0,q,tr,k=>
  let s:=Nc dr i s0
  let go:Rg->Option β:=fun q=>SL tb o s q o.o.guard fun v s1 l=>
   bif I5 dr i s1 then(match OI q o.o.dst with
    |some q=>m7 tb dr r (i+1) (tU s1 o.o.dst v) q (tr++[(l,s1.wo.take (s1.wo.length-s.wo.length))]) k
    |none=>none)else none
  let no:Rg->Option β:=fun q=>match OI q o.o.dst with|some q=>m7 tb dr r (i+1) (tU s o.o.dst .no) q (tr++[([],[])]) k|none=>none
  match UD s.dO q.kn o.o.guard with
  |none=>none
  |some .run=>go q
  |some .skip=>no q
  |some (.Rq g b c)=>
   match(bif RB o.o.dst r then none else Nq o s q (some (g,b)))with
   |some (v,l)=>
    (match OI q o.o.dst,o.o.dst with
    |some q,some d=>bif kT g d then none else m7 tb dr r (i+1) (tU s (some d) .gn) ⟨q.kn,(d,g,b,v)::q.cd⟩ (tr++[(l,[])]) k
    |_,_=>none)
   |none=>(match b with
    |true=>bif c then go ⟨(g,true)::q.kn,q.cd⟩else no ⟨(g,false)::q.kn,q.cd⟩
    |false=>bif c then no ⟨(g,true)::q.kn,q.cd⟩else go ⟨(g,false)::q.kn,q.cd⟩)
inductive JV where
 |x (t:Ty)
 |pt (t:Ty)
 |so (j:Nat)
 |sr (j:Nat)
 |om (j:Nat)
 |op (j:Nat) (t:Ty) (p:List Nat)
 |nl (k:Nat)
 |fn (z:Bool) (f:Nat) (l:JV)
 |rc (l:JV)
 |ni
 |co (a r:JV)
 |sm
 |gn
 deriving Inhabited
inductive JO where
 |ar (t:Ty)
 |bx (t:Ty) (c:JV)
 |mp (k v:Ty)
 |rw(t:Ty)
 deriving Inhabited
structure J where
 vs:List (Nat×JV):=[]
 gs:JV:=.sm
 os:List JO:=[]
 kl:List Nat:=[]
 deriving Inhabited
def Jw:JV->List Ty
 |.x t|.pt t=>[t]
 |.fn _ _ l|.rc l=>Jw l
 |.co a r=>Jw a++Jw r
 |_=>[]
def Ps:List (Nat×JV)->List Ty
 |[]=>[]
 |(_,a)::r=>Jw a++Ps r
def UJ:JO->List Ty
 |.ar t=>[.sl t]
 |.bx _ c=>Jw c
 |.mp k v=>[.mp k v]
 |.rw t=>[.sl (.sl t)]
def Pt:List JO->List Ty
 |[]=>[]
 |a::r=>UJ a++Pt r
def pP(j:J):List Ty:=Ps j.vs++(Jw j.gs++Pt j.os)
structure Bd where
 j:Nat
 id:Option Nat
def MQ:List Bd->Nat->Option Bd
 |[],_=>none
 |b::r,j=>bif b.j==j then some b else MQ r j
def vx(m:List Bd)(b:Bd):Option (List Bd):=
 match MQ m b.j with
 |none=>bif(match b.id with|some i=>m.all (fun c=>match c.id with|some i'=>!(i'==i)|none=>true)|none=>true)then some (b::m)else none
 |some c=>(match b.id,c.id with
  |some i,some i'=>bif i==i' then some m else none
  |_,_=>none)
def C9:pR->Option (List Nat)
 |[]=>some []
 |.fd i::p=>match C9 p with|some l=>some (i::l)|none=>none
 |.ix _::_=>none
def dw:JV->Bool->V->List Bd->Option (List V×List Bd)
 |.x t,false,v,m=>match tL t v with|some y=>some ([.x t y],m)|none=>none
 |.pt t,false,.pt u v,m=>match gM u t v with|some y=>some ([.x t y],m)|none=>none
 |.so j,false,.so id,m=>match vx m ⟨j,some id⟩with|some m=>some ([],m)|none=>none
 |.so j,false,.nl 0,m=>match vx m ⟨j,none⟩with|some m=>some ([],m)|none=>none
 |.so j,false,.x (.sl _) v,m=>bif Sl.fN v then(match vx m ⟨j,none⟩with|some m=>some ([],m)|none=>none)else none
 |.sr j,false,.sr id,m=>match vx m ⟨j,some id⟩with|some m=>some ([],m)|none=>none
 |.om j,false,.om id,m=>match vx m ⟨j,some id⟩with|some m=>some ([],m)|none=>none
 |.op j t p,false,.op id u q,m=>bif decide (u=t)&&decide (C9 q=some p)then(match vx m ⟨j,some id⟩with|some m=>some ([],m)|none=>none)else none
 |.nl k,false,.nl k',m=>bif k==k' then some ([],m)else none
 |.fn z f l,false,.fn z' f' l',m=>bif(z==z')&&(f==f')then dw l true l' m else none
 |.rc l,false,.rc l',m=>dw l true l' m
 |.rc l,false,.x (.st t) v,m=>dw l true (HX t v) m
 |.ni,true,.ni,m=>some ([],m)
 |.co a r,true,.co x y,m=>match dw a false x m with|some (l,m)=>(match dw r true y m with|some (l',m)=>some (l++l',m)|none=>none)|none=>none
 |_,_,_,_=>none
def A9(s:S2):List (Nat×JV)->List Bd->Option (List V×List Bd)
 |[],m=>some ([],m)
 |(t,a)::r,m=>match JT s.dO s.heap (.tmp t)with|some v=>(match dw a false v m with|some (l,m)=>(match A9 s r m with|some (l',m)=>some (l++l',m)|none=>none)|none=>none)|none=>none
def ML(h:H2)(j:Nat)(o:JO)(m:List Bd):Option (List V×List Bd):=
 match MQ m j with
 |some b=>(match o,b.id with
  |.ar t,none=>bif Cq t then some ([.x (.sl t) Sl.nil],m)else none
  |.ar t,some id=>(match fO h id with|some (.ar u s _)=>(match gM (.sl u) (.sl t) s with|some s=>some ([.x (.sl t) s],m)|none=>none)|_=>none)
  |.rw t,some id=>(match fO h id with|some (.rw u s none)=>(match gM (.sl (.sl u)) (.sl (.sl t)) s with|some s=>some ([.x (.sl (.sl t)) s],m)|none=>none)|_=>none)
  |.bx t c,some id=>(match fO h id with|some (.bx u v)=>bif decide (u=t)then dw c false v m else none|_=>none)
  |.mp k v,some id=>(match fO h id with|some (.mp k' v' y)=>(match gM (.mp k' v') (.mp k v) y with|some y=>some ([.x (.mp k v) y],m)|none=>none)|_=>none)
  |_,_=>none)
 |none=>none
def A_(h:H2):List JO->Nat->List Bd->Option (List V×List Bd)
 |[],_,m=>some ([],m)
 |o::r,j,m=>match ML h j o m with|some (l,m)=>(match A_ h r (j+1) m with|some (l',m)=>some (l++l',m)|none=>none)|none=>none
def rL:V->V->Bool
 |.so i,.so j=>i==j
 |.sr i,.sr j=>i==j
 |.op i t [],.op j u []=>(i==j)&&decide (t=u)
 |.nl k,.nl l=>k==l
 |.gn,.gn=>true
 |_,_=>false
def x9:V->V->Bool
 |.ni,.ni=>true
 |.co a r,.co x y=>rL a x&&x9 r y
 |_,_=>false
def pQ(h:H2):JV->V->V->List Bd->Option (List V×List Bd)
 |.sm,g0,g,m=>bif x9 g0 g then some ([],m)else none
 |.ni,.ni,.ni,m=>some ([],m)
 |.co a r,.co x0 y0,.co x y,m=>match a with|.sm=>bif rL x0 x then pQ h r y0 y m else none|.gn=>pQ h r y0 y m|a=>bif iB h x then(match dw a false x m with|some (l,m)=>(match pQ h r y0 y m with|some (l',m)=>some (l++l',m)|none=>none)|none=>none)else none
 |_,_,_,_=>none
def Ad:List (Nat×JV)->S2->S2
 |[],s=>s
 |(t,.so _)::r,s=>(match cu s.dO t with
  |some (.sb id ver _ u x)=>(match fO s.heap id with
   |some (.ar _ _ v)=>bif kV u&&v==ver then Ad r ⟨(t,.so s.next)::s.dO,(s.next,some (.ar u x 0))::(id,none)::s.heap,s.next+1,s.next::id::s.wo,s.gh⟩else Ad r s
   |_=>Ad r s)
  |_=>Ad r s)
 |_::r,s=>Ad r s
def Bb(j:J)(s0:S2)(s:S2):Option (List V):=
 match A9 s j.vs []with
 |some (l1,m)=>match pQ s.heap j.gs s0.gh s.gh m with
  |some (l2,m)=>(match A_ s.heap j.os 0 m with
   |some (l3,m)=>bif s.wo.all (fun i=>jc s0.next i||j.kl.contains i)&&m.all (fun b=>nn b.j j.os.length&&(match b.id with|some i=>jc s0.next i||j.kl.contains i|none=>true))then some (l1++(l2++l3))else none
   |none=>none)
  |none=>none
 |none=>none
def xm(j:J)(s0:S2)(s:S2):Option (List V):=match Ad j.vs s with|⟨e,h,n,w,g⟩=>Bb j s0 ⟨e,h,n,w,g⟩
def iS(b:Nat):JV->Bool->List V->V->Option (V×List V)
 |.x t,false,.x u v::l,_=>bif decide (u=t)&&kV u then some (.x u v,l)else none
 |.pt t,false,.x u v::l,_=>bif decide (u=t)&&kV u then some (.pt u v,l)else none
 |.so j,false,l,_=>some (.so (b+j),l)
 |.sr j,false,l,_=>some (.sr (b+j),l)
 |.om j,false,l,_=>some (.om (b+j),l)
 |.op j t p,false,l,_=>some (.op (b+j) t (p.map .fd),l)
 |.nl k,false,l,_=>some (.nl k,l)
 |.fn z f c,false,l,_=>match iS b c true l .ni with|some (w,l)=>some (.fn z f w,l)|none=>none
 |.rc c,false,l,_=>match iS b c true l .ni with|some (w,l)=>some (.rc w,l)|none=>none
 |.ni,true,l,_=>some (.ni,l)
 |.co a r,true,l,.co x y=>match iS b a false l x with|some (v,l)=>(match iS b r true l y with|some (w,l)=>some (.co v w,l)|none=>none)|none=>none
 |.co a r,true,l,_=>match iS b a false l .gn with|some (v,l)=>(match iS b r true l .ni with|some (w,l)=>some (.co v w,l)|none=>none)|none=>none
 |.sm,_,l,v=>some (v,l)
 |.gn,false,l,_=>some (.gn,l)
 |_,_,_,_=>none
def GZ(b:Nat):List (Nat×JV)->List V->Option (List (Nat×V)×List V)
 |[],l=>some ([],l)
 |(t,a)::r,l=>match iS b a false l .gn with|some (v,l)=>(match GZ b r l with|some (e,l)=>some ((t,v)::e,l)|none=>none)|none=>none
def Fe(b:Nat):JO->List V->Option (O×List V)
 |.ar t,.x (.sl u) v::l=>bif decide (u=t)then some (.ar u v 0,l)else none
 |.rw t,.x (.sl (.sl u)) v::l=>bif decide (u=t)&&Cq t then some (.rw u v none,l)else none
 |.bx t c,l=>match iS b c false l .gn with|some (w,l)=>bif eC w false t then some (.bx t w,l)else none|none=>none
 |.mp k v,.x (.mp k' v') m::l=>bif decide (k'=k)&&decide (v'=v)then some (.mp k' v' m,l)else none
 |_,_=>none
def CT(b:Nat):List JO->Nat->List V->Option (H2×List V)
 |[],_,l=>some ([],l)
 |o::r,j,l=>match Fe b o l with|some (o,l)=>(match CT b r (j+1) l with|some (h,l)=>some ((b+j,some o)::h,l)|none=>none)|none=>none
def ur(j:J)(ds:List Nat)(s0:S2)(l:List V):Option S2:=
 match GZ s0.next j.vs l with
 |some (e,l)=>(match iS s0.next j.gs true l s0.gh with
  |some (g,l)=>(match CT s0.next j.os 0 l with
   |some (h,_)=>some ⟨e++ds.map (fun t=>(t,V.gn))++s0.dO,h++j.kl.map (fun i=>(i,none))++s0.heap,s0.next+j.os.length,h.map (·.1)++j.kl++s0.wo,g⟩
   |none=>none)
  |none=>none)
 |none=>none
@[reducible] def EB:Ex->Type
 |[]=>Empty
 |(_,j)::r=>M2 j r
where M2:J->Ex->Type
 |j,[]=>qu (pP j)
 |j,(_,j')::r=>qu (pP j)⊕M2 j' r
def LI(s0:S2)(o:rZ)(s:S2):(o':rZ)->(j:J)->(r:Ex)->Option (EB.M2 j r)
 |o',j,[]=>bif decide (o=o')then(match xm j s0 s with|some l=>vO (pP j) l|none=>none)else none
 |o',j,(o2,j2)::r=>bif decide (o=o')then(match xm j s0 s with|some l=>(match vO (pP j) l with|some p=>some (.inl p)|none=>none)|none=>none)
  else(match LI s0 o s o2 j2 r with|some x=>some (.inr x)|none=>none)
def I4(s0:S2)(o:rZ)(s:S2):(e:Ex)->Option (EB e)
 |[]=>none
 |(o',j)::r=>LI s0 o s o' j r
def P8{β:Type}(ds:List Nat)(s0:S2)(k:rZ->S2->Option β):(o:rZ)->(j:J)->(r:Ex)->EB.M2 j r->Option β
 |o,j,[],p=>match ur j ds s0 (oV (pP j) p)with|some s=>k o s|none=>none
 |o,j,(o2,j2)::r,x=>match x with|.inl p=>(match ur j ds s0 (oV (pP j) p)with|some s=>k o s|none=>none)|.inr y=>P8 ds s0 k o2 j2 r y
def KH{β:Type}(ds:List Nat)(s0:S2)(k:rZ->S2->Option β):(e:Ex)->EB e->Option β
 |[],x=>nomatch x
 |(o,j)::r,x=>P8 ds s0 k o j r x
inductive C2 where
 |skip
 |NO (ops:List OP) (dr:Option (List (Nat×Nat))) (jn:Option J)
 |seq (a b:C2) (e:Ex)
 |cond (c:Operand) (a b:C2)
 |block (id:Nat) (a:C2)
 |loop (j:J) (e:Ex) (a:C2)
 |exit (id:Nat)
 |ret
 |gu
 deriving Inhabited
def mK:C2->List Nat
 |.NO ops _ _=>ops.filterMap (·.o.dst)
 |.seq a b _|.cond _ a b=>mK a++mK b
 |.block _ a|.loop _ _ a=>mK a
 |_=>[]
def LD:K->Bool
 |.lookup _ _ _ _ _=>true
 |_=>false
def O7(ops:List OP)(tr:JY)(i j:Nat):Bool:=
 match ops[i]?,tr[i]?with
 |some o,some ([id],[])=>LD o.o.k&&((tr.take j).drop (i+1)).all (fun x=>!x.2.contains id)
 |_,_=>false
def QO(ops:List OP)(tr:JY)(dyn:List (Nat×Nat)):Bool:=
 dyn.all fun p=>bif jc 1000 p.2 then(match tr[p.1]?,tr[p.2-1000]?with|some a,some b=>ma a b||O7 ops tr p.1 (p.2-1000)|_,_=>true)
  else(match tr[p.1]?,tr[p.2]?with|some a,some b=>ma a b|_,_=>true)
def Rh(s:S2)(id:Nat):Option S2:=
 match fO s.heap id with
 |some (.rw t v (some (m,id2)))=>(match fO s.heap id2 with
  |some (.ar u r _)=>(match gM (.sl u) (.sl t) r with
   |some r=>some (e9 (e9 s id2 none) id (some (.rw t (.mk (v.l.set m r)) none)))
   |none=>none)
  |_=>none)
 |_=>some s
def Ck:List Nat->S2->Option S2
 |[],s=>some s
 |id::r,s=>match Rh s id with|some s=>Ck r s|none=>none
def Ri(s s':S2):Option S2:=Ck (s'.wo.take (s'.wo.length-s.wo.length)) s'
def Hy{β:Type}(tb:EA)(ops:List OP)(dr:Option (List (Nat×Nat)))(s:S2)(k:S2->Option β):Option β:=match dr with|none=>m7 tb none ops 0 s ⟨[],[]⟩ [] fun s' _=>(Ri s s').bind k|some dyn=>m7 tb (some s.next) ops 0 s ⟨[],[]⟩ [] fun s' tr=>bif QO ops tr dyn then(Ri s {s' with next:=s.next+iT*ops.length}).bind k else none
def xk{β:Type}(tb:EA):C2->S2->(rZ->S2->Option β)->Option β
 |.skip,s,k=>k .normal s
 |.NO ops dr none,s,k=>Hy tb ops dr s fun s=>k .normal s
 |.NO ops dr (some j),s,k=>(Hy tb ops dr {s with wo:=[]} fun s'=>match xm j s s' with|some l=>vO (pP j) l|none=>none).bind fun p=>match ur j (ops.filterMap (·.o.dst)) s (oV (pP j) p)with|some s=>k .normal s|none=>none
 |.seq a b [],s,k=>xk tb a s fun o s=>match o with|.normal=>xk tb b s k|o=>k o s
 |.seq a b (e::r),s,k=>(xk tb a {s with wo:=[]} fun o s'=>I4 s o s' (e::r)).bind fun x=>KH (mK a) s (fun o s=>match o with|.normal=>xk tb b s k|o=>k o s) (e::r) x
 |.cond c a b,s,k=>(match JT s.dO s.heap c with
  |some (.kb t)=>bif t then xk tb a s k else xk tb b s k
  |some (.x .b t)=>bif t then xk tb a s k else xk tb b s k
  |_=>none)
 |.block id a,s,k=>xk tb a s fun o s=>match o with|.exit i=>k (bif i==id then .normal else .exit i) s|o=>k o s
 |.loop j e a,s,k=>
  bif e.all (fun x=>j.kl.all fun i=>x.2.kl.contains i)then(match xm j s {s with wo:=[]}with
  |some l=>(match vO (pP j) l with
   |some p0=>(bD (fun p=>match ur j (mK a) s (oV (pP j) p)with
     |some s1=>xk tb a {s1 with wo:=[]} fun o s'=>(match o with
      |.normal=>(match xm j s s' with|some l=>(match vO (pP j) l with|some q=>some (Sum.inl q)|none=>none)|none=>none)
      |o=>(match I4 s o s' e with|some x=>some (Sum.inr x)|none=>none))
     |none=>none) p0).bind fun x=>KH (mK a) s k e x
   |none=>none)
  |none=>none)else none
 |.exit id,s,k=>k (.exit id) s
 |.ret,s,k=>k .ret s
 |.gu,_,_=>none
def eK(P:Program):Nat->TypeId->Ty
 |0,_=>.o 9
 |n+1,t=>match P.underlying t with|some (.int k)=>.i k|some .bool=>.b|some .string=>.s|some (.float k)=>.f k|some (.slice e)=>.sl (eK P n e)|some (.map k v)=>.mp (eK P n k) (eK P n v)|some (.struct fs)=>.st (Su (fs.toList.map fun f=>eK P n f.type))|some (.array m e)=>.ar m (eK P n e)|some (.pointer _)=>.o 1|some (.func ..)=>.o 2|_=>.o 4
where Su:List Ty->Ty
 |[]=>.un
 |[t]=>t
 |t::r=>.pr t (Su r)
def Jq:Nat:=12
def QL(P:Program)(t:TypeId):Ty:=match P.underlying t with|some (.slice e)=>eK P Jq e|some (.array _ e)=>eK P Jq e|_=>.o 9
def Pk(P:Program):Op->Ty×List Nat
 |.alloc e=>(eK P Jq e,[])
 |.box t _=>(eK P Jq t,[])
 |.build t parts=>(eK P Jq t,parts.toList.map (·.1))
 |.buildSlice t _ parts=>(QL P t,parts.toList.map (·.1))
 |.fieldAddr _ _ f=>(.o 9,[f])
 |.field _ _ f=>(.o 9,[f])
 |.makeSlice t _ _=>(QL P t,[])
 |.makeMap t _=>(eK P Jq t,[])
 |.call c=>(match c.callee,c.argTypes.toList with|.builtin _,t::_=>QL P t|_,_=>.o 9,[])
 |_=>(.o 9,[])
def Qe(P:Program)(di:Aj)(nt:Nat)(all:Array Oper)(o:Oper):OP:=⟨gD P di nt all o,(Pk P o.op).1,(Pk P o.op).2⟩
structure An where
 j:Option J:=none
 e:Ex:=[]
 deriving Inhabited
def pF(P:Program)(di:Aj)(nt:Nat)(an:List (Nat×An)):Code->Nat->C2×Nat
 |.skip,n=>(.skip,n)
 |.region _ ops draw,n=>
  (if draw then(if yt (MY ops.toList []) ops.toList 0&&x8 (MY ops.toList []) (ops.toList.map (gD P di nt ops)) 0&&decide (ops.toList.length<=1000)
   then .NO (ops.toList.map (Qe P di nt ops)) (some (sO (MY ops.toList []) (ops.toList.map (gD P di nt ops)) 0)) ((cu an n).bind (·.j))else .gu)
   else .NO (ops.toList.map (Qe P di nt ops)) none ((cu an n).bind (·.j)),n+1)
 |.seq a b,n=>
  let x:=pF P di nt an a (n+1);let y:=pF P di nt an b x.2
  (.seq x.1 y.1 (match cu an n with|some w=>w.e|none=>[]),y.2)
 |.cond c a b,n=>let x:=pF P di nt an a n;let y:=pF P di nt an b x.2;(.cond c x.1 y.1,y.2)
 |.block id a,n=>let x:=pF P di nt an a n;(.block id x.1,x.2)
 |.loop a,n=>
  let x:=pF P di nt an a (n+1)
  (match cu an n with|some ⟨some j,e⟩=>.loop j e x.1|_=>.gu,x.2)
 |.scope a,n=>pF P di nt an a n
 |.label _,n=>(.skip,n)
 |.exit id,n=>(.exit id,n)
 |.ret,n=>(.ret,n)
 |_,n=>(.gu,n)
structure F2 where
 np:Nat
 kG:List RV
 body:C2
def A8(P:Program)(di:Aj)(f np:Nat)(an:List (Nat×An)):Option F2:=
 match P.funcs[f]?with
 |none=>none
 |some g=>
  match g.body with
  |none=>none
  |some code=>
   if(g.name== "runtime.NumGoroutine")=false/\np<=g.ntmps/\g.ntmps<1000000000 then
    match Ax P g.results.toList with|some kG=>some ⟨np,kG,(pF P di g.ntmps an code 0).1⟩|none=>none
   else none
def Cy:Sh->List V->Option (V×List V)
 |.ni,l=>some (.ni,l)
 |.pr (.pt t) c,.x u v::l=>bif decide (u=t)&&kV t then(match Cy c l with|some (w,l)=>some (.co (.pt u v) w,l)|none=>none)else none
 |_,_=>none
def sN:List (Bool×Sh)->Nat->List V->S2->Option (List (Nat×V)×S2)
 |[],_,[],s=>some ([],s)
 |(false,.x t)::r,i,.x u v::l,s=>bif decide (u=t)&&kV t then(match sN r (i+1) l s with|some (e,s)=>some ((i,.x u v)::e,s)|none=>none)else none
 |(false,.pt t)::r,i,.x u v::l,s=>bif decide (u=t)&&kV t then(match sN r (i+1) l s with|some (e,s)=>some ((i,.pt u v)::e,s)|none=>none)else none
 |(false,.nl k)::r,i,l,s=>(match sN r (i+1) l s with|some (e,s)=>some ((i,.nl k)::e,s)|none=>none)
 |(false,.fn f c)::r,i,l,s=>(match Cy c l with|some (w,l)=>(match sN r (i+1) l s with|some (e,s)=>some ((i,.fn true f w)::e,s)|none=>none)|none=>none)
 |(true,c)::r,i,l,s=>(match qU c false l s with
  |some (w,l,s)=>(match sN r (i+1) l s with|some (e,s)=>some ((i,w)::e,{s with gh:=.co w s.gh})|none=>none)
  |none=>none)
 |_,_,_,_=>none
def QK(ps:List (Bool×Sh))(l:List V):Option S2:=
 match sN ps 0 l ⟨[],[],0,[],.ni⟩with
 |some (e,s)=>some {s with dO:=e}
 |none=>none
def NL(s:S2):RV->Option V
 |.tmp t=>JT s.dO s.heap (.tmp t)
 |.cell t g n=>match JT s.dO s.heap (.tmp t)with|some p=>(match yG s.heap p with|some (w,_)=>bif Gv s.heap g n w then some w else none|none=>none)|none=>none
def NM(h:H2):Sh->V->Option (List V×List Nat)
 |.x t,v=>match kK h v with|some (w,l)=>(match tL t w with|some y=>some ([.x t y],l)|none=>none)|none=>none
 |.os t,.sb id _ _ u r=>(match fO h id with|some (.ar _ _ _)=>(match gM (.sl u) (.sl t) r with|some s=>some ([.x (.sl t) s],[id])|none=>none)|_=>none)
 |c,v=>dW h c false v
def TO(h:H2):Sh->V->Option (List V×List Nat)
 |.gn,_=>some ([],[])
 |c,v=>bif iB h v then dW h c false v else none
def AA(h:H2):List Sh->List V->Option (List V×List Nat)
 |[],[]=>some ([],[])
 |c::r,v::vs=>match NM h c v,AA h r vs with|some (l,i),some (m,j)=>some (l++m,i++j)|_,_=>none
 |_,_=>none
def Az(h:H2):List Sh->List V->Option (List V×List Nat)
 |[],[]=>some ([],[])
 |c::r,v::vs=>match TO h c v,Az h r vs with|some (l,i),some (m,j)=>some (l++m,i++j)|_,_=>none
 |_,_=>none
def N_{α β:Type}(f:α->Option β):List α->Option (List β)
 |[]=>some []
 |a::r=>match f a,N_ f r with|some x,some y=>some (x::y)|_,_=>none
def Je(kG:List RV)(rs os:List Sh)(s:S2):Option (List V):=
 match N_ (NL s) kG with
 |some vs=>match AA s.heap rs vs,Az s.heap os (Aq s.gh)with|some (l,i),some (m,j)=>bif yz (i++j)then some (l++m)else none|_,_=>none
 |none=>none
def Jf(kG:List RV)(s:S2):(r o:List Sh)->(w:Wy)->Option (vB.GG r o w)
 |r,o,[]=>match Je kG r o s with|some l=>vO (gX r++gX o) l|none=>none
 |r,o,(r',o')::w=>match Je kG r o s with|some l=>(match vO (gX r++gX o) l with|some z=>some (.inl z)|none=>none)|none=>(match Jf kG s r' o' w with|some z=>some (.inr z)|none=>none)
def Ou(kG:List RV)(s:S2):(w:Wy)->Option (vB w)
 |[]=>none
 |(r,o)::w=>Jf kG s r o w
def Sf(tb:EA)(F:Option F2)(ps:List (Bool×Sh))(al:Wy)(p:qu (gX (ps.map (·.2)))):Option (vB al):=
 match F with
 |some F=>
  match QK ps (oV _ p)with
  |some s=>xk tb F.body s fun o s=>match o with|.exit _=>none|_=>Ou F.kG s al
  |none=>none
 |none=>none
theorem bI:∀(t:Ty)(v:El t),(aT t v).length=bE t:=by intro t;induction t with|pr a c iha ihc=>intro v;simp[aT,bE,iha,ihc]|st t ih=>intro v;simp[aT,bE,ih]|ar n t ih=>intro v;rw[aT,ia ih,v.2];rfl|_=>intro v;rfl
theorem y8{α β:Type}[Inhabited α]{f:α->List β}{n:Nat}(h:∀a,(f a).length=n):∀(l:List α)(k:Nat),k<l.length->((l.flatMap f).drop (k*n)).take n=f (gt l k):=by
 intro l;induction l with
 |nil=>intro k hk;simp at hk
 |cons a l ih=>
  intro k hk;cases k with
  |zero=>simp[gt,h]
  |succ k=>
   have e:(k+1)*n=(f a).length+k*n:=by rw[h,bO];omega
   rw[bi,e,<-dv,eu (au _),fH,bh,ih k (by simpa using hk)];rfl
theorem L8{α β:Type}{f:α->List β}{n:Nat}(h:∀a,(f a).length=n):∀(l:List α)(k:Nat)(x:α),k<l.length->(l.set k x).flatMap f=aV (l.flatMap f) (k*n) (f x):=by
 intro l;induction l with
 |nil=>intro k x hk;simp at hk
 |cons a l ih=>
  intro k x hk;cases k with
  |zero=>
   simp only[List.set_cons_zero,bi,aV,Nat.zero_mul,List.take_zero,bh,Nat.zero_add,h];have:(f a++l.flatMap f).drop n=l.flatMap f:=by rw[<-h a,eu (au _),fH,bh]
   rw[this]
  |succ k=>
   have e:(k+1)*n=(f a).length+k*n:=by rw[h,bO];omega
   simp only[List.set_cons_succ,bi,aV,e,List.take_length_add_append,cO];rw[<-dv,eu (au _),fH,bh,ih k x (by simpa using hk)];simp[aV]
theorem du{t u:Ty}{v:El t}{y:El u}(h:gM t u v=some y):∃e:t=u,y=e▸v:=by
 unfold gM at h;split at h
 .rename_i e;exact⟨e,(aa h).symm⟩
 .simp at h
theorem wD{t u:Ty}{v:El t}{y:El u}(h:gM t u v=some y):aT u y=aT t v/\t=u:=by obtain⟨rfl,rfl⟩:=du h;exact⟨rfl,rfl⟩
theorem qJ:∀(t:Ty)(v:El t)(i:Nat)(w:V),Aa t v i=some w->∃u y,w=.x u y/\Cr t i=some u/\oU t i+bE u<=bE t/\((aT t v).drop (oU t i)).take (bE u)=aT u y:=by
 intro t;induction t with
 |pr a c iha ihc=>intro v i w h;cases i with|zero=>obtain rfl:=aa h;refine⟨a,v.1,rfl,rfl,by simp[oU,bE],?_⟩;simp[oU,aT,bI]|succ i=>obtain⟨u,y,rfl,h1,h2,h3⟩:=ihc v.2 i w h;refine⟨u,y,rfl,h1,by simp only[oU,bE];omega,?_⟩;simp only[oU,aT];rw[<-dv,<-bI a v.1,eu (au _),fH,bh,h3]
 |_=>intro v i w h;cases i with|zero=>obtain rfl:=aa h;exact⟨_,v,rfl,rfl,by simp[oU],by simp[oU,dm,bI]⟩|succ i=>simp[Aa]at h
theorem QA:∀(t:Ty)(i:Nat)(u:Ty),Cr t i=some u->oU t i+bE u<=bE t:=by
 intro t;induction t with
 |pr a c iha ihc=>intro i u h;cases i with|zero=>obtain rfl:=aa h;simp[oU,bE]|succ i=>have:=ihc i u h;simp only[oU,bE];omega
 |_=>intro i u h;cases i with|zero=>obtain rfl:=aa h;simp[oU]|succ i=>simp[Cr]at h
theorem te{α:Type}{a b p:List α}{off:Nat}:aV (a++b) (a.length+off) p=a++aV b off p:=by simp only[aV,List.take_length_add_append,cO,aL];rw[<-dv,eu (au _),fH,bh]
theorem s_{α:Type}{a b p:List α}{off:Nat}(h:off+p.length<=a.length):aV (a++b) off p=aV a off p++b:=by simp only[aV,aL];rw[List.take_append_of_le_length (by omega),eu h]
theorem mA{α:Type}{b p:List α}(h:p.length=b.length):aV b 0 p=p:=by simp[aV,h]
theorem um{α:Type}{b p:List α}{off:Nat}(h:off+p.length<=b.length):(aV b off p).length=b.length:=by simp only[aV,av,List.length_take,List.length_drop];omega
theorem ul{α β:Type}{f:α->β}{b p:List α}{off:Nat}:(aV b off p).map f=aV (b.map f) off (p.map f):=by simp[aV]
theorem qf{α:Type}{b c p:List α}{o1 o2 n:Nat}(hc:(b.drop o1).take n=c)(h1:o1+n<=b.length)(h2:o2+p.length<=n):aV b o1 (aV c o2 p)=aV b (o1+o2) p:=by
 have hcl:c.length=n:=by rw[<-hc];simp;omega
 have e:b=b.take o1++(c++b.drop (o1+n)):=by rw[<-hc,<-dv,je,je]
 have hl:(b.take o1).length=o1:=by simp;omega
 have hs:(aV c o2 p).length=n:=by rw[um (by omega),hcl]
 have r2:aV b (o1+o2) p=b.take o1++(aV c o2 p++b.drop (o1+n)):=by
  conv=>lhs;rw[e]
  have:=te (a:=b.take o1) (b:=c++b.drop (o1+n)) (p:=p) (off:=o2);rw[hl]at this;rw[this,s_ (by omega)]
 rw[r2];show b.take o1++aV c o2 p++b.drop (o1+(aV c o2 p).length)=_;rw[hs,aL]
theorem Jr:∀(t:Ty)(l r:List Value)(x:El t),uF t l=some (x,r)->l.all dY=true->∃p,l=p++r/\(aT t x)=p.map D.lit:=by
 intro t;induction t with
 |pr a c iha ihc=>
  intro l r x h hp;simp only[uF]at h;split at h
  .rename_i y l1 h1;split at h
   .rename_i z l2 h2;obtain⟨rfl,rfl⟩:=ad (aa h);obtain⟨p,rfl,e1⟩:=iha _ _ _ h1 hp;obtain⟨q,rfl,e2⟩:=ihc _ _ _ h2 (by rw[List.all_append,ai]at hp;exact hp.2);exact⟨p++q,by simp,by simp[aT,e1,e2]⟩
   .simp at h
  .simp at h
 |st t ih=>intro l r x h hp;exact ih l r x h hp
 |ar n t ih=>
  intro l r x h hp;simp only[uF]at h
  have key:∀(m:Nat)(l r:List Value)(x:Arr m (El t)),OA (uF t) m l=some (x,r)->l.all dY=true->∃p,l=p++r/\x.1.flatMap (aT t)=p.map D.lit:=by
   intro m;induction m with
   |zero=>intro l r x h hp;obtain⟨rfl,rfl⟩:=ad (aa h);exact⟨[],rfl,rfl⟩
   |succ m ihn=>
    intro l r x h hp;simp only[OA]at h;split at h
    .rename_i y l1 h1;split at h
     .rename_i v l2 h2;obtain⟨rfl,rfl⟩:=ad (aa h);obtain⟨p,rfl,e1⟩:=ih _ _ _ h1 hp;obtain⟨q,rfl,e2⟩:=ihn _ _ _ h2 (by rw[List.all_append,ai]at hp;exact hp.2);exact⟨p++q,by simp,by simp[bi,e1,e2]⟩
     .simp at h
    .simp at h
  exact key n l r x h hp
 |i k=>
  intro l r x h hp;simp only[uF]at h;unfold So at h;split at h
  .split at h
   .rename_i e;subst e;obtain⟨rfl,rfl⟩:=ad (aa h);exact⟨[_],rfl,rfl⟩
   .simp at h
  .simp at h
 |b=>
  intro l r x h hp;simp only[uF]at h;unfold Sp at h;split at h
  .obtain ⟨rfl,rfl⟩:=ad (aa h);exact⟨[_],rfl,rfl⟩
  .simp at h
 |s=>
  intro l r x h hp;simp only[uF]at h;unfold Sm at h;split at h
  .obtain ⟨rfl,rfl⟩:=ad (aa h);exact⟨[_],rfl,rfl⟩
  .simp at h
 |f k=>
  intro l r x h hp;simp only[uF]at h;unfold Po at h;split at h
  .split at h
   .rename_i e;subst e;obtain⟨rfl,rfl⟩:=ad (aa h);exact⟨[_],rfl,rfl⟩
   .simp at h
  .simp at h
 |sl t ih=>
  intro l r x h hp;simp only[uF]at h;unfold Sn at h;split at h
  .obtain ⟨rfl,rfl⟩:=ad (aa h);exact⟨[_],rfl,rfl⟩
  .simp at h
 |_=>intro l r x h hp;simp[uF]at h
def GE(h:H2)(id ver:Nat):Bool:=match fO h id with|some (.ar _ _ v)|some (.im _ _ v)=>v==ver|_=>false
def Qw(id:Nat)(c:C):Prop:=∀i∈eN c,i=id
def fz(h:H2):V->List C->Prop
 |.x t v,cs=>kV t=true/\cs=(aT t v).map .d
 |.kb c,cs=>cs=[.d (.lit (.bool c))]
 |.nl k,cs=>cs=[Dt k]
 |.so id,cs=>∃c,cs=[c]/\(∀c',Au id (fO h id)=some c'->c=c')/\Qw id c
 |.sr id,cs=>∃c,cs=[c]/\(∀c',EZ id (fO h id)=some c'->c=c')/\Qw id c
 |.sb id ver lo t r,cs=>∃c,cs=[c]/\(GE h id ver=true->c=zO id lo t r)/\Qw id c
 |.op id t p,cs=>cs=[.op id (mM t p)]
 |.ep id n t p,cs=>cs=[.ep id n (mM t p)]
 |.pt t v,cs=>kV t=true/\cs=[.d (.pt (aT t v))]
 |.fn true f l,cs=>∃ds,qt l=some ds/\cs=[.d (.fn f ds)]
 |.fn false f l,cs=>∃xs,fz h l xs/\cs=[.oR f xs]
 |.om id,cs=>cs=[.om id]
 |.rc l,cs=>fz h l cs
 |.fl l,cs=>l.all dY=true/\cs=fy l
 |.ni,cs=>cs=[]
 |.co a r,cs=>∃x y,cs=x++y/\fz h a x/\fz h r y
 |.tp _,_|.no,_|.gn,_=>False
def sn(h:H2)(v:V)(x:TV):Prop:=∃cs,fz h v cs/\(sW v=true->x=.agg cs)/\(sW v=false->∃c,cs=[c]/\x=.c c)
def Bq(h:H2):V->List TV->Prop
 |.ni,xs=>xs=[]
 |.co a r,xs=>∃x ys,xs=x::ys/\sn h a x/\Bq h r ys
 |_,_=>False
def gG(h:H2):V->TV->Prop
 |.tp l,x=>∃xs,x=.iQ xs/\Bq h l xs
 |.no,x=>x=.iQ []
 |.gn,_=>False
 |v,x=>sn h v x
def UH(t u:Ty)(s:Sl (El t))(lo:Nat)(r:Sl (El u)):Prop:=bE t=bE u/\match s,r with|.nil,.nil=>True|.mk l,.mk m=>lo+m.length<=l.length/\((l.map (aT t)).drop lo).take m.length=m.map (aT u)|_,_=>False
def fw(n:Nat)(h:H2):V->Prop
 |.so id|.sr id|.om id=>id<n
 |.sb id ver lo t r=>id<n/\∀u s v,(fO h id=some (.ar u s v)\/fO h id=some (.im u s v))->ver<=v/\(v=ver->UH u t s lo r)
 |.op id t p=>id<n/\II t p
 |.ep id m t p=>id<n/\II t p/\(∀u s v,(fO h id=some (.ar u s v)\/fO h id=some (.im u s v))->m<s.l.length)/\∀u s v,fO h id=some (.rw u s v)->m<s.l.length
 |.fn _ _ l|.rc l|.tp l=>fw n h l
 |.co a r=>fw n h a/\fw n h r
 |_=>True
def yv(h:H2):O->Option Ob->Prop
 |.ar t s _,b=>kV t=true/\0<bE t/\(∀l,s=.mk l->b=some (.aM (bE t) (l.map (aT t))))
 |.im t s _,b=>kV t=true/\0<bE t/\(∀l,s=.mk l->b=some (.qH (bE t) (l.map (aT t))))
 |.bx t c,b=>∃cs,b=some (.box cs)/\fz h c cs/\eC c false t=true
 |.ib t v,b=>kV t=true/\b=some (.o5 (aT t v))
 |.mp k v m,b=>kV v=true/\(∃ks,DQ k=some ks)/\b=EH (nq k) (nq v) (fun x=>(aT k x).map fun|.lit y=>y|_=>.nilFunc) (aT v) m
 |.rw t s ln,b=>kV t=true/\0<bE t/\(∀l,(s:Sl (Sl (El t)))=.mk l->b=some (.nst (bE t) (fR t l ln)))
def Ha(n:Nat)(h:H2):O->Prop
 |.bx _ c=>fw n h c
 |.rw _ s (some (m,id))=>m<s.l.length/\id<n/\∀u r v,(fO h id=some (.ar u r v)\/fO h id=some (.im u r v))->r.fN=(gt s.l m).fN/\r.l.length=(gt s.l m).l.length
 |_=>True
structure HR(n:Nat)(h1:bH)(h2:H2):Prop where
 ob:∀id o,fO h2 id=some o->id<n/\yv h2 o (aC h1 id)/\Ha n h2 o
abbrev PA(t:Ty)(s:Sl (El t)):(t:Ty)×Sl (El t):=⟨t,s⟩
abbrev UZ(t:Ty)(s:El t):(t:Ty)×El t:=⟨t,s⟩
def Vg(t u:Ty)(s:Sl (El t))(s':Sl (El u))(v v':Nat):Prop:=v<=v'/\t=u/\s.fN=s'.fN/\s.l.length=s'.l.length/\(v=v'->PA t s=PA u s')
def Cs:O->O->Prop
 |.ar t s v,.ar u s' v'|.ar t s v,.im u s' v'=>Vg t u s s' v v'
 |.im t s v,.im u s' v'=>v=v'/\PA t s=PA u s'
 |.bx t _,.bx u _=>t=u
 |.bx _ _,.ib _ _=>True
 |.ib t v,.ib u w=>UZ t v=UZ u w
 |.mp _ _ _,.mp _ _ _=>True
 |.rw t s _,.rw u s' _=>t=u/\s.fN=s'.fN/\s.l.length=s'.l.length
 |_,_=>False
structure lN(n:Nat)(h h':H2):Prop where
 ob:∀id o',id<n->fO h' id=some o'->(∃o,fO h id=some o/\Cs o o')\/uN o'=true
theorem Bz{sz id:Nat}{α:Type}{e:α->List D}{s:Sl α}:Qw id (mQ sz e id s):=by intro i hi;cases s with|nil=>simp[mQ,eN]at hi|mk l=>simpa[mQ,eN]using hi
theorem Kr{id lo:Nat}{t:Ty}{s:Sl (El t)}:Qw id (zO id lo t s):=by intro i hi;cases s with|nil=>simp[zO,eN]at hi|mk l=>simpa[zO,eN]using hi
section
variable{n n':Nat}{h h':H2}
theorem E6{t:Ty}{s s':Sl (El t)}{id:Nat}(h1:s.fN=s'.fN)(h2:s.l.length=s'.l.length):mQ (bE t) (aT t) id s=mQ (bE t) (aT t) id s':=by cases s<;>cases s'<;>simp_all[Sl.fN,mQ]
theorem Kj(hs:lN n h h'){id:Nat}(hi:id<n){c:C}(hc:Au id (fO h' id)=some c):Au id (fO h id)=some c:=by
 cases ho:fO h' id with
 |none=>rw[ho]at hc;simp[Au]at hc
 |some o'=>
  rw[ho]at hc;obtain⟨o,h1,h2⟩:=(hs.ob id o' hi ho).resolve_right fun e=>by cases o'<;>simp[uN]at e<;>simp[Au]at hc
  rw[h1];cases o'<;>simp only[Au]at hc<;>first|cases hc;done|skip
  all_goals(cases o<;>simp only[Cs]at h2<;>first|exact h2.elim|skip)
  .obtain ⟨_,rfl,h3,h4,_⟩:=h2;rw[<-hc];simp only[Au];rw[E6 h3 h4]
  .obtain ⟨_,rfl,h3,h4,_⟩:=h2;rw[<-hc];simp only[Au];rw[E6 h3 h4]
  .obtain ⟨_,h3⟩:=h2;obtain⟨rfl,h3⟩:=kj h3;cases h3;rw[<-hc];rfl
  all_goals simp at hc
theorem Kf(hs:lN n h h'){id:Nat}(hi:id<n){c:C}(hc:EZ id (fO h' id)=some c):EZ id (fO h id)=some c:=by
 cases ho:fO h' id with
 |none=>rw[ho]at hc;simp[EZ]at hc
 |some o'=>
  rw[ho]at hc;obtain⟨o,h1,h2⟩:=(hs.ob id o' hi ho).resolve_right fun e=>by cases o'<;>simp[uN]at e<;>simp[EZ]at hc
  rw[h1];cases o'<;>simp only[EZ]at hc<;>first|cases hc;done|skip
  all_goals(cases o<;>simp only[Cs]at h2<;>first|exact h2.elim|skip)
  .obtain ⟨rfl,h3,h4⟩:=h2;rw[<-hc];simp only[EZ];exact congrArg some (E6 (t:=.sl _) h3 h4)
  all_goals simp at hc
theorem GX(hs:lN n h h'){id:Nat}(hi:id<n){u:Ty}{s:Sl (Sl (El u))}{ln:Option (Nat×Nat)}(ho:fO h' id=some (.rw u s ln)):∃s0 ln0,fO h id=some (.rw u s0 ln0)/\s0.fN=s.fN/\s0.l.length=s.l.length:=by
 obtain⟨o,h1,h2⟩:=(hs.ob id _ hi ho).resolve_right fun e=>by simp[uN]at e
 cases o<;>simp only[Cs]at h2<;>first|exact h2.elim|skip
 obtain⟨rfl,h3,h4⟩:=h2;exact⟨_,_,h1,h3,h4⟩
theorem Km(hs:lN n h h'){id:Nat}(hi:id<n){u:Ty}{s:Sl (El u)}{v:Nat}(ho:fO h' id=some (.ar u s v)\/fO h' id=some (.im u s v)):
  ∃s0 v0,(fO h id=some (.ar u s0 v0)\/fO h id=some (.im u s0 v0))/\s0.fN=s.fN/\s0.l.length=s.l.length:=by
 rcases ho with ho|ho
 all_goals
  obtain⟨o,h1,h2⟩:=(hs.ob id _ hi ho).resolve_right fun e=>by simp[uN]at e
  cases o<;>simp only[Cs]at h2<;>first|exact h2.elim|skip
 .obtain ⟨_,rfl,h3,h4,_⟩:=h2;exact⟨_,_,.inl h1,h3,h4⟩
 .obtain ⟨_,rfl,h3,h4,_⟩:=h2;exact⟨_,_,.inl h1,h3,h4⟩
 .obtain ⟨rfl,h3⟩:=h2;obtain⟨rfl,h3⟩:=kj h3;cases h3;exact⟨_,_,.inr h1,rfl,rfl⟩
theorem tf(hs:lN n h h'){id:Nat}(hi:id<n){u:Ty}{s:Sl (El u)}{v:Nat}(ho:fO h' id=some (.ar u s v)\/fO h' id=some (.im u s v)):
  ∃s0 v0,(fO h id=some (.ar u s0 v0)\/fO h id=some (.im u s0 v0))/\v0<=v/\s0.l.length=s.l.length/\(v0=v->s0=s):=by
 rcases ho with ho|ho
 all_goals
  obtain⟨o,h1,h2⟩:=(hs.ob id _ hi ho).resolve_right fun e=>by simp[uN]at e
  cases o<;>simp only[Cs]at h2<;>first|exact h2.elim|skip
 .obtain ⟨h3,rfl,_,h4,h5⟩:=h2;exact⟨_,_,.inl h1,h3,h4,fun e=>by have:=h5 e;simpa using this⟩
 .obtain ⟨h3,rfl,_,h4,h5⟩:=h2;exact⟨_,_,.inl h1,h3,h4,fun e=>by have:=h5 e;simpa using this⟩
 .obtain ⟨rfl,h3⟩:=h2;obtain⟨rfl,h3⟩:=kj h3;cases h3;exact⟨_,_,.inr h1,au _,rfl,fun _=>rfl⟩
theorem nV{id ver:Nat}(ha:GE h id ver=true):∃u s,fO h id=some (.ar u s ver)\/fO h id=some (.im u s ver):=by
 unfold GE at ha;split at ha
 .rename_i u s v ho;obtain rfl:v=ver:=by simpa using ha
  exact⟨u,s,.inl ho⟩
 .rename_i u s v ho;obtain rfl:v=ver:=by simpa using ha
  exact⟨u,s,.inr ho⟩
 .simp at ha
theorem gR(hn:n<=n')(hs:lN n h h'):∀{v:V},fw n h v->fw n' h' v:=by
 intro v;induction v with
 |so id=>intro hv;simp only[fw]at hv|-;omega
 |sr id=>intro hv;simp only[fw]at hv|-;omega
 |om id=>intro hv;simp only[fw]at hv|-;omega
 |sb id ver lo t r=>
  rintro⟨h1,h2⟩;refine⟨by omega,fun u s v ho=>?_⟩;obtain⟨s0,v0,h3,h4,h5,h6⟩:=tf hs h1 ho;obtain⟨h7,h8⟩:=h2 u s0 v0 h3;refine⟨by omega,fun e=>?_⟩;have e2:v0=ver:=by omega
  have:=h6 (by omega);subst this;exact h8 e2
 |op id t p=>rintro⟨h1,h2⟩;exact⟨by omega,h2⟩
 |ep id m t p=>
  rintro⟨h1,h2,h3,h6⟩;refine⟨by omega,h2,fun u s v ho=>?_,fun u s v ho=>?_⟩
  .obtain ⟨s0,v0,h4,_,h5,_⟩:=tf hs h1 ho;have:=h3 u s0 v0 h4;omega
  .obtain ⟨s0,v0,h4,_,h5⟩:=GX hs h1 ho;have:=h6 u s0 v0 h4;omega
 |fn z f l ih=>intro hv;exact ih hv
 |rc l ih=>intro hv;exact ih hv
 |tp l ih=>intro hv;exact ih hv
 |co a r iha ihr=>rintro⟨h1,h2⟩;exact⟨iha h1,ihr h2⟩
 |_=>intro _;trivial
theorem lC(hs:lN n h h'):∀{v:V}{cs:List C},fw n h v->fz h v cs->fz h' v cs:=by
 intro v;induction v with
 |so id=>rintro cs hi ⟨c,rfl,hc,hid⟩;exact⟨c,rfl,fun c' hc'=>hc c' (Kj hs hi hc'),hid⟩
 |sr id=>rintro cs hi ⟨c,rfl,hc,hid⟩;exact⟨c,rfl,fun c' hc'=>hc c' (Kf hs hi hc'),hid⟩
 |sb id ver lo t r=>
  rintro cs ⟨hi,h2⟩ ⟨c,rfl,hc,hid⟩;refine⟨c,rfl,fun ha=>hc ?_,hid⟩;obtain⟨u,s,ho⟩:=nV ha;obtain⟨s0,v0,h3,h4,_,_⟩:=tf hs hi ho;obtain⟨h7,_⟩:=h2 u s0 v0 h3;have:v0=ver:=by omega
  subst this;unfold GE;rcases h3 with h3|h3<;>rw[h3]<;>simp
 |fn z f l ih=>intro cs hv hc;cases z with|true=>exact hc|false=>obtain⟨xs,h1,h2⟩:=hc;exact⟨xs,ih hv h1,h2⟩
 |rc l ih=>intro cs hv hc;exact ih hv hc
 |co a r iha ihr=>rintro cs ⟨h1,h2⟩ ⟨x,y,rfl,h3,h4⟩;exact⟨x,y,rfl,iha h1 h3,ihr h2 h4⟩
 |_=>intro cs _ hc;exact hc
theorem vN(hs:lN n h h'){v:V}{x:TV}(hv:fw n h v)(hx:sn h v x):sn h' v x:=by obtain⟨cs,h1,h2⟩:=hx;exact⟨cs,lC hs hv h1,h2⟩
theorem HU(hs:lN n h h'):∀{v:V}{xs:List TV},fw n h v->Bq h v xs->Bq h' v xs:=by intro v;induction v with|co a r iha ihr=>rintro xs ⟨h1,h2⟩ ⟨x,ys,rfl,h3,h4⟩;exact⟨x,ys,rfl,vN hs h1 h3,ihr h2 h4⟩|ni=>intro xs _ h;exact h|_=>intro xs _ h;exact h.elim
theorem uP(hs:lN n h h'){v:V}{x:TV}(hv:fw n h v)(hx:gG h v x):gG h' v x:=by cases v with|tp l=>obtain⟨xs,h1,h2⟩:=hx;exact⟨xs,h1,HU hs hv h2⟩|no=>exact hx|gn=>exact hx|_=>exact vN hs hv hx
theorem sC(hs:lN n h h'){o:O}{b:Option Ob}(ho:Ha n h o)(hb:yv h o b):yv h' o b:=by cases o with|bx t c=>obtain⟨cs,h1,h2,h3⟩:=hb;exact⟨cs,h1,lC hs ho h2,h3⟩|_=>exact hb
theorem sB(hn:n<=n')(hs:lN n h h'){o:O}(ho:Ha n h o):Ha n' h' o:=by
 cases o with
 |bx t c=>exact gR hn hs ho
 |rw t s ln=>cases ln with|none=>trivial|some q=>obtain⟨m,id⟩:=q;obtain⟨h1,h2,h3⟩:=ho;refine⟨h1,Nat.lt_of_lt_of_le h2 hn,fun u r v hu=>?_⟩;obtain⟨s0,v0,h4,h5,h6⟩:=Km hs h2 hu;obtain⟨h7,h8⟩:=h3 u s0 v0 h4;exact⟨h5▸h7,h6▸h8⟩
 |_=>trivial
end
theorem iz{h:H2}:∀{v:V}{cs:List C},fz h v cs->cs.length=xT v:=by
 intro v;induction v with
 |x t v=>rintro cs ⟨_,rfl⟩;simp[xT,bI]
 |so id=>rintro cs ⟨c,rfl,_⟩;rfl
 |sr id=>rintro cs ⟨c,rfl,_⟩;rfl
 |sb id ver lo t r=>rintro cs ⟨c,rfl,_⟩;rfl
 |pt t v=>rintro cs ⟨_,rfl⟩;rfl
 |fn z f l ih=>intro cs hc;cases z with|true=>obtain⟨ds,_,rfl⟩:=hc;rfl|false=>obtain⟨ds,_,rfl⟩:=hc;rfl
 |rc l ih=>intro cs hc;exact ih hc
 |fl l=>rintro cs ⟨_,rfl⟩;simp[fy,xT]
 |ni=>rintro cs rfl;rfl
 |co a r iha ihr=>rintro cs ⟨x,y,rfl,h1,h2⟩;simp[xT,iha h1,ihr h2]
 |tp l=>intro cs hc;exact hc.elim
 |no=>intro cs hc;exact hc.elim
 |gn=>intro cs hc;exact hc.elim
 |_=>rintro cs rfl;rfl
theorem gT:∀(v:V)(ln:Bool)(t:Ty),eC v ln t=true->xT v=bE t:=by
 intro v;induction v with
 |rc l ih=>
  intro ln t hf;cases ln with
  |true=>cases t<;>simp[eC]at hf
  |false=>cases t with|st t=>exact ih true t hf|_=>simp[eC]at hf
 |co a r iha ihr=>
  intro ln t hf;cases ln with
  |false=>simp[eC]at hf
  |true=>
   cases t with
   |pr t u=>simp only[eC,ai]at hf;simp[xT,bE,iha _ _ hf.1,ihr _ _ hf.2]
   |_=>cases r with|ni=>have hf':eC a false _=true:=hf;simp[xT,iha _ _ hf']|_=>simp[eC]at hf
 |x u v=>intro ln t hf;cases ln with|false=>simp only[eC,decide_eq_true_eq]at hf;subst hf;rfl|true=>cases t<;>simp[eC]at hf
 |nl k=>intro ln t hf;cases ln<;>cases t<;>first|rfl|(simp[eC]at hf;done)|skip
 |_=>intro ln t hf;cases ln<;>cases t<;>first|rfl|(simp[eC]at hf;done)
section
variable{h:H2}
theorem pG{v:V}{u:Ty}{y:El u}{cs:List C}(hc:ii u v=some y)(hv:fz h v cs):cs=(aT u y).map .d:=by
 cases v with
 |x t v=>obtain⟨rfl,rfl⟩:=du hc;exact hv.2
 |kb c=>obtain⟨rfl,rfl⟩:=du (t:=.b) hc;exact hv
 |nl k=>
  cases k with
  |zero=>
   cases u<;>simp only[ii]at hc<;>first|cases hc;done|skip
   obtain rfl:=aa hc;exact hv
  |succ k=>simp[ii]at hc
 |fl l=>
  obtain⟨h1,rfl⟩:=hv;simp only[ii]at hc;cases ha:nq u
  .rw [ha]at hc;simp at hc
  rw[ha,cond_true]at hc;split at hc
  .rename_i x hx;obtain rfl:=aa hc;obtain⟨p,rfl,e⟩:=Jr u _ _ _ hx h1;rw[e];simp[fy]
  .simp at hc
 |_=>simp[ii]at hc
theorem jF:∀(v:V)(ln:Bool)(u:Ty)(y:El u)(cs:List C),kP v ln u=some y->fz h v cs->cs=(aT u y).map .d:=by
 intro v;induction v with
 |rc l ih=>
  intro ln u y cs hc hv;cases ln with
  |true=>cases u<;>simp[kP]at hc
  |false=>cases u with|st u=>exact ih true u y cs hc hv|_=>simp[kP,ii]at hc
 |co a r iha ihr=>
  intro ln u y cs hc hv;obtain⟨x1,x2,rfl,h1,h2⟩:=hv;cases ln with
  |false=>cases u<;>simp[kP,ii]at hc
  |true=>
   cases u with
   |pr t u=>
    simp only[kP]at hc;split at hc
    .rename_i p q hp hq;obtain rfl:=aa hc;rw[iha _ _ _ _ hp h1,ihr _ _ _ _ hq h2];simp[aT]
    .simp at hc
   |_=>cases r with|ni=>have hc':kP a false _=some y:=hc;obtain rfl:x2=[]:=h2;rw[bB];exact iha _ _ _ _ hc' h1|_=>simp[kP]at hc
 |_=>
  intro ln u y cs hc hv;cases ln with
  |true=>cases u<;>simp[kP]at hc
  |false=>first|exact pG hc hv|(simp[kP]at hc)
theorem Ek{v:V}{u:Ty}{y:El u}(hc:ii u v=some y):sW v=nq u:=by
 cases v with
 |x t v=>obtain⟨rfl,_⟩:=du hc;rfl
 |kb c=>obtain⟨rfl,_⟩:=du (t:=.b) hc;rfl
 |nl k=>
  cases k with
  |zero=>cases u<;>simp only[ii]at hc<;>first|rfl|cases hc
  |succ k=>simp[ii]at hc
 |fl l=>
  simp only[ii]at hc;cases ha:nq u
  .rw [ha]at hc;simp at hc
  .rfl
 |_=>simp[ii]at hc
theorem wA{v:V}{u:Ty}{y:El u}(hc:tL u v=some y):sW v=nq u:=by
 cases v with
 |rc l=>cases u with|st u=>rfl|_=>simp[tL,kP,ii]at hc
 |co a r=>cases u<;>simp[tL,kP,ii]at hc
 |ni=>cases u<;>simp[tL,kP]at hc
 |_=>exact Ek hc
theorem AH:∀(l:V)(t:Ty)(i:Nat)(w:V)(cs:List C),eC l true t=true->fz h l cs->rU l i=some w->
  ∃u cw,Cr t i=some u/\eC w false u=true/\fz h w cw/\oU t i+bE u<=cs.length/\(cs.drop (oU t i)).take (bE u)=cw:=by
 intro l;induction l with
 |co a r iha ihr=>
  intro t i w cs hf hv hw;obtain⟨x,y,rfl,h1,h2⟩:=hv;have one:∀t,eC a false t=true->r=.ni->Cr t 0=some t->oU t 0=0->i=0->∃u cw,Cr t i=some u/\eC w false u=true/\fz h w cw/\oU t i+bE u<=(x++y).length/\((x++y).drop (oU t i)).take (bE u)=cw:=by intro t hf hr h3 h4 hi;subst hi;obtain rfl:=aa hw;have hs:=gT _ _ _ hf;have hl:=iz h1;refine⟨t,x,h3,hf,h1,by rw[h4];simp;omega,?_⟩;rw[h4,cS,<-hs,<-hl,List.take_left]
  cases t with
  |pr t u=>simp only[eC,ai]at hf;have hs:=gT _ _ _ hf.1;have hl:=iz h1;cases i with|zero=>obtain rfl:=aa hw;refine⟨t,x,rfl,hf.1,h1,by simp[oU];omega,?_⟩;simp only[oU,cS];rw[<-hs,<-hl,List.take_left]|succ i=>obtain⟨u',cw,q1,q2,q3,q4,q5⟩:=ihr u i w y hf.2 h2 hw;refine⟨u',cw,q1,q2,q3,by simp only[oU,av];omega,?_⟩;simp only[oU];rw[<-dv,<-hs,<-hl,List.drop_left,q5]
  |_=>
   cases r with
   |ni=>have hf':eC a false _=true:=hf;cases i with|zero=>exact one _ hf' rfl rfl rfl rfl|succ i=>simp[rU]at hw
   |_=>simp[eC]at hf
 |_=>intro t i w cs hf hv hw;simp[rU]at hw
theorem AB:∀(l:V)(t:Ty)(i:Nat)(w:V)(cs cw:List C)(u:Ty),eC l true t=true->fz h l cs->Cr t i=some u->fz h w cw->cw.length=bE u->(∃w0,rU l i=some w0)->fz h (KA l i w) (aV cs (oU t i) cw):=by
 intro l;induction l with
 |co a r iha ihr=>
  intro t i w cs cw u hf hv hu hw hlen hn;obtain⟨x,y,rfl,h1,h2⟩:=hv;cases t with
  |pr t u'=>simp only[eC,ai]at hf;have hs:=gT _ _ _ hf.1;have hl:=iz h1;cases i with|zero=>obtain rfl:=aa hu;refine⟨cw,y,?_,hw,h2⟩;simp only[oU];rw[s_ (by omega),mA (by omega)]|succ i=>have:=ihr u' i w y cw u hf.2 h2 hu hw hlen hn;refine⟨x,_,?_,h1,this⟩;simp only[oU];rw[<-hs,<-hl,te]
  |_=>
   cases r with
   |ni=>cases i with|zero=>obtain rfl:=aa hu;have hf':eC a false _=true:=hf;have hs:=gT _ _ _ hf';have hl:=iz h1;obtain rfl:y=[]:=h2;refine⟨cw,[],?_,hw,rfl⟩;simp only[oU,bB];rw[mA (by omega)]|succ i=>obtain⟨w0,hn⟩:=hn;simp[rU]at hn
   |_=>simp[eC]at hf
 |_=>intro t i w cs cw u hf hv hu hw hlen hn;obtain⟨w0,hn⟩:=hn;simp[rU]at hn
theorem Bt:∀(t:Ty)(v:El t),kV t=true->fz h (HX t v) ((aT t v).map .d):=by intro t;induction t with|pr a c iha ihc=>intro v hd;simp only[kV,ai]at hd;exact⟨(aT a v.1).map .d,(aT c v.2).map .d,by simp[aT],⟨hd.1,rfl⟩,ihc v.2 hd.2⟩|_=>intro v hd;exact⟨_,[],(bB _).symm,⟨hd,rfl⟩,rfl⟩
theorem Ns:∀(t:Ty)(v:El t),eC (HX t v) true t=true:=by intro t;induction t with|pr a c iha ihc=>intro v;simp[HX,eC,ihc]|_=>intro v;simp[HX,eC]
theorem Nr:∀(t:Ty)(v:El t)(i:Nat)(w:V),Aa t v i=some w->rU (HX t v) i=some w:=by
 intro t;induction t with
 |pr a c iha ihc=>intro v i w hw;cases i with|zero=>exact hw|succ i=>exact ihc v.2 i w hw
 |_=>intro v i w hw;cases i with|zero=>exact hw|succ i=>simp[Aa]at hw
theorem zh:∀(t:Ty)(i:Nat)(u:Ty),kV t=true->Cr t i=some u->kV u=true:=by
 intro t;induction t with
 |pr a c iha ihc=>intro i u hd hu;simp only[kV,ai]at hd;cases i with|zero=>obtain rfl:=aa hu;exact hd.1|succ i=>exact ihc i u hd.2 hu
 |_=>intro i u hd hu;cases i with|zero=>obtain rfl:=aa hu;exact hd|succ i=>simp[Cr]at hu
theorem v7:∀(p:pR)(t u:Ty),qT t p=some u->II t p->mM t p+bE u<=bE t:=by
 intro p;induction p with
 |nil=>
  intro t u hu _;have e2:qT t []=some t:=by cases t<;>rfl
  have e:mM t []=0:=by cases t<;>rfl
  obtain rfl:t=u:=by rw[e2]at hu;exact aa hu
  omega
 |cons q p ih=>
  intro t u hu hp;cases q with
  |fd i=>cases t with|st t=>obtain⟨a,ha,hp⟩:=hp;simp only[qT,ha]at hu;have:=ih a u hu hp;have:=QA t i a ha;simp only[mM,ha,bE];omega|_=>exact hp.elim
  |ix k=>cases t with|ar n t=>obtain⟨hk,hp⟩:=hp;have:=ih t u hu hp;have h2:(k+1)*bE t<=n*bE t:=aI _ hk;rw[bO]at h2;simp only[mM,bE];omega|_=>exact hp.elim
theorem wn:∀(p:pR)(c:V)(t:Ty)(w:V)(cs:List C),eC c false t=true->fz h c cs->II t p->pB c p=some w->
  ∃u cw,qT t p=some u/\eC w false u=true/\fz h w cw/\mM t p+bE u<=cs.length/\(cs.drop (mM t p)).take (bE u)=cw:=by
 intro p;induction p with
 |nil=>
  intro c t w cs hf hv _ hw;obtain rfl:c=w:=by simpa[pB]using hw
  have hs:=gT _ _ _ hf;have hl:=iz hv;refine⟨t,cs,by cases t<;>rfl,hf,hv,?_,?_⟩
  .cases t<;>simp[mM]<;>omega
  .have e:mM t []=0:=by cases t<;>rfl
   rw[e,cS,dm (by omega)]
 |cons q p ih=>
  intro c t w cs hf hv hp hw
  have sub:∀(o n:Nat)(c2:V)(u:Ty)(c3:List C),eC c2 false u=true->fz h c2 c3->(cs.drop o).take (bE u)=c3->o+bE u<=cs.length->II u p->pB c2 p=some w->qT t (q::p)=qT u p->mM t (q::p)=o+mM u p->
    ∃u cw,qT t (q::p)=some u/\eC w false u=true/\fz h w cw/\mM t (q::p)+bE u<=cs.length/\(cs.drop (mM t (q::p))).take (bE u)=cw:=by
   intro o n c2 u c3 hf2 hv2 h3 h4 h5 h6 h7 h8;obtain⟨u',cw,q1,q2,q3,q4,q5⟩:=ih c2 u w c3 hf2 hv2 h5 h6;have hl:=iz hv2;rw[gT _ _ _ hf2]at hl;refine⟨u',cw,h7.trans q1,q2,q3,by rw[h8];omega,?_⟩;rw[h8,<-q5,<-h3,<-dv];rw[List.drop_take,List.take_take];congr 1;omega
  cases q with
  |fd i=>
   cases t with
   |st t=>
    obtain⟨u,hu,hp⟩:=hp;have e7:qT (.st t) (.fd i::p)=qT u p:=by simp only[qT,hu]
    have e8:mM (.st t) (.fd i::p)=oU t i+mM u p:=by simp only[mM,hu]
    cases c with
    |x t' v=>
     simp only[eC,decide_eq_true_eq]at hf;subst hf;obtain⟨hd,rfl⟩:=hv;simp only[pB]at hw;split at hw
     .rename_i y hy;obtain⟨u',y',rfl,h1,h2,h3⟩:=qJ _ _ _ _ hy;obtain rfl:u=u':=by rw[hu]at h1;exact aa h1
      refine sub (oU t i) 0 (.x u y') u ((aT u y').map .d) (by simp[eC]) ⟨zh t _ _ hd hu,rfl⟩ ?_ ?_ hp hw e7 e8
      .rw [<-h3,g_,gy];rfl
      .simp [bI,bE];exact h2
     .simp at hw
    |rc l=>
     simp only[pB]at hw;split at hw
     .rename_i y hy;obtain⟨u',cw,q1,q2,q3,q4,q5⟩:=AH l t i y cs hf hv hy;obtain rfl:u=u':=by rw[hu]at q1;exact aa q1
      exact sub (oU t i) 0 y u cw q2 q3 q5 q4 hp hw e7 e8
     .simp at hw
    |_=>simp[pB]at hw
   |_=>exact hp.elim
  |ix k=>
   cases t with
   |ar n t=>
    obtain⟨hk,hp⟩:=hp;cases c with
    |x t' v=>
     simp only[eC,decide_eq_true_eq]at hf;subst hf;obtain⟨hd,rfl⟩:=hv;simp only[pB]at hw;have hk':k<v.1.length:=by rw[v.2];exact hk
     have hg:=y8 (bI t) v.1 k hk';refine sub (k*bE t) 0 (.x t (gt v.1 k)) t ((aT t (gt v.1 k)).map .d) (by simp[eC]) ⟨hd,rfl⟩ ?_ ?_ hp hw rfl rfl
     .rw [<-hg,g_,gy];rfl
     .simp only[aN,bI,bE];have:(k+1)*bE t<=n*bE t:=aI _ hk;rw[bO]at this;omega
    |_=>simp[pB]at hw
   |_=>exact hp.elim
theorem Ic:∀(t:Ty)(v:El t)(i:Nat)(w:V)(v':El t),Ie t v i w=some v'->∃u z,Cr t i=some u/\ii u w=some z/\aT t v'=aV (aT t v) (oU t i) (aT u z):=by
 intro t;induction t with
 |pr a c iha ihc=>
  intro v i w v' hs;cases i with
  |zero=>
   simp only[Ie]at hs;split at hs
   .rename_i y hy;obtain rfl:=aa hs;refine⟨a,y,rfl,hy,?_⟩;simp only[aT,oU];rw[s_ (by simp[bI]),mA (by simp[bI])]
   .simp at hs
  |succ i=>
   simp only[Ie]at hs;split at hs
   .rename_i y hy;obtain rfl:=aa hs;obtain⟨u,z,h1,h2,h3⟩:=ihc _ _ _ _ hy;refine⟨u,z,h1,h2,?_⟩;simp only[aT,oU,h3];have:=te (a:=aT a v.1) (b:=aT c v.2) (off:=oU c i) (p:=aT u z);rw[bI]at this;rw[this]
   .simp at hs
 |_=>intro v i w v' hs;cases i with|zero=>have hs':ii _ w=some v':=hs;exact⟨_,v',rfl,hs',by simp only[oU];rw[mA (by simp[bI])]⟩|succ i=>simp[Ie]at hs
theorem vR:∀(p:pR)(c:V)(t:Ty)(w c':V)(cs cw:List C)(u:Ty),eC c false t=true->fz h c cs->II t p->oB c p w=some c'->qT t p=some u->fz h w cw->cw.length=bE u->
  fz h c' (aV cs (mM t p) cw):=by
 intro p;induction p with
 |nil=>
  intro c t w c' cs cw u hf hv _ hs hu hw hlen;obtain rfl:w=c':=by simpa[oB]using hs
  have e:mM t []=0:=by cases t<;>rfl
  have e2:qT t []=some t:=by cases t<;>rfl
  obtain rfl:t=u:=by rw[e2]at hu;exact aa hu
  have:=iz hv;rw[gT _ _ _ hf]at this;rw[e,mA (by omega)];exact hw
 |cons q p ih=>
  intro c t w c' cs cw u hf hv hp hs hu hw hlen;cases q with
  |fd i=>
   cases t with
   |st t=>
    obtain⟨a,ha,hp⟩:=hp;have hu':qT a p=some u:=by simpa only[qT,ha]using hu
    have e8:mM (.st t) (.fd i::p)=oU t i+mM a p:=by simp only[mM,ha]
    cases c with
    |x t' v=>
     simp only[eC,decide_eq_true_eq]at hf;subst hf;obtain⟨hd,rfl⟩:=hv;simp only[oB]at hs;split at hs
     .rename_i y hy;split at hs
      .rename_i y1 hy1;obtain⟨a',z,rfl,h1,h2,h3⟩:=qJ _ _ _ _ hy;obtain rfl:a=a':=by rw[ha]at h1;exact aa h1
       have hz:fz h (.x a z) ((aT a z).map .d):=⟨zh t _ _ hd ha,rfl⟩
       have h4:=ih (.x a z) a w y1 ((aT a z).map .d) cw u (by simp[eC]) hz hp hy1 hu' hw hlen;have hle:mM a p+cw.length<=bE a:=by have:=v7 p a u hu' hp;omega
       have h5:((aT (.st t) v).map C.d|>.drop (oU t i)).take (bE a)=(aT a z).map .d:=by rw[<-h3,g_,gy];rfl
       have h6:aV ((aT (.st t) v).map C.d) (oU t i+mM a p) cw=aV ((aT (.st t) v).map C.d) (oU t i) (aV ((aT a z).map .d) (mM a p) cw):=(qf h5 (by simp[bI,bE];exact h2) hle).symm;rw[e8,h6];split at hs
       .rename_i v' hv';obtain rfl:=aa hs;obtain⟨a2,z2,k1,k2,k3⟩:=Ic _ _ _ _ _ hv';obtain rfl:a=a2:=by rw[ha]at k1;exact aa k1
        refine⟨hd,?_⟩;have:=pG k2 h4;rw[this];show _=(aT t v').map C.d;rw[k3,ul];rfl
       .obtain rfl:=aa hs;refine AB (HX t v) t i y1 _ _ a (Ns t v) (Bt t v hd) ha h4 ?_ ⟨_,Nr t v i _ hy⟩;rw[um (by simp[bI];exact hle)];simp[bI]
      .simp at hs
     .simp at hs
    |rc l=>
     simp only[oB]at hs;split at hs
     .rename_i y hy;split at hs
      .rename_i y1 hy1;obtain rfl:=aa hs;obtain⟨a',cw2,q1,q2,q3,q4,q5⟩:=AH l t i y cs hf hv hy;obtain rfl:a=a':=by rw[ha]at q1;exact aa q1
       have h4:=ih y a w y1 cw2 cw u q2 q3 hp hy1 hu' hw hlen;have hl:=iz q3;rw[gT _ _ _ q2]at hl;have hle:mM a p+cw.length<=bE a:=by have:=v7 p a u hu' hp;omega
       rw[e8,<-qf q5 q4 hle];exact AB l t i y1 cs _ a hf hv ha h4 (by rw[um (by omega),hl]) ⟨_,hy⟩
      .simp at hs
     .simp at hs
    |_=>simp[oB]at hs
   |_=>exact hp.elim
  |ix k=>
   cases t with
   |ar n t=>
    obtain⟨hk,hp⟩:=hp;have hu':qT t p=some u:=hu;cases c with
    |x t' v=>
     simp only[eC,decide_eq_true_eq]at hf;subst hf;obtain⟨hd,rfl⟩:=hv;simp only[oB]at hs;split at hs
     .rename_i y1 hy1;split at hs
      .rename_i z hz;obtain rfl:=aa hs;have hk':k<v.1.length:=by rw[v.2];exact hk
       have hg:=y8 (bI t) v.1 k hk';have h4:=ih (.x t (gt v.1 k)) t w y1 ((aT t (gt v.1 k)).map .d) cw u (by simp[eC]) ⟨hd,rfl⟩ hp hy1 hu' hw hlen;have h7:=pG hz h4;have hle:mM t p+cw.length<=bE t:=by have:=v7 p t u hu' hp;omega
       have h5:((aT (.ar n t) v).map C.d|>.drop (k*bE t)).take (bE t)=(aT t (gt v.1 k)).map .d:=by rw[<-hg,g_,gy];rfl
       have h8:k*bE t+bE t<=((aT (.ar n t) v).map C.d).length:=by simp only[aN,bI,bE];have:(k+1)*bE t<=n*bE t:=aI _ hk;rw[bO]at this;omega
       refine⟨hd,?_⟩;show aV _ (k*bE t+mM t p) cw=_;rw[<-qf h5 h8 hle,h7,<-ul];show _=((v.1.set k z).flatMap (aT t)).map C.d;rw[L8 (bI t) v.1 k z hk'];rfl
      .simp at hs
     .simp at hs
    |_=>simp[oB]at hs
   |_=>exact hp.elim
theorem xz{n:Nat}:∀(l:V)(i:Nat)(w:V),fw n h l->rU l i=some w->fw n h w:=by
 intro l;induction l with
 |co a r iha ihr=>intro i w hk hw;cases i with|zero=>obtain rfl:=aa hw;exact hk.1|succ i=>exact ihr i w hk.2 hw
 |_=>intro i w hk hw;simp[rU]at hw
theorem G1{n:Nat}:∀(l:V)(i:Nat)(w:V),fw n h l->fw n h w->fw n h (KA l i w):=by
 intro l;induction l with
 |co a r iha ihr=>intro i w hk hw;cases i with|zero=>exact⟨hw,hk.2⟩|succ i=>exact⟨hk.1,ihr i w hk.2 hw⟩
 |_=>intro i w hk hw;exact hk
theorem Hr{n:Nat}{t:Ty}{v:El t}{i:Nat}{w:V}(hw:Aa t v i=some w):fw n h w:=by obtain⟨u,y,rfl,_⟩:=qJ _ _ _ _ hw;trivial
theorem ES{n:Nat}:∀(t:Ty)(v:El t),fw n h (HX t v):=by intro t;induction t with|pr a c iha ihc=>intro v;exact⟨trivial,ihc v.2⟩|_=>intro v;exact⟨trivial,trivial⟩
theorem BX{n:Nat}:∀(p:pR)(c w:V),fw n h c->pB c p=some w->fw n h w:=by
 intro p;induction p with
 |nil=>intro c w hk hw;obtain rfl:c=w:=by simpa[pB]using hw
       exact hk
 |cons q p ih=>
  intro c w hk hw;cases q with
  |fd i=>
   cases c with
   |x t v=>
    cases t with
    |st t=>
     simp only[pB]at hw;split at hw
     .rename_i y hy;exact ih y w (Hr hy) hw
     .simp at hw
    |_=>simp[pB]at hw
   |rc l=>
    simp only[pB]at hw;split at hw
    .rename_i y hy;exact ih y w (xz l _ _ hk hy) hw
    .simp at hw
   |_=>simp[pB]at hw
  |ix k=>
   cases c with
   |x t v=>cases t with|ar m t=>exact ih (.x t (gt v.1 k)) w trivial hw|_=>simp[pB]at hw
   |_=>simp[pB]at hw
theorem GW{n:Nat}:∀(p:pR)(c w c':V),fw n h c->fw n h w->oB c p w=some c'->fw n h c':=by
 intro p;induction p with
 |nil=>intro c w c' _ hw hs;obtain rfl:w=c':=by simpa[oB]using hs
       exact hw
 |cons q p ih=>
  intro c w c' hk hw hs;cases q with
  |fd i=>
   cases c with
   |x t v=>
    cases t with
    |st t=>
     simp only[oB]at hs;split at hs
     .rename_i y hy;split at hs
      .rename_i y1 hy1;split at hs
       .obtain rfl:=aa hs;trivial
       .obtain rfl:=aa hs;exact G1 _ _ _ (ES t v) (ih y w y1 (Hr hy) hw hy1)
      .simp at hs
     .simp at hs
    |_=>simp[oB]at hs
   |rc l=>
    simp only[oB]at hs;split at hs
    .rename_i y hy;split at hs
     .rename_i y1 hy1;obtain rfl:=aa hs;exact G1 l _ _ hk (ih y w y1 (xz l _ _ hk hy) hw hy1)
     .simp at hs
    .simp at hs
   |_=>simp[oB]at hs
  |ix k=>
   cases c with
   |x t v=>
    cases t with
    |ar m t=>
     simp only[oB]at hs;split at hs
     .split at hs
      .obtain rfl:=aa hs;trivial
      .simp at hs
     .simp at hs
    |_=>simp[oB]at hs
   |_=>simp[oB]at hs
end
section
variable{h:H2}{n:Nat}{h1:bH}
theorem ed{v:V}{c:C}(ha:sW v=false)(hc:fz h v [c]):sn h v (.c c):=⟨[c],hc,fun e=>(by rw[ha]at e;cases e),fun _=>⟨c,rfl,rfl⟩⟩
theorem xP{v:V}{cs:List C}(ha:sW v=true)(hc:fz h v cs):sn h v (.agg cs):=⟨cs,hc,fun _=>rfl,fun e=>(by rw[ha]at e;cases e)⟩
theorem jp{v:V}{x:TV}(hx:sn h v x)(ha:sW v=false):∃c,x=.c c/\fz h v [c]:=by obtain⟨cs,h1,_,h2⟩:=hx;obtain⟨c,rfl,rfl⟩:=h2 ha;exact⟨c,rfl,h1⟩
theorem qx{v:V}{x:TV}(hx:sn h v x):∃cs,fz h v cs/\cellsOf x=some cs:=by obtain⟨cs,h1,h2,h3⟩:=hx;refine⟨cs,h1,?_⟩;cases ha:sW v with|true=>rw[h2 ha];rfl|false=>obtain⟨c,rfl,rfl⟩:=h3 ha;rfl
theorem ku{k:IntKind}{a:Int}{x:TV}(hx:gG h (.x (.i k) a) x):x=tI k a:=by obtain⟨c,rfl,_,hc⟩:=jp (v:=.x (.i k) a) hx rfl;obtain rfl:=(ct hc).1;rfl
theorem GS{a:Bool}{x:TV}(hx:gG h (.x .b a) x):x=tB a:=by obtain⟨c,rfl,_,hc⟩:=jp (v:=.x .b a) hx rfl;obtain rfl:=(ct hc).1;rfl
theorem wO{a:ByteArray}{x:TV}(hx:gG h (.x .s a) x):x=.c (.d (dS a)):=by obtain⟨c,rfl,_,hc⟩:=jp (v:=.x .s a) hx rfl;obtain rfl:=(ct hc).1;rfl
theorem xN{t:Ty}{s:Sl (El t)}{x:TV}(hx:gG h (.x (.sl t) s) x):x=.c (.d (By (bE t) (aT t) s)):=by obtain⟨c,rfl,_,hc⟩:=jp (v:=.x (.sl t) s) hx rfl;obtain rfl:=(ct hc).1;rfl
theorem vM{a:Bool}{x:TV}(hx:gG h (.kb a) x):x=tB a:=by obtain⟨c,rfl,hc⟩:=jp (v:=.kb a) hx rfl;obtain rfl:=(ct hc).1;rfl
theorem vL{k:Nat}{x:TV}(hx:gG h (.nl k) x):x=.c (Dt k):=by obtain⟨c,rfl,hc⟩:=jp (v:=.nl k) hx rfl;obtain rfl:=(ct hc).1;rfl
theorem xO{t:Ty}{a:El t}{x:TV}(hx:gG h (.pt t a) x):kV t=true/\x=.c (.d (.pt (aT t a))):=by obtain⟨c,rfl,hd,hc⟩:=jp (v:=.pt t a) hx rfl;obtain rfl:=(ct hc).1;exact⟨hd,rfl⟩
theorem vK{id:Nat}{t:Ty}{p:pR}{x:TV}(hx:gG h (.op id t p) x):x=.c (.op id (mM t p)):=by obtain⟨c,rfl,hc⟩:=jp (v:=.op id t p) hx rfl;obtain rfl:=(ct hc).1;rfl
theorem sj{id m:Nat}{t:Ty}{p:pR}{x:TV}(hx:gG h (.ep id m t p) x):x=.c (.ep id m (mM t p)):=by obtain⟨c,rfl,hc⟩:=jp (v:=.ep id m t p) hx rfl;obtain rfl:=(ct hc).1;rfl
theorem EO{id:Nat}{x:TV}(hx:gG h (.om id) x):x=.c (.om id):=by obtain⟨c,rfl,hc⟩:=jp (v:=.om id) hx rfl;obtain rfl:=(ct hc).1;rfl
theorem si{id:Nat}{c:C}{x:TV}(hx:gG h (.so id) x)(hc:Au id (fO h id)=some c):x=.c c:=by obtain⟨c',rfl,c2,h2,h3⟩:=jp (v:=.so id) hx rfl;obtain rfl:=(ct h2).1;rw[h3.1 c hc]
theorem J8{id:Nat}{c:C}{x:TV}(hx:gG h (.sr id) x)(hc:EZ id (fO h id)=some c):x=.c c:=by obtain⟨c',rfl,c2,h2,h3⟩:=jp (v:=.sr id) hx rfl;obtain rfl:=(ct h2).1;rw[h3.1 c hc]
theorem ss{id:Nat}{t:Ty}{s:Sl (Sl (El t))}{ln:Option (Nat×Nat)}(ho:fO h id=some (.rw t s ln)):EZ id (fO h id)=some (mQ 1 (aT (.sl t)) id s):=by rw[ho];rfl
theorem qd{id ver lo:Nat}{t:Ty}{r:Sl (El t)}{x:TV}(hx:gG h (.sb id ver lo t r) x)(ha:iB h (.sb id ver lo t r)=true):x=.c (zO id lo t r):=by obtain⟨c',rfl,c2,h2,h3⟩:=jp (v:=.sb id ver lo t r) hx rfl;obtain rfl:=(ct h2).1;rw[h3.1 (Bool.and_eq_true_iff.1 ha).2]
theorem EP{z:Bool}{f:Nat}{l:V}{x:TV}(hx:gG h (.fn z f l) x):(z=true/\∃ds,qt l=some ds/\x=.c (.d (.fn f ds)))\/(z=false/\∃cs,fz h l cs/\x=.c (.oR f cs)):=by obtain⟨c',rfl,hc⟩:=jp (v:=.fn z f l) hx rfl;cases z with|true=>obtain⟨ds,h2,h3⟩:=hc;exact .inl ⟨rfl,ds,h2,by rw[(ct h3).1]⟩|false=>obtain⟨ds,h2,h3⟩:=hc;exact .inr ⟨rfl,ds,h2,by rw[(ct h3).1]⟩
theorem PR{l:V}{x:TV}(hx:gG h (.tp l) x):∃xs,x=.iQ xs/\Bq h l xs:=hx
def NT:V->Prop
 |.tp _|.no|.gn=>False
 |_=>True
theorem oP{v:V}{x:TV}(hv:NT v)(hx:gG h v x):sn h v x:=by cases v<;>first|exact hx|exact hv.elim
theorem cz{v:V}{x:TV}(hx:sn h v x):gG h v x:=by cases v<;>first|exact hx|(obtain⟨cs,hc,_⟩:=hx;exact hc.elim)
theorem Pr{v:V}{u:Ty}{y:El u}(hc:tL u v=some y):NT v:=by cases v<;>first|trivial|(simp[tL,kP,ii]at hc)
theorem vu{v:V}{u:Ty}{y:El u}{x:TV}(hx:gG h v x)(hc:tL u v=some y):(nq u=true->x=.agg ((aT u y).map .d))/\(nq u=false->∃d,aT u y=[d]/\x=.c (.d d)):=by
 obtain⟨cs,h2,h3,h4⟩:=oP (Pr hc) hx;have h5:=jF v false u y cs hc h2;have ha:=wA hc;constructor
 .intro hu;rw[h3 (ha.trans hu),h5]
 .intro hu;obtain⟨c,rfl,rfl⟩:=h4 (ha.trans hu);cases he:aT u y with
  |nil=>rw[he]at h5;simp at h5
  |cons d ds=>
   rw[he]at h5;simp only[List.map_cons,List.cons.injEq]at h5;obtain⟨rfl,h6⟩:=h5;have:ds=[]:=by simpa using h6.symm
   subst this;exact⟨d,rfl,rfl⟩
theorem Pq{v:V}{x:TV}{a:Bool}(hx:gG h v x)(hc:tL .b v=some a):x=tB a:=by obtain⟨d,h1,rfl⟩:=(vu hx hc).2 rfl;obtain rfl:=(ct h1).1;rfl
def mI(h:H2):List V->List TV->Prop
 |[],[]=>True
 |v::vs,x::xs=>gG h v x/\mI h vs xs
 |_,_=>False
theorem lR{xs:List TV}(hx:mI h [] xs):xs=[]:=by cases xs<;>first|rfl|exact hx.elim
theorem gS{v:V}{vs:List V}{xs:List TV}(hx:mI h (v::vs) xs):∃x ys,xs=x::ys/\gG h v x/\mI h vs ys:=by cases xs with|nil=>exact hx.elim|cons x ys=>exact⟨x,ys,rfl,hx.1,hx.2⟩
theorem iP{v:V}{xs:List TV}(hx:mI h [v] xs):∃x,xs=[x]/\gG h v x:=by obtain⟨x,ys,rfl,h1,h2⟩:=gS hx;obtain rfl:=lR h2;exact⟨x,rfl,h1⟩
theorem jh{v w:V}{xs:List TV}(hx:mI h [v,w] xs):∃x y,xs=[x,y]/\gG h v x/\gG h w y:=by obtain⟨x,ys,rfl,h1,h2⟩:=gS hx;obtain⟨y,rfl,h3⟩:=iP h2;exact⟨x,y,rfl,h1,h3⟩
theorem PQ{v w z:V}{xs:List TV}(hx:mI h [v,w,z] xs):∃x y u,xs=[x,y,u]/\gG h v x/\gG h w y/\gG h z u:=by obtain⟨x,ys,rfl,h1,h2⟩:=gS hx;obtain⟨y,u,rfl,h3⟩:=jh h2;exact⟨x,y,u,rfl,h1,h3⟩
theorem J7:∀{vs:List V}{xs:List TV},mI h vs xs->(∀v∈vs,NT v/\sW v=false)->∃cs,fz h (dj vs) cs/\xs=cs.map TV.c:=by intro vs;induction vs with|nil=>intro xs hx _;obtain rfl:=lR hx;exact⟨[],rfl,rfl⟩|cons v vs ih=>intro xs hx hv;obtain⟨x,ys,rfl,h1,h2⟩:=gS hx;obtain⟨hp,ha⟩:=hv v (by simp);obtain⟨c,rfl,h3⟩:=jp (oP hp h1) ha;obtain⟨cs,h4,rfl⟩:=ih h2 fun w hw=>hv w (by simp[hw]);exact⟨c::cs,⟨[c],cs,rfl,h3,h4⟩,rfl⟩
theorem vQ{id:Nat}{q:(t:Ty)×Sl (El t)×List Nat}(hs:tZ h (.so id)=some q):∃ver,(fO h id=some (.ar q.1 q.2.1 ver)\/fO h id=some (.im q.1 q.2.1 ver))/\q.2.2=[id]:=by
 simp only[tZ]at hs;split at hs
 .rename_i t s v ho;obtain rfl:=aa hs;exact⟨v,.inl ho,rfl⟩
 .rename_i t s v ho;obtain rfl:=aa hs;exact⟨v,.inr ho,rfl⟩
 .simp at hs
theorem mO{id ver:Nat}{t:Ty}{s:Sl (El t)}(ho:fO h id=some (.ar t s ver)\/fO h id=some (.im t s ver)):Au id (fO h id)=some (mQ (bE t) (aT t) id s):=by rcases ho with ho|ho<;>rw[ho]<;>rfl
theorem Qu{id lo nx:Nat}{t:Ty}{r:Sl (El t)}{c:Call}{H:bH}:cQ c (.len false) [some (.c (zO id lo t r))] H nx=some (tI .i64 r.l.length,[],[],nx):=by cases r with|nil=>rfl|mk l=>simp[cQ,ub,zO,Sl.l,lv]
theorem Qs{v:V}{x:TV}{q:(t:Ty)×Sl (El t)×List Nat}{c:Call}{H:bH}{nx:Nat}(hx:gG h v x)(ha:iB h v=true)(hs:tZ h v=some q):
  cQ c (.len false) [some x] H nx=some (tI .i64 q.2.1.l.length,[],[],nx):=by
 cases v with
 |x t s=>cases t with|sl t=>obtain rfl:=aa hs;rw[xN hx];exact Qt|_=>simp[tZ]at hs
 |so id=>obtain⟨ver,ho,_⟩:=vQ hs;rw[si hx (mO ho)];exact Pf
 |sb id ver lo t r=>obtain rfl:=aa hs;rw[qd hx ha];exact Qu
 |_=>simp[tZ]at hs
theorem LC{id lo nx:Nat}{t:Ty}{r:Sl (El t)}{c:Call}{H:bH}{neg:Bool}:cQ c (.qN 0 neg) [some (.c (zO id lo t r))] H nx=some (tB (if neg then !r.fN else r.fN),[],[],nx):=by cases r<;>rfl
theorem Qj{v:V}{x:TV}{q:(t:Ty)×Sl (El t)×List Nat}{c:Call}{H:bH}{nx:Nat}{neg:Bool}(hx:gG h v x)(ha:iB h v=true)(hs:tZ h v=some q):
  cQ c (.qN 0 neg) [some x] H nx=some (tB (if neg then !q.2.1.fN else q.2.1.fN),[],[],nx):=by
 cases v with
 |x t s=>cases t with|sl t=>obtain rfl:=aa hs;rw[xN hx];exact Qk|_=>simp[tZ]at hs
 |so id=>obtain⟨ver,ho,_⟩:=vQ hs;rw[si hx (mO ho)];exact R8
 |sb id ver lo t r=>obtain rfl:=aa hs;rw[qd hx ha];exact LC
 |_=>simp[tZ]at hs
theorem ow{g:Bool}{m:Nat}{w:V}(hc:Gv h g m w=true):sW w=g/\xT w=m/\(g=false->m=1)/\iB h w=true:=by
 simp only[Gv,ai,beq_iff_eq,Bool.or_eq_true]at hc;obtain⟨⟨⟨h1,h2⟩,h3⟩,h4⟩:=hc;refine⟨h1,h2,fun e=>?_,h4⟩;rcases h3 with h3|h3
 .rw [e]at h3;cases h3
 .exact h3
theorem py{g:Bool}{m off:Nat}{cs cw:List C}{w:V}(hc:Gv h g m w=true)(hw:fz h w cw)(hle:off+m<=cs.length)(he:(cs.drop off).take m=cw):∃x,DL g m (cs.drop off)=some x/\gG h w x:=by
 obtain⟨ha,hs,hm,_⟩:=ow hc;cases g with
 |true=>refine⟨.agg cw,?_,cz (xP ha hw)⟩;simp only[DL,if_true];rw[if_pos (by simp;omega),he]
 |false=>obtain rfl:=hm rfl;cases hd:cs.drop off with|nil=>have:=congrArg List.length hd;simp at this;omega|cons c r=>rw[hd]at he;subst he;exact⟨.c c,rfl,cz (ed ha hw)⟩
theorem BQ{g:Bool}{m:Nat}{ds:List D}:Ph g m ds=DL g m (ds.map .d):=by
 unfold Ph DL;cases g
 .cases ds<;>simp
 .simp
theorem we{p w:V}{l:List Nat}{g:Bool}{m nx:Nat}{c:Call}{x:TV}(hr:HR n h1 h)(hl:yG h p=some (w,l))(hc:Gv h g m w=true)(hx:gG h p x)(hok:fw n h p):
  ∃y,cQ c (.load g m) [some x] h1 nx=some (y,[],l,nx)/\gG h w y/\fw n h w:=by
 cases p with
 |pt t v=>obtain⟨rfl,rfl⟩:=ad (aa hl);obtain⟨hd,rfl⟩:=xO hx;obtain⟨_,hs,_,_⟩:=ow hc;have hs':bE t=m:=hs;obtain⟨y,h2,h3⟩:=py (cs:=(aT t v).map .d) (off:=0) hc (show fz h (.x t v) ((aT t v).map .d)from⟨hd,rfl⟩) (by simp[bI];omega) (by rw[cS,dm (by simp[bI];omega)]);refine⟨y,?_,h3,trivial⟩;rw[cS,<-BQ]at h2;simp only[cQ,ic,h2]
 |op id t p=>
  obtain rfl:=vK hx;simp only[yG]at hl;split at hl
  .rename_i u cc ho;obtain⟨_,hb,hko⟩:=hr.ob id _ ho;obtain⟨cs,h2,h3,h4⟩:=hb;by_cases hu:u=t
   .subst hu;simp only[decide_true,cond_true]at hl;split at hl
    .rename_i w' hw;obtain⟨rfl,rfl⟩:=ad (aa hl);obtain⟨a,cw,q1,q2,q3,q4,q5⟩:=wn p cc u w' cs h4 h3 hok.2 hw;obtain⟨_,hs,_,_⟩:=ow hc;rw[gT _ _ _ q2]at hs;subst hs;obtain⟨y,h5,h6⟩:=py hc q3 q4 q5;refine⟨y,?_,h6,BX p cc w' hko hw⟩;simp only[cQ,ic,h2,h5]
    .simp at hl
   .simp [hu]at hl
  .rename_i u v ho;obtain⟨_,hb,hko⟩:=hr.ob id _ ho;obtain⟨hd,h2⟩:=hb;by_cases hu:u=t
   .subst hu;simp only[decide_true,cond_true]at hl;split at hl
    .rename_i w' hw;obtain⟨rfl,rfl⟩:=ad (aa hl);obtain⟨a,cw,q1,q2,q3,q4,q5⟩:=wn (h:=h) p (.x u v) u w' ((aT u v).map .d) (by simp[eC]) ⟨hd,rfl⟩ hok.2 hw;obtain⟨_,hs,_,_⟩:=ow hc;rw[gT _ _ _ q2]at hs;subst hs;obtain⟨y,h5,h6⟩:=py hc q3 q4 q5;refine⟨y,?_,h6,BX p (.x u v) w' trivial hw⟩;rw[<-gy,<-BQ]at h5;simp only[cQ,ic,h2,h5]
    .simp at hl
   .simp [hu]at hl
  .simp at hl
 |ep id k t p=>
  obtain rfl:=sj hx;obtain⟨_,hp,hk,_⟩:=hok
  have main:∀(u:Ty)(s:Sl (El u))(ver:Nat),(fO h id=some (.ar u s ver)\/fO h id=some (.im u s ver))->(bif decide (u=t)then(match pB (.x u (gt s.l k)) p with|some w=>some (w,[id])|none=>none)else none)=some (w,l)->
    ∃y,cQ c (.load g m) [some (.c (.ep id k (mM t p)))] h1 nx=some (y,[],l,nx)/\gG h w y/\fw n h w:=by
   intro u s ver ho hl;have hlt:=hk u s ver ho;by_cases hu:u=t
   .subst hu;simp only[decide_true,cond_true]at hl;split at hl
    .rename_i w' hw;obtain⟨rfl,rfl⟩:=ad (aa hl);cases s with
     |nil=>simp[Sl.l]at hlt
     |mk ls=>
     have hrow:(ls.map (aT u))[k]?=some (aT u (gt ls k)):=rt hlt;have hd:kV u=true:=by rcases ho with ho|ho<;>exact(hr.ob id _ ho).2.1.1
     obtain⟨a,cw,q1,q2,q3,q4,q5⟩:=wn (h:=h) p (.x u (gt ls k)) u w' ((aT u (gt ls k)).map .d) (by simp[eC]) ⟨hd,rfl⟩ hp hw;obtain⟨_,hs,_,_⟩:=ow hc;rw[gT _ _ _ q2]at hs;subst hs;obtain⟨y,h5,h6⟩:=py hc q3 q4 q5;refine⟨y,?_,h6,BX p (.x u (gt ls k)) w' trivial hw⟩;rw[<-gy,<-BQ]at h5;rcases ho with ho|ho
     .have h2:=(hr.ob id _ ho).2.1.2.2 ls rfl;simp only[cQ,ic,h2,hrow,h5]
     .have h2:=(hr.ob id _ ho).2.1.2.2 ls rfl;simp only[cQ,ic,h2,hrow,h5]
    .simp at hl
   .simp [hu]at hl
  simp only[yG]at hl;split at hl
  .rename_i u s ver ho;exact main u s ver (.inl ho) hl
  .rename_i u s ver ho;exact main u s ver (.inr ho) hl
  .simp at hl
 |_=>simp[yG]at hl
end
end Go.Ev
