/- Typed data by codes: the types, the values that a frame holds, its objects, and how they are laid into the abstract machine's. Conditions: none, these are definitions. -/
import Derived.Test.YthcplpfiidlinaaDoorEvY
noncomputable section
open Bool renaming and_eq_true->ai
open List renaming append_assoc->aJ,append_nil->bO,drop_append_of_le_length->dY,drop_drop->dz,drop_length->dN,drop_zero->cq,flatMap_cons->bl,length_append->aF,length_map->aQ,length_replicate->dj,map_drop->fV,map_take->gH,nil_append->bp,replicate->av,take_of_length_le->eu
open List.cons renaming inj->b_
open Nat renaming add_assoc->cR,add_mul->bQ,beq->ku,ble->iL,le_refl->au,mul_le_mul_right->aL
open Option.some renaming inj->aa
open Prod.mk renaming inj->ad
open Sigma.mk renaming inj->iY
namespace Go.Ev
inductive Ty where
 |i (k:IntKind)
 |b
 |s
 |f (k:FloatKind)
 |sl (t:Ty)
 |mp (k v:Ty)
 |un
 |pr (a c:Ty)
 |st (t:Ty)
 |ar (n:Nat) (t:Ty)
 |o (k:Nat)
 deriving Inhabited,DecidableEq
def Arr(n:Nat)(α:Type):Type:={l:List α//l.length=n}
def Arr.set{n:Nat}{α:Type}(v:Arr n α)(k:Nat)(x:α):Arr n α:=⟨v.1.set k x,by rw[List.length_set];exact v.2⟩
instance{n:Nat}{α:Type}[Inhabited α]:Inhabited (Arr n α):=⟨⟨av n default,dj⟩⟩
instance{n:Nat}{α:Type}[DecidableEq α]:DecidableEq (Arr n α):=inferInstanceAs (DecidableEq {l:List α//l.length=n})
@[reducible] def El:Ty->Type
 |.i _=>Int
 |.b=>Bool
 |.s=>ByteArray
 |.f _=>Nat
 |.sl t=>Sl (El t)
 |.mp k v=>Mp (El k) (El v)
 |.un=>Unit
 |.pr a c=>El a×El c
 |.st t=>El t
 |.ar n t=>Arr n (El t)
 |.o _=>Unit
instance FN:(t:Ty)->Inhabited (El t)
 |.i _=>⟨(0:Int)⟩
 |.b=>⟨false⟩
 |.s=>⟨(default:ByteArray)⟩
 |.f _=>⟨(0:Nat)⟩
 |.sl _=>⟨Sl.nil⟩
 |.mp _ _=>⟨Mp.none⟩
 |.un=>⟨()⟩
 |.pr a c=>⟨((FN a).default,(FN c).default)⟩
 |.st t=>FN t
 |.ar n t=>⟨⟨av n (FN t).default,dj⟩⟩
 |.o _=>⟨()⟩
def rq:(t:Ty)->El t
 |.i _=>(0:Int)
 |.b=>false
 |.s=>(ByteArray.empty)
 |.f _=>(0:Nat)
 |.sl _=>Sl.nil
 |.mp _ _=>Mp.none
 |.un=>()
 |.pr a c=>(rq a,rq c)
 |.st t=>rq t
 |.ar n t=>⟨av n (rq t),dj⟩
 |.o _=>()
def gq(t u:Ty)(v:El t):Option (El u):=if h:t=u then some (h▸v)else none
def bR:Ty->Nat
 |.un=>0
 |.pr a c=>bR a+bR c
 |.st t=>bR t
 |.ar n t=>n*bR t
 |_=>1
def kf:Ty->Bool
 |.o _|.mp _ _=>false
 |.pr a c=>kf a&&kf c
 |.st t|.ar _ t|.sl t=>kf t
 |_=>true
def mx:Ty->Bool
 |.st _|.ar _ _=>true
 |_=>false
def aS:(t:Ty)->El t->List D
 |.i k,x=>[.lit (.int k x)]
 |.b,x=>[.lit (.bool x)]
 |.s,x=>[.lit (.string x)]
 |.f k,x=>[.lit (.float k x)]
 |.sl t,x=>[u5 (bR t) (aS t) x]
 |.mp _ _,_=>[.lit .nilFunc]
 |.un,_=>[]
 |.pr a c,x=>aS a x.1++aS c x.2
 |.st t,x=>aS t x
 |.ar _ t,x=>x.1.flatMap (aS t)
 |.o _,_=>[.lit .nilFunc]
inductive Pe where
 |fd (i:Nat)
 |ix (n:Nat)
abbrev pj:=List Pe
inductive V where
 |x (t:Ty) (v:El t)
 |kb (c:Bool)
 |nl (k:Nat)
 |so (id:Nat)
 |sr (id:Nat)
 |sb (id ver lo:Nat) (t:Ty) (r:Sl (El t))
 |op (id:Nat) (t:Ty) (p:pj)
 |ep (id n:Nat) (t:Ty) (p:pj)
 |pt (t:Ty) (v:El t)
 |fn (z:Bool) (f:Nat) (caps:V)
 |om (id:Nat)
 |rc (l:V)
 |tp (l:V)
 |ni
 |co (a r:V)
 |fl (l:List Value)
 |no
 |gn
inductive O where
 |ar (t:Ty) (s:Sl (El t)) (ver:Nat)
 |im (t:Ty) (s:Sl (El t)) (ver:Nat)
 |bx (t:Ty) (c:V)
 |ib (t:Ty) (v:El t)
 |mp (k v:Ty) (m:Mp (El k) (El v))
 |rw(t:Ty) (s:Sl (Sl (El t))) (ln:Option (Nat×Nat))
abbrev H2:=List (Nat×Option O)
def fO(h:H2)(id:Nat):Option O:=(cg h id).join
def yU:(t:Ty)->El t->Nat->Option V
 |.pr a _,v,0=>some (.x a v.1)
 |.pr _ c,v,n+1=>yU c v.2 n
 |t,v,0=>some (.x t v)
 |_,_,_=>none
def Bg:Ty->Nat->Option Ty
 |.pr a _,0=>some a
 |.pr _ c,n+1=>Bg c n
 |t,0=>some t
 |_,_=>none
def nZ:Ty->Nat->Nat
 |.pr _ _,0=>0
 |.pr a c,n+1=>bR a+nZ c n
 |_,_=>0
def F9:(t:Ty)->El t->V
 |.pr a c,v=>.co (.x a v.1) (F9 c v.2)
 |t,v=>.co (.x t v) .ni
def Pv(k:IntKind):List Value->Option (Int×List Value)
 |.int k' n::r=>if k'=k then some (n,r)else none
 |_=>none
def Pw:List Value->Option (Bool×List Value)
 |.bool c::r=>some (c,r)
 |_=>none
def Pt:List Value->Option (ByteArray×List Value)
 |.string c::r=>some (c,r)
 |_=>none
def MJ(k:FloatKind):List Value->Option (Nat×List Value)
 |.float k' n::r=>if k'=k then some (n,r)else none
 |_=>none
def Pu{α:Type}:List Value->Option (Sl α×List Value)
 |.slice none 0 0::r=>some (Sl.nil,r)
 |_=>none
def LZ{α:Type}(f:List Value->Option (α×List Value)):(m:Nat)->List Value->Option (Arr m α×List Value)
 |0,l=>some (⟨[],rfl⟩,l)
 |m+1,l=>match f l with|some (x,l)=>(match LZ f m l with|some (v,l)=>some (⟨x::v.1,by rw[List.length_cons,v.2]⟩,l)|none=>none)|none=>none
def tR:(t:Ty)->List Value->Option (El t×List Value)
 |.i k=>Pv k
 |.b=>Pw
 |.s=>Pt
 |.f k=>MJ k
 |.sl _=>Pu
 |.pr a c=>fun l=>match tR a l with|some (x,l)=>(match tR c l with|some (y,l)=>some ((x,y),l)|none=>none)|none=>none
 |.st t=>tR t
 |.ar n t=>LZ (tR t) n
 |.mp _ _|.un|.o _=>fun _=>none
def gO(u:Ty):V->Option (El u)
 |.x t v=>gq t u v
 |.kb c=>gq .b u c
 |.nl 0=>(match u with|.sl _=>some Sl.nil|_=>none)
 |.fl l=>bif mx u then(match tR u l with|some (x,[])=>some x|_=>none)else none
 |_=>none
def Gg:(t:Ty)->El t->Nat->V->Option (El t)
 |.pr a _,v,0,w=>match gO a w with|some y=>some (y,v.2)|none=>none
 |.pr _ c,v,n+1,w=>match Gg c v.2 n w with|some y=>some (v.1,y)|none=>none
 |t,_,0,w=>gO t w
 |_,_,_,_=>none
def rk:V->Nat->Option V
 |.co a _,0=>some a
 |.co _ r,n+1=>rk r n
 |_,_=>none
def Iu:V->Nat->V->V
 |.co _ r,0,w=>.co w r
 |.co a r,n+1,w=>.co a (Iu r n w)
 |l,_,_=>l
def oW:V->pj->Option V
 |v,[]=>some v
 |.x (.st t) v,.fd i::p=>match yU t v i with|some w=>oW w p|none=>none
 |.x (.ar _ t) v,.ix k::p=>oW (.x t (gt v.1 k)) p
 |.rc l,.fd i::p=>match rk l i with|some w=>oW w p|none=>none
 |_,_=>none
def nD:V->pj->V->Option V
 |_,[],w=>some w
 |.x (.st t) v,.fd i::p,w=>
  match yU t v i with
  |some y=>match nD y p w with|some y'=>(match Gg t v i y' with|some v'=>some (.x (.st t) v')|none=>some (.rc (Iu (F9 t v) i y')))|none=>none
  |none=>none
 |.x (.ar n t) v,.ix k::p,w=>match nD (.x t (gt v.1 k)) p w with|some y=>(match gO t y with|some y'=>some (.x (.ar n t) (v.set k y'))|none=>none)|none=>none
 |.rc l,.fd i::p,w=>match rk l i with|some y=>(match nD y p w with|some y'=>some (.rc (Iu l i y'))|none=>none)|none=>none
 |_,_,_=>none
def qr:Ty->pj->Option Ty
 |t,[]=>some t
 |.st t,.fd i::p=>match Bg t i with|some u=>qr u p|none=>none
 |.ar _ t,.ix _::p=>qr t p
 |_,_=>none
def lX:Ty->pj->Nat
 |.st t,.fd i::p=>nZ t i+(match Bg t i with|some u=>lX u p|none=>0)
 |.ar _ t,.ix k::p=>k*bR t+lX t p
 |_,_=>0
def GM:Ty->pj->Prop
 |.st t,.fd i::p=>∃u,Bg t i=some u/\GM u p
 |.ar n t,.ix k::p=>k<n/\GM t p
 |_,[]=>True
 |_,_=>False
def Ac:Ty->V×V
 |.pr a c=>(.no,.co (Ac a).1 (Ac c).2)
 |.st t=>(bif kf t then .x (.st t) (rq t)else .rc (Ac t).2,.co (bif kf t then .x (.st t) (rq t)else .rc (Ac t).2) .ni)
 |.o k=>(.nl k,.co (.nl k) .ni)
 |.mp _ _=>(.nl 3,.co (.nl 3) .ni)
 |.sl t=>(bif kf t then .x (.sl t) Sl.nil else .nl 0,.co (bif kf t then .x (.sl t) Sl.nil else .nl 0) .ni)
 |.ar n t=>(bif kf t then .x (.ar n t) (rq (.ar n t))else .no,.co (bif kf t then .x (.ar n t) (rq (.ar n t))else .no) .ni)
 |.un=>(.x .un (),.co (.x .un ()) .ni)
 |.i k=>(.x (.i k) (0:Int),.co (.x (.i k) (0:Int)) .ni)
 |.b=>(.x .b false,.co (.x .b false) .ni)
 |.s=>(.x .s ByteArray.empty,.co (.x .s ByteArray.empty) .ni)
 |.f k=>(.x (.f k) (0:Nat),.co (.x (.f k) (0:Nat)) .ni)
abbrev Mu(t:Ty):V:=(Ac t).1
def Ce(k:Nat):C:=.d (.lit (match k with|0=>.slice none 0 0|1=>.pointer none|2=>.nilFunc|3=>.map none|_=>.nilIface))
def zi(id:Nat):Option O->Option C
 |some (.ar t s _)=>some (lC (bR t) (aS t) id s)
 |some (.im t s _)=>some (lC (bR t) (aS t) id s)
 |_=>none
def nV(t:Ty):Sl (El t)->kx
 |.nil=>.nil
 |.mk l=>.bv (l.map (aS t))
def GC{α:Type}(id:Nat):Sl α->kx
 |.nil=>.nil
 |.mk l=>.dO id l.length
def eL(t:Ty)(l:List (Sl (El t))):Option (Nat×Nat)->List kx
 |none=>l.map (nV t)
 |some (m,id)=>(l.map (nV t)).set m (GC id (gt l m))
def Df(id:Nat):Option O->Option C
 |some (.rw t s _)=>some (lC 1 (aS (.sl t)) id (s:Sl (Sl (El t))))
 |_=>none
def w_(id lo:Nat)(t:Ty):Sl (El t)->C
 |.nil=>.d (.lit (.slice none 0 0))
 |.mk l=>.eZ (bR t) id lo (l.map (aS t)).length
def pV:V->Option (List D)
 |.pt t v=>if kf t then some [.pt (aS t v)]else none
 |.ni=>some []
 |.co a r=>match pV a,pV r with|some x,some y=>some (x++y)|_,_=>none
 |_=>none
def rZ:V->Bool
 |.x t _=>mx t
 |.rc _|.fl _=>true
 |_=>false
deriving instance DecidableEq for Mp
instance yd:(t:Ty)->DecidableEq (El t)
 |.i _=>inferInstanceAs (DecidableEq Int)
 |.b=>inferInstanceAs (DecidableEq Bool)
 |.s=>inferInstanceAs (DecidableEq ByteArray)
 |.f _=>inferInstanceAs (DecidableEq Nat)
 |.sl t=>@instDecidableEqSl (El t) (yd t)
 |.mp k v=>@instDecidableEqMp (El k) (El v) (yd k) (yd v)
 |.un=>inferInstanceAs (DecidableEq Unit)
 |.pr a c=>@instDecidableEqProd (El a) (El c) (yd a) (yd c)
 |.st t=>yd t
 |.ar n t=>@instDecidableEqArr n (El t) (yd t)
 |.o _=>inferInstanceAs (DecidableEq Unit)
structure S2 where
 dm:List (Nat×V)
 heap:H2
 next:Nat
 wo:List Nat
 gh:V
structure OP where
 o:m9
 t:Ty
 fi:List Nat
def A6:V->Bool
 |.pt t _=>kf t
 |.ni=>true
 |.co a r=>A6 a&&A6 r
 |_=>false
def gW(h:H2):V->Bool
 |.x t _=>kf t
 |.pt t _=>kf t
 |.kb _|.nl _=>true
 |.op id _ _|.ep id _ _ _|.om id=>(match fO h id with|some _=>true|none=>false)
 |.so id=>(match fO h id with|some (.ar _ _ _)|some (.im _ _ _)=>true|_=>false)
 |.sr id=>(match fO h id with|some (.rw _ _ _)=>true|_=>false)
 |.sb id ver _ t _=>kf t&&(match fO h id with|some (.ar _ _ v)|some (.im _ _ v)=>v==ver|_=>false)
 |.fn true _ l=>A6 l
 |.fn false _ l=>gW h l
 |.rc l|.tp l=>gW h l
 |.fl l=>l.all fo
 |.ni=>true
 |.co a r=>gW h a&&gW h r
 |.no|.gn=>false
def PN:Value->Option V
 |.bool c=>some (.kb c)
 |.int k n=>some (.x (.i k) n)
 |.float k n=>some (.x (.f k) n)
 |.string s=>some (.x .s s)
 |.pointer none=>some (.nl 1)
 |.slice none 0 0=>some (.nl 0)
 |.nilFunc=>some (.nl 2)
 |.map none=>some (.nl 3)
 |.nilIface=>some (.nl 4)
 |.agg cs=>if cs.toList.all fo then some (.fl cs.toList)else none
 |_=>none
def LK:Nat->Option V:=fun g => if g = 0 then some (.pt (.ar 32 (.i .u8)) (⟨[0, 1, 28, 2, 29, 14, 24, 3, 30, 22, 20, 15, 25, 17, 4, 8, 31, 27, 13, 23, 21, 19, 16, 7, 26, 12, 18, 6, 11, 5, 10, 9], rfl⟩ : Arr 32 Int)) else none
def HS(e:List (Nat×V))(h:H2):Operand->Option V
 |.tmp t=>match cg e t with|some v=>bif gW h v then some v else none|none=>none
 |.const c=>PN c
 |.global g=>LK g
 |.func f=>some (.fn true f .ni)
def wU:V->Nat
 |.x t _=>bR t
 |.rc l=>wU l
 |.co a r=>wU a+wU r
 |.ni=>0
 |.fl l=>l.length
 |_=>1
def LN:V->Nat->Nat
 |.co a r,n+1=>wU a+LN r n
 |_,_=>0
def cY:List V->V
 |[]=>.ni
 |v::r=>.co v (cY r)
def zf:V->List V
 |.co a r=>a::zf r
 |_=>[]
def ko:V->Bool->(u:Ty)->Option (El u)
 |.rc l,false,.st u=>ko l true u
 |.co a r,true,.pr t u=>match ko a false t,ko r true u with|some x,some y=>some (x,y)|_,_=>none
 |.co a .ni,true,u=>ko a false u
 |.ni,_,_=>none
 |v,false,u=>gO u v
 |_,_,_=>none
abbrev sE(u:Ty)(v:V):Option (El u):=ko v false u
def ei:V->Bool->Ty->Bool
 |.x u _,false,t=>decide (u=t)
 |.rc l,false,.st t=>ei l true t
 |.co a r,true,.pr t u=>ei a false t&&ei r true u
 |.co a .ni,true,t=>ei a false t
 |.kb _,false,.b=>true
 |.nl 0,false,.sl _|.so _,false,.sl _|.sr _,false,.sl _|.sb _ _ _ _ _,false,.sl _=>true
 |.nl 3,false,.mp _ _|.om _,false,.mp _ _=>true
 |.nl _,false,.o _|.op _ _ _,false,.o _|.ep _ _ _ _,false,.o _|.pt _ _,false,.o _|.fn _ _ _,false,.o _=>true
 |_,_,_=>false
def KF(t:Ty)(v:V):Option V:=match(bif kf t then gO t v else none)with|some y=>some (.x t y)|none=>bif ei v false t then some v else none
def sJ(h:H2):V->Option ((t:Ty)×Sl (El t)×List Nat)
 |.x (.sl t) s=>some ⟨t,s,[]⟩
 |.so id=>(match fO h id with|some (.ar t s _)|some (.im t s _)=>some ⟨t,s,[id]⟩|_=>none)
 |.sb id _ _ t r=>some ⟨t,r,[id]⟩
 |_=>none
def Ig(t:Ty)(h:H2):V->Option ((t:Ty)×Sl (El t)×List Nat)
 |.nl 0=>some ⟨t,Sl.nil,[]⟩
 |v=>sJ h v
def iP(h:H2):V->Option (V×List Nat)
 |.so id=>match sJ h (.so id)with|some ⟨t,s,l⟩=>some (.x (.sl t) s,l)|none=>none
 |.sr id=>match fO h id with|some (.rw t s none)=>some (.x (.sl (.sl t)) s,[id])|_=>none
 |.sb id ver lo t r=>match sJ h (.sb id ver lo t r)with|some ⟨t,s,l⟩=>some (.x (.sl t) s,l)|none=>none
 |.rc l=>match iP h l with|some (w,l)=>some (.rc w,l)|none=>none
 |.co a r=>match iP h a,iP h r with|some (x,l),some (y,m)=>some (.co x y,l++m)|_,_=>none
 |.x t v=>some (.x t v,[])
 |.kb c=>some (.kb c,[])
 |.nl k=>some (.nl k,[])
 |.fl l=>some (.fl l,[])
 |.ni=>some (.ni,[])
 |.fn true f l=>some (.fn true f l,[])
 |.pt t v=>some (.pt t v,[])
 |_=>none
def Rb(c:Bool):V->V->Option V
 |.kb a,.kb b=>some (.x .b (bif c then a else b))
 |.x t a,w=>match sE t w with|some b=>some (.x t (bif c then a else b))|none=>none
 |w,.x t b=>match sE t w with|some a=>some (.x t (bif c then a else b))|none=>none
 |_,_=>none
def PP:Value->Value->Bool
 |.bool a,.bool b=>a==b
 |.int k a,.int k' b=>decide (k=k')&&a==b
 |.float k a,.float k' b=>decide (k=k')&&a==b
 |.string a,.string b=>decide (a=b)
 |.pointer none,.pointer none|.slice none 0 0,.slice none 0 0|.nilFunc,.nilFunc|.map none,.map none|.nilIface,.nilIface=>true
 |_,_=>false
def sI:List Value->List Value->Bool
 |[],[]=>true
 |a::r,b::s=>PP a b&&sI r s
 |_,_=>false
def mA:Ty->List Value
 |.i k=>[.int k 0]
 |.b=>[.bool false]
 |.s=>[.string ByteArray.empty]
 |.f k=>[.float k 0]
 |.sl _=>[.slice none 0 0]
 |.mp _ _=>[.map none]
 |.un=>[]
 |.pr a c=>mA a++mA c
 |.st t=>mA t
 |.ar n t=>(av n (mA t)).flatten
 |.o k=>[match k with|0=>.slice none 0 0|1=>.pointer none|2=>.nilFunc|3=>.map none|_=>.nilIface]
def Cu:Ty->Option (List Kd)
 |.i k=>some [.i k]
 |.b=>some [.b]
 |.s=>some [.s]
 |.pr a c=>match Cu a,Cu c with|some x,some y=>some (x++y)|_,_=>none
 |.st t=>Cu t
 |.ar n t=>match Cu t with|some x=>some ((av n x).flatten)|none=>none
 |_=>none
def On(z:Bool)(op:BinOp)(k k':IntKind)(a b:Int):Option V:=
 match op with
 |.shl=>bif z then some (.x (.i k) (Ot k a b))else none
 |.shr=>bif z then some (.x (.i k) (HJ k a b))else none
 |op=>bif decide (k=k')then(match op with
  |.add=>some (.x (.i k) (wr k (a+b)))
  |.sub=>some (.x (.i k) (wr k (a-b)))
  |.mul=>some (.x (.i k) (wr k (a*b)))
  |.quo=>bif z then some (.x (.i k) (wr k (a.tdiv b)))else none
  |.rem=>bif z then some (.x (.i k) (a.tmod b))else none
  |.and=>some (.x (.i k) (HK k a b))
  |.or=>some (.x (.i k) (OQ k a b))
  |.xor=>some (.x (.i k) (Oq k a b))
  |.andNot=>some (.x (.i k) (qY k a b))
  |.eql=>some (.x .b (a==b))
  |.neq=>some (.x .b (a !=b))
  |.lss=>some (.x .b (decide (a<b)))
  |.leq=>some (.x .b (decide (a<=b)))
  |.gtr=>some (.x .b (decide (a>b)))
  |.geq=>some (.x .b (decide (a>=b)))
  |_=>none)else none
def Om(op:BinOp)(x y:ByteArray):Option V:=match op with|.eql=>some (.x .b (x.toList==y.toList))|.neq=>some (.x .b (!(x.toList==y.toList)))|.lss=>some (.x .b (Op.bytesLess x.toList y.toList))|.leq=>some (.x .b (Op.bytesLess x.toList y.toList||x.toList==y.toList))|.gtr=>some (.x .b (!(Op.bytesLess x.toList y.toList||x.toList==y.toList)))|.geq=>some (.x .b (!(Op.bytesLess x.toList y.toList)))|_=>none
def Lh:List Operand->Bool
 |[_,.const (.int _ n)]=>decide (n>0)
 |_=>false
def OM(m:Bool)(k:IntKind):Int->List V->Option Int
 |x,[]=>some x
 |x,.x (.i k') y::r=>bif decide (k'=k)then OM m k (bif m then(if y>x then y else x)else(if y<x then y else x)) r else none
 |_,_=>none
def xJ(h:H2):V->Option (V×List Nat)
 |.pt t v=>some (.x t v,[])
 |.op id t p=>(match fO h id with
  |some (.bx u c)=>bif decide (u=t)then(match oW c p with|some w=>some (w,[id])|none=>none)else none
  |some (.ib u v)=>bif decide (u=t)then(match oW (.x u v) p with|some w=>some (w,[id])|none=>none)else none
  |_=>none)
 |.ep id n t p=>(match fO h id with
  |some (.ar u s _)|some (.im u s _)=>bif decide (u=t)then(match oW (.x u (gt s.l n)) p with|some w=>some (w,[id])|none=>none)else none
  |_=>none)
 |_=>none
def xC(h:H2)(kind:Nat):V->Option V
 |.nl k=>bif(k==kind)&&Nat.blt k 3 then some (.kb true)else none
 |.pt _ _|.op _ _ _|.ep _ _ _ _=>bif kind==1 then some (.kb false)else none
 |.fn _ _ _=>bif kind==2 then some (.kb false)else none
 |v=>bif kind==0 then(match sJ h v with|some ⟨_,s,_⟩=>some (.x .b s.fC)|none=>none)else none
def IR:V->V
 |.kb c=>.kb (!c)
 |.x .b c=>.x .b (!c)
 |v=>v
def ED(off n:Nat)(i:Nat):V->Option V
 |.op id t p=>(match qr t p with
  |some (.st u)=>(match Bg u i with|some w=>bif(nZ u i==off)&&(bR w==n)then some (.op id t (p++[.fd i]))else none|none=>none)
  |_=>none)
 |.ep id m t p=>(match qr t p with
  |some (.st u)=>(match Bg u i with|some w=>bif(nZ u i==off)&&(bR w==n)then some (.ep id m t (p++[.fd i]))else none|none=>none)
  |_=>none)
 |.pt (.st u) v=>(match yU u v i with|some (.x w y)=>bif(nZ u i==off)&&(bR w==n)then some (.pt w y)else none|_=>none)
 |_=>none
def EU(h:H2)(g:Bool)(n:Nat)(w:V):Bool:=(rZ w==g)&&(wU w==n)&&(g||n==1)&&gW h w
def Lz(h:H2):V->Option ((k:Ty)×(v:Ty)×Mp (El k) (El v)×List Nat)
 |.om id=>(match fO h id with|some (.mp k v m)=>some ⟨k,v,m,[id]⟩|_=>none)
 |_=>none
def wu(t:Ty):List Nat->List (Nat×Nat)->List V->V->Option V
 |[],[],[],c=>some c
 |i::is,(off,n)::ps,w::ws,c=>
  match t with
  |.st u=>(match Bg u i with
   |some a=>bif(nZ u i==off)&&(bR a==n)then(match KF a w with|some w=>(match nD c [.fd i] w with|some c=>bif ei c false t then wu t is ps ws c else none|none=>none)|none=>none)else none
   |none=>none)
  |.ar m u=>bif(i*bR u==off)&&(bR u==n)&&decide (i<m)then(match KF u w with|some w=>(match nD c [.ix i] w with|some c=>bif ei c false t then wu t is ps ws c else none|none=>none)|none=>none)else none
  |_=>none
 |_,_,_,_=>none
def L8:V->Bool
 |.tp _|.no|.gn|.ni|.co _ _=>false
 |v=>!rZ v
def M9(o:OP)(vs:List V)(h:H2):Option (V×List Nat):=
 match o.o.k,vs with
 |.mv,[v]=>some (v,[])
 |.nilCheck,[v]=>(match v with|.pt _ _|.fn _ _ _|.ep _ _ _ _|.op _ _ _=>some (v,[])|_=>none)
 |.yZ op,[.x (.i k) a,.x (.i k') b]=>(match On (Lh o.o.args) op k k' a b with|some v=>some (v,[])|none=>none)
 |.yZ op,[.x .s a,.x .s b]=>(match Om op a b with|some v=>some (v,[])|none=>none)
 |.tQ neg,[x,y]=>(match sE .b x,sE .b y with|some a,some b=>some (.x .b (bif neg then !(a==b)else a==b),[])|_,_=>none)
 |.qk kind neg,[x]=>(match xC h kind x with|some v=>some (bif neg then IR v else v,[])|none=>none)
 |.x9 neg ks,[.x t a,y]=>(match sE t y with|some b=>bif mx t&&decide (Cu t=some ks)then some (.x .b (bif neg then !(decide (a=b))else decide (a=b)),[])else none|none=>none)
 |.un .not,[.kb c]=>some (.kb (!c),[])
 |.un .not,[.x .b c]=>some (.x .b (!c),[])
 |.un .neg,[.x (.i k) n]=>some (.x (.i k) (wr k (0-n)),[])
 |.un .xor,[.x (.i k) n]=>some (.x (.i k) (Rn k n),[])
 |.uF k,[.x (.i _) n]=>some (.x (.i k) (wr k n),[])
 |.rT,[.x .s s]=>some (.x .s s,[])
 |.GS f,vs=>bif vs.all L8 then some (.fn false f (cY vs),[])else none
 |.load g n,[p]=>(match xJ h p with|some (w,l)=>bif EU h g n w then some (w,l)else none|none=>none)
 |.sS,[p]=>(match xJ h p with|some (w,l)=>bif EU h false 1 w then some (w,l)else none|none=>none)
 |.fieldAddr off n,[p]=>(match o.fi with|[i]=>(match ED off n i p with|some w=>some (w,[])|none=>none)|_=>none)
 |.field g off n,[.x (.st u) v]=>(match o.fi with|[i]=>(match yU u v i with|some w=>bif(nZ u i==off)&&EU h g n w then some (w,[])else none|none=>none)|_=>none)
 |.field g off n,[.rc l]=>(match o.fi with|[i]=>(match rk l i with|some w=>bif(LN l i==off)&&EU h g n w then some (w,[])else none|none=>none)|_=>none)
 |.extract i,[.tp l]=>(match rk l i with|some w=>some (w,[])|none=>none)
 |.len true,[.x .s s]=>some (.x (.i .i64) (s.size:Int),[])
 |.len false,[.nl 0]=>some (.x (.i .i64) (0:Int),[])
 |.len false,[.sr id]=>(match fO h id with|some (.rw _ s _)=>some (.x (.i .i64) (s.l.length:Int),[])|_=>none)
 |.len false,[v]=>(match sJ h v with|some ⟨_,s,_⟩=>some (.x (.i .i64) (s.l.length:Int),[])|none=>none)
 |.tL m,.x (.i k) x::r=>(match OM m k x r with|some y=>some (.x (.i k) y,[])|none=>none)
 |.build z ps,vs=>bif sI (mA o.t) z&&mx o.t&&ei (Mu o.t) false o.t then(match wu o.t o.fi ps vs (Mu o.t)with|some v=>some (v,[])|none=>none)else none
 |.lookup ka ks va z ok,[m,kv]=>(match Lz h m with
  |some ⟨kt,vt,mp,l⟩=>(match sE kt kv with
   |some k=>bif(mx kt==ka)&&(mx vt==va)&&decide (Cu kt=some ks)&&sI (mA vt) z&&kf vt&&(va||bR vt==1)then
     some (bif ok then .tp (.co (.x vt (nX mp (rq vt) k)) (.co (.x .b (IW mp k)) .ni))else .x vt (nX mp (rq vt) k),l)else none
   |none=>none)
  |none=>none)
 |_,_=>none
def vM{α:Type}(s:Sl α)(x r:List α):Sl α:=match x with|[]=>(match s with|.nil=>.nil|.mk _=>.mk r)|_::_=>.mk r
def GZ{α:Type}:Sl α->Sl α->Option Unit
 |.nil,.nil=>some ()
 |.mk a,.mk b=>NO a b
 |_,_=>none
def jf(s:S2)(o:O):S2:=⟨s.dm,(s.next,some o)::s.heap,s.next+1,s.next::s.wo,s.gh⟩
def dZ(s:S2)(id:Nat)(o:Option O):S2:=⟨s.dm,(id,o)::s.heap,s.next,id::s.wo,s.gh⟩
def AM(h:H2)(id:Nat):Option O:=match fO h id with|some (.ar t s v)|some (.im t s v)=>some (.im t s v)|some (.ib t v)=>some (.ib t v)|some (.bx t c)=>bif kf t&&Nat.blt (bR t) 300 then(match iP h c with|some (_,[])=>(match sE t c with|some v=>some (.ib t v)|none=>none)|_=>none)else none|_=>none
def pT(h:H2):List Nat->S2->Option S2
 |[],s=>some s
 |id::r,s=>match fO h id with|some (.rw _ _ none)=>(match pT h r s with|some s=>some (dZ s id none)|none=>none)|_=>(match AM h id,pT h r s with|some o,some s=>some (dZ s id (some o))|_,_=>none)
def Bc(t:Ty):Bool:=kf t&&Nat.blt 0 (bR t)
def xj(h:H2)(t:Ty)(len:Nat):Nat->List Nat->List V->Option (List (El t)×List Nat)
 |m,[],[]=>some (av (len-m) (rq t),[])
 |m,i::is,v::vs=>
  match iP h v with
  |some (w,a)=>(match sE t w with
   |some y=>bif iL m i&&Nat.blt i len then(match xj h t len (i+1) is vs with|some (l,b)=>some (av (i-m) (rq t)++y::l,a++b)|none=>none)else none
   |none=>none)
  |none=>none
 |_,_,_=>none
def jk:List V->Option (List Int)
 |[]=>some []
 |.x (.i _) n::r=>match jk r with|some l=>some (n::l)|none=>none
 |_=>none
def Eg(h:H2):V->Option Int
 |.nl 0=>some 0
 |v=>match sJ h v with|some ⟨_,v,_⟩=>some (v.l.length:Int)|none=>none
def L5{α:Type}(w:Sl α)(lo n:Nat)(z:α):Option (Sl α):=match w with|.nil=>none|.mk l=>some (.mk (J9 l lo n (av n z)))
def sN{β:Type}(sz:Nat)(h:H2)(x:V)(l u:Int)(k:V->Option β):Option β:=
 match x with
 |.x (.sl t) v=>bif bR t==sz then(sO v.l l u).bind fun y=>k (.x (.sl t) (v.to y))else none
 |.so id=>(match fO h id with
  |some (.ar t v ver)=>bif bR t==sz then(sO v.l l u).bind fun y=>k (.sb id ver l.toNat t (v.to y))else none
  |some (.im t v ver)=>bif bR t==sz then(sO v.l l u).bind fun y=>k (.sb id ver l.toNat t (v.to y))else none
  |_=>none)
 |.sb id ver lo t v=>bif bR t==sz then(sO v.l l u).bind fun y=>k (.sb id ver (lo+l.toNat) t (v.to y))else none
 |.nl 0=>(sO ([]:List Unit) l u).bind fun _=>k (.nl 0)
 |_=>none
def Ol{β:Type}(t:Ty)(sz len:Nat)(z:List Value)(pl:List Nat)(vs:List V)(s:S2)(k:V->S2->List Nat->Option β):Option β:=
 bif(bR t==sz)&&sI ((av len (mA t)).flatten) z&&Bc t then
  (match xj s.heap t len 0 pl vs with
  |some (l,a)=>(match pT s.heap a s with|some s'=>k (.so s.next) (jf s' (.ar t (.mk l) 0)) a|none=>none)
  |none=>none)else none
def Fd(ln:Option (Nat×Nat))(m:Nat):Bool:=match ln with|none=>true|some (m',_)=>ku m' m
def Dx{β:Type}(id m:Nat)(t:Ty)(p:pj)(w:V)(s:S2)(k:S2->List Nat->Option β):Option β:=
 match fO s.heap id with
 |some (.rw u v ln)=>(match p,w with
  |[],.so id2=>(match fO s.heap id2 with
   |some (.ar u2 r _)=>(match gq (.sl u2) (.sl u) r with
    |some r=>bif decide (t=.sl u)&&!(id2==id)&&Fd ln m then k (dZ (dZ s id2 none) id (some (.rw u (.mk (v.l.set m r)) none))) [id,id2]else none
    |none=>none)
   |_=>none)
  |_,_=>none)
 |some (.ar u l ver)=>(match iP s.heap w with
  |some (w,a)=>bif decide (u=t)then(match qr u p with
   |some q=>(match sE q w with
    |some y=>(match nD (.x u (gt l.l m)) p (.x q y)with
     |some c=>(match gO u c with
      |some y=>(match pT s.heap a s with|some s=>bif !a.contains id then k (dZ s id (some (.ar u (.mk (l.l.set m y)) (ver+1)))) (id::a)else none|none=>none)
      |none=>none)
     |none=>none)
    |none=>none)
   |none=>none)else none
  |none=>none)
 |_=>none
def part{β:Type}(o:OP)(vs:List V)(s:S2)(k:V->S2->List Nat->Option β):Option β:=
 match o.o.k,vs with
 |.yZ .quo,[.x (.i q) a,.x (.i q') b]=>bif decide (q=q')then(N9 q a b).bind fun x=>k (.x (.i q) x) s []else none
 |.yZ .rem,[.x (.i q) a,.x (.i q') b]=>bif decide (q=q')then(Nl q a b).bind fun x=>k (.x (.i q) x) s []else none
 |.yZ .shl,[.x (.i q) a,.x (.i _) b]=>(w8 q a b).bind fun x=>k (.x (.i q) x) s []
 |.yZ .shr,[.x (.i q) a,.x (.i _) b]=>(Nc q a b).bind fun x=>k (.x (.i q) x) s []
 |.yZ .add,[.x .s a,.x .s b]=>(Oh a b).bind fun x=>k (.x .s x) s []
 |.alloc z,[]=>bif sI (mA o.t) z&&ei (Mu o.t) false o.t then k (.op s.next o.t []) (jf s (.bx o.t (Mu o.t))) []else none
 |.box,[v]=>(match KF o.t v with|some w=>k (.op s.next o.t []) (jf s (.bx o.t w)) []|none=>none)
 |.buildSlice sz len z pl,vs=>Ol o.t sz len z pl vs s k
 |.store n,[.op id t p,w]=>bif(wU w==n)then(match fO s.heap id with
  |some (.bx u c)=>bif decide (u=t)then(match qr t p with
   |some a=>(match KF a w with
    |some w=>(match nD c p w with|some c=>bif ei c false t then k (.tp .ni) (dZ s id (some (.bx t c))) [id]else none|none=>none)
    |none=>none)
   |none=>none)else none
  |_=>none)else none
 |.sS,[.ep id m u []]=>(match fO s.heap id with
  |some (.rw t v none)=>bif decide (u=.sl t)then k (.so s.next) (jf (dZ s id (some (.rw t v (some (m,s.next))))) (.ar t (gt v.l m) 0)) [id]else none
  |_=>none)
 |.zD szi,[.x (.i _) l,.x (.i _) c]=>(match o.t with
  |.sl t=>bif(bR t==szi)&&Bc t then(Bf (Sl.nil:Sl (El t)) l c).bind fun r=>k (.sr s.next) (jf s (.rw t (.mk r) none)) []else none
  |_=>none)
 |.store n,[.ep id m t p,w]=>bif(wU w==n)then Dx id m t p w s (fun s l=>k (.tp .ni) s l)else none
 |.makeSlice z,[.x (.i _) l,.x (.i _) c]=>bif sI (mA o.t) z&&Bc o.t then(Bf (rq o.t) l c).bind fun r=>k (.so s.next) (jf s (.ar o.t (.mk r) 0)) []else none
 |.slice true _ lo hi,.x .s x::r=>(match lo,hi,jk r with
  |false,false,some []=>(yF x 0 x.size).bind fun y=>k (.x .s y) s []
  |true,false,some [l]=>(yF x l x.size).bind fun y=>k (.x .s y) s []
  |false,true,some [u]=>(yF x 0 u).bind fun y=>k (.x .s y) s []
  |true,true,some [l,u]=>(yF x l u).bind fun y=>k (.x .s y) s []
  |_,_,_=>none)
 |.slice false sz lo hi,x::r=>
  (match lo,hi,jk r,Eg s.heap x with
  |false,false,some [],some n=>sN sz s.heap x 0 n fun v=>k v s []
  |true,false,some [l],some n=>sN sz s.heap x l n fun v=>k v s []
  |false,true,some [u],some _=>sN sz s.heap x 0 u fun v=>k v s []
  |true,true,some [l,u],some _=>sN sz s.heap x l u fun v=>k v s []
  |_,_,_,_=>none)
 |.indexAddr none sz,[x,.x (.i _) i]=>(match x with
  |.x (.sl t) v=>bif bR t==sz then(e_ i v.l.length).bind fun m=>k (.pt t (gt v.l m)) s []else none
  |.so id=>(match sJ s.heap (.so id)with|some ⟨t,v,_⟩=>bif bR t==sz then(e_ i v.l.length).bind fun m=>k (.ep id m t []) s []else none|none=>none)
  |.sb id _ lo t v=>bif bR t==sz then(e_ i v.l.length).bind fun m=>k (.ep id (lo+m) t []) s []else none
  |.sr id=>(match fO s.heap id with|some (.rw t v _)=>bif 1==sz then(e_ i v.l.length).bind fun m=>k (.ep id m (.sl t) []) s []else none|_=>none)
  |_=>none)
 |.indexAddr (some n) sz,[x,.x (.i _) i]=>(match x with
  |.op id t p=>(match qr t p with|some (.ar n' u)=>bif(n'==n)&&(bR u==sz)then(e_ i n).bind fun m=>k (.op id t (p++[.ix m])) s []else none|_=>none)
  |.ep id q t p=>(match qr t p with|some (.ar n' u)=>bif(n'==n)&&(bR u==sz)then(e_ i n).bind fun m=>k (.ep id q t (p++[.ix m])) s []else none|_=>none)
  |.pt (.ar n' u) v=>bif(n'==n)&&(bR u==sz)then(e_ i n).bind fun m=>k (.pt u (gt v.1 m)) s []else none
  |_=>none)
 |.oU,[.x .s x,.x (.i _) i]=>(Ro x i).bind fun c=>k (.x (.i .u8) c) s []
 |.index g n sz,[.x (.ar n' u) v,.x (.i _) i]=>bif(n'==n)&&(bR u==sz)&&(mx u==g)&&kf u&&(g||sz==1)then(e_ i n).bind fun m=>k (.x u (gt v.1 m)) s []else none
 |.append sz,[a,x]=>
  (match Ig o.t s.heap x with
  |some ⟨t,m,aw⟩=>bif(bR t==sz)&&Bc t then(match a with
   |.nl 0=>(h_ ([]++m.l)).bind fun r=>k (.so s.next) (jf s (.ar t (vM Sl.nil m.l r) 0)) aw
   |.x (.sl _) v=>bif Sl.fC v then((h_ ([]++m.l)).bind fun r=>k (.so s.next) (jf s (.ar t (vM Sl.nil m.l r) 0)) aw)else none
   |.so id=>(match fO s.heap id with
    |some (.ar u v _)=>(match gq (.sl t) (.sl u) m with
     |some m=>(h_ (v.l++m.l)).bind fun r=>k (.so s.next) (jf (dZ s id none) (.ar u (vM v m.l r) 0)) (id::aw)
     |none=>none)
    |_=>none)
   |.sb id _ lo u v=>(match fO s.heap id,gq (.sl t) (.sl u) m with
    |some (.ar _ s0 _),some m=>bif iL s0.l.length (lo+(v.l.length+m.l.length))then((h_ (v.l++m.l)).bind fun r=>k (.so s.next) (jf (dZ s id none) (.ar u (vM v m.l r) 0)) (id::aw))else none
    |_,_=>none)
   |_=>none)else none
  |none=>none)
 |.copy sz,[a,x]=>
  (match Ig o.t s.heap x with
  |some ⟨t,m,aw⟩=>bif bR t==sz then(match a with
   |.nl 0=>k (.x (.i .i64) (0:Int)) s aw
   |.so id=>(match fO s.heap id with
    |some (.ar u v ver)=>(match gq (.sl t) (.sl u) m with
     |some m=>k (.x (.i .i64) ((min m.l.length v.l.length:Nat):Int)) (dZ s id (some (.ar u (v.to (J9 v.l 0 v.l.length m.l)) (ver+1)))) (id::aw)
     |none=>none)
    |_=>none)
   |.sb id ver lo _ v=>(match fO s.heap id with
    |some (.ar u w ver')=>(match gq (.sl t) (.sl u) m with
     |some m=>bif ver'==ver then k (.x (.i .i64) ((min m.l.length v.l.length:Nat):Int)) (dZ s id (some (.ar u (w.to (J9 w.l lo v.l.length m.l)) (ver+1)))) (id::aw)else none
     |none=>none)
    |_=>none)
   |_=>none)else none
  |none=>none)
 |.clear zz,[a]=>(match a with
  |.sb id ver lo _ v=>(match fO s.heap id with
   |some (.ar u w ver')=>bif(ver'==ver)&&sI (mA u) zz&&Bc u then(L5 w lo v.l.length (rq u)).bind fun w=>k (.tp .ni) (dZ s id (some (.ar u w (ver+1)))) [id]else none
   |_=>none)
  |_=>none)
 |.makeMap ka va,[]=>(match o.t with
  |.mp kt vt=>bif(mx kt==ka)&&(mx vt==va)&&kf vt&&(Cu kt).isSome then k (.om s.next) (jf s (.mp kt vt Mp.none)) []else none
  |_=>none)
 |.mapEntry ka ks va z,[.om id,kv]=>(match fO s.heap id with
  |some (.mp kt vt m)=>(match sE kt kv with
   |some q=>bif(mx kt==ka)&&(mx vt==va)&&decide (Cu kt=some ks)&&sI (mA vt) z&&kf vt&&(va||bR vt==1)then
     k (.tp (.co (.x vt (li m (rq vt) q).2.1) (.co (.x (.i .i64) (li m (rq vt) q).2.2) .ni))) (dZ s id (some (.mp kt vt (li m (rq vt) q).1))) [id]else none
   |none=>none)
  |_=>none)
 |.entryStore va n,[.om id,.x (.i _) st,w]=>(match fO s.heap id with
  |some (.mp kt vt m)=>(match sE vt w with
   |some y=>bif(mx vt==va)&&(bR vt==n)&&kf vt then(uo m st y).bind fun m=>k (.tp .ni) (dZ s id (some (.mp kt vt m))) [id]else none
   |none=>none)
  |_=>none)
 |_,_=>none
@[reducible] def pW:List Ty->Type
 |[]=>Unit
 |a::r=>Dc a r
where Dc:Ty->List Ty->Type
 |a,[]=>El a
 |a,c::r=>El a×Dc c r
def s7(u:Ty):V->Option (El u)
 |.x t v=>gq t u v
 |_=>none
def F7{α β:Type}:Option α->Option β->Option (α×β)
 |some x,some y=>some (x,y)
 |_,_=>none
def Dq:(a:Ty)->(r:List Ty)->List V->Option (pW.Dc a r)
 |a,[],l=>(match l with|[v]=>s7 a v|_=>none)
 |a,c::r,l=>(match l with|v::l=>F7 (s7 a v) (Dq c r l)|[]=>none)
def u4:(cs:List Ty)->List V->Option (pW cs)
 |[],[]=>some ()
 |a::r,l=>Dq a r l
 |_,_=>none
def KS:(a:Ty)->(r:List Ty)->pW.Dc a r->List V
 |a,[],v=>[.x a v]
 |a,c::r,v=>.x a v.1::KS c r v.2
def n_:(cs:List Ty)->pW cs->List V
 |[],_=>[]
 |a::r,v=>KS a r v
inductive Sh where
 | x (t : Ty)            -- data
 | pt (t : Ty)           -- a pointer to data
 | os (t : Ty)           -- a slice of its bv
 | rw (t : Ty)           -- a cY of am of its bv
 | mp (k v : Ty)         -- a map of its bv
 | pb (t : Ty) (c : Sh)  -- a pointer to a box of its bv
 |st (c:Sh)
 |pr (a c:Sh)
 |nl (k:Nat)
 |fn (f:Nat) (l:Sh)
 |ni
 |gn
 deriving Inhabited,DecidableEq
def L2:Sh->List Ty
 |.x t|.pt t=>[t]
 |.os t=>[.sl t]
 |.rw t=>[.sl (.sl t)]
 |.mp k v=>[.mp k v]
 |.pb _ c|.st c|.fn _ c=>L2 c
 |.pr a c=>L2 a++L2 c
 |_=>[]
def gE:List Sh->List Ty
 |[]=>[]
 |a::r=>L2 a++gE r
abbrev Wy:=List (List Sh×List Sh)
@[reducible] def uN:Wy->Type
 |[]=>Empty
 |(r,o)::w=>E4 r o w
where E4:List Sh->List Sh->Wy->Type
 |r,o,[]=>pW (gE r++gE o)
 |r,o,(r',o')::w=>pW (gE r++gE o)⊕E4 r' o' w
def M1{β:Type}(k:List Sh->List Sh->List V->Option β):(r o:List Sh)->(w:Wy)->uN.E4 r o w->Option β
 |r,o,[],z=>k r o (n_ (gE r++gE o) z)
 |r,o,(r',o')::w,z=>match z with|.inl z=>k r o (n_ (gE r++gE o) z)|.inr z=>M1 k r' o' w z
def OU{β:Type}(k:List Sh->List Sh->List V->Option β):(w:Wy)->uN w->Option β
 |[],z=>nomatch z
 |(r,o)::w,z=>M1 k r o w z
structure mo where
 ps:List (Bool×Sh)
 al:Wy
 ro:Bool
 jL:List Bool
 fn:pW (gE (ps.map (·.2)))->Option (uN al)
abbrev C9:=List (Nat×mo)
def nO(h:H2):Sh->V->Option (List V×List Nat)
 |.x t,v=>match iP h v with|some (w,l)=>(match sE t w with|some y=>some ([.x t y],l)|none=>none)|none=>none
 |.pt t,.pt u v=>match gq u t v with|some y=>some ([.x t y],[])|none=>none
 |.pt t,.op id u []=>(match fO h id with
  |some (.bx w c)=>bif decide (w=u)&&gW h c then(match iP h c with|some (c,l)=>(match sE t c with|some y=>some ([.x t y],id::l)|none=>none)|none=>none)else none
  |some (.ib w v)=>bif decide (w=u)then(match gq w t v with|some y=>some ([.x t y],[id])|none=>none)else none
  |_=>none)
 |.pt t,.ep id n u []=>(match fO h id with
  |some (.ar w s _)|some (.im w s _)=>bif decide (w=u)then(match gq w t (gt s.l n)with|some y=>some ([.x t y],[id])|none=>none)else none
  |_=>none)
 |.nl k,.nl k'=>bif k==k' then some ([],[])else none
 |.fn f c,.fn _ f' l=>bif f==f' then nO h c l else none
 |.pr a c,.co x r=>match nO h a x,nO h c r with|some (l,i),some (m,j)=>some (l++m,i++j)|_,_=>none
 |.ni,.ni=>some ([],[])
 |_,_=>none
def NF(t:Ty){u:Ty}(v:El (.sl u)):Option (List V×List Nat):=match(v:Sl (El u))with|.nil=>some ([.x (.sl t) Sl.nil],[])|.mk _=>none
def dP(h:H2):Sh->Bool->V->Option (List V×List Nat)
 |.os t,false,.so id=>(match fO h id with|some (.ar u s _)=>(match gq (.sl u) (.sl t) s with|some s=>some ([.x (.sl t) s],[id])|none=>none)|_=>none)
 |.os t,false,.nl 0=>some ([.x (.sl t) Sl.nil],[])
 |.rw t,false,.sr id=>(match fO h id with|some (.rw u s none)=>(match gq (.sl (.sl u)) (.sl (.sl t)) s with|some s=>some ([.x (.sl (.sl t)) s],[id])|none=>none)|_=>none)
 |.rw t,false,.nl 0=>some ([.x (.sl (.sl t)) Sl.nil],[])
 |.pb t c,false,.op id u []=>(match fO h id with|some (.bx w v)=>bif decide (w=u)&&decide (u=t)then(match dP h c false v with|some (l,i)=>some (l,id::i)|none=>none)else none|_=>none)
 |.nl k,false,.nl k'=>bif k==k' then some ([],[])else none
 |.x t,false,v=>match sE t v with|some y=>some ([.x t y],[])|none=>none
 |.st c,false,.rc l=>dP h c true l
 |.st c,false,.x (.st u) v=>dP h c true (F9 u v)
 |.pr a c,true,.co x r=>match(match a,x with|.os t,.x (.sl _) v=>NF t v|_,_=>dP h a false x),dP h c true r with|some (l,i),some (m,j)=>some (l++m,i++j)|_,_=>none
 |.ni,true,.ni=>some ([],[])
 |_,_,_=>none
def qs:Sh->Bool->List V->S2->Option (V×List V×S2)
 |.x t,false,.x u v::l,s=>bif decide (u=t)&&kf t then some (.x u v,l,{s with next:=s.next+bR t})else none
 |.os t,false,.x (.sl u) v::l,s=>bif decide (u=t)&&Bc t then some (.so s.next,l,jf s (.ar u v 0))else none
 |.rw t,false,.x (.sl (.sl u)) v::l,s=>bif decide (u=t)&&Bc t then some (.sr s.next,l,jf s (.rw u v none))else none
 |.pb t c,false,l,s=>
  match qs c false l {s with next:=s.next+1}with
  |some (w,l,s')=>bif ei w false t then some (.op s.next t [],l,dZ s' s.next (some (.bx t w)))else none
  |none=>none
 |.nl k,false,l,s=>some (.nl k,l,{s with next:=s.next+1})
 |.st c,false,l,s=>match qs c true l s with|some (w,l,s)=>some (.rc w,l,s)|none=>none
 |.pr a c,true,l,s=>match qs a false l s with|some (x,l,s)=>(match qs c true l s with|some (r,l,s)=>some (.co x r,l,s)|none=>none)|none=>none
 |.ni,true,l,s=>some (.ni,l,s)
 |_,_,_,_=>none
def GR:List Sh->List V->S2->Option (List V×List V×S2)
 |[],l,s=>some ([],l,s)
 |a::r,l,s=>match qs a false l s with|some (x,l,s)=>(match GR r l s with|some (xs,l,s)=>some (x::xs,l,s)|none=>none)|none=>none
def nP(h:H2):List (Bool×Sh)->List V->Option (List V×List Nat×List (V×List Nat))
 |[],[]=>some ([],[],[])
 |(b,c)::r,v::vs=>
  match nP h r vs with
  |some (m,j,q)=>
   bif b then(match dP h c false v with|some (l,i)=>some (l++m,j,(v,i)::q)|none=>none)
   else(match nO h c v with|some (l,i)=>some (l++m,i++j,q)|none=>none)
  |none=>none
 |_,_=>none
def zO(h:H2)(f:Nat)(vs:List V):C9->Option (mo×List V×List Nat×List (V×List Nat))
 |[]=>none
 |(g,sp)::r=>bif g==f then(match nP h sp.ps vs with|some (l,i,q)=>some (sp,l,i,q)|none=>zO h f vs r)else zO h f vs r
def iJ:List Nat->S2->S2
 |[],s=>s
 |id::r,s=>dZ (iJ r s) id none
def fN{β:Type}:List Sh->List (V×List Nat)->List V->S2->(S2->Option β)->Option β
 |[],[],[],s,k=>k s
 |.nl _::r,(_,[])::q,l,s,k=>fN r q l s k
 |.gn::r,(_,i)::q,l,s,k=>fN r q l (iJ i s) k
 |.os t::r,(.nl 0,[])::q,.x (.sl u) v::l,s,k=>(match gq (.sl u) (.sl t) v with|some v=>(GZ v (Sl.nil:Sl (El t))).bind fun _=>fN r q l s k|none=>none)
 |.os t::r,(.so id,_)::q,.x (.sl u) v::l,s,k=>(match fO s.heap id,gq (.sl u) (.sl t) v with
  |some (.ar w old ver),some v=>(match gq (.sl t) (.sl w) v with
   |some v=>(GZ v old).bind fun _=>fN r q l (dZ s id (some (.ar w v (ver+1)))) k
   |none=>none)
  |_,_=>none)
 |.rw t::r,(.nl 0,[])::q,.x (.sl (.sl u)) v::l,s,k=>(match gq (.sl (.sl u)) (.sl (.sl t)) v with|some v=>(GZ (v:Sl (Sl (El t))) (Sl.nil:Sl (Sl (El t)))).bind fun _=>fN r q l s k|none=>none)
 |.rw t::r,(.sr id,_)::q,.x (.sl (.sl u)) v::l,s,k=>(match fO s.heap id,gq (.sl (.sl u)) (.sl (.sl t)) v with
  |some (.rw w old _),some v=>(match gq (.sl (.sl t)) (.sl (.sl w)) v with
   |some v=>(GZ (v:Sl (Sl (El w))) old).bind fun _=>fN r q l (dZ s id (some (.rw w v none))) k
   |none=>none)
  |_,_=>none)
 |.pb t c::r,(.op id u [],i)::q,l,s,k=>(match fO s.heap id with
  |some _=>(match qs c false l s with
   |some (w,l,s)=>bif ei w false t&&decide (u=t)then fN r q l (dZ (iJ i s) id (some (.bx t w))) k else none
   |none=>none)
  |none=>none)
 |_,_,_,_,_=>none
def Nk:List V->V
 |[v]=>v
 |l=>.tp (cY l)
def xA:List Nat->Bool
 |[]=>true
 |a::r=>!r.contains a&&xA r
def uS:V->Option (List V)
 |.ni=>some []
 |.co a r=>bif(wU a==1)&&!rZ a then(match uS r with|some l=>some (a::l)|none=>none)else none
 |_=>none
def wI{β:Type}(tb:C9)(ro:Bool)(jL:List Bool)(f:V)(vs:List V)(s:S2)(k:V->S2->List Nat->Option β):Option β:=
 match f with
 |.fn _ fid caps=>
  match(match uS caps with|some cs=>zO s.heap fid (vs++cs) tb|none=>none)with
  |some (sp,pay,aw,q)=>
   bif(!ro||sp.ro)&&decide (sp.jL=jL)&&xA (q.flatMap (·.2))&&(q.flatMap (·.2)).all (fun i=>!aw.contains i)then
    match u4 (gE (sp.ps.map (·.2))) pay with
    |some p=>(sp.fn p).bind fun z=>OU (fun rs os l=>
     match(bif ro then some s else pT s.heap aw s)with
     |some s0=>fN os q (l.drop (gE rs).length) s0 fun s1=>
      (match GR rs (l.take (gE rs).length) s1 with
      |some (xs,_,s2)=>k (Nk xs) s2 (aw++q.flatMap (·.2))
      |none=>none)
     |none=>none) sp.al z
    |none=>none
   else none
  |none=>none
 |_=>none
structure Rg where
 kn:List (Nat×Bool)
 cd:List (Nat×Nat×Bool×V)
def NP(kn:List (Nat×Bool))(g:Nat):Option Bool:=cg kn g
def HT(s:S2)(q:Rg)(gc:Option (Nat×Bool)):Operand->Option V
 |.tmp t=>match cg q.cd t with|some (g,b,v)=>bif decide (gc=some (g,b))||decide (NP q.kn g=some b)then(bif gW s.heap v then some v else none)else none|none=>HS s.dm s.heap (.tmp t)
 |o=>HS s.dm s.heap o
def D2(s:S2)(q:Rg)(gc:Option (Nat×Bool)):List Operand->Option (List V)
 |[]=>some []
 |a::r=>match HT s q gc a,D2 s q gc r with|some x,some y=>some (x::y)|_,_=>none
inductive GV where
 |run
 |skip
 |OJ (g:Nat) (b:Bool) (c:Bool)
def Rh(e:List (Nat×V))(kn:List (Nat×Bool)):Option (Nat×Bool)->Option GV
 |none=>some .run
 |some (g,b)=>
  match NP kn g with
  |some c=>some (bif c==b then .run else .skip)
  |none=>(match cg e g with
   |some (.kb c)=>some (bif c==b then .run else .skip)
   |some (.x .b c)=>some (.OJ g b c)
   |some .no=>some .skip
   |_=>none)
def Iw(s:S2)(q:Rg)(gc:Option (Nat×Bool)):List Operand->Option V
 |[.tmp g,a,b]=>match NP q.kn g,cg s.dm g with|some c,_=>HT s q gc (bif c then a else b)|none,some (.kb c)=>HT s q gc (bif c then a else b)|none,some (.x .b c)=>(match HT s q (some (g,true)) a,HT s q (some (g,false)) b with|some x,some y=>Rb c x y|_,_=>none)|_,_=>none
 |[.const (.bool c),a,b]=>HT s q gc (bif c then a else b)
 |_=>none
def Em:K->Bool
 |.pick=>true
 |_=>false
def KU(o:OP)(s:S2)(q:Rg)(gc:Option (Nat×Bool)):Option (V×List Nat):=
 bif Em o.o.k then(match Iw s q gc o.o.args with|some v=>some (v,[])|none=>none)
 else(match D2 s q gc o.o.args with|some vs=>M9 o vs s.heap|none=>none)
def sL(s:S2)(d:Option Nat)(v:V):S2:=match d with|some d=>{s with dm:=(d,v)::s.dm}|none=>s
def L6(q:Rg)(d:Option Nat):Option Rg:=match d with|none=>some q|some d=>bif q.cd.any (fun e=>e.2.1==d)||q.kn.any (fun e=>e.1==d)then none else some ⟨q.kn,q.cd.filter (fun e=>!(e.1==d))⟩
abbrev HV:=List (List Nat×List Nat)
def PM{β:Type}(tb:C9)(o:OP)(s:S2)(q:Rg)(gc:Option (Nat×Bool))(k:V->S2->List Nat->Option β):Option β:=
 match KU o s q gc with
 |some (v,l)=>k v s l
 |none=>
  match D2 s q gc o.o.args with
  |some vs=>
   (match o.o.k,vs with
   |.call ro jL,f::vs=>wI tb ro jL f vs s k
   |_,vs=>part o vs s k)
  |none=>none
def KG(dr:Option Nat)(i:Nat)(s:S2):S2:=match dr with|some b=>{s with next:=b+iD*i}|none=>s
def G3(dr:Option Nat)(i:Nat)(s:S2):Bool:=match dr with|some b=>iL s.next (b+iD*(i+1))|none=>true
def OV(d:Option Nat)(r:List OP):Bool:=
 match d with
 |some d=>r.any fun o=>match o.o.guard with|some (g,_)=>ku g d|none=>false
 |none=>false
def mg{β:Type}(tb:C9)(dr:Option Nat):List OP->Nat->S2->Rg->HV->(S2->HV->Option β)->Option β
 |[],_,s,_,tr,k=>k s tr
 |o::r,i,s0,q,tr,k=>
  let s:=KG dr i s0
  let go:Rg->Option β:=fun q=>PM tb o s q o.o.guard fun v s1 l=>
   bif G3 dr i s1 then(match L6 q o.o.dst with
    |some q=>mg tb dr r (i+1) (sL s1 o.o.dst v) q (tr++[(l,s1.wo.take (s1.wo.length-s.wo.length))]) k
    |none=>none)else none
  let no:Rg->Option β:=fun q=>match L6 q o.o.dst with|some q=>mg tb dr r (i+1) (sL s o.o.dst .no) q (tr++[([],[])]) k|none=>none
  match Rh s.dm q.kn o.o.guard with
  |none=>none
  |some .run=>go q
  |some .skip=>no q
  |some (.OJ g b c)=>
   match(bif OV o.o.dst r then none else KU o s q (some (g,b)))with
   |some (v,l)=>
    (match L6 q o.o.dst,o.o.dst with
    |some q,some d=>bif ku g d then none else mg tb dr r (i+1) (sL s (some d) .gn) ⟨q.kn,(d,g,b,v)::q.cd⟩ (tr++[(l,[])]) k
    |_,_=>none)
   |none=>(match b with
    |true=>bif c then go ⟨(g,true)::q.kn,q.cd⟩else no ⟨(g,false)::q.kn,q.cd⟩
    |false=>bif c then no ⟨(g,true)::q.kn,q.cd⟩else go ⟨(g,false)::q.kn,q.cd⟩)
inductive JV where
 |x (t:Ty)
 |pt (t:Ty)
 |so (j:Nat)
 |sr (j:Nat)
 |om (j:Nat)
 |op (j:Nat) (t:Ty) (p:List Nat)
 |nl (k:Nat)
 |fn (z:Bool) (f:Nat) (l:JV)
 |rc (l:JV)
 |ni
 |co (a r:JV)
 |sm
 |gn
 deriving Inhabited
inductive JO where
 |ar (t:Ty)
 |bx (t:Ty) (c:JV)
 |mp (k v:Ty)
 |rw(t:Ty)
 deriving Inhabited
structure J where
 vs:List (Nat×JV):=[]
 gs:JV:=.sm
 os:List JO:=[]
 kl:List Nat:=[]
 deriving Inhabited
def Hv:JV->List Ty
 |.x t|.pt t=>[t]
 |.fn _ _ l|.rc l=>Hv l
 |.co a r=>Hv a++Hv r
 |_=>[]
def MM:List (Nat×JV)->List Ty
 |[]=>[]
 |(_,a)::r=>Hv a++MM r
def Rm:JO->List Ty
 |.ar t=>[.sl t]
 |.bx _ c=>Hv c
 |.mp k v=>[.mp k v]
 |.rw t=>[.sl (.sl t)]
def MN:List JO->List Ty
 |[]=>[]
 |a::r=>Rm a++MN r
def ph(j:J):List Ty:=MM j.vs++(Hv j.gs++MN j.os)
structure Bd where
 j:Nat
 id:Option Nat
def Kl:List Bd->Nat->Option Bd
 |[],_=>none
 |b::r,j=>bif b.j==j then some b else Kl r j
def uH(m:List Bd)(b:Bd):Option (List Bd):=
 match Kl m b.j with
 |none=>bif(match b.id with|some i=>m.all (fun c=>match c.id with|some i'=>!(i'==i)|none=>true)|none=>true)then some (b::m)else none
 |some c=>(match b.id,c.id with
  |some i,some i'=>bif i==i' then some m else none
  |_,_=>none)
def BT:pj->Option (List Nat)
 |[]=>some []
 |.fd i::p=>match BT p with|some l=>some (i::l)|none=>none
 |.ix _::_=>none
def dg:JV->Bool->V->List Bd->Option (List V×List Bd)
 |.x t,false,v,m=>match sE t v with|some y=>some ([.x t y],m)|none=>none
 |.pt t,false,.pt u v,m=>match gq u t v with|some y=>some ([.x t y],m)|none=>none
 |.so j,false,.so id,m=>match uH m ⟨j,some id⟩with|some m=>some ([],m)|none=>none
 |.so j,false,.nl 0,m=>match uH m ⟨j,none⟩with|some m=>some ([],m)|none=>none
 |.so j,false,.x (.sl _) v,m=>bif Sl.fC v then(match uH m ⟨j,none⟩with|some m=>some ([],m)|none=>none)else none
 |.sr j,false,.sr id,m=>match uH m ⟨j,some id⟩with|some m=>some ([],m)|none=>none
 |.om j,false,.om id,m=>match uH m ⟨j,some id⟩with|some m=>some ([],m)|none=>none
 |.op j t p,false,.op id u q,m=>bif decide (u=t)&&decide (BT q=some p)then(match uH m ⟨j,some id⟩with|some m=>some ([],m)|none=>none)else none
 |.nl k,false,.nl k',m=>bif k==k' then some ([],m)else none
 |.fn z f l,false,.fn z' f' l',m=>bif(z==z')&&(f==f')then dg l true l' m else none
 |.rc l,false,.rc l',m=>dg l true l' m
 |.rc l,false,.x (.st t) v,m=>dg l true (F9 t v) m
 |.ni,true,.ni,m=>some ([],m)
 |.co a r,true,.co x y,m=>match dg a false x m with|some (l,m)=>(match dg r true y m with|some (l',m)=>some (l++l',m)|none=>none)|none=>none
 |_,_,_,_=>none
def zX(s:S2):List (Nat×JV)->List Bd->Option (List V×List Bd)
 |[],m=>some ([],m)
 |(t,a)::r,m=>match HS s.dm s.heap (.tmp t)with|some v=>(match dg a false v m with|some (l,m)=>(match zX s r m with|some (l',m)=>some (l++l',m)|none=>none)|none=>none)|none=>none
def Kg(h:H2)(j:Nat)(o:JO)(m:List Bd):Option (List V×List Bd):=
 match Kl m j with
 |some b=>(match o,b.id with
  |.ar t,none=>bif Bc t then some ([.x (.sl t) Sl.nil],m)else none
  |.ar t,some id=>(match fO h id with|some (.ar u s _)=>(match gq (.sl u) (.sl t) s with|some s=>some ([.x (.sl t) s],m)|none=>none)|_=>none)
  |.rw t,some id=>(match fO h id with|some (.rw u s none)=>(match gq (.sl (.sl u)) (.sl (.sl t)) s with|some s=>some ([.x (.sl (.sl t)) s],m)|none=>none)|_=>none)
  |.bx t c,some id=>(match fO h id with|some (.bx u v)=>bif decide (u=t)then dg c false v m else none|_=>none)
  |.mp k v,some id=>(match fO h id with|some (.mp k' v' y)=>(match gq (.mp k' v') (.mp k v) y with|some y=>some ([.x (.mp k v) y],m)|none=>none)|_=>none)
  |_,_=>none)
 |none=>none
def zY(h:H2):List JO->Nat->List Bd->Option (List V×List Bd)
 |[],_,m=>some ([],m)
 |o::r,j,m=>match Kg h j o m with|some (l,m)=>(match zY h r (j+1) m with|some (l',m)=>some (l++l',m)|none=>none)|none=>none
def rb:V->V->Bool
 |.so i,.so j=>i==j
 |.sr i,.sr j=>i==j
 |.op i t [],.op j u []=>(i==j)&&decide (t=u)
 |.nl k,.nl l=>k==l
 |.gn,.gn=>true
 |_,_=>false
def xa:V->V->Bool
 |.ni,.ni=>true
 |.co a r,.co x y=>rb a x&&xa r y
 |_,_=>false
def pi(h:H2):JV->V->V->List Bd->Option (List V×List Bd)
 |.sm,g0,g,m=>bif xa g0 g then some ([],m)else none
 |.ni,.ni,.ni,m=>some ([],m)
 |.co a r,.co x0 y0,.co x y,m=>match a with|.sm=>bif rb x0 x then pi h r y0 y m else none|.gn=>pi h r y0 y m|a=>bif gW h x then(match dg a false x m with|some (l,m)=>(match pi h r y0 y m with|some (l',m)=>some (l++l',m)|none=>none)|none=>none)else none
 |_,_,_,_=>none
def yX:List (Nat×JV)->S2->S2
 |[],s=>s
 |(t,.so _)::r,s=>(match cg s.dm t with
  |some (.sb id ver _ u x)=>(match fO s.heap id with
   |some (.ar _ _ v)=>bif kf u&&v==ver then yX r ⟨(t,.so s.next)::s.dm,(s.next,some (.ar u x 0))::(id,none)::s.heap,s.next+1,s.next::id::s.wo,s.gh⟩else yX r s
   |_=>yX r s)
  |_=>yX r s)
 |_::r,s=>yX r s
def z0(j:J)(s0:S2)(s:S2):Option (List V):=
 match zX s j.vs []with
 |some (l1,m)=>match pi s.heap j.gs s0.gh s.gh m with
  |some (l2,m)=>(match zY s.heap j.os 0 m with
   |some (l3,m)=>bif s.wo.all (fun i=>iL s0.next i||j.kl.contains i)&&m.all (fun b=>Nat.blt b.j j.os.length&&(match b.id with|some i=>iL s0.next i||j.kl.contains i|none=>true))then some (l1++(l2++l3))else none
   |none=>none)
  |none=>none
 |none=>none
def wq(j:J)(s0:S2)(s:S2):Option (List V):=match yX j.vs s with|⟨e,h,n,w,g⟩=>z0 j s0 ⟨e,h,n,w,g⟩
def iB(b:Nat):JV->Bool->List V->V->Option (V×List V)
 |.x t,false,.x u v::l,_=>bif decide (u=t)&&kf u then some (.x u v,l)else none
 |.pt t,false,.x u v::l,_=>bif decide (u=t)&&kf u then some (.pt u v,l)else none
 |.so j,false,l,_=>some (.so (b+j),l)
 |.sr j,false,l,_=>some (.sr (b+j),l)
 |.om j,false,l,_=>some (.om (b+j),l)
 |.op j t p,false,l,_=>some (.op (b+j) t (p.map .fd),l)
 |.nl k,false,l,_=>some (.nl k,l)
 |.fn z f c,false,l,_=>match iB b c true l .ni with|some (w,l)=>some (.fn z f w,l)|none=>none
 |.rc c,false,l,_=>match iB b c true l .ni with|some (w,l)=>some (.rc w,l)|none=>none
 |.ni,true,l,_=>some (.ni,l)
 |.co a r,true,l,.co x y=>match iB b a false l x with|some (v,l)=>(match iB b r true l y with|some (w,l)=>some (.co v w,l)|none=>none)|none=>none
 |.co a r,true,l,_=>match iB b a false l .gn with|some (v,l)=>(match iB b r true l .ni with|some (w,l)=>some (.co v w,l)|none=>none)|none=>none
 |.sm,_,l,v=>some (v,l)
 |.gn,false,l,_=>some (.gn,l)
 |_,_,_,_=>none
def Fi(b:Nat):List (Nat×JV)->List V->Option (List (Nat×V)×List V)
 |[],l=>some ([],l)
 |(t,a)::r,l=>match iB b a false l .gn with|some (v,l)=>(match Fi b r l with|some (e,l)=>some ((t,v)::e,l)|none=>none)|none=>none
def DK(b:Nat):JO->List V->Option (O×List V)
 |.ar t,.x (.sl u) v::l=>bif decide (u=t)then some (.ar u v 0,l)else none
 |.rw t,.x (.sl (.sl u)) v::l=>bif decide (u=t)&&Bc t then some (.rw u v none,l)else none
 |.bx t c,l=>match iB b c false l .gn with|some (w,l)=>bif ei w false t then some (.bx t w,l)else none|none=>none
 |.mp k v,.x (.mp k' v') m::l=>bif decide (k'=k)&&decide (v'=v)then some (.mp k' v' m,l)else none
 |_,_=>none
def BG(b:Nat):List JO->Nat->List V->Option (H2×List V)
 |[],_,l=>some ([],l)
 |o::r,j,l=>match DK b o l with|some (o,l)=>(match BG b r (j+1) l with|some (h,l)=>some ((b+j,some o)::h,l)|none=>none)|none=>none
def tF(j:J)(ds:List Nat)(s0:S2)(l:List V):Option S2:=
 match Fi s0.next j.vs l with
 |some (e,l)=>(match iB s0.next j.gs true l s0.gh with
  |some (g,l)=>(match BG s0.next j.os 0 l with
   |some (h,_)=>some ⟨e++ds.map (fun t=>(t,V.gn))++s0.dm,h++j.kl.map (fun i=>(i,none))++s0.heap,s0.next+j.os.length,h.map (·.1)++j.kl++s0.wo,g⟩
   |none=>none)
  |none=>none)
 |none=>none
abbrev Ex:=List (rj×J)
@[reducible] def C_:Ex->Type
 |[]=>Empty
 |(_,j)::r=>Ky j r
where Ky:J->Ex->Type
 |j,[]=>pW (ph j)
 |j,(_,j')::r=>pW (ph j)⊕Ky j' r
def Ju(s0:S2)(o:rj)(s:S2):(o':rj)->(j:J)->(r:Ex)->Option (C_.Ky j r)
 |o',j,[]=>bif decide (o=o')then(match wq j s0 s with|some l=>u4 (ph j) l|none=>none)else none
 |o',j,(o2,j2)::r=>bif decide (o=o')then(match wq j s0 s with|some l=>(match u4 (ph j) l with|some p=>some (.inl p)|none=>none)|none=>none)
  else(match Ju s0 o s o2 j2 r with|some x=>some (.inr x)|none=>none)
def G2(s0:S2)(o:rj)(s:S2):(e:Ex)->Option (C_ e)
 |[]=>none
 |(o',j)::r=>Ju s0 o s o' j r
def Np{β:Type}(ds:List Nat)(s0:S2)(k:rj->S2->Option β):(o:rj)->(j:J)->(r:Ex)->C_.Ky j r->Option β
 |o,j,[],p=>match tF j ds s0 (n_ (ph j) p)with|some s=>k o s|none=>none
 |o,j,(o2,j2)::r,x=>match x with|.inl p=>(match tF j ds s0 (n_ (ph j) p)with|some s=>k o s|none=>none)|.inr y=>Np ds s0 k o2 j2 r y
def Iy{β:Type}(ds:List Nat)(s0:S2)(k:rj->S2->Option β):(e:Ex)->C_ e->Option β
 |[],x=>nomatch x
 |(o,j)::r,x=>Np ds s0 k o j r x
inductive C2 where
 |skip
 |Le (ops:List OP) (dr:Option (List (Nat×Nat))) (jn:Option J)
 |seq (a b:C2) (e:Ex)
 |cond (c:Operand) (a b:C2)
 |block (id:Nat) (a:C2)
 |loop (j:J) (e:Ex) (a:C2)
 |exit (id:Nat)
 |ret
 |fU
 deriving Inhabited
def lW:C2->List Nat
 |.Le ops _ _=>ops.filterMap (·.o.dst)
 |.seq a b _|.cond _ a b=>lW a++lW b
 |.block _ a|.loop _ _ a=>lW a
 |_=>[]
def Jq:K->Bool
 |.lookup _ _ _ _ _=>true
 |_=>false
def Mw(ops:List OP)(tr:HV)(i j:Nat):Bool:=
 match ops[i]?,tr[i]?with
 |some o,some ([id],[])=>Jq o.o.k&&((tr.take j).drop (i+1)).all (fun x=>!x.2.contains id)
 |_,_=>false
def N8(ops:List OP)(tr:HV)(dyn:List (Nat×Nat)):Bool:=
 dyn.all fun p=>bif iL 1000 p.2 then(match tr[p.1]?,tr[p.2-1000]?with|some a,some b=>lr a b||Mw ops tr p.1 (p.2-1000)|_,_=>true)
  else(match tr[p.1]?,tr[p.2]?with|some a,some b=>lr a b|_,_=>true)
def OA(s:S2)(id:Nat):Option S2:=
 match fO s.heap id with
 |some (.rw t v (some (m,id2)))=>(match fO s.heap id2 with
  |some (.ar u r _)=>(match gq (.sl u) (.sl t) r with
   |some r=>some (dZ (dZ s id2 none) id (some (.rw t (.mk (v.l.set m r)) none)))
   |none=>none)
  |_=>none)
 |_=>some s
def A8:List Nat->S2->Option S2
 |[],s=>some s
 |id::r,s=>match OA s id with|some s=>A8 r s|none=>none
def OB(s s':S2):Option S2:=A8 (s'.wo.take (s'.wo.length-s.wo.length)) s'
def FM{β:Type}(tb:C9)(ops:List OP)(dr:Option (List (Nat×Nat)))(s:S2)(k:S2->Option β):Option β:=match dr with|none=>mg tb none ops 0 s ⟨[],[]⟩ [] fun s' _=>(OB s s').bind k|some dyn=>mg tb (some s.next) ops 0 s ⟨[],[]⟩ [] fun s' tr=>bif N8 ops tr dyn then(OB s {s' with next:=s.next+iD*ops.length}).bind k else none
def wm{β:Type}(tb:C9):C2->S2->(rj->S2->Option β)->Option β
 |.skip,s,k=>k .normal s
 |.Le ops dr none,s,k=>FM tb ops dr s fun s=>k .normal s
 |.Le ops dr (some j),s,k=>(FM tb ops dr {s with wo:=[]} fun s'=>match wq j s s' with|some l=>u4 (ph j) l|none=>none).bind fun p=>match tF j (ops.filterMap (·.o.dst)) s (n_ (ph j) p)with|some s=>k .normal s|none=>none
 |.seq a b [],s,k=>wm tb a s fun o s=>match o with|.normal=>wm tb b s k|o=>k o s
 |.seq a b (e::r),s,k=>(wm tb a {s with wo:=[]} fun o s'=>G2 s o s' (e::r)).bind fun x=>Iy (lW a) s (fun o s=>match o with|.normal=>wm tb b s k|o=>k o s) (e::r) x
 |.cond c a b,s,k=>(match HS s.dm s.heap c with
  |some (.kb t)=>bif t then wm tb a s k else wm tb b s k
  |some (.x .b t)=>bif t then wm tb a s k else wm tb b s k
  |_=>none)
 |.block id a,s,k=>wm tb a s fun o s=>match o with|.exit i=>k (bif i==id then .normal else .exit i) s|o=>k o s
 |.loop j e a,s,k=>
  bif e.all (fun x=>j.kl.all fun i=>x.2.kl.contains i)then(match wq j s {s with wo:=[]}with
  |some l=>(match u4 (ph j) l with
   |some p0=>(br (fun p=>match tF j (lW a) s (n_ (ph j) p)with
     |some s1=>wm tb a {s1 with wo:=[]} fun o s'=>(match o with
      |.normal=>(match wq j s s' with|some l=>(match u4 (ph j) l with|some q=>some (Sum.inl q)|none=>none)|none=>none)
      |o=>(match G2 s o s' e with|some x=>some (Sum.inr x)|none=>none))
     |none=>none) p0).bind fun x=>Iy (lW a) s k e x
   |none=>none)
  |none=>none)else none
 |.exit id,s,k=>k (.exit id) s
 |.ret,s,k=>k .ret s
 |.fU,_,_=>none
def eG(P:Program):Nat->TypeId->Ty
 |0,_=>.o 9
 |n+1,t=>match P.underlying t with|some (.int k)=>.i k|some .bool=>.b|some .string=>.s|some (.float k)=>.f k|some (.slice e)=>.sl (eG P n e)|some (.map k v)=>.mp (eG P n k) (eG P n v)|some (.struct fs)=>.st (PA (fs.toList.map fun f=>eG P n f.type))|some (.array m e)=>.ar m (eG P n e)|some (.pointer _)=>.o 1|some (.func ..)=>.o 2|_=>.o 4
where PA:List Ty->Ty
 |[]=>.un
 |[t]=>t
 |t::r=>.pr t (PA r)
def Hr:Nat:=12
def N5(P:Program)(t:TypeId):Ty:=match P.underlying t with|some (.slice e)=>eG P Hr e|some (.array _ e)=>eG P Hr e|_=>.o 9
def MH(P:Program):Op->Ty×List Nat
 |.alloc e=>(eG P Hr e,[])
 |.box t _=>(eG P Hr t,[])
 |.build t parts=>(eG P Hr t,parts.toList.map (·.1))
 |.buildSlice t _ parts=>(N5 P t,parts.toList.map (·.1))
 |.fieldAddr _ _ f=>(.o 9,[f])
 |.field _ _ f=>(.o 9,[f])
 |.makeSlice t _ _=>(N5 P t,[])
 |.makeMap t _=>(eG P Hr t,[])
 |.call c=>(match c.callee,c.argTypes.toList with|.builtin _,t::_=>N5 P t|_,_=>.o 9,[])
 |_=>(.o 9,[])
def Nw(P:Program)(db:Aa)(nt:Nat)(all:Array Oper)(o:Oper):OP:=⟨f_ P db nt all o,(MH P o.op).1,(MH P o.op).2⟩
structure An where
 j:Option J:=none
 e:Ex:=[]
 deriving Inhabited
def oZ(P:Program)(db:Aa)(nt:Nat)(an:List (Nat×An)):Code->Nat->C2×Nat
 |.skip,n=>(.skip,n)
 |.region _ ops draw,n=>
  (if draw then(if xx (Kt ops.toList []) ops.toList 0&&w9 (Kt ops.toList []) (ops.toList.map (f_ P db nt ops)) 0&&decide (ops.toList.length<=1000)
   then .Le (ops.toList.map (Nw P db nt ops)) (some (rS (Kt ops.toList []) (ops.toList.map (f_ P db nt ops)) 0)) ((cg an n).bind (·.j))else .fU)
   else .Le (ops.toList.map (Nw P db nt ops)) none ((cg an n).bind (·.j)),n+1)
 |.seq a b,n=>
  let x:=oZ P db nt an a (n+1);let y:=oZ P db nt an b x.2
  (.seq x.1 y.1 (match cg an n with|some w=>w.e|none=>[]),y.2)
 |.cond c a b,n=>let x:=oZ P db nt an a n;let y:=oZ P db nt an b x.2;(.cond c x.1 y.1,y.2)
 |.block id a,n=>let x:=oZ P db nt an a n;(.block id x.1,x.2)
 |.loop a,n=>
  let x:=oZ P db nt an a (n+1)
  (match cg an n with|some ⟨some j,e⟩=>.loop j e x.1|_=>.fU,x.2)
 |.scope a,n=>oZ P db nt an a n
 |.label _,n=>(.skip,n)
 |.exit id,n=>(.exit id,n)
 |.ret,n=>(.ret,n)
 |_,n=>(.fU,n)
structure F2 where
 np:Nat
 kD:List RV
 body:C2
def zW(P:Program)(db:Aa)(f np:Nat)(an:List (Nat×An)):Option F2:=
 match P.funcs[f]?with
 |none=>none
 |some g=>
  match g.body with
  |none=>none
  |some code=>
   if(g.name== "runtime.NumGoroutine")=false/\np<=g.ntmps/\g.ntmps<1000000000 then
    match zn P g.results.toList with|some kD=>some ⟨np,kD,(oZ P db g.ntmps an code 0).1⟩|none=>none
   else none
def Bo:Sh->List V->Option (V×List V)
 |.ni,l=>some (.ni,l)
 |.pr (.pt t) c,.x u v::l=>bif decide (u=t)&&kf t then(match Bo c l with|some (w,l)=>some (.co (.pt u v) w,l)|none=>none)else none
 |_,_=>none
def rQ:List (Bool×Sh)->Nat->List V->S2->Option (List (Nat×V)×S2)
 |[],_,[],s=>some ([],s)
 |(false,.x t)::r,i,.x u v::l,s=>bif decide (u=t)&&kf t then(match rQ r (i+1) l s with|some (e,s)=>some ((i,.x u v)::e,s)|none=>none)else none
 |(false,.pt t)::r,i,.x u v::l,s=>bif decide (u=t)&&kf t then(match rQ r (i+1) l s with|some (e,s)=>some ((i,.pt u v)::e,s)|none=>none)else none
 |(false,.nl k)::r,i,l,s=>(match rQ r (i+1) l s with|some (e,s)=>some ((i,.nl k)::e,s)|none=>none)
 |(false,.fn f c)::r,i,l,s=>(match Bo c l with|some (w,l)=>(match rQ r (i+1) l s with|some (e,s)=>some ((i,.fn true f w)::e,s)|none=>none)|none=>none)
 |(true,c)::r,i,l,s=>(match qs c false l s with
  |some (w,l,s)=>(match rQ r (i+1) l s with|some (e,s)=>some ((i,w)::e,{s with gh:=.co w s.gh})|none=>none)
  |none=>none)
 |_,_,_,_=>none
def N4(ps:List (Bool×Sh))(l:List V):Option S2:=
 match rQ ps 0 l ⟨[],[],0,[],.ni⟩with
 |some (e,s)=>some {s with dm:=e}
 |none=>none
def Lb(s:S2):RV->Option V
 |.tmp t=>HS s.dm s.heap (.tmp t)
 |.cell t g n=>match HS s.dm s.heap (.tmp t)with|some p=>(match xJ s.heap p with|some (w,_)=>bif EU s.heap g n w then some w else none|none=>none)|none=>none
def Lc(h:H2):Sh->V->Option (List V×List Nat)
 |.x t,v=>match iP h v with|some (w,l)=>(match sE t w with|some y=>some ([.x t y],l)|none=>none)|none=>none
 |.os t,.sb id _ _ u r=>(match fO h id with|some (.ar _ _ _)=>(match gq (.sl u) (.sl t) r with|some s=>some ([.x (.sl t) s],[id])|none=>none)|_=>none)
 |c,v=>dP h c false v
def QA(h:H2):Sh->V->Option (List V×List Nat)
 |.gn,_=>some ([],[])
 |c,v=>bif gW h v then dP h c false v else none
def zq(h:H2):List Sh->List V->Option (List V×List Nat)
 |[],[]=>some ([],[])
 |c::r,v::vs=>match Lc h c v,zq h r vs with|some (l,i),some (m,j)=>some (l++m,i++j)|_,_=>none
 |_,_=>none
def zp(h:H2):List Sh->List V->Option (List V×List Nat)
 |[],[]=>some ([],[])
 |c::r,v::vs=>match QA h c v,zp h r vs with|some (l,i),some (m,j)=>some (l++m,i++j)|_,_=>none
 |_,_=>none
def LA{α β:Type}(f:α->Option β):List α->Option (List β)
 |[]=>some []
 |a::r=>match f a,LA f r with|some x,some y=>some (x::y)|_,_=>none
def Hd(kD:List RV)(rs os:List Sh)(s:S2):Option (List V):=
 match LA (Lb s) kD with
 |some vs=>match zq s.heap rs vs,zp s.heap os (zf s.gh)with|some (l,i),some (m,j)=>bif xA (i++j)then some (l++m)else none|_,_=>none
 |none=>none
def He(kD:List RV)(s:S2):(r o:List Sh)->(w:Wy)->Option (uN.E4 r o w)
 |r,o,[]=>match Hd kD r o s with|some l=>u4 (gE r++gE o) l|none=>none
 |r,o,(r',o')::w=>match Hd kD r o s with|some l=>(match u4 (gE r++gE o) l with|some z=>some (.inl z)|none=>none)|none=>(match He kD s r' o' w with|some z=>some (.inr z)|none=>none)
def LR(kD:List RV)(s:S2):(w:Wy)->Option (uN w)
 |[]=>none
 |(r,o)::w=>He kD s r o w
def Pn(tb:C9)(F:Option F2)(ps:List (Bool×Sh))(al:Wy)(p:pW (gE (ps.map (·.2)))):Option (uN al):=
 match F with
 |some F=>
  match N4 ps (n_ _ p)with
  |some s=>wm tb F.body s fun o s=>match o with|.exit _=>none|_=>LR F.kD s al
  |none=>none
 |none=>none
theorem j5{α β:Type}{f:α->List β}{n:Nat}(h:∀a,(f a).length=n)(l:List α):(l.flatMap f).length=l.length*n:=by induction l with|nil=>simp|cons a l ih=>simp[bl,h,ih,bQ];omega
theorem bK:∀(t:Ty)(v:El t),(aS t v).length=bR t:=by intro t;induction t with|pr a c iha ihc=>intro v;simp[aS,bR,iha,ihc]|st t ih=>intro v;simp[aS,bR,ih]|ar n t ih=>intro v;rw[aS,j5 ih,v.2];rfl|_=>intro v;rfl
theorem xY{α β:Type}[Inhabited α]{f:α->List β}{n:Nat}(h:∀a,(f a).length=n):∀(l:List α)(k:Nat),k<l.length->((l.flatMap f).drop (k*n)).take n=f (gt l k):=by
 intro l;induction l with
 |nil=>intro k hk;simp at hk
 |cons a l ih=>
  intro k hk;cases k with
  |zero=>simp[gt,h]
  |succ k=>
   have e:(k+1)*n=(f a).length+k*n:=by rw[h,bQ];omega
   rw[bl,e,<-dz,dY (au _),dN,bp,ih k (by simpa using hk)];rfl
theorem JT{α β:Type}{f:α->List β}{n:Nat}(h:∀a,(f a).length=n):∀(l:List α)(k:Nat)(x:α),k<l.length->(l.set k x).flatMap f=aU (l.flatMap f) (k*n) (f x):=by
 intro l;induction l with
 |nil=>intro k x hk;simp at hk
 |cons a l ih=>
  intro k x hk;cases k with
  |zero=>
   simp only[List.set_cons_zero,bl,aU,Nat.zero_mul,List.take_zero,bp,Nat.zero_add,h];have:(f a++l.flatMap f).drop n=l.flatMap f:=by rw[<-h a,dY (au _),dN,bp]
   rw[this]
  |succ k=>
   have e:(k+1)*n=(f a).length+k*n:=by rw[h,bQ];omega
   simp only[List.set_cons_succ,bl,aU,e,List.take_length_add_append,cR];rw[<-dz,dY (au _),dN,bp,ih k x (by simpa using hk)];simp[aU]
theorem de{t u:Ty}{v:El t}{y:El u}(h:gq t u v=some y):∃e:t=u,y=e▸v:=by
 unfold gq at h;split at h
 .rename_i e;exact⟨e,(aa h).symm⟩
 .simp at h
theorem vG{t u:Ty}{v:El t}{y:El u}(h:gq t u v=some y):aS u y=aS t v/\t=u:=by obtain⟨rfl,rfl⟩:=de h;exact⟨rfl,rfl⟩
theorem qh:∀(t:Ty)(v:El t)(i:Nat)(w:V),yU t v i=some w->∃u y,w=.x u y/\Bg t i=some u/\nZ t i+bR u<=bR t/\((aS t v).drop (nZ t i)).take (bR u)=aS u y:=by
 intro t;induction t with
 |pr a c iha ihc=>intro v i w h;cases i with|zero=>obtain rfl:=aa h;refine⟨a,v.1,rfl,rfl,by simp[nZ,bR],?_⟩;simp[nZ,aS,bK]|succ i=>obtain⟨u,y,rfl,h1,h2,h3⟩:=ihc v.2 i w h;refine⟨u,y,rfl,h1,by simp only[nZ,bR];omega,?_⟩;simp only[nZ,aS];rw[<-dz,<-bK a v.1,dY (au _),dN,bp,h3]
 |_=>intro v i w h;cases i with|zero=>obtain rfl:=aa h;exact⟨_,v,rfl,rfl,by simp[nZ],by simp[nZ,eu,bK]⟩|succ i=>simp[yU]at h
theorem NU:∀(t:Ty)(i:Nat)(u:Ty),Bg t i=some u->nZ t i+bR u<=bR t:=by
 intro t;induction t with
 |pr a c iha ihc=>intro i u h;cases i with|zero=>obtain rfl:=aa h;simp[nZ,bR]|succ i=>have:=ihc i u h;simp only[nZ,bR];omega
 |_=>intro i u h;cases i with|zero=>obtain rfl:=aa h;simp[nZ]|succ i=>simp[Bg]at h
theorem sg{α:Type}{a b p:List α}{off:Nat}:aU (a++b) (a.length+off) p=a++aU b off p:=by simp only[aU,List.take_length_add_append,cR,aJ];rw[<-dz,dY (au _),dN,bp]
theorem sf{α:Type}{a b p:List α}{off:Nat}(h:off+p.length<=a.length):aU (a++b) off p=aU a off p++b:=by simp only[aU,aJ];rw[List.take_append_of_le_length (by omega),dY h]
theorem lL{α:Type}{b p:List α}(h:p.length=b.length):aU b 0 p=p:=by simp[aU,h]
theorem tu{α:Type}{b p:List α}{off:Nat}(h:off+p.length<=b.length):(aU b off p).length=b.length:=by simp only[aU,aF,List.length_take,List.length_drop];omega
theorem tq{α β:Type}{f:α->β}{b p:List α}{off:Nat}:(aU b off p).map f=aU (b.map f) off (p.map f):=by simp[aU]
theorem pI{α:Type}{b c p:List α}{o1 o2 n:Nat}(hc:(b.drop o1).take n=c)(h1:o1+n<=b.length)(h2:o2+p.length<=n):aU b o1 (aU c o2 p)=aU b (o1+o2) p:=by
 have hcl:c.length=n:=by rw[<-hc];simp;omega
 have e:b=b.take o1++(c++b.drop (o1+n)):=by rw[<-hc,<-dz,List.take_append_drop,List.take_append_drop]
 have hl:(b.take o1).length=o1:=by simp;omega
 have hs:(aU c o2 p).length=n:=by rw[tu (by omega),hcl]
 have r2:aU b (o1+o2) p=b.take o1++(aU c o2 p++b.drop (o1+n)):=by
  conv=>lhs;rw[e]
  have:=sg (a:=b.take o1) (b:=c++b.drop (o1+n)) (p:=p) (off:=o2);rw[hl]at this;rw[this,sf (by omega)]
 rw[r2];show b.take o1++aU c o2 p++b.drop (o1+(aU c o2 p).length)=_;rw[hs,aJ]
theorem Hs:∀(t:Ty)(l r:List Value)(x:El t),tR t l=some (x,r)->l.all fo=true->∃p,l=p++r/\(aS t x)=p.map D.lit:=by
 intro t;induction t with
 |pr a c iha ihc=>
  intro l r x h hp;simp only[tR]at h;split at h
  .rename_i y l1 h1;split at h
   .rename_i z l2 h2;obtain⟨rfl,rfl⟩:=ad (aa h);obtain⟨p,rfl,e1⟩:=iha _ _ _ h1 hp;obtain⟨q,rfl,e2⟩:=ihc _ _ _ h2 (by rw[List.all_append,ai]at hp;exact hp.2);exact⟨p++q,by simp,by simp[aS,e1,e2]⟩
   .simp at h
  .simp at h
 |st t ih=>intro l r x h hp;exact ih l r x h hp
 |ar n t ih=>
  intro l r x h hp;simp only[tR]at h
  have key:∀(m:Nat)(l r:List Value)(x:Arr m (El t)),LZ (tR t) m l=some (x,r)->l.all fo=true->∃p,l=p++r/\x.1.flatMap (aS t)=p.map D.lit:=by
   intro m;induction m with
   |zero=>intro l r x h hp;obtain⟨rfl,rfl⟩:=ad (aa h);exact⟨[],rfl,rfl⟩
   |succ m ihn=>
    intro l r x h hp;simp only[LZ]at h;split at h
    .rename_i y l1 h1;split at h
     .rename_i v l2 h2;obtain⟨rfl,rfl⟩:=ad (aa h);obtain⟨p,rfl,e1⟩:=ih _ _ _ h1 hp;obtain⟨q,rfl,e2⟩:=ihn _ _ _ h2 (by rw[List.all_append,ai]at hp;exact hp.2);exact⟨p++q,by simp,by simp[bl,e1,e2]⟩
     .simp at h
    .simp at h
  exact key n l r x h hp
 |i k=>
  intro l r x h hp;simp only[tR]at h;unfold Pv at h;split at h
  .split at h
   .rename_i e;subst e;obtain⟨rfl,rfl⟩:=ad (aa h);exact⟨[_],rfl,rfl⟩
   .simp at h
  .simp at h
 |b=>
  intro l r x h hp;simp only[tR]at h;unfold Pw at h;split at h
  .obtain ⟨rfl,rfl⟩:=ad (aa h);exact⟨[_],rfl,rfl⟩
  .simp at h
 |s=>
  intro l r x h hp;simp only[tR]at h;unfold Pt at h;split at h
  .obtain ⟨rfl,rfl⟩:=ad (aa h);exact⟨[_],rfl,rfl⟩
  .simp at h
 |f k=>
  intro l r x h hp;simp only[tR]at h;unfold MJ at h;split at h
  .split at h
   .rename_i e;subst e;obtain⟨rfl,rfl⟩:=ad (aa h);exact⟨[_],rfl,rfl⟩
   .simp at h
  .simp at h
 |sl t ih=>
  intro l r x h hp;simp only[tR]at h;unfold Pu at h;split at h
  .obtain ⟨rfl,rfl⟩:=ad (aa h);exact⟨[_],rfl,rfl⟩
  .simp at h
 |_=>intro l r x h hp;simp[tR]at h
def A7(h:H2)(id ver:Nat):Bool:=match fO h id with|some (.ar _ _ v)|some (.im _ _ v)=>v==ver|_=>false
def NQ(id:Nat)(c:C):Prop:=∀i∈eI c,i=id
def eU(h:H2):V->List C->Prop
 |.x t v,cs=>kf t=true/\cs=(aS t v).map .d
 |.kb c,cs=>cs=[.d (.lit (.bool c))]
 |.nl k,cs=>cs=[Ce k]
 |.so id,cs=>∃c,cs=[c]/\(∀c',zi id (fO h id)=some c'->c=c')/\NQ id c
 |.sr id,cs=>∃c,cs=[c]/\(∀c',Df id (fO h id)=some c'->c=c')/\NQ id c
 |.sb id ver lo t r,cs=>∃c,cs=[c]/\(A7 h id ver=true->c=w_ id lo t r)/\NQ id c
 |.op id t p,cs=>cs=[.op id (lX t p)]
 |.ep id n t p,cs=>cs=[.ep id n (lX t p)]
 |.pt t v,cs=>kf t=true/\cs=[.d (.pt (aS t v))]
 |.fn true f l,cs=>∃ds,pV l=some ds/\cs=[.d (.fn f ds)]
 |.fn false f l,cs=>∃xs,eU h l xs/\cs=[.nW f xs]
 |.om id,cs=>cs=[.om id]
 |.rc l,cs=>eU h l cs
 |.fl l,cs=>l.all fo=true/\cs=e9 l
 |.ni,cs=>cs=[]
 |.co a r,cs=>∃x y,cs=x++y/\eU h a x/\eU h r y
 |.tp _,_|.no,_|.gn,_=>False
def rB(h:H2)(v:V)(x:TV):Prop:=∃cs,eU h v cs/\(rZ v=true->x=.agg cs)/\(rZ v=false->∃c,cs=[c]/\x=.c c)
def Af(h:H2):V->List TV->Prop
 |.ni,xs=>xs=[]
 |.co a r,xs=>∃x ys,xs=x::ys/\rB h a x/\Af h r ys
 |_,_=>False
def fL(h:H2):V->TV->Prop
 |.tp l,x=>∃xs,x=.iz xs/\Af h l xs
 |.no,x=>x=.iz []
 |.gn,_=>False
 |v,x=>rB h v x
def Rk(t u:Ty)(s:Sl (El t))(lo:Nat)(r:Sl (El u)):Prop:=bR t=bR u/\match s,r with|.nil,.nil=>True|.mk l,.mk m=>lo+m.length<=l.length/\((l.map (aS t)).drop lo).take m.length=m.map (aS u)|_,_=>False
def eS(n:Nat)(h:H2):V->Prop
 |.so id|.sr id|.om id=>id<n
 |.sb id ver lo t r=>id<n/\∀u s v,(fO h id=some (.ar u s v)\/fO h id=some (.im u s v))->ver<=v/\(v=ver->Rk u t s lo r)
 |.op id t p=>id<n/\GM t p
 |.ep id m t p=>id<n/\GM t p/\(∀u s v,(fO h id=some (.ar u s v)\/fO h id=some (.im u s v))->m<s.l.length)/\∀u s v,fO h id=some (.rw u s v)->m<s.l.length
 |.fn _ _ l|.rc l|.tp l=>eS n h l
 |.co a r=>eS n h a/\eS n h r
 |_=>True
def um(h:H2):O->Option Ob->Prop
 |.ar t s _,b=>kf t=true/\0<bR t/\(∀l,s=.mk l->b=some (.aM (bR t) (l.map (aS t))))
 |.im t s _,b=>kf t=true/\0<bR t/\(∀l,s=.mk l->b=some (.oV (bR t) (l.map (aS t))))
 |.bx t c,b=>∃cs,b=some (.box cs)/\eU h c cs/\ei c false t=true
 |.ib t v,b=>kf t=true/\b=some (.ny (aS t v))
 |.mp k v m,b=>kf v=true/\(∃ks,Cu k=some ks)/\b=Dh (mx k) (mx v) (fun x=>(aS k x).map fun|.lit y=>y|_=>.nilFunc) (aS v) m
 |.rw t s ln,b=>kf t=true/\0<bR t/\(∀l,(s:Sl (Sl (El t)))=.mk l->b=some (.nst (bR t) (eL t l ln)))
def Be(n:Nat)(h:H2):O->Prop
 |.bx _ c=>eS n h c
 |.rw _ s (some (m,id))=>m<s.l.length/\id<n/\∀u r v,(fO h id=some (.ar u r v)\/fO h id=some (.im u r v))->r.fC=(gt s.l m).fC/\r.l.length=(gt s.l m).l.length
 |_=>True
structure HR(n:Nat)(h1:bE)(h2:H2):Prop where
 ob:∀id o,fO h2 id=some o->id<n/\um h2 o (az h1 id)/\Be n h2 o
abbrev KH(t:Ty)(s:Sl (El t)):(t:Ty)×Sl (El t):=⟨t,s⟩
abbrev RE(t:Ty)(s:El t):(t:Ty)×El t:=⟨t,s⟩
def Mr(t u:Ty)(s:Sl (El t))(s':Sl (El u))(v v':Nat):Prop:=v<=v'/\t=u/\s.fC=s'.fC/\s.l.length=s'.l.length/\(v=v'->KH t s=KH u s')
def ry:O->O->Prop
 |.ar t s v,.ar u s' v'|.ar t s v,.im u s' v'=>Mr t u s s' v v'
 |.im t s v,.im u s' v'=>v=v'/\KH t s=KH u s'
 |.bx t _,.bx u _=>t=u
 |.bx _ _,.ib _ _=>True
 |.ib t v,.ib u w=>RE t v=RE u w
 |.mp _ _ _,.mp _ _ _=>True
 |.rw t s _,.rw u s' _=>t=u/\s.fC=s'.fC/\s.l.length=s'.l.length
 |_,_=>False
def sV:O->Bool
 |.bx _ _|.ib _ _=>true
 |_=>false
structure iX(n:Nat)(h h':H2):Prop where
 ob:∀id o',id<n->fO h' id=some o'->(∃o,fO h id=some o/\ry o o')\/sV o'=true
theorem Mr.trans{t u w:Ty}{s:Sl (El t)}{s':Sl (El u)}{s2:Sl (El w)}{a b c:Nat}(h1:Mr t u s s' a b)(h2:Mr u w s' s2 b c):Mr t w s s2 a c:=by obtain⟨a1,rfl,a3,a4,a5⟩:=h1;obtain⟨b1,rfl,b3,b4,b5⟩:=h2;refine⟨Nat.le_trans a1 b1,rfl,a3.trans b3,a4.trans b4,fun e=>?_⟩;have e1:a=b:=Nat.le_antisymm a1 (e▸b1);exact(a5 e1).trans (b5 (e1▸e))
theorem Mr.O_{t u:Ty}{s:Sl (El t)}{s':Sl (El u)}{a b:Nat}(h:a=b)(e:KH t s=KH u s'):Mr t u s s' a b:=by subst h;obtain⟨rfl,e⟩:=iY e;cases e;exact⟨au _,rfl,rfl,rfl,fun _=>rfl⟩
theorem ry.refl(o:O):ry o o:=by cases o<;>simp[ry,Mr]
theorem ry.trans{a b c:O}(h1:ry a b)(h2:ry b c):ry a c:=by
 cases a<;>cases b<;>simp only[ry]at h1<;>first|exact h1.elim|skip
 all_goals(cases c<;>simp only[ry]at h2|-<;>first|exact h2.elim|skip)
 .exact h1.trans h2
 .exact h1.trans h2
 .exact h1.trans (Mr.O_ h2.1 h2.2)
 .exact ⟨h1.1.trans h2.1,h1.2.trans h2.2⟩
 .exact h1.trans h2
 .exact h1.trans h2
 .exact ⟨h1.1.trans h2.1,h1.2.1.trans h2.2.1,h1.2.2.trans h2.2.2⟩
theorem iX.refl(n:Nat)(h:H2):iX n h h:=⟨fun _ o _ h=>.inl ⟨o,h,ry.refl o⟩⟩
theorem iX.trans{n n':Nat}{a b c:H2}(hn:n<=n')(h1:iX n a b)(h2:iX n' b c):iX n a c:=
 ⟨fun id o' hi ho=>by
  rcases h2.ob id o' (by omega) ho with⟨o1,h3,h4⟩|q
  .rcases h1.ob id o1 hi h3 with⟨o2,h5,h6⟩|q
   .exact .inl ⟨o2,h5,h6.trans h4⟩
   .exact .inr (by cases o1<;>simp[sV]at q<;>cases o'<;>simp[ry]at h4<;>rfl)
  .exact .inr q⟩
theorem Al{sz id:Nat}{α:Type}{e:α->List D}{s:Sl α}:NQ id (lC sz e id s):=by intro i hi;cases s with|nil=>simp[lC,eI]at hi|mk l=>simpa[lC,eI]using hi
theorem Ij{id lo:Nat}{t:Ty}{s:Sl (El t)}:NQ id (w_ id lo t s):=by intro i hi;cases s with|nil=>simp[w_,eI]at hi|mk l=>simpa[w_,eI]using hi
section
variable{n n':Nat}{h h':H2}
theorem DB{t:Ty}{s s':Sl (El t)}{id:Nat}(h1:s.fC=s'.fC)(h2:s.l.length=s'.l.length):lC (bR t) (aS t) id s=lC (bR t) (aS t) id s':=by cases s<;>cases s'<;>simp_all[Sl.fC,lC]
theorem Ib(hs:iX n h h'){id:Nat}(hi:id<n){c:C}(hc:zi id (fO h' id)=some c):zi id (fO h id)=some c:=by
 cases ho:fO h' id with
 |none=>rw[ho]at hc;simp[zi]at hc
 |some o'=>
  rw[ho]at hc;obtain⟨o,h1,h2⟩:=(hs.ob id o' hi ho).resolve_right fun e=>by cases o'<;>simp[sV]at e<;>simp[zi]at hc
  rw[h1];cases o'<;>simp only[zi]at hc<;>first|cases hc;done|skip
  all_goals(cases o<;>simp only[ry]at h2<;>first|exact h2.elim|skip)
  .obtain ⟨_,rfl,h3,h4,_⟩:=h2;rw[<-hc];simp only[zi];rw[DB h3 h4]
  .obtain ⟨_,rfl,h3,h4,_⟩:=h2;rw[<-hc];simp only[zi];rw[DB h3 h4]
  .obtain ⟨_,h3⟩:=h2;obtain⟨rfl,h3⟩:=iY h3;cases h3;rw[<-hc];rfl
  all_goals simp at hc
theorem Ia(hs:iX n h h'){id:Nat}(hi:id<n){c:C}(hc:Df id (fO h' id)=some c):Df id (fO h id)=some c:=by
 cases ho:fO h' id with
 |none=>rw[ho]at hc;simp[Df]at hc
 |some o'=>
  rw[ho]at hc;obtain⟨o,h1,h2⟩:=(hs.ob id o' hi ho).resolve_right fun e=>by cases o'<;>simp[sV]at e<;>simp[Df]at hc
  rw[h1];cases o'<;>simp only[Df]at hc<;>first|cases hc;done|skip
  all_goals(cases o<;>simp only[ry]at h2<;>first|exact h2.elim|skip)
  .obtain ⟨rfl,h3,h4⟩:=h2;rw[<-hc];simp only[Df];exact congrArg some (DB (t:=.sl _) h3 h4)
  all_goals simp at hc
theorem Ff(hs:iX n h h'){id:Nat}(hi:id<n){u:Ty}{s:Sl (Sl (El u))}{ln:Option (Nat×Nat)}(ho:fO h' id=some (.rw u s ln)):∃s0 ln0,fO h id=some (.rw u s0 ln0)/\s0.fC=s.fC/\s0.l.length=s.l.length:=by
 obtain⟨o,h1,h2⟩:=(hs.ob id _ hi ho).resolve_right fun e=>by simp[sV]at e
 cases o<;>simp only[ry]at h2<;>first|exact h2.elim|skip
 obtain⟨rfl,h3,h4⟩:=h2;exact⟨_,_,h1,h3,h4⟩
theorem If(hs:iX n h h'){id:Nat}(hi:id<n){u:Ty}{s:Sl (El u)}{v:Nat}(ho:fO h' id=some (.ar u s v)\/fO h' id=some (.im u s v)):
  ∃s0 v0,(fO h id=some (.ar u s0 v0)\/fO h id=some (.im u s0 v0))/\s0.fC=s.fC/\s0.l.length=s.l.length:=by
 rcases ho with ho|ho
 all_goals
  obtain⟨o,h1,h2⟩:=(hs.ob id _ hi ho).resolve_right fun e=>by simp[sV]at e
  cases o<;>simp only[ry]at h2<;>first|exact h2.elim|skip
 .obtain ⟨_,rfl,h3,h4,_⟩:=h2;exact⟨_,_,.inl h1,h3,h4⟩
 .obtain ⟨_,rfl,h3,h4,_⟩:=h2;exact⟨_,_,.inl h1,h3,h4⟩
 .obtain ⟨rfl,h3⟩:=h2;obtain⟨rfl,h3⟩:=iY h3;cases h3;exact⟨_,_,.inr h1,rfl,rfl⟩
theorem sh(hs:iX n h h'){id:Nat}(hi:id<n){u:Ty}{s:Sl (El u)}{v:Nat}(ho:fO h' id=some (.ar u s v)\/fO h' id=some (.im u s v)):
  ∃s0 v0,(fO h id=some (.ar u s0 v0)\/fO h id=some (.im u s0 v0))/\v0<=v/\s0.l.length=s.l.length/\(v0=v->s0=s):=by
 rcases ho with ho|ho
 all_goals
  obtain⟨o,h1,h2⟩:=(hs.ob id _ hi ho).resolve_right fun e=>by simp[sV]at e
  cases o<;>simp only[ry]at h2<;>first|exact h2.elim|skip
 .obtain ⟨h3,rfl,_,h4,h5⟩:=h2;exact⟨_,_,.inl h1,h3,h4,fun e=>by have:=h5 e;simpa using this⟩
 .obtain ⟨h3,rfl,_,h4,h5⟩:=h2;exact⟨_,_,.inl h1,h3,h4,fun e=>by have:=h5 e;simpa using this⟩
 .obtain ⟨rfl,h3⟩:=h2;obtain⟨rfl,h3⟩:=iY h3;cases h3;exact⟨_,_,.inr h1,au _,rfl,fun _=>rfl⟩
theorem kX{id ver:Nat}(ha:A7 h id ver=true):∃u s,fO h id=some (.ar u s ver)\/fO h id=some (.im u s ver):=by
 unfold A7 at ha;split at ha
 .rename_i u s v ho;obtain rfl:v=ver:=by simpa using ha
  exact⟨u,s,.inl ho⟩
 .rename_i u s v ho;obtain rfl:v=ver:=by simpa using ha
  exact⟨u,s,.inr ho⟩
 .simp at ha
theorem gw(hn:n<=n')(hs:iX n h h'):∀{v:V},eS n h v->eS n' h' v:=by
 intro v;induction v with
 |so id=>intro hv;simp only[eS]at hv|-;omega
 |sr id=>intro hv;simp only[eS]at hv|-;omega
 |om id=>intro hv;simp only[eS]at hv|-;omega
 |sb id ver lo t r=>
  rintro⟨h1,h2⟩;refine⟨by omega,fun u s v ho=>?_⟩;obtain⟨s0,v0,h3,h4,h5,h6⟩:=sh hs h1 ho;obtain⟨h7,h8⟩:=h2 u s0 v0 h3;refine⟨by omega,fun e=>?_⟩;have e2:v0=ver:=by omega
  have:=h6 (by omega);subst this;exact h8 e2
 |op id t p=>rintro⟨h1,h2⟩;exact⟨by omega,h2⟩
 |ep id m t p=>
  rintro⟨h1,h2,h3,h6⟩;refine⟨by omega,h2,fun u s v ho=>?_,fun u s v ho=>?_⟩
  .obtain ⟨s0,v0,h4,_,h5,_⟩:=sh hs h1 ho;have:=h3 u s0 v0 h4;omega
  .obtain ⟨s0,v0,h4,_,h5⟩:=Ff hs h1 ho;have:=h6 u s0 v0 h4;omega
 |fn z f l ih=>intro hv;exact ih hv
 |rc l ih=>intro hv;exact ih hv
 |tp l ih=>intro hv;exact ih hv
 |co a r iha ihr=>rintro⟨h1,h2⟩;exact⟨iha h1,ihr h2⟩
 |_=>intro _;trivial
theorem kW(hs:iX n h h'):∀{v:V}{cs:List C},eS n h v->eU h v cs->eU h' v cs:=by
 intro v;induction v with
 |so id=>rintro cs hi ⟨c,rfl,hc,hid⟩;exact⟨c,rfl,fun c' hc'=>hc c' (Ib hs hi hc'),hid⟩
 |sr id=>rintro cs hi ⟨c,rfl,hc,hid⟩;exact⟨c,rfl,fun c' hc'=>hc c' (Ia hs hi hc'),hid⟩
 |sb id ver lo t r=>
  rintro cs ⟨hi,h2⟩ ⟨c,rfl,hc,hid⟩;refine⟨c,rfl,fun ha=>hc ?_,hid⟩;obtain⟨u,s,ho⟩:=kX ha;obtain⟨s0,v0,h3,h4,_,_⟩:=sh hs hi ho;obtain⟨h7,_⟩:=h2 u s0 v0 h3;have:v0=ver:=by omega
  subst this;unfold A7;rcases h3 with h3|h3<;>rw[h3]<;>simp
 |fn z f l ih=>intro cs hv hc;cases z with|true=>exact hc|false=>obtain⟨xs,h1,h2⟩:=hc;exact⟨xs,ih hv h1,h2⟩
 |rc l ih=>intro cs hv hc;exact ih hv hc
 |co a r iha ihr=>rintro cs ⟨h1,h2⟩ ⟨x,y,rfl,h3,h4⟩;exact⟨x,y,rfl,iha h1 h3,ihr h2 h4⟩
 |_=>intro cs _ hc;exact hc
theorem uZ(hs:iX n h h'){v:V}{x:TV}(hv:eS n h v)(hx:rB h v x):rB h' v x:=by obtain⟨cs,h1,h2⟩:=hx;exact⟨cs,kW hs hv h1,h2⟩
theorem F6(hs:iX n h h'):∀{v:V}{xs:List TV},eS n h v->Af h v xs->Af h' v xs:=by intro v;induction v with|co a r iha ihr=>rintro xs ⟨h1,h2⟩ ⟨x,ys,rfl,h3,h4⟩;exact⟨x,ys,rfl,uZ hs h1 h3,ihr h2 h4⟩|ni=>intro xs _ h;exact h|_=>intro xs _ h;exact h.elim
theorem t8(hs:iX n h h'){v:V}{x:TV}(hv:eS n h v)(hx:fL h v x):fL h' v x:=by cases v with|tp l=>obtain⟨xs,h1,h2⟩:=hx;exact⟨xs,h1,F6 hs hv h2⟩|no=>exact hx|gn=>exact hx|_=>exact uZ hs hv hx
theorem oP(hs:iX n h h'){o:O}{b:Option Ob}(ho:Be n h o)(hb:um h o b):um h' o b:=by cases o with|bx t c=>obtain⟨cs,h1,h2,h3⟩:=hb;exact⟨cs,h1,kW hs ho h2,h3⟩|_=>exact hb
theorem nm(hn:n<=n')(hs:iX n h h'){o:O}(ho:Be n h o):Be n' h' o:=by
 cases o with
 |bx t c=>exact gw hn hs ho
 |rw t s ln=>cases ln with|none=>trivial|some q=>obtain⟨m,id⟩:=q;obtain⟨h1,h2,h3⟩:=ho;refine⟨h1,Nat.lt_of_lt_of_le h2 hn,fun u r v hu=>?_⟩;obtain⟨s0,v0,h4,h5,h6⟩:=If hs h2 hu;obtain⟨h7,h8⟩:=h3 u s0 v0 h4;exact⟨h5▸h7,h6▸h8⟩
 |_=>trivial
end
theorem gZ{h:H2}:∀{v:V}{cs:List C},eU h v cs->cs.length=wU v:=by
 intro v;induction v with
 |x t v=>rintro cs ⟨_,rfl⟩;simp[wU,bK]
 |so id=>rintro cs ⟨c,rfl,_⟩;rfl
 |sr id=>rintro cs ⟨c,rfl,_⟩;rfl
 |sb id ver lo t r=>rintro cs ⟨c,rfl,_⟩;rfl
 |pt t v=>rintro cs ⟨_,rfl⟩;rfl
 |fn z f l ih=>intro cs hc;cases z with|true=>obtain⟨ds,_,rfl⟩:=hc;rfl|false=>obtain⟨ds,_,rfl⟩:=hc;rfl
 |rc l ih=>intro cs hc;exact ih hc
 |fl l=>rintro cs ⟨_,rfl⟩;simp[e9,wU]
 |ni=>rintro cs rfl;rfl
 |co a r iha ihr=>rintro cs ⟨x,y,rfl,h1,h2⟩;simp[wU,iha h1,ihr h2]
 |tp l=>intro cs hc;exact hc.elim
 |no=>intro cs hc;exact hc.elim
 |gn=>intro cs hc;exact hc.elim
 |_=>rintro cs rfl;rfl
theorem gz:∀(v:V)(ln:Bool)(t:Ty),ei v ln t=true->wU v=bR t:=by
 intro v;induction v with
 |rc l ih=>
  intro ln t hf;cases ln with
  |true=>cases t<;>simp[ei]at hf
  |false=>cases t with|st t=>exact ih true t hf|_=>simp[ei]at hf
 |co a r iha ihr=>
  intro ln t hf;cases ln with
  |false=>simp[ei]at hf
  |true=>
   cases t with
   |pr t u=>simp only[ei,ai]at hf;simp[wU,bR,iha _ _ hf.1,ihr _ _ hf.2]
   |_=>cases r with|ni=>have hf':ei a false _=true:=hf;simp[wU,iha _ _ hf']|_=>simp[ei]at hf
 |x u v=>intro ln t hf;cases ln with|false=>simp only[ei,decide_eq_true_eq]at hf;subst hf;rfl|true=>cases t<;>simp[ei]at hf
 |nl k=>intro ln t hf;cases ln<;>cases t<;>first|rfl|(simp[ei]at hf;done)|skip
 |_=>intro ln t hf;cases ln<;>cases t<;>first|rfl|(simp[ei]at hf;done)
section
variable{h:H2}
theorem o5{v:V}{u:Ty}{y:El u}{cs:List C}(hc:gO u v=some y)(hv:eU h v cs):cs=(aS u y).map .d:=by
 cases v with
 |x t v=>obtain⟨rfl,rfl⟩:=de hc;exact hv.2
 |kb c=>obtain⟨rfl,rfl⟩:=de (t:=.b) hc;exact hv
 |nl k=>
  cases k with
  |zero=>
   cases u<;>simp only[gO]at hc<;>first|cases hc;done|skip
   obtain rfl:=aa hc;exact hv
  |succ k=>simp[gO]at hc
 |fl l=>
  obtain⟨h1,rfl⟩:=hv;simp only[gO]at hc;cases ha:mx u
  .rw [ha]at hc;simp at hc
  rw[ha,cond_true]at hc;split at hc
  .rename_i x hx;obtain rfl:=aa hc;obtain⟨p,rfl,e⟩:=Hs u _ _ _ hx h1;rw[e];simp[e9]
  .simp at hc
 |_=>simp[gO]at hc
theorem iG:∀(v:V)(ln:Bool)(u:Ty)(y:El u)(cs:List C),ko v ln u=some y->eU h v cs->cs=(aS u y).map .d:=by
 intro v;induction v with
 |rc l ih=>
  intro ln u y cs hc hv;cases ln with
  |true=>cases u<;>simp[ko]at hc
  |false=>cases u with|st u=>exact ih true u y cs hc hv|_=>simp[ko,gO]at hc
 |co a r iha ihr=>
  intro ln u y cs hc hv;obtain⟨x1,x2,rfl,h1,h2⟩:=hv;cases ln with
  |false=>cases u<;>simp[ko,gO]at hc
  |true=>
   cases u with
   |pr t u=>
    simp only[ko]at hc;split at hc
    .rename_i p q hp hq;obtain rfl:=aa hc;rw[iha _ _ _ _ hp h1,ihr _ _ _ _ hq h2];simp[aS]
    .simp at hc
   |_=>cases r with|ni=>have hc':ko a false _=some y:=hc;obtain rfl:x2=[]:=h2;rw[bO];exact iha _ _ _ _ hc' h1|_=>simp[ko]at hc
 |_=>
  intro ln u y cs hc hv;cases ln with
  |true=>cases u<;>simp[ko]at hc
  |false=>first|exact o5 hc hv|(simp[ko]at hc)
theorem CY{v:V}{u:Ty}{y:El u}(hc:gO u v=some y):rZ v=mx u:=by
 cases v with
 |x t v=>obtain⟨rfl,_⟩:=de hc;rfl
 |kb c=>obtain⟨rfl,_⟩:=de (t:=.b) hc;rfl
 |nl k=>
  cases k with
  |zero=>cases u<;>simp only[gO]at hc<;>first|rfl|cases hc
  |succ k=>simp[gO]at hc
 |fl l=>
  simp only[gO]at hc;cases ha:mx u
  .rw [ha]at hc;simp at hc
  .rfl
 |_=>simp[gO]at hc
theorem vE{v:V}{u:Ty}{y:El u}(hc:sE u v=some y):rZ v=mx u:=by
 cases v with
 |rc l=>cases u with|st u=>rfl|_=>simp[sE,ko,gO]at hc
 |co a r=>cases u<;>simp[sE,ko,gO]at hc
 |ni=>cases u<;>simp[sE,ko]at hc
 |_=>exact CY hc
theorem zB:∀(l:V)(t:Ty)(i:Nat)(w:V)(cs:List C),ei l true t=true->eU h l cs->rk l i=some w->
  ∃u cw,Bg t i=some u/\ei w false u=true/\eU h w cw/\nZ t i+bR u<=cs.length/\(cs.drop (nZ t i)).take (bR u)=cw:=by
 intro l;induction l with
 |co a r iha ihr=>
  intro t i w cs hf hv hw;obtain⟨x,y,rfl,h1,h2⟩:=hv;have one:∀t,ei a false t=true->r=.ni->Bg t 0=some t->nZ t 0=0->i=0->∃u cw,Bg t i=some u/\ei w false u=true/\eU h w cw/\nZ t i+bR u<=(x++y).length/\((x++y).drop (nZ t i)).take (bR u)=cw:=by intro t hf hr h3 h4 hi;subst hi;obtain rfl:=aa hw;have hs:=gz _ _ _ hf;have hl:=gZ h1;refine⟨t,x,h3,hf,h1,by rw[h4];simp;omega,?_⟩;rw[h4,cq,<-hs,<-hl,List.take_left]
  cases t with
  |pr t u=>simp only[ei,ai]at hf;have hs:=gz _ _ _ hf.1;have hl:=gZ h1;cases i with|zero=>obtain rfl:=aa hw;refine⟨t,x,rfl,hf.1,h1,by simp[nZ];omega,?_⟩;simp only[nZ,cq];rw[<-hs,<-hl,List.take_left]|succ i=>obtain⟨u',cw,q1,q2,q3,q4,q5⟩:=ihr u i w y hf.2 h2 hw;refine⟨u',cw,q1,q2,q3,by simp only[nZ,aF];omega,?_⟩;simp only[nZ];rw[<-dz,<-hs,<-hl,List.drop_left,q5]
  |_=>
   cases r with
   |ni=>have hf':ei a false _=true:=hf;cases i with|zero=>exact one _ hf' rfl rfl rfl rfl|succ i=>simp[rk]at hw
   |_=>simp[ei]at hf
 |_=>intro t i w cs hf hv hw;simp[rk]at hw
theorem zt:∀(l:V)(t:Ty)(i:Nat)(w:V)(cs cw:List C)(u:Ty),ei l true t=true->eU h l cs->Bg t i=some u->eU h w cw->cw.length=bR u->(∃w0,rk l i=some w0)->eU h (Iu l i w) (aU cs (nZ t i) cw):=by
 intro l;induction l with
 |co a r iha ihr=>
  intro t i w cs cw u hf hv hu hw hlen hn;obtain⟨x,y,rfl,h1,h2⟩:=hv;cases t with
  |pr t u'=>simp only[ei,ai]at hf;have hs:=gz _ _ _ hf.1;have hl:=gZ h1;cases i with|zero=>obtain rfl:=aa hu;refine⟨cw,y,?_,hw,h2⟩;simp only[nZ];rw[sf (by omega),lL (by omega)]|succ i=>have:=ihr u' i w y cw u hf.2 h2 hu hw hlen hn;refine⟨x,_,?_,h1,this⟩;simp only[nZ];rw[<-hs,<-hl,sg]
  |_=>
   cases r with
   |ni=>cases i with|zero=>obtain rfl:=aa hu;have hf':ei a false _=true:=hf;have hs:=gz _ _ _ hf';have hl:=gZ h1;obtain rfl:y=[]:=h2;refine⟨cw,[],?_,hw,rfl⟩;simp only[nZ,bO];rw[lL (by omega)]|succ i=>obtain⟨w0,hn⟩:=hn;simp[rk]at hn
   |_=>simp[ei]at hf
 |_=>intro t i w cs cw u hf hv hu hw hlen hn;obtain⟨w0,hn⟩:=hn;simp[rk]at hn
theorem Ai:∀(t:Ty)(v:El t),kf t=true->eU h (F9 t v) ((aS t v).map .d):=by intro t;induction t with|pr a c iha ihc=>intro v hd;simp only[kf,ai]at hd;exact⟨(aS a v.1).map .d,(aS c v.2).map .d,by simp[aS],⟨hd.1,rfl⟩,ihc v.2 hd.2⟩|_=>intro v hd;exact⟨_,[],(bO _).symm,⟨hd,rfl⟩,rfl⟩
theorem KW:∀(t:Ty)(v:El t),ei (F9 t v) true t=true:=by intro t;induction t with|pr a c iha ihc=>intro v;simp[F9,ei,ihc]|_=>intro v;simp[F9,ei]
theorem KV:∀(t:Ty)(v:El t)(i:Nat)(w:V),yU t v i=some w->rk (F9 t v) i=some w:=by
 intro t;induction t with
 |pr a c iha ihc=>intro v i w hw;cases i with|zero=>exact hw|succ i=>exact ihc v.2 i w hw
 |_=>intro v i w hw;cases i with|zero=>exact hw|succ i=>simp[yU]at hw
theorem yf:∀(t:Ty)(i:Nat)(u:Ty),kf t=true->Bg t i=some u->kf u=true:=by
 intro t;induction t with
 |pr a c iha ihc=>intro i u hd hu;simp only[kf,ai]at hd;cases i with|zero=>obtain rfl:=aa hu;exact hd.1|succ i=>exact ihc i u hd.2 hu
 |_=>intro i u hd hu;cases i with|zero=>obtain rfl:=aa hu;exact hd|succ i=>simp[Bg]at hu
theorem vh:∀(p:pj)(t u:Ty),qr t p=some u->GM t p->lX t p+bR u<=bR t:=by
 intro p;induction p with
 |nil=>
  intro t u hu _;have e2:qr t []=some t:=by cases t<;>rfl
  have e:lX t []=0:=by cases t<;>rfl
  obtain rfl:t=u:=by rw[e2]at hu;exact aa hu
  omega
 |cons q p ih=>
  intro t u hu hp;cases q with
  |fd i=>cases t with|st t=>obtain⟨a,ha,hp⟩:=hp;simp only[qr,ha]at hu;have:=ih a u hu hp;have:=NU t i a ha;simp only[lX,ha,bR];omega|_=>exact hp.elim
  |ix k=>cases t with|ar n t=>obtain⟨hk,hp⟩:=hp;have:=ih t u hu hp;have h2:(k+1)*bR t<=n*bR t:=aL _ hk;rw[bQ]at h2;simp only[lX,bR];omega|_=>exact hp.elim
theorem vz:∀(p:pj)(c:V)(t:Ty)(w:V)(cs:List C),ei c false t=true->eU h c cs->GM t p->oW c p=some w->
  ∃u cw,qr t p=some u/\ei w false u=true/\eU h w cw/\lX t p+bR u<=cs.length/\(cs.drop (lX t p)).take (bR u)=cw:=by
 intro p;induction p with
 |nil=>
  intro c t w cs hf hv _ hw;obtain rfl:c=w:=by simpa[oW]using hw
  have hs:=gz _ _ _ hf;have hl:=gZ hv;refine⟨t,cs,by cases t<;>rfl,hf,hv,?_,?_⟩
  .cases t<;>simp[lX]<;>omega
  .have e:lX t []=0:=by cases t<;>rfl
   rw[e,cq,eu (by omega)]
 |cons q p ih=>
  intro c t w cs hf hv hp hw
  have sub:∀(o n:Nat)(c2:V)(u:Ty)(c3:List C),ei c2 false u=true->eU h c2 c3->(cs.drop o).take (bR u)=c3->o+bR u<=cs.length->GM u p->oW c2 p=some w->qr t (q::p)=qr u p->lX t (q::p)=o+lX u p->
    ∃u cw,qr t (q::p)=some u/\ei w false u=true/\eU h w cw/\lX t (q::p)+bR u<=cs.length/\(cs.drop (lX t (q::p))).take (bR u)=cw:=by
   intro o n c2 u c3 hf2 hv2 h3 h4 h5 h6 h7 h8;obtain⟨u',cw,q1,q2,q3,q4,q5⟩:=ih c2 u w c3 hf2 hv2 h5 h6;have hl:=gZ hv2;rw[gz _ _ _ hf2]at hl;refine⟨u',cw,h7.trans q1,q2,q3,by rw[h8];omega,?_⟩;rw[h8,<-q5,<-h3,<-dz];rw[List.drop_take,List.take_take];congr 1;omega
  cases q with
  |fd i=>
   cases t with
   |st t=>
    obtain⟨u,hu,hp⟩:=hp;have e7:qr (.st t) (.fd i::p)=qr u p:=by simp only[qr,hu]
    have e8:lX (.st t) (.fd i::p)=nZ t i+lX u p:=by simp only[lX,hu]
    cases c with
    |x t' v=>
     simp only[ei,decide_eq_true_eq]at hf;subst hf;obtain⟨hd,rfl⟩:=hv;simp only[oW]at hw;split at hw
     .rename_i y hy;obtain⟨u',y',rfl,h1,h2,h3⟩:=qh _ _ _ _ hy;obtain rfl:u=u':=by rw[hu]at h1;exact aa h1
      refine sub (nZ t i) 0 (.x u y') u ((aS u y').map .d) (by simp[ei]) ⟨yf t _ _ hd hu,rfl⟩ ?_ ?_ hp hw e7 e8
      .rw [<-h3,gH,fV];rfl
      .simp [bK,bR];exact h2
     .simp at hw
    |rc l=>
     simp only[oW]at hw;split at hw
     .rename_i y hy;obtain⟨u',cw,q1,q2,q3,q4,q5⟩:=zB l t i y cs hf hv hy;obtain rfl:u=u':=by rw[hu]at q1;exact aa q1
      exact sub (nZ t i) 0 y u cw q2 q3 q5 q4 hp hw e7 e8
     .simp at hw
    |_=>simp[oW]at hw
   |_=>exact hp.elim
  |ix k=>
   cases t with
   |ar n t=>
    obtain⟨hk,hp⟩:=hp;cases c with
    |x t' v=>
     simp only[ei,decide_eq_true_eq]at hf;subst hf;obtain⟨hd,rfl⟩:=hv;simp only[oW]at hw;have hk':k<v.1.length:=by rw[v.2];exact hk
     have hg:=xY (bK t) v.1 k hk';refine sub (k*bR t) 0 (.x t (gt v.1 k)) t ((aS t (gt v.1 k)).map .d) (by simp[ei]) ⟨hd,rfl⟩ ?_ ?_ hp hw rfl rfl
     .rw [<-hg,gH,fV];rfl
     .simp only[aQ,bK,bR];have:(k+1)*bR t<=n*bR t:=aL _ hk;rw[bQ]at this;omega
    |_=>simp[oW]at hw
   |_=>exact hp.elim
theorem Gf:∀(t:Ty)(v:El t)(i:Nat)(w:V)(v':El t),Gg t v i w=some v'->∃u z,Bg t i=some u/\gO u w=some z/\aS t v'=aU (aS t v) (nZ t i) (aS u z):=by
 intro t;induction t with
 |pr a c iha ihc=>
  intro v i w v' hs;cases i with
  |zero=>
   simp only[Gg]at hs;split at hs
   .rename_i y hy;obtain rfl:=aa hs;refine⟨a,y,rfl,hy,?_⟩;simp only[aS,nZ];rw[sf (by simp[bK]),lL (by simp[bK])]
   .simp at hs
  |succ i=>
   simp only[Gg]at hs;split at hs
   .rename_i y hy;obtain rfl:=aa hs;obtain⟨u,z,h1,h2,h3⟩:=ihc _ _ _ _ hy;refine⟨u,z,h1,h2,?_⟩;simp only[aS,nZ,h3];have:=sg (a:=aS a v.1) (b:=aS c v.2) (off:=nZ c i) (p:=aS u z);rw[bK]at this;rw[this]
   .simp at hs
 |_=>intro v i w v' hs;cases i with|zero=>have hs':gO _ w=some v':=hs;exact⟨_,v',rfl,hs',by simp only[nZ];rw[lL (by simp[bK])]⟩|succ i=>simp[Gg]at hs
theorem u6:∀(p:pj)(c:V)(t:Ty)(w c':V)(cs cw:List C)(u:Ty),ei c false t=true->eU h c cs->GM t p->nD c p w=some c'->qr t p=some u->eU h w cw->cw.length=bR u->
  eU h c' (aU cs (lX t p) cw):=by
 intro p;induction p with
 |nil=>
  intro c t w c' cs cw u hf hv _ hs hu hw hlen;obtain rfl:w=c':=by simpa[nD]using hs
  have e:lX t []=0:=by cases t<;>rfl
  have e2:qr t []=some t:=by cases t<;>rfl
  obtain rfl:t=u:=by rw[e2]at hu;exact aa hu
  have:=gZ hv;rw[gz _ _ _ hf]at this;rw[e,lL (by omega)];exact hw
 |cons q p ih=>
  intro c t w c' cs cw u hf hv hp hs hu hw hlen;cases q with
  |fd i=>
   cases t with
   |st t=>
    obtain⟨a,ha,hp⟩:=hp;have hu':qr a p=some u:=by simpa only[qr,ha]using hu
    have e8:lX (.st t) (.fd i::p)=nZ t i+lX a p:=by simp only[lX,ha]
    cases c with
    |x t' v=>
     simp only[ei,decide_eq_true_eq]at hf;subst hf;obtain⟨hd,rfl⟩:=hv;simp only[nD]at hs;split at hs
     .rename_i y hy;split at hs
      .rename_i y1 hy1;obtain⟨a',z,rfl,h1,h2,h3⟩:=qh _ _ _ _ hy;obtain rfl:a=a':=by rw[ha]at h1;exact aa h1
       have hz:eU h (.x a z) ((aS a z).map .d):=⟨yf t _ _ hd ha,rfl⟩
       have h4:=ih (.x a z) a w y1 ((aS a z).map .d) cw u (by simp[ei]) hz hp hy1 hu' hw hlen;have hle:lX a p+cw.length<=bR a:=by have:=vh p a u hu' hp;omega
       have h5:((aS (.st t) v).map C.d|>.drop (nZ t i)).take (bR a)=(aS a z).map .d:=by rw[<-h3,gH,fV];rfl
       have h6:aU ((aS (.st t) v).map C.d) (nZ t i+lX a p) cw=aU ((aS (.st t) v).map C.d) (nZ t i) (aU ((aS a z).map .d) (lX a p) cw):=(pI h5 (by simp[bK,bR];exact h2) hle).symm;rw[e8,h6];split at hs
       .rename_i v' hv';obtain rfl:=aa hs;obtain⟨a2,z2,k1,k2,k3⟩:=Gf _ _ _ _ _ hv';obtain rfl:a=a2:=by rw[ha]at k1;exact aa k1
        refine⟨hd,?_⟩;have:=o5 k2 h4;rw[this];show _=(aS t v').map C.d;rw[k3,tq];rfl
       .obtain rfl:=aa hs;refine zt (F9 t v) t i y1 _ _ a (KW t v) (Ai t v hd) ha h4 ?_ ⟨_,KV t v i _ hy⟩;rw[tu (by simp[bK];exact hle)];simp[bK]
      .simp at hs
     .simp at hs
    |rc l=>
     simp only[nD]at hs;split at hs
     .rename_i y hy;split at hs
      .rename_i y1 hy1;obtain rfl:=aa hs;obtain⟨a',cw2,q1,q2,q3,q4,q5⟩:=zB l t i y cs hf hv hy;obtain rfl:a=a':=by rw[ha]at q1;exact aa q1
       have h4:=ih y a w y1 cw2 cw u q2 q3 hp hy1 hu' hw hlen;have hl:=gZ q3;rw[gz _ _ _ q2]at hl;have hle:lX a p+cw.length<=bR a:=by have:=vh p a u hu' hp;omega
       rw[e8,<-pI q5 q4 hle];exact zt l t i y1 cs _ a hf hv ha h4 (by rw[tu (by omega),hl]) ⟨_,hy⟩
      .simp at hs
     .simp at hs
    |_=>simp[nD]at hs
   |_=>exact hp.elim
  |ix k=>
   cases t with
   |ar n t=>
    obtain⟨hk,hp⟩:=hp;have hu':qr t p=some u:=hu;cases c with
    |x t' v=>
     simp only[ei,decide_eq_true_eq]at hf;subst hf;obtain⟨hd,rfl⟩:=hv;simp only[nD]at hs;split at hs
     .rename_i y1 hy1;split at hs
      .rename_i z hz;obtain rfl:=aa hs;have hk':k<v.1.length:=by rw[v.2];exact hk
       have hg:=xY (bK t) v.1 k hk';have h4:=ih (.x t (gt v.1 k)) t w y1 ((aS t (gt v.1 k)).map .d) cw u (by simp[ei]) ⟨hd,rfl⟩ hp hy1 hu' hw hlen;have h7:=o5 hz h4;have hle:lX t p+cw.length<=bR t:=by have:=vh p t u hu' hp;omega
       have h5:((aS (.ar n t) v).map C.d|>.drop (k*bR t)).take (bR t)=(aS t (gt v.1 k)).map .d:=by rw[<-hg,gH,fV];rfl
       have h8:k*bR t+bR t<=((aS (.ar n t) v).map C.d).length:=by simp only[aQ,bK,bR];have:(k+1)*bR t<=n*bR t:=aL _ hk;rw[bQ]at this;omega
       refine⟨hd,?_⟩;show aU _ (k*bR t+lX t p) cw=_;rw[<-pI h5 h8 hle,h7,<-tq];show _=((v.1.set k z).flatMap (aS t)).map C.d;rw[JT (bK t) v.1 k z hk'];rfl
      .simp at hs
     .simp at hs
    |_=>simp[nD]at hs
   |_=>exact hp.elim
theorem wD{n:Nat}:∀(l:V)(i:Nat)(w:V),eS n h l->rk l i=some w->eS n h w:=by
 intro l;induction l with
 |co a r iha ihr=>intro i w hk hw;cases i with|zero=>obtain rfl:=aa hw;exact hk.1|succ i=>exact ihr i w hk.2 hw
 |_=>intro i w hk hw;simp[rk]at hw
theorem Fl{n:Nat}:∀(l:V)(i:Nat)(w:V),eS n h l->eS n h w->eS n h (Iu l i w):=by
 intro l;induction l with
 |co a r iha ihr=>intro i w hk hw;cases i with|zero=>exact⟨hw,hk.2⟩|succ i=>exact⟨hk.1,ihr i w hk.2 hw⟩
 |_=>intro i w hk hw;exact hk
theorem FK{n:Nat}{t:Ty}{v:El t}{i:Nat}{w:V}(hw:yU t v i=some w):eS n h w:=by obtain⟨u,y,rfl,_⟩:=qh _ _ _ _ hw;trivial
theorem Ds{n:Nat}:∀(t:Ty)(v:El t),eS n h (F9 t v):=by intro t;induction t with|pr a c iha ihc=>intro v;exact⟨trivial,ihc v.2⟩|_=>intro v;exact⟨trivial,trivial⟩
theorem AK{n:Nat}:∀(p:pj)(c w:V),eS n h c->oW c p=some w->eS n h w:=by
 intro p;induction p with
 |nil=>intro c w hk hw;obtain rfl:c=w:=by simpa[oW]using hw
       exact hk
 |cons q p ih=>
  intro c w hk hw;cases q with
  |fd i=>
   cases c with
   |x t v=>
    cases t with
    |st t=>
     simp only[oW]at hw;split at hw
     .rename_i y hy;exact ih y w (FK hy) hw
     .simp at hw
    |_=>simp[oW]at hw
   |rc l=>
    simp only[oW]at hw;split at hw
    .rename_i y hy;exact ih y w (wD l _ _ hk hy) hw
    .simp at hw
   |_=>simp[oW]at hw
  |ix k=>
   cases c with
   |x t v=>cases t with|ar m t=>exact ih (.x t (gt v.1 k)) w trivial hw|_=>simp[oW]at hw
   |_=>simp[oW]at hw
theorem Fe{n:Nat}:∀(p:pj)(c w c':V),eS n h c->eS n h w->nD c p w=some c'->eS n h c':=by
 intro p;induction p with
 |nil=>intro c w c' _ hw hs;obtain rfl:w=c':=by simpa[nD]using hs
       exact hw
 |cons q p ih=>
  intro c w c' hk hw hs;cases q with
  |fd i=>
   cases c with
   |x t v=>
    cases t with
    |st t=>
     simp only[nD]at hs;split at hs
     .rename_i y hy;split at hs
      .rename_i y1 hy1;split at hs
       .obtain rfl:=aa hs;trivial
       .obtain rfl:=aa hs;exact Fl _ _ _ (Ds t v) (ih y w y1 (FK hy) hw hy1)
      .simp at hs
     .simp at hs
    |_=>simp[nD]at hs
   |rc l=>
    simp only[nD]at hs;split at hs
    .rename_i y hy;split at hs
     .rename_i y1 hy1;obtain rfl:=aa hs;exact Fl l _ _ hk (ih y w y1 (wD l _ _ hk hy) hw hy1)
     .simp at hs
    .simp at hs
   |_=>simp[nD]at hs
  |ix k=>
   cases c with
   |x t v=>
    cases t with
    |ar m t=>
     simp only[nD]at hs;split at hs
     .split at hs
      .obtain rfl:=aa hs;trivial
      .simp at hs
     .simp at hs
    |_=>simp[nD]at hs
   |_=>simp[nD]at hs
end
section
variable{h:H2}{n:Nat}{h1:bE}
theorem dJ{v:V}{c:C}(ha:rZ v=false)(hc:eU h v [c]):rB h v (.c c):=⟨[c],hc,fun e=>(by rw[ha]at e;cases e),fun _=>⟨c,rfl,rfl⟩⟩
theorem wR{v:V}{cs:List C}(ha:rZ v=true)(hc:eU h v cs):rB h v (.agg cs):=⟨cs,hc,fun _=>rfl,fun e=>(by rw[ha]at e;cases e)⟩
theorem iT{v:V}{x:TV}(hx:rB h v x)(ha:rZ v=false):∃c,x=.c c/\eU h v [c]:=by obtain⟨cs,h1,_,h2⟩:=hx;obtain⟨c,rfl,rfl⟩:=h2 ha;exact⟨c,rfl,h1⟩
theorem pZ{v:V}{x:TV}(hx:rB h v x):∃cs,eU h v cs/\cellsOf x=some cs:=by obtain⟨cs,h1,h2,h3⟩:=hx;refine⟨cs,h1,?_⟩;cases ha:rZ v with|true=>rw[h2 ha];rfl|false=>obtain⟨c,rfl,rfl⟩:=h3 ha;rfl
theorem jY{k:IntKind}{a:Int}{x:TV}(hx:fL h (.x (.i k) a) x):x=tI k a:=by obtain⟨c,rfl,_,hc⟩:=iT (v:=.x (.i k) a) hx rfl;obtain rfl:=(b_ hc).1;rfl
theorem Fc{a:Bool}{x:TV}(hx:fL h (.x .b a) x):x=tB a:=by obtain⟨c,rfl,_,hc⟩:=iT (v:=.x .b a) hx rfl;obtain rfl:=(b_ hc).1;rfl
theorem vR{a:ByteArray}{x:TV}(hx:fL h (.x .s a) x):x=.c (.d (dS a)):=by obtain⟨c,rfl,_,hc⟩:=iT (v:=.x .s a) hx rfl;obtain rfl:=(b_ hc).1;rfl
theorem wP{t:Ty}{s:Sl (El t)}{x:TV}(hx:fL h (.x (.sl t) s) x):x=.c (.d (u5 (bR t) (aS t) s)):=by obtain⟨c,rfl,_,hc⟩:=iT (v:=.x (.sl t) s) hx rfl;obtain rfl:=(b_ hc).1;rfl
theorem uY{a:Bool}{x:TV}(hx:fL h (.kb a) x):x=tB a:=by obtain⟨c,rfl,hc⟩:=iT (v:=.kb a) hx rfl;obtain rfl:=(b_ hc).1;rfl
theorem uX{k:Nat}{x:TV}(hx:fL h (.nl k) x):x=.c (Ce k):=by obtain⟨c,rfl,hc⟩:=iT (v:=.nl k) hx rfl;obtain rfl:=(b_ hc).1;rfl
theorem wQ{t:Ty}{a:El t}{x:TV}(hx:fL h (.pt t a) x):kf t=true/\x=.c (.d (.pt (aS t a))):=by obtain⟨c,rfl,hd,hc⟩:=iT (v:=.pt t a) hx rfl;obtain rfl:=(b_ hc).1;exact⟨hd,rfl⟩
theorem uW{id:Nat}{t:Ty}{p:pj}{x:TV}(hx:fL h (.op id t p) x):x=.c (.op id (lX t p)):=by obtain⟨c,rfl,hc⟩:=iT (v:=.op id t p) hx rfl;obtain rfl:=(b_ hc).1;rfl
theorem rA{id m:Nat}{t:Ty}{p:pj}{x:TV}(hx:fL h (.ep id m t p) x):x=.c (.ep id m (lX t p)):=by obtain⟨c,rfl,hc⟩:=iT (v:=.ep id m t p) hx rfl;obtain rfl:=(b_ hc).1;rfl
theorem Do{id:Nat}{x:TV}(hx:fL h (.om id) x):x=.c (.om id):=by obtain⟨c,rfl,hc⟩:=iT (v:=.om id) hx rfl;obtain rfl:=(b_ hc).1;rfl
theorem rz{id:Nat}{c:C}{x:TV}(hx:fL h (.so id) x)(hc:zi id (fO h id)=some c):x=.c c:=by obtain⟨c',rfl,c2,h2,h3⟩:=iT (v:=.so id) hx rfl;obtain rfl:=(b_ h2).1;rw[h3.1 c hc]
theorem H8{id:Nat}{c:C}{x:TV}(hx:fL h (.sr id) x)(hc:Df id (fO h id)=some c):x=.c c:=by obtain⟨c',rfl,c2,h2,h3⟩:=iT (v:=.sr id) hx rfl;obtain rfl:=(b_ h2).1;rw[h3.1 c hc]
theorem rC{id:Nat}{t:Ty}{s:Sl (Sl (El t))}{ln:Option (Nat×Nat)}(ho:fO h id=some (.rw t s ln)):Df id (fO h id)=some (lC 1 (aS (.sl t)) id s):=by rw[ho];rfl
theorem pG{id ver lo:Nat}{t:Ty}{r:Sl (El t)}{x:TV}(hx:fL h (.sb id ver lo t r) x)(ha:gW h (.sb id ver lo t r)=true):x=.c (w_ id lo t r):=by obtain⟨c',rfl,c2,h2,h3⟩:=iT (v:=.sb id ver lo t r) hx rfl;obtain rfl:=(b_ h2).1;rw[h3.1 (Bool.and_eq_true_iff.1 ha).2]
theorem Dp{z:Bool}{f:Nat}{l:V}{x:TV}(hx:fL h (.fn z f l) x):(z=true/\∃ds,pV l=some ds/\x=.c (.d (.fn f ds)))\/(z=false/\∃cs,eU h l cs/\x=.c (.nW f cs)):=by obtain⟨c',rfl,hc⟩:=iT (v:=.fn z f l) hx rfl;cases z with|true=>obtain⟨ds,h2,h3⟩:=hc;exact .inl ⟨rfl,ds,h2,by rw[(b_ h3).1]⟩|false=>obtain⟨ds,h2,h3⟩:=hc;exact .inr ⟨rfl,ds,h2,by rw[(b_ h3).1]⟩
theorem M8{l:V}{x:TV}(hx:fL h (.tp l) x):∃xs,x=.iz xs/\Af h l xs:=hx
def Lj:V->Prop
 |.tp _|.no|.gn=>False
 |_=>True
theorem nU{v:V}{x:TV}(hv:Lj v)(hx:fL h v x):rB h v x:=by cases v<;>first|exact hx|exact hv.elim
theorem cf{v:V}{x:TV}(hx:rB h v x):fL h v x:=by cases v<;>first|exact hx|(obtain⟨cs,hc,_⟩:=hx;exact hc.elim)
theorem ML{v:V}{u:Ty}{y:El u}(hc:sE u v=some y):Lj v:=by cases v<;>first|trivial|(simp[sE,ko,gO]at hc)
theorem uE{v:V}{u:Ty}{y:El u}{x:TV}(hx:fL h v x)(hc:sE u v=some y):(mx u=true->x=.agg ((aS u y).map .d))/\(mx u=false->∃d,aS u y=[d]/\x=.c (.d d)):=by
 obtain⟨cs,h2,h3,h4⟩:=nU (ML hc) hx;have h5:=iG v false u y cs hc h2;have ha:=vE hc;constructor
 .intro hu;rw[h3 (ha.trans hu),h5]
 .intro hu;obtain⟨c,rfl,rfl⟩:=h4 (ha.trans hu);cases he:aS u y with
  |nil=>rw[he]at h5;simp at h5
  |cons d ds=>
   rw[he]at h5;simp only[List.map_cons,List.cons.injEq]at h5;obtain⟨rfl,h6⟩:=h5;have:ds=[]:=by simpa using h6.symm
   subst this;exact⟨d,rfl,rfl⟩
theorem MK{v:V}{x:TV}{a:Bool}(hx:fL h v x)(hc:sE .b v=some a):x=tB a:=by obtain⟨d,h1,rfl⟩:=(uE hx hc).2 rfl;obtain rfl:=(b_ h1).1;rfl
def lT(h:H2):List V->List TV->Prop
 |[],[]=>True
 |v::vs,x::xs=>fL h v x/\lT h vs xs
 |_,_=>False
theorem lf{xs:List TV}(hx:lT h [] xs):xs=[]:=by cases xs<;>first|rfl|exact hx.elim
theorem gx{v:V}{vs:List V}{xs:List TV}(hx:lT h (v::vs) xs):∃x ys,xs=x::ys/\fL h v x/\lT h vs ys:=by cases xs with|nil=>exact hx.elim|cons x ys=>exact⟨x,ys,rfl,hx.1,hx.2⟩
theorem iw{v:V}{xs:List TV}(hx:lT h [v] xs):∃x,xs=[x]/\fL h v x:=by obtain⟨x,ys,rfl,h1,h2⟩:=gx hx;obtain rfl:=lf h2;exact⟨x,rfl,h1⟩
theorem iN{v w:V}{xs:List TV}(hx:lT h [v,w] xs):∃x y,xs=[x,y]/\fL h v x/\fL h w y:=by obtain⟨x,ys,rfl,h1,h2⟩:=gx hx;obtain⟨y,rfl,h3⟩:=iw h2;exact⟨x,y,rfl,h1,h3⟩
theorem M7{v w z:V}{xs:List TV}(hx:lT h [v,w,z] xs):∃x y u,xs=[x,y,u]/\fL h v x/\fL h w y/\fL h z u:=by obtain⟨x,ys,rfl,h1,h2⟩:=gx hx;obtain⟨y,u,rfl,h3⟩:=iN h2;exact⟨x,y,u,rfl,h1,h3⟩
theorem H7:∀{vs:List V}{xs:List TV},lT h vs xs->(∀v∈vs,Lj v/\rZ v=false)->∃cs,eU h (cY vs) cs/\xs=cs.map TV.c:=by intro vs;induction vs with|nil=>intro xs hx _;obtain rfl:=lf hx;exact⟨[],rfl,rfl⟩|cons v vs ih=>intro xs hx hv;obtain⟨x,ys,rfl,h1,h2⟩:=gx hx;obtain⟨hp,ha⟩:=hv v (by simp);obtain⟨c,rfl,h3⟩:=iT (nU hp h1) ha;obtain⟨cs,h4,rfl⟩:=ih h2 fun w hw=>hv w (by simp[hw]);exact⟨c::cs,⟨[c],cs,rfl,h3,h4⟩,rfl⟩
theorem tC{id:Nat}{q:(t:Ty)×Sl (El t)×List Nat}(hs:sJ h (.so id)=some q):∃ver,(fO h id=some (.ar q.1 q.2.1 ver)\/fO h id=some (.im q.1 q.2.1 ver))/\q.2.2=[id]:=by
 simp only[sJ]at hs;split at hs
 .rename_i t s v ho;obtain rfl:=aa hs;exact⟨v,.inl ho,rfl⟩
 .rename_i t s v ho;obtain rfl:=aa hs;exact⟨v,.inr ho,rfl⟩
 .simp at hs
theorem lB{id ver:Nat}{t:Ty}{s:Sl (El t)}(ho:fO h id=some (.ar t s ver)\/fO h id=some (.im t s ver)):zi id (fO h id)=some (lC (bR t) (aS t) id s):=by rcases ho with ho|ho<;>rw[ho]<;>rfl
theorem NN{id lo nx:Nat}{t:Ty}{r:Sl (El t)}{c:Call}{H:bE}:cA c (.len false) [some (.c (w_ id lo t r))] H nx=some (tI .i64 r.l.length,[],[],nx):=by cases r with|nil=>rfl|mk l=>simp[cA,sY,w_,Sl.l,lv]
theorem NL{v:V}{x:TV}{q:(t:Ty)×Sl (El t)×List Nat}{c:Call}{H:bE}{nx:Nat}(hx:fL h v x)(ha:gW h v=true)(hs:sJ h v=some q):
  cA c (.len false) [some x] H nx=some (tI .i64 q.2.1.l.length,[],[],nx):=by
 cases v with
 |x t s=>cases t with|sl t=>obtain rfl:=aa hs;rw[wP hx];exact NM|_=>simp[sJ]at hs
 |so id=>obtain⟨ver,ho,_⟩:=tC hs;rw[rz hx (lB ho)];exact ME
 |sb id ver lo t r=>obtain rfl:=aa hs;rw[pG hx ha];exact NN
 |_=>simp[sJ]at hs
theorem Jp{id lo nx:Nat}{t:Ty}{r:Sl (El t)}{c:Call}{H:bE}{neg:Bool}:cA c (.qk 0 neg) [some (.c (w_ id lo t r))] H nx=some (tB (if neg then !r.fC else r.fC),[],[],nx):=by cases r<;>rfl
theorem ND{v:V}{x:TV}{q:(t:Ty)×Sl (El t)×List Nat}{c:Call}{H:bE}{nx:Nat}{neg:Bool}(hx:fL h v x)(ha:gW h v=true)(hs:sJ h v=some q):
  cA c (.qk 0 neg) [some x] H nx=some (tB (if neg then !q.2.1.fC else q.2.1.fC),[],[],nx):=by
 cases v with
 |x t s=>cases t with|sl t=>obtain rfl:=aa hs;rw[wP hx];exact NE|_=>simp[sJ]at hs
 |so id=>obtain⟨ver,ho,_⟩:=tC hs;rw[rz hx (lB ho)];exact Pa
 |sb id ver lo t r=>obtain rfl:=aa hs;rw[pG hx ha];exact Jp
 |_=>simp[sJ]at hs
theorem nB{g:Bool}{m:Nat}{w:V}(hc:EU h g m w=true):rZ w=g/\wU w=m/\(g=false->m=1)/\gW h w=true:=by
 simp only[EU,ai,beq_iff_eq,Bool.or_eq_true]at hc;obtain⟨⟨⟨h1,h2⟩,h3⟩,h4⟩:=hc;refine⟨h1,h2,fun e=>?_,h4⟩;rcases h3 with h3|h3
 .rw [e]at h3;cases h3
 .exact h3
theorem oR{g:Bool}{m off:Nat}{cs cw:List C}{w:V}(hc:EU h g m w=true)(hw:eU h w cw)(hle:off+m<=cs.length)(he:(cs.drop off).take m=cw):∃x,Cq g m (cs.drop off)=some x/\fL h w x:=by
 obtain⟨ha,hs,hm,_⟩:=nB hc;cases g with
 |true=>refine⟨.agg cw,?_,cf (wR ha hw)⟩;simp only[Cq,if_true];rw[if_pos (by simp;omega),he]
 |false=>obtain rfl:=hm rfl;cases hd:cs.drop off with|nil=>have:=congrArg List.length hd;simp at this;omega|cons c r=>rw[hd]at he;subst he;exact⟨.c c,rfl,cf (dJ ha hw)⟩
theorem AD{g:Bool}{m:Nat}{ds:List D}:MF g m ds=Cq g m (ds.map .d):=by
 unfold MF Cq;cases g
 .cases ds<;>simp
 .simp
theorem vo{p w:V}{l:List Nat}{g:Bool}{m nx:Nat}{c:Call}{x:TV}(hr:HR n h1 h)(hl:xJ h p=some (w,l))(hc:EU h g m w=true)(hx:fL h p x)(hok:eS n h p):
  ∃y,cA c (.load g m) [some x] h1 nx=some (y,[],l,nx)/\fL h w y/\eS n h w:=by
 cases p with
 |pt t v=>obtain⟨rfl,rfl⟩:=ad (aa hl);obtain⟨hd,rfl⟩:=wQ hx;obtain⟨_,hs,_,_⟩:=nB hc;have hs':bR t=m:=hs;obtain⟨y,h2,h3⟩:=oR (cs:=(aS t v).map .d) (off:=0) hc (show eU h (.x t v) ((aS t v).map .d)from⟨hd,rfl⟩) (by simp[bK];omega) (by rw[cq,eu (by simp[bK];omega)]);refine⟨y,?_,h3,trivial⟩;rw[cq,<-AD]at h2;simp only[cA,gL,h2]
 |op id t p=>
  obtain rfl:=uW hx;simp only[xJ]at hl;split at hl
  .rename_i u cc ho;obtain⟨_,hb,hko⟩:=hr.ob id _ ho;obtain⟨cs,h2,h3,h4⟩:=hb;by_cases hu:u=t
   .subst hu;simp only[decide_true,cond_true]at hl;split at hl
    .rename_i w' hw;obtain⟨rfl,rfl⟩:=ad (aa hl);obtain⟨a,cw,q1,q2,q3,q4,q5⟩:=vz p cc u w' cs h4 h3 hok.2 hw;obtain⟨_,hs,_,_⟩:=nB hc;rw[gz _ _ _ q2]at hs;subst hs;obtain⟨y,h5,h6⟩:=oR hc q3 q4 q5;refine⟨y,?_,h6,AK p cc w' hko hw⟩;simp only[cA,gL,h2,h5]
    .simp at hl
   .simp [hu]at hl
  .rename_i u v ho;obtain⟨_,hb,hko⟩:=hr.ob id _ ho;obtain⟨hd,h2⟩:=hb;by_cases hu:u=t
   .subst hu;simp only[decide_true,cond_true]at hl;split at hl
    .rename_i w' hw;obtain⟨rfl,rfl⟩:=ad (aa hl);obtain⟨a,cw,q1,q2,q3,q4,q5⟩:=vz (h:=h) p (.x u v) u w' ((aS u v).map .d) (by simp[ei]) ⟨hd,rfl⟩ hok.2 hw;obtain⟨_,hs,_,_⟩:=nB hc;rw[gz _ _ _ q2]at hs;subst hs;obtain⟨y,h5,h6⟩:=oR hc q3 q4 q5;refine⟨y,?_,h6,AK p (.x u v) w' trivial hw⟩;rw[<-fV,<-AD]at h5;simp only[cA,gL,h2,h5]
    .simp at hl
   .simp [hu]at hl
  .simp at hl
 |ep id k t p=>
  obtain rfl:=rA hx;obtain⟨_,hp,hk,_⟩:=hok
  have main:∀(u:Ty)(s:Sl (El u))(ver:Nat),(fO h id=some (.ar u s ver)\/fO h id=some (.im u s ver))->(bif decide (u=t)then(match oW (.x u (gt s.l k)) p with|some w=>some (w,[id])|none=>none)else none)=some (w,l)->
    ∃y,cA c (.load g m) [some (.c (.ep id k (lX t p)))] h1 nx=some (y,[],l,nx)/\fL h w y/\eS n h w:=by
   intro u s ver ho hl;have hlt:=hk u s ver ho;by_cases hu:u=t
   .subst hu;simp only[decide_true,cond_true]at hl;split at hl
    .rename_i w' hw;obtain⟨rfl,rfl⟩:=ad (aa hl);cases s with
     |nil=>simp[Sl.l]at hlt
     |mk ls=>
     have hrow:(ls.map (aS u))[k]?=some (aS u (gt ls k)):=AH hlt;have hd:kf u=true:=by rcases ho with ho|ho<;>exact(hr.ob id _ ho).2.1.1
     obtain⟨a,cw,q1,q2,q3,q4,q5⟩:=vz (h:=h) p (.x u (gt ls k)) u w' ((aS u (gt ls k)).map .d) (by simp[ei]) ⟨hd,rfl⟩ hp hw;obtain⟨_,hs,_,_⟩:=nB hc;rw[gz _ _ _ q2]at hs;subst hs;obtain⟨y,h5,h6⟩:=oR hc q3 q4 q5;refine⟨y,?_,h6,AK p (.x u (gt ls k)) w' trivial hw⟩;rw[<-fV,<-AD]at h5;rcases ho with ho|ho
     .have h2:=(hr.ob id _ ho).2.1.2.2 ls rfl;simp only[cA,gL,h2,hrow,h5]
     .have h2:=(hr.ob id _ ho).2.1.2.2 ls rfl;simp only[cA,gL,h2,hrow,h5]
    .simp at hl
   .simp [hu]at hl
  simp only[xJ]at hl;split at hl
  .rename_i u s ver ho;exact main u s ver (.inl ho) hl
  .rename_i u s ver ho;exact main u s ver (.inr ho) hl
  .simp at hl
 |_=>simp[xJ]at hl
end
end Go.Ev
