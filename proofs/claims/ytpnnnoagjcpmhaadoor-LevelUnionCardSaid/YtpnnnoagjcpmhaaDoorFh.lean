/- Typed data by codes: the types, the values that a frame holds, its objects, and how they are laid into the abstract machine's. Conditions: none, these are definitions. -/
import Derived.Test.YtpnnnoagjcpmhaaDoorEvY
open Bool renaming and_eq_true->af
open List renaming append_assoc->aP,append_nil->bi,drop_append_of_le_length->dR,drop_drop->dp,drop_length->fm,drop_zero->cA,flatMap_cons->bf,length_append->aG,length_map->aI,length_replicate->cP,map_drop->fx,map_take->fZ,nil_append->bo,replicate->az,take_of_length_le->dn
open List.cons renaming inj->bW
open Nat renaming add_assoc->ct,add_mul->bI,beq->jy,ble->gm,blt->gH,le_refl->ao,mul_le_mul_right->aH
open Option.some renaming inj->aa
open Prod.mk renaming inj->ad
open Sigma.mk renaming inj->il
noncomputable section
namespace Go.Ev
inductive Ty where
 |i (k:IntKind)
 |b
 |s
 |f (k:FloatKind)
 |sl (t:Ty)
 |mp (k v:Ty)
 |un
 |pr (a c:Ty)
 |st (t:Ty)
 |ar (n:Nat) (t:Ty)
 |o (k:Nat)
 deriving Inhabited,DecidableEq
def Arr(n:Nat)(α:Type):Type:={l:List α//l.length=n}
def Arr.set{n:Nat}{α:Type}(v:Arr n α)(k:Nat)(x:α):Arr n α:=⟨v.1.set k x,by rw[List.length_set];exact v.2⟩
instance{n:Nat}{α:Type}[Inhabited α]:Inhabited (Arr n α):=⟨⟨az n default,cP⟩⟩
instance{n:Nat}{α:Type}[DecidableEq α]:DecidableEq (Arr n α):=inferInstanceAs (DecidableEq {l:List α//l.length=n})
@[reducible] def El:Ty->Type
 |.i _=>Int
 |.b=>Bool
 |.s=>ByteArray
 |.f _=>Nat
 |.sl t=>Sl (El t)
 |.mp k v=>Mp (El k) (El v)
 |.un=>Unit
 |.pr a c=>El a×El c
 |.st t=>El t
 |.ar n t=>Arr n (El t)
 |.o _=>Unit
instance Fm:(t:Ty)->Inhabited (El t)
 |.i _=>⟨(0:Int)⟩
 |.b=>⟨false⟩
 |.s=>⟨(default:ByteArray)⟩
 |.f _=>⟨(0:Nat)⟩
 |.sl _=>⟨Sl.nil⟩
 |.mp _ _=>⟨Mp.none⟩
 |.un=>⟨()⟩
 |.pr a c=>⟨((Fm a).default,(Fm c).default)⟩
 |.st t=>Fm t
 |.ar n t=>⟨⟨az n (Fm t).default,cP⟩⟩
 |.o _=>⟨()⟩
def qt:(t:Ty)->El t
 |.i _=>(0:Int)
 |.b=>false
 |.s=>(ByteArray.empty)
 |.f _=>(0:Nat)
 |.sl _=>Sl.nil
 |.mp _ _=>Mp.none
 |.un=>()
 |.pr a c=>(qt a,qt c)
 |.st t=>qt t
 |.ar n t=>⟨az n (qt t),cP⟩
 |.o _=>()
def fk(t u:Ty)(v:El t):Option (El u):=if h:t=u then some (h▸v)else none
def bm:Ty->Nat
 |.un=>0
 |.pr a c=>bm a+bm c
 |.st t=>bm t
 |.ar n t=>n*bm t
 |_=>1
def je:Ty->Bool
 |.o _|.mp _ _=>false
 |.pr a c=>je a&&je c
 |.st t|.ar _ t|.sl t=>je t
 |_=>true
def lH:Ty->Bool
 |.st _|.ar _ _=>true
 |_=>false
def aM:(t:Ty)->El t->List D
 |.i k,x=>[.lit (.int k x)]
 |.b,x=>[.lit (.bool x)]
 |.s,x=>[.lit (.string x)]
 |.f k,x=>[.lit (.float k x)]
 |.sl t,x=>[tV (bm t) (aM t) x]
 |.mp _ _,_=>[.lit .nilFunc]
 |.un,_=>[]
 |.pr a c,x=>aM a x.1++aM c x.2
 |.st t,x=>aM t x
 |.ar _ t,x=>x.1.flatMap (aM t)
 |.o _,_=>[.lit .nilFunc]
inductive Pe where
 |fd (i:Nat)
 |ix (n:Nat)
abbrev nZ:=List Pe
inductive V where
 |x (t:Ty) (v:El t)
 |kb (c:Bool)
 |nl (k:Nat)
 |so (id:Nat)
 |sr (id:Nat)
 |sb (id ver lo:Nat) (t:Ty) (r:Sl (El t))
 |op (id:Nat) (t:Ty) (p:nZ)
 |ep (id n:Nat) (t:Ty) (p:nZ)
 |pt (t:Ty) (v:El t)
 |fn (z:Bool) (f:Nat) (caps:V)
 |om (id:Nat)
 |rc (l:V)
 |tp (l:V)
 |ni
 |co (a r:V)
 |fl (l:List Value)
 |no
 |gn
inductive O where
 |ar (t:Ty) (s:Sl (El t)) (ver:Nat)
 |im (t:Ty) (s:Sl (El t)) (ver:Nat)
 |bx (t:Ty) (c:V)
 |ib (t:Ty) (v:El t)
 |mp (k v:Ty) (m:Mp (El k) (El v))
 |rw(t:Ty) (s:Sl (Sl (El t))) (ln:Option (Nat×Nat))
abbrev H2:=List (Nat×Option O)
def fO(h:H2)(id:Nat):Option O:=(bX h id).join
def xZ:(t:Ty)->El t->Nat->Option V
 |.pr a _,v,0=>some (.x a v.1)
 |.pr _ c,v,n+1=>xZ c v.2 n
 |t,v,0=>some (.x t v)
 |_,_,_=>none
def AB:Ty->Nat->Option Ty
 |.pr a _,0=>some a
 |.pr _ c,n+1=>AB c n
 |t,0=>some t
 |_,_=>none
def mS:Ty->Nat->Nat
 |.pr _ _,0=>0
 |.pr a c,n+1=>bm a+mS c n
 |_,_=>0
def FO:(t:Ty)->El t->V
 |.pr a c,v=>.co (.x a v.1) (FO c v.2)
 |t,v=>.co (.x t v) .ni
def PV(k:IntKind):List Value->Option (Int×List Value)
 |.int k' n::r=>if k'=k then some (n,r)else none
 |_=>none
def PW:List Value->Option (Bool×List Value)
 |.bool c::r=>some (c,r)
 |_=>none
def PT:List Value->Option (ByteArray×List Value)
 |.string c::r=>some (c,r)
 |_=>none
def M1(k:FloatKind):List Value->Option (Nat×List Value)
 |.float k' n::r=>if k'=k then some (n,r)else none
 |_=>none
def PU{α:Type}:List Value->Option (Sl α×List Value)
 |.slice none 0 0::r=>some (Sl.nil,r)
 |_=>none
def Mf{α:Type}(f:List Value->Option (α×List Value)):(m:Nat)->List Value->Option (Arr m α×List Value)
 |0,l=>some (⟨[],rfl⟩,l)
 |m+1,l=>match f l with|some (x,l)=>(match Mf f m l with|some (v,l)=>some (⟨x::v.1,by rw[List.length_cons,v.2]⟩,l)|none=>none)|none=>none
def sA:(t:Ty)->List Value->Option (El t×List Value)
 |.i k=>PV k
 |.b=>PW
 |.s=>PT
 |.f k=>M1 k
 |.sl _=>PU
 |.pr a c=>fun l=>match sA a l with|some (x,l)=>(match sA c l with|some (y,l)=>some ((x,y),l)|none=>none)|none=>none
 |.st t=>sA t
 |.ar n t=>Mf (sA t) n
 |.mp _ _|.un|.o _=>fun _=>none
def gi(u:Ty):V->Option (El u)
 |.x t v=>fk t u v
 |.kb c=>fk .b u c
 |.nl 0=>(match u with|.sl _=>some Sl.nil|_=>none)
 |.fl l=>bif lH u then(match sA u l with|some (x,[])=>some x|_=>none)else none
 |_=>none
def FZ:(t:Ty)->El t->Nat->V->Option (El t)
 |.pr a _,v,0,w=>match gi a w with|some y=>some (y,v.2)|none=>none
 |.pr _ c,v,n+1,w=>match FZ c v.2 n w with|some y=>some (v.1,y)|none=>none
 |t,_,0,w=>gi t w
 |_,_,_,_=>none
def ql:V->Nat->Option V
 |.co a _,0=>some a
 |.co _ r,n+1=>ql r n
 |_,_=>none
def Ih:V->Nat->V->V
 |.co _ r,0,w=>.co w r
 |.co a r,n+1,w=>.co a (Ih r n w)
 |l,_,_=>l
def nN:V->nZ->Option V
 |v,[]=>some v
 |.x (.st t) v,.fd i::p=>match xZ t v i with|some w=>nN w p|none=>none
 |.x (.ar _ t) v,.ix k::p=>nN (.x t (gt v.1 k)) p
 |.rc l,.fd i::p=>match ql l i with|some w=>nN w p|none=>none
 |_,_=>none
def mG:V->nZ->V->Option V
 |_,[],w=>some w
 |.x (.st t) v,.fd i::p,w=>
  match xZ t v i with
  |some y=>match mG y p w with|some y'=>(match FZ t v i y' with|some v'=>some (.x (.st t) v')|none=>some (.rc (Ih (FO t v) i y')))|none=>none
  |none=>none
 |.x (.ar n t) v,.ix k::p,w=>match mG (.x t (gt v.1 k)) p w with|some y=>(match gi t y with|some y'=>some (.x (.ar n t) (v.set k y'))|none=>none)|none=>none
 |.rc l,.fd i::p,w=>match ql l i with|some y=>(match mG y p w with|some y'=>some (.rc (Ih l i y'))|none=>none)|none=>none
 |_,_,_=>none
def pA:Ty->nZ->Option Ty
 |t,[]=>some t
 |.st t,.fd i::p=>match AB t i with|some u=>pA u p|none=>none
 |.ar _ t,.ix _::p=>pA t p
 |_,_=>none
def k_:Ty->nZ->Nat
 |.st t,.fd i::p=>mS t i+(match AB t i with|some u=>k_ u p|none=>0)
 |.ar _ t,.ix k::p=>k*bm t+k_ t p
 |_,_=>0
def Gq:Ty->nZ->Prop
 |.st t,.fd i::p=>∃u,AB t i=some u/\Gq u p
 |.ar n t,.ix k::p=>k<n/\Gq t p
 |_,[]=>True
 |_,_=>False
def zg:Ty->V×V
 |.pr a c=>(.no,.co (zg a).1 (zg c).2)
 |.st t=>(bif je t then .x (.st t) (qt t)else .rc (zg t).2,.co (bif je t then .x (.st t) (qt t)else .rc (zg t).2) .ni)
 |.o k=>(.nl k,.co (.nl k) .ni)
 |.mp _ _=>(.nl 3,.co (.nl 3) .ni)
 |.sl t=>(bif je t then .x (.sl t) Sl.nil else .nl 0,.co (bif je t then .x (.sl t) Sl.nil else .nl 0) .ni)
 |.ar n t=>(bif je t then .x (.ar n t) (qt (.ar n t))else .no,.co (bif je t then .x (.ar n t) (qt (.ar n t))else .no) .ni)
 |.un=>(.x .un (),.co (.x .un ()) .ni)
 |.i k=>(.x (.i k) (0:Int),.co (.x (.i k) (0:Int)) .ni)
 |.b=>(.x .b false,.co (.x .b false) .ni)
 |.s=>(.x .s ByteArray.empty,.co (.x .s ByteArray.empty) .ni)
 |.f k=>(.x (.f k) (0:Nat),.co (.x (.f k) (0:Nat)) .ni)
abbrev MK(t:Ty):V:=(zg t).1
def yD(k:Nat):C:=.d (.lit (match k with|0=>.slice none 0 0|1=>.pointer none|2=>.nilFunc|3=>.map none|_=>.nilIface))
def yj(id:Nat):Option O->Option C
 |some (.ar t s _)=>some (jm (bm t) (aM t) id s)
 |some (.im t s _)=>some (jm (bm t) (aM t) id s)
 |_=>none
def lK(t:Ty):Sl (El t)->jf
 |.nil=>.nil
 |.mk l=>.bn (l.map (aM t))
def xT{α:Type}(id:Nat):Sl α->jf
 |.nil=>.nil
 |.mk l=>.jZ id l.length
def di(t:Ty)(l:List (Sl (El t))):Option (Nat×Nat)->List jf
 |none=>l.map (lK t)
 |some (m,id)=>(l.map (lK t)).set m (xT id (gt l m))
def xB(id:Nat):Option O->Option C
 |some (.rw t s _)=>some (jm 1 (aM (.sl t)) id (s:Sl (Sl (El t))))
 |_=>none
def v7(id lo:Nat)(t:Ty):Sl (El t)->C
 |.nil=>.d (.lit (.slice none 0 0))
 |.mk l=>.dz (bm t) id lo (l.map (aM t)).length
def oU:V->Option (List D)
 |.pt t v=>if je t then some [.pt (aM t v)]else none
 |.ni=>some []
 |.co a r=>match oU a,oU r with|some x,some y=>some (x++y)|_,_=>none
 |_=>none
def qS:V->Bool
 |.x t _=>lH t
 |.rc _|.fl _=>true
 |_=>false
deriving instance DecidableEq for Mp
instance w8:(t:Ty)->DecidableEq (El t)
 |.i _=>inferInstanceAs (DecidableEq Int)
 |.b=>inferInstanceAs (DecidableEq Bool)
 |.s=>inferInstanceAs (DecidableEq ByteArray)
 |.f _=>inferInstanceAs (DecidableEq Nat)
 |.sl t=>@instDecidableEqSl (El t) (w8 t)
 |.mp k v=>@instDecidableEqMp (El k) (El v) (w8 k) (w8 v)
 |.un=>inferInstanceAs (DecidableEq Unit)
 |.pr a c=>@instDecidableEqProd (El a) (El c) (w8 a) (w8 c)
 |.st t=>w8 t
 |.ar n t=>@instDecidableEqArr n (El t) (w8 t)
 |.o _=>inferInstanceAs (DecidableEq Unit)
structure S2 where
 db:List (Nat×V)
 heap:H2
 next:Nat
 wo:List Nat
 gh:V
structure OP where
 o:mj
 t:Ty
 fi:List Nat
def Ar:V->Bool
 |.pt t _=>je t
 |.ni=>true
 |.co a r=>Ar a&&Ar r
 |_=>false
def gu(h:H2):V->Bool
 |.x t _=>je t
 |.pt t _=>je t
 |.kb _|.nl _=>true
 |.op id _ _|.ep id _ _ _|.om id=>(match fO h id with|some _=>true|none=>false)
 |.so id=>(match fO h id with|some (.ar _ _ _)|some (.im _ _ _)=>true|_=>false)
 |.sr id=>(match fO h id with|some (.rw _ _ _)=>true|_=>false)
 |.sb id ver _ t _=>je t&&(match fO h id with|some (.ar _ _ v)|some (.im _ _ v)=>v==ver|_=>false)
 |.fn true _ l=>Ar l
 |.fn false _ l=>gu h l
 |.rc l|.tp l=>gu h l
 |.fl l=>l.all dP
 |.ni=>true
 |.co a r=>gu h a&&gu h r
 |.no|.gn=>false
def Qf:Value->Option V
 |.bool c=>some (.kb c)
 |.int k n=>some (.x (.i k) n)
 |.float k n=>some (.x (.f k) n)
 |.string s=>some (.x .s s)
 |.pointer none=>some (.nl 1)
 |.slice none 0 0=>some (.nl 0)
 |.nilFunc=>some (.nl 2)
 |.map none=>some (.nl 3)
 |.nilIface=>some (.nl 4)
 |.agg cs=>if cs.toList.all dP then some (.fl cs.toList)else none
 |_=>none
def Jv:Nat->Option V:=fun g => if g = 0 then some (.pt (.ar 32 (.i .u8)) (⟨[0, 1, 28, 2, 29, 14, 24, 3, 30, 22, 20, 15, 25, 17, 4, 8, 31, 27, 13, 23, 21, 19, 16, 7, 26, 12, 18, 6, 11, 5, 10, 9], rfl⟩ : Arr 32 Int)) else none
def Hy(e:List (Nat×V))(h:H2):Operand->Option V
 |.tmp t=>match bX e t with|some v=>bif gu h v then some v else none|none=>none
 |.const c=>Qf c
 |.global g=>Jv g
 |.func f=>some (.fn true f .ni)
def vO:V->Nat
 |.x t _=>bm t
 |.rc l=>vO l
 |.co a r=>vO a+vO r
 |.ni=>0
 |.fl l=>l.length
 |_=>1
def L7:V->Nat->Nat
 |.co a r,n+1=>vO a+L7 r n
 |_,_=>0
def cC:List V->V
 |[]=>.ni
 |v::r=>.co v (cC r)
def yg:V->List V
 |.co a r=>a::yg r
 |_=>[]
def js:V->Bool->(u:Ty)->Option (El u)
 |.rc l,false,.st u=>js l true u
 |.co a r,true,.pr t u=>match js a false t,js r true u with|some x,some y=>some (x,y)|_,_=>none
 |.co a .ni,true,u=>js a false u
 |.ni,_,_=>none
 |v,false,u=>gi u v
 |_,_,_=>none
abbrev rn(u:Ty)(v:V):Option (El u):=js v false u
def dW:V->Bool->Ty->Bool
 |.x u _,false,t=>decide (u=t)
 |.rc l,false,.st t=>dW l true t
 |.co a r,true,.pr t u=>dW a false t&&dW r true u
 |.co a .ni,true,t=>dW a false t
 |.kb _,false,.b=>true
 |.nl 0,false,.sl _|.so _,false,.sl _|.sr _,false,.sl _|.sb _ _ _ _ _,false,.sl _=>true
 |.nl 3,false,.mp _ _|.om _,false,.mp _ _=>true
 |.nl _,false,.o _|.op _ _ _,false,.o _|.ep _ _ _ _,false,.o _|.pt _ _,false,.o _|.fn _ _ _,false,.o _=>true
 |_,_,_=>false
def KO(t:Ty)(v:V):Option V:=match(bif je t then gi t v else none)with|some y=>some (.x t y)|none=>bif dW v false t then some v else none
def ry(h:H2):V->Option ((t:Ty)×Sl (El t)×List Nat)
 |.x (.sl t) s=>some ⟨t,s,[]⟩
 |.so id=>(match fO h id with|some (.ar t s _)|some (.im t s _)=>some ⟨t,s,[id]⟩|_=>none)
 |.sb id _ _ t r=>some ⟨t,r,[id]⟩
 |_=>none
def H4(t:Ty)(h:H2):V->Option ((t:Ty)×Sl (El t)×List Nat)
 |.nl 0=>some ⟨t,Sl.nil,[]⟩
 |v=>ry h v
def ie(h:H2):V->Option (V×List Nat)
 |.so id=>match ry h (.so id)with|some ⟨t,s,l⟩=>some (.x (.sl t) s,l)|none=>none
 |.sr id=>match fO h id with|some (.rw t s none)=>some (.x (.sl (.sl t)) s,[id])|_=>none
 |.sb id ver lo t r=>match ry h (.sb id ver lo t r)with|some ⟨t,s,l⟩=>some (.x (.sl t) s,l)|none=>none
 |.rc l=>match ie h l with|some (w,l)=>some (.rc w,l)|none=>none
 |.co a r=>match ie h a,ie h r with|some (x,l),some (y,m)=>some (.co x y,l++m)|_,_=>none
 |.x t v=>some (.x t v,[])
 |.kb c=>some (.kb c,[])
 |.nl k=>some (.nl k,[])
 |.fl l=>some (.fl l,[])
 |.ni=>some (.ni,[])
 |.fn true f l=>some (.fn true f l,[])
 |.pt t v=>some (.pt t v,[])
 |_=>none
def Rr(c:Bool):V->V->Option V
 |.kb a,.kb b=>some (.x .b (bif c then a else b))
 |.x t a,w=>match rn t w with|some b=>some (.x t (bif c then a else b))|none=>none
 |w,.x t b=>match rn t w with|some a=>some (.x t (bif c then a else b))|none=>none
 |_,_=>none
def Qi:Value->Value->Bool
 |.bool a,.bool b=>a==b
 |.int k a,.int k' b=>decide (k=k')&&a==b
 |.float k a,.float k' b=>decide (k=k')&&a==b
 |.string a,.string b=>decide (a=b)
 |.pointer none,.pointer none|.slice none 0 0,.slice none 0 0|.nilFunc,.nilFunc|.map none,.map none|.nilIface,.nilIface=>true
 |_,_=>false
def rx:List Value->List Value->Bool
 |[],[]=>true
 |a::r,b::s=>Qi a b&&rx r s
 |_,_=>false
def lJ:Ty->List Value
 |.i k=>[.int k 0]
 |.b=>[.bool false]
 |.s=>[.string ByteArray.empty]
 |.f k=>[.float k 0]
 |.sl _=>[.slice none 0 0]
 |.mp _ _=>[.map none]
 |.un=>[]
 |.pr a c=>lJ a++lJ c
 |.st t=>lJ t
 |.ar n t=>(az n (lJ t)).flatten
 |.o k=>[match k with|0=>.slice none 0 0|1=>.pointer none|2=>.nilFunc|3=>.map none|_=>.nilIface]
def BQ:Ty->Option (List Kd)
 |.i k=>some [.i k]
 |.b=>some [.b]
 |.s=>some [.s]
 |.pr a c=>match BQ a,BQ c with|some x,some y=>some (x++y)|_,_=>none
 |.st t=>BQ t
 |.ar n t=>match BQ t with|some x=>some ((az n x).flatten)|none=>none
 |_=>none
def OQ(z:Bool)(op:BinOp)(k k':IntKind)(a b:Int):Option V:=
 match op with
 |.shl=>bif z then some (.x (.i k) (OT k a b))else none
 |.shr=>bif z then some (.x (.i k) (Ks k a b))else none
 |op=>bif decide (k=k')then(match op with
  |.add=>some (.x (.i k) (wr k (a+b)))
  |.sub=>some (.x (.i k) (wr k (a-b)))
  |.mul=>some (.x (.i k) (wr k (a*b)))
  |.quo=>bif z then some (.x (.i k) (wr k (a.tdiv b)))else none
  |.rem=>bif z then some (.x (.i k) (a.tmod b))else none
  |.and=>some (.x (.i k) (Hs k a b))
  |.or=>some (.x (.i k) (Pb k a b))
  |.xor=>some (.x (.i k) (OS k a b))
  |.andNot=>some (.x (.i k) (qb k a b))
  |.eql=>some (.x .b (a==b))
  |.neq=>some (.x .b (a !=b))
  |.lss=>some (.x .b (decide (a<b)))
  |.leq=>some (.x .b (decide (a<=b)))
  |.gtr=>some (.x .b (decide (a>b)))
  |.geq=>some (.x .b (decide (a>=b)))
  |_=>none)else none
def RF(k:FloatKind)(a b:Nat):Nat:=(k.format.add a b).getD (rz k)
def Rz(k:FloatKind)(a b:Nat):Nat:=(k.format.sub a b).getD (rz k)
def RB(k:FloatKind)(a b:Nat):Nat:=(k.format.mul a b).getD (rz k)
def RE(k:FloatKind)(a b:Nat):Nat:=(k.format.div a b).getD (rz k)
def Qd(k:FloatKind)(a b:Nat):Bool:=k.format.order a b==some .eq
def R3(k:FloatKind)(a b:Nat):Bool:=k.format.order a b==some .lt
def R4(k:FloatKind)(a b:Nat):Bool:=k.format.order a b==some .gt
def Oi(k:FloatKind)(a b:Nat):Nat:=match k.format.order a b with|none=>rz k|some .lt=>a|some .gt=>b|some .eq=>if(k.decode a).neg then a else b
def Oj(k:FloatKind)(a b:Nat):Nat:=match k.format.order a b with|none=>rz k|some .lt=>b|some .gt=>a|some .eq=>if(k.decode a).neg then b else a
def Kl(op:BinOp)(k k':FloatKind)(a b:Nat):Option V:=
 bif decide (k=k')then(match op with
  |.add=>some (.x (.f k) (RF k a b))
  |.sub=>some (.x (.f k) (Rz k a b))
  |.mul=>some (.x (.f k) (RB k a b))
  |.quo=>some (.x (.f k) (RE k a b))
  |.eql=>some (.x .b (Qd k a b))
  |.neq=>some (.x .b (!(Qd k a b)))
  |.lss=>some (.x .b (R3 k a b))
  |.leq=>some (.x .b (R3 k a b||Qd k a b))
  |.gtr=>some (.x .b (R4 k a b))
  |.geq=>some (.x .b (R4 k a b||Qd k a b))
  |_=>none)else none
def OO(op:BinOp)(x y:ByteArray):Option V:=match op with|.eql=>some (.x .b (x.toList==y.toList))|.neq=>some (.x .b (!(x.toList==y.toList)))|.lss=>some (.x .b (Op.bytesLess x.toList y.toList))|.leq=>some (.x .b (Op.bytesLess x.toList y.toList||x.toList==y.toList))|.gtr=>some (.x .b (!(Op.bytesLess x.toList y.toList||x.toList==y.toList)))|.geq=>some (.x .b (!(Op.bytesLess x.toList y.toList)))|_=>none
def Lw:List Operand->Bool
 |[_,.const (.int _ n)]=>decide (n>0)
 |_=>false
def O9(m:Bool)(k:IntKind):Int->List V->Option Int
 |x,[]=>some x
 |x,.x (.i k') y::r=>bif decide (k'=k)then O9 m k (bif m then(if y>x then y else x)else(if y<x then y else x)) r else none
 |_,_=>none
def GA(m:Bool)(k:FloatKind):Nat->List V->Option Nat
 |x,[]=>some x
 |x,.x (.f k') y::r=>bif decide (k'=k)then GA m k (bif m then Oj k x y else Oi k x y) r else none
 |_,_=>none
def wH(h:H2):V->Option (V×List Nat)
 |.pt t v=>some (.x t v,[])
 |.op id t p=>(match fO h id with
  |some (.bx u c)=>bif decide (u=t)then(match nN c p with|some w=>some (w,[id])|none=>none)else none
  |some (.ib u v)=>bif decide (u=t)then(match nN (.x u v) p with|some w=>some (w,[id])|none=>none)else none
  |_=>none)
 |.ep id n t p=>(match fO h id with
  |some (.ar u s _)|some (.im u s _)=>bif decide (u=t)then(match nN (.x u (gt s.l n)) p with|some w=>some (w,[id])|none=>none)else none
  |_=>none)
 |_=>none
def wD(h:H2)(kind:Nat):V->Option V
 |.nl k=>bif(k==kind)&&gH k 3 then some (.kb true)else none
 |.pt _ _|.op _ _ _|.ep _ _ _ _=>bif kind==1 then some (.kb false)else none
 |.fn _ _ _=>bif kind==2 then some (.kb false)else none
 |v=>bif kind==0 then(match ry h v with|some ⟨_,s,_⟩=>some (.x .b s.eC)|none=>none)else none
def IK:V->V
 |.kb c=>.kb (!c)
 |.x .b c=>.x .b (!c)
 |v=>v
def DZ(off n:Nat)(i:Nat):V->Option V
 |.op id t p=>(match pA t p with
  |some (.st u)=>(match AB u i with|some w=>bif(mS u i==off)&&(bm w==n)then some (.op id t (p++[.fd i]))else none|none=>none)
  |_=>none)
 |.ep id m t p=>(match pA t p with
  |some (.st u)=>(match AB u i with|some w=>bif(mS u i==off)&&(bm w==n)then some (.ep id m t (p++[.fd i]))else none|none=>none)
  |_=>none)
 |.pt (.st u) v=>(match xZ u v i with|some (.x w y)=>bif(mS u i==off)&&(bm w==n)then some (.pt w y)else none|_=>none)
 |_=>none
def Ee(h:H2)(g:Bool)(n:Nat)(w:V):Bool:=(qS w==g)&&(vO w==n)&&(g||n==1)&&gu h w
def LR(h:H2):V->Option ((k:Ty)×(v:Ty)×Mp (El k) (El v)×List Nat)
 |.om id=>(match fO h id with|some (.mp k v m)=>some ⟨k,v,m,[id]⟩|_=>none)
 |_=>none
def vi(t:Ty):List Nat->List (Nat×Nat)->List V->V->Option V
 |[],[],[],c=>some c
 |i::is,(off,n)::ps,w::ws,c=>
  match t with
  |.st u=>(match AB u i with
   |some a=>bif(mS u i==off)&&(bm a==n)then(match KO a w with|some w=>(match mG c [.fd i] w with|some c=>bif dW c false t then vi t is ps ws c else none|none=>none)|none=>none)else none
   |none=>none)
  |.ar m u=>bif(i*bm u==off)&&(bm u==n)&&decide (i<m)then(match KO u w with|some w=>(match mG c [.ix i] w with|some c=>bif dW c false t then vi t is ps ws c else none|none=>none)|none=>none)else none
  |_=>none
 |_,_,_,_=>none
def Cn:V->Bool
 |.tp _|.no|.gn|.ni|.co _ _=>false
 |v=>!qS v
def Nu(o:OP)(vs:List V)(h:H2):Option (V×List Nat):=
 match o.o.k,vs with
 |.mv,[v]=>some (v,[])
 |.nilCheck,[v]=>(match v with|.pt _ _|.fn _ _ _|.ep _ _ _ _|.op _ _ _=>some (v,[])|_=>none)
 |.xn op,[.x (.i k) a,.x (.i k') b]=>(match OQ (Lw o.o.args) op k k' a b with|some v=>some (v,[])|none=>none)
 |.xn op,[.x (.f k) a,.x (.f k') b]=>(match Kl op k k' a b with|some v=>some (v,[])|none=>none)
 |.xn op,[.x .s a,.x .s b]=>(match OO op a b with|some v=>some (v,[])|none=>none)
 |.sy neg,[x,y]=>(match rn .b x,rn .b y with|some a,some b=>some (.x .b (bif neg then !(a==b)else a==b),[])|_,_=>none)
 |.po kind neg,[x]=>(match wD h kind x with|some v=>some (bif neg then IK v else v,[])|none=>none)
 |.w6 neg ks,[.x t a,y]=>(match rn t y with|some b=>bif lH t&&decide (BQ t=some ks)then some (.x .b (bif neg then !(decide (a=b))else decide (a=b)),[])else none|none=>none)
 |.un .not,[.kb c]=>some (.kb (!c),[])
 |.un .not,[.x .b c]=>some (.x .b (!c),[])
 |.un .neg,[.x (.i k) n]=>some (.x (.i k) (wr k (0-n)),[])
 |.un .neg,[.x (.f k) n]=>some (.x (.f k) (Op.negFloat k n),[])
 |.un .xor,[.x (.i k) n]=>some (.x (.i k) (RM k n),[])
 |.tw k,[.x (.i _) n]=>some (.x (.i k) (wr k n),[])
 |.Cg k,[.x (.i _) n]=>some (.x (.f k) (k.nearest n),[])
 |.qO,[.x .s s]=>some (.x .s s,[])
 |.GD f,vs=>bif vs.all Cn then some (.fn false f (cC vs),[])else none
 |.load g n,[p]=>(match wH h p with|some (w,l)=>bif Ee h g n w then some (w,l)else none|none=>none)
 |.rJ,[p]=>(match wH h p with|some (w,l)=>bif Ee h false 1 w then some (w,l)else none|none=>none)
 |.fieldAddr off n,[p]=>(match o.fi with|[i]=>(match DZ off n i p with|some w=>some (w,[])|none=>none)|_=>none)
 |.field g off n,[.x (.st u) v]=>(match o.fi with|[i]=>(match xZ u v i with|some w=>bif(mS u i==off)&&Ee h g n w then some (w,[])else none|none=>none)|_=>none)
 |.field g off n,[.rc l]=>(match o.fi with|[i]=>(match ql l i with|some w=>bif(L7 l i==off)&&Ee h g n w then some (w,[])else none|none=>none)|_=>none)
 |.extract i,[.tp l]=>(match ql l i with|some w=>some (w,[])|none=>none)
 |.len true,[.x .s s]=>some (.x (.i .i64) (s.size:Int),[])
 |.len false,[.nl 0]=>some (.x (.i .i64) (0:Int),[])
 |.len false,[.sr id]=>(match fO h id with|some (.rw _ s _)=>some (.x (.i .i64) (s.l.length:Int),[])|_=>none)
 |.len false,[v]=>(match ry h v with|some ⟨_,s,_⟩=>some (.x (.i .i64) (s.l.length:Int),[])|none=>none)
 |.pW m,.x (.i k) x::r=>(match O9 m k x r with|some y=>some (.x (.i k) y,[])|none=>none)
 |.pW m,.x (.f k) x::r=>(match GA m k x r with|some y=>some (.x (.f k) y,[])|none=>none)
 |.build z ps,vs=>bif rx (lJ o.t) z&&lH o.t&&dW (MK o.t) false o.t then(match vi o.t o.fi ps vs (MK o.t)with|some v=>some (v,[])|none=>none)else none
 |.lookup ka ks va z ok,[m,kv]=>(match LR h m with
  |some ⟨kt,vt,mp,l⟩=>(match rn kt kv with
   |some k=>bif(lH kt==ka)&&(lH vt==va)&&decide (BQ kt=some ks)&&rx (lJ vt) z&&je vt&&(va||bm vt==1)then
     some (bif ok then .tp (.co (.x vt (mQ mp (qt vt) k)) (.co (.x .b (IR mp k)) .ni))else .x vt (mQ mp (qt vt) k),l)else none
   |none=>none)
  |none=>none)
 |_,_=>none
def uC{α:Type}(s:Sl α)(x r:List α):Sl α:=match x with|[]=>(match s with|.nil=>.nil|.mk _=>.mk r)|_::_=>.mk r
def su{α:Type}:Sl α->Sl α->Option Unit
 |.nil,.nil=>some ()
 |.mk a,.mk b=>DM a b
 |_,_=>none
def fJ(s:S2)(o:O):S2:=⟨s.db,(s.next,some o)::s.heap,s.next+1,s.next::s.wo,s.gh⟩
def cX(s:S2)(id:Nat)(o:Option O):S2:=⟨s.db,(id,o)::s.heap,s.next,id::s.wo,s.gh⟩
def z7(h:H2)(id:Nat):Option O:=match fO h id with|some (.ar t s v)|some (.im t s v)=>some (.im t s v)|some (.ib t v)=>some (.ib t v)|some (.bx t c)=>bif je t&&gH (bm t) 300 then(match ie h c with|some (_,[])=>(match rn t c with|some v=>some (.ib t v)|none=>none)|_=>none)else none|_=>none
def oQ(h:H2):List Nat->S2->Option S2
 |[],s=>some s
 |id::r,s=>match fO h id with|some (.rw _ _ none)=>(match oQ h r s with|some s=>some (cX s id none)|none=>none)|_=>(match z7 h id,oQ h r s with|some o,some s=>some (cX s id (some o))|_,_=>none)
def xE(t:Ty):Bool:=je t&&gH 0 (bm t)
def wg(h:H2)(t:Ty)(len:Nat):Nat->List Nat->List V->Option (List (El t)×List Nat)
 |m,[],[]=>some (az (len-m) (qt t),[])
 |m,i::is,v::vs=>
  match ie h v with
  |some (w,a)=>(match rn t w with
   |some y=>bif gm m i&&gH i len then(match wg h t len (i+1) is vs with|some (l,b)=>some (az (i-m) (qt t)++y::l,a++b)|none=>none)else none
   |none=>none)
  |none=>none
 |_,_,_=>none
def iA:List V->Option (List Int)
 |[]=>some []
 |.x (.i _) n::r=>match iA r with|some l=>some (n::l)|none=>none
 |_=>none
def DL(h:H2):V->Option Int
 |.nl 0=>some 0
 |v=>match ry h v with|some ⟨_,v,_⟩=>some (v.l.length:Int)|none=>none
def Mo{α:Type}(w:Sl α)(lo n:Nat)(z:α):Option (Sl α):=match w with|.nil=>none|.mk l=>some (.mk (J9 l lo n (az n z)))
def rE{β:Type}(sz:Nat)(h:H2)(x:V)(l u:Int)(k:V->Option β):Option β:=
 match x with
 |.x (.sl t) v=>bif bm t==sz then(rF v.l l u).bind fun y=>k (.x (.sl t) (v.to y))else none
 |.so id=>(match fO h id with
  |some (.ar t v ver)=>bif bm t==sz then(rF v.l l u).bind fun y=>k (.sb id ver l.toNat t (v.to y))else none
  |some (.im t v ver)=>bif bm t==sz then(rF v.l l u).bind fun y=>k (.sb id ver l.toNat t (v.to y))else none
  |_=>none)
 |.sb id ver lo t v=>bif bm t==sz then(rF v.l l u).bind fun y=>k (.sb id ver (lo+l.toNat) t (v.to y))else none
 |.nl 0=>(rF ([]:List Unit) l u).bind fun _=>k (.nl 0)
 |_=>none
def ON{β:Type}(t:Ty)(sz len:Nat)(z:List Value)(pl:List Nat)(vs:List V)(s:S2)(k:V->S2->List Nat->Option β):Option β:=
 bif(bm t==sz)&&rx ((az len (lJ t)).flatten) z&&xE t then
  (match wg s.heap t len 0 pl vs with
  |some (l,a)=>(match oQ s.heap a s with|some s'=>k (.so s.next) (fJ s' (.ar t (.mk l) 0)) a|none=>none)
  |none=>none)else none
def EI(ln:Option (Nat×Nat))(m:Nat):Bool:=match ln with|none=>true|some (m',_)=>jy m' m
def CX{β:Type}(id m:Nat)(t:Ty)(p:nZ)(w:V)(s:S2)(k:S2->List Nat->Option β):Option β:=
 match fO s.heap id with
 |some (.rw u v ln)=>(match p,w with
  |[],.so id2=>(match fO s.heap id2 with
   |some (.ar u2 r _)=>(match fk (.sl u2) (.sl u) r with
    |some r=>bif decide (t=.sl u)&&!(id2==id)&&EI ln m then k (cX (cX s id2 none) id (some (.rw u (.mk (v.l.set m r)) none))) [id,id2]else none
    |none=>none)
   |_=>none)
  |_,_=>none)
 |some (.ar u l ver)=>(match ie s.heap w with
  |some (w,a)=>bif decide (u=t)then(match pA u p with
   |some q=>(match rn q w with
    |some y=>(match mG (.x u (gt l.l m)) p (.x q y)with
     |some c=>(match gi u c with
      |some y=>(match oQ s.heap a s with|some s=>bif !a.contains id then k (cX s id (some (.ar u (.mk (l.l.set m y)) (ver+1)))) (id::a)else none|none=>none)
      |none=>none)
     |none=>none)
    |none=>none)
   |none=>none)else none
  |none=>none)
 |_=>none
def part{β:Type}(o:OP)(vs:List V)(s:S2)(k:V->S2->List Nat->Option β):Option β:=
 match o.o.k,vs with
 |.xn .quo,[.x (.i q) a,.x (.i q') b]=>bif decide (q=q')then(OA q a b).bind fun x=>k (.x (.i q) x) s []else none
 |.xn .rem,[.x (.i q) a,.x (.i q') b]=>bif decide (q=q')then(NE q a b).bind fun x=>k (.x (.i q) x) s []else none
 |.xn .shl,[.x (.i q) a,.x (.i _) b]=>(AV q a b).bind fun x=>k (.x (.i q) x) s []
 |.xn .shr,[.x (.i q) a,.x (.i _) b]=>(NA q a b).bind fun x=>k (.x (.i q) x) s []
 |.xn .add,[.x .s a,.x .s b]=>(OK a b).bind fun x=>k (.x .s x) s []
 |.alloc z,[]=>bif rx (lJ o.t) z&&dW (MK o.t) false o.t then k (.op s.next o.t []) (fJ s (.bx o.t (MK o.t))) []else none
 |.box,[v]=>(match KO o.t v with|some w=>k (.op s.next o.t []) (fJ s (.bx o.t w)) []|none=>none)
 |.buildSlice sz len z pl,vs=>ON o.t sz len z pl vs s k
 |.store n,[.op id t p,w]=>bif(vO w==n)then(match fO s.heap id with
  |some (.bx u c)=>bif decide (u=t)then(match pA t p with
   |some a=>(match KO a w with
    |some w=>(match mG c p w with|some c=>bif dW c false t then k (.tp .ni) (cX s id (some (.bx t c))) [id]else none|none=>none)
    |none=>none)
   |none=>none)else none
  |_=>none)else none
 |.rJ,[.ep id m u []]=>(match fO s.heap id with
  |some (.rw t v none)=>bif decide (u=.sl t)then k (.so s.next) (fJ (cX s id (some (.rw t v (some (m,s.next))))) (.ar t (gt v.l m) 0)) [id]else none
  |_=>none)
 |.yF szi,[.x (.i _) l,.x (.i _) c]=>(match o.t with
  |.sl t=>bif(bm t==szi)&&xE t then(HA (Sl.nil:Sl (El t)) l c).bind fun r=>k (.sr s.next) (fJ s (.rw t (.mk r) none)) []else none
  |_=>none)
 |.Hl szi,[.so id2]=>(match fO s.heap id2 with
  |some (.ar t (.mk l) _)=>bif(bm t==szi)&&xE t then k (.sr s.next) (fJ s (.rw t (.mk [.mk l]) (some (0,id2)))) []else none
  |_=>none)
 |.Cw szi,[a,.sr idB]=>(match fO s.heap idB with
  |some (.rw t (.mk [.mk r]) (some (0,idR)))=>bif bm t==szi then(match a with
   |.nl 0=>k (.sr s.next) (fJ (cX s idB none) (.rw t (.mk [.mk r]) (some (0,idR)))) [idB]
   |.sr idA=>(match fO s.heap idA with
    |some (.rw u v none)=>(match fk (.sl t) (.sl u) (.mk r)with
     |some r=>bif !(idA==idB)then(jT (v.l++[r])).bind fun q=>k (.sr s.next) (fJ (cX (cX s idB none) idA none) (.rw u (.mk q) (some (v.l.length,idR)))) [idA,idB]else none
     |none=>none)
    |_=>none)
   |_=>none)else none
  |_=>none)
 |.store n,[.ep id m t p,w]=>bif(vO w==n)then CX id m t p w s (fun s l=>k (.tp .ni) s l)else none
 |.makeSlice z,[.x (.i _) l,.x (.i _) c]=>bif rx (lJ o.t) z&&xE o.t then(HA (qt o.t) l c).bind fun r=>k (.so s.next) (fJ s (.ar o.t (.mk r) 0)) []else none
 |.slice true _ lo hi,.x .s x::r=>(match lo,hi,iA r with
  |false,false,some []=>(xK x 0 x.size).bind fun y=>k (.x .s y) s []
  |true,false,some [l]=>(xK x l x.size).bind fun y=>k (.x .s y) s []
  |false,true,some [u]=>(xK x 0 u).bind fun y=>k (.x .s y) s []
  |true,true,some [l,u]=>(xK x l u).bind fun y=>k (.x .s y) s []
  |_,_,_=>none)
 |.slice false sz lo hi,x::r=>
  (match lo,hi,iA r,DL s.heap x with
  |false,false,some [],some n=>rE sz s.heap x 0 n fun v=>k v s []
  |true,false,some [l],some n=>rE sz s.heap x l n fun v=>k v s []
  |false,true,some [u],some _=>rE sz s.heap x 0 u fun v=>k v s []
  |true,true,some [l,u],some _=>rE sz s.heap x l u fun v=>k v s []
  |_,_,_,_=>none)
 |.indexAddr none sz,[x,.x (.i _) i]=>(match x with
  |.x (.sl t) v=>bif bm t==sz then(fD i v.l.length).bind fun m=>k (.pt t (gt v.l m)) s []else none
  |.so id=>(match ry s.heap (.so id)with|some ⟨t,v,_⟩=>bif bm t==sz then(fD i v.l.length).bind fun m=>k (.ep id m t []) s []else none|none=>none)
  |.sb id _ lo t v=>bif bm t==sz then(fD i v.l.length).bind fun m=>k (.ep id (lo+m) t []) s []else none
  |.sr id=>(match fO s.heap id with|some (.rw t v _)=>bif 1==sz then(fD i v.l.length).bind fun m=>k (.ep id m (.sl t) []) s []else none|_=>none)
  |_=>none)
 |.indexAddr (some n) sz,[x,.x (.i _) i]=>(match x with
  |.op id t p=>(match pA t p with|some (.ar n' u)=>bif(n'==n)&&(bm u==sz)then(fD i n).bind fun m=>k (.op id t (p++[.ix m])) s []else none|_=>none)
  |.ep id q t p=>(match pA t p with|some (.ar n' u)=>bif(n'==n)&&(bm u==sz)then(fD i n).bind fun m=>k (.ep id q t (p++[.ix m])) s []else none|_=>none)
  |.pt (.ar n' u) v=>bif(n'==n)&&(bm u==sz)then(fD i n).bind fun m=>k (.pt u (gt v.1 m)) s []else none
  |_=>none)
 |.nJ,[.x .s x,.x (.i _) i]=>(RN x i).bind fun c=>k (.x (.i .u8) c) s []
 |.index g n sz,[.x (.ar n' u) v,.x (.i _) i]=>bif(n'==n)&&(bm u==sz)&&(lH u==g)&&je u&&(g||sz==1)then(fD i n).bind fun m=>k (.x u (gt v.1 m)) s []else none
 |.append sz,[a,x]=>
  (match H4 o.t s.heap x with
  |some ⟨t,m,aw⟩=>bif(bm t==sz)&&xE t then(match a with
   |.nl 0=>(jT ([]++m.l)).bind fun r=>k (.so s.next) (fJ s (.ar t (uC Sl.nil m.l r) 0)) aw
   |.x (.sl _) v=>bif Sl.eC v then((jT ([]++m.l)).bind fun r=>k (.so s.next) (fJ s (.ar t (uC Sl.nil m.l r) 0)) aw)else none
   |.so id=>(match fO s.heap id with
    |some (.ar u v _)=>(match fk (.sl t) (.sl u) m with
     |some m=>(jT (v.l++m.l)).bind fun r=>k (.so s.next) (fJ (cX s id none) (.ar u (uC v m.l r) 0)) (id::aw)
     |none=>none)
    |_=>none)
   |.sb id _ lo u v=>(match fO s.heap id,fk (.sl t) (.sl u) m with
    |some (.ar _ s0 _),some m=>bif gm s0.l.length (lo+(v.l.length+m.l.length))then((jT (v.l++m.l)).bind fun r=>k (.so s.next) (fJ (cX s id none) (.ar u (uC v m.l r) 0)) (id::aw))else none
    |_,_=>none)
   |_=>none)else none
  |none=>none)
 |.copy sz,[a,x]=>
  (match H4 o.t s.heap x with
  |some ⟨t,m,aw⟩=>bif bm t==sz then(match a with
   |.nl 0=>k (.x (.i .i64) (0:Int)) s aw
   |.so id=>(match fO s.heap id with
    |some (.ar u v ver)=>(match fk (.sl t) (.sl u) m with
     |some m=>k (.x (.i .i64) ((min m.l.length v.l.length:Nat):Int)) (cX s id (some (.ar u (v.to (J9 v.l 0 v.l.length m.l)) (ver+1)))) (id::aw)
     |none=>none)
    |_=>none)
   |.sb id ver lo _ v=>(match fO s.heap id with
    |some (.ar u w ver')=>(match fk (.sl t) (.sl u) m with
     |some m=>bif ver'==ver then k (.x (.i .i64) ((min m.l.length v.l.length:Nat):Int)) (cX s id (some (.ar u (w.to (J9 w.l lo v.l.length m.l)) (ver+1)))) (id::aw)else none
     |none=>none)
    |_=>none)
   |_=>none)else none
  |none=>none)
 |.clear zz,[a]=>(match a with
  |.sb id ver lo _ v=>(match fO s.heap id with
   |some (.ar u w ver')=>bif(ver'==ver)&&rx (lJ u) zz&&xE u then(Mo w lo v.l.length (qt u)).bind fun w=>k (.tp .ni) (cX s id (some (.ar u w (ver+1)))) [id]else none
   |_=>none)
  |_=>none)
 |.makeMap ka va,[]=>(match o.t with
  |.mp kt vt=>bif(lH kt==ka)&&(lH vt==va)&&je vt&&(BQ kt).isSome then k (.om s.next) (fJ s (.mp kt vt Mp.none)) []else none
  |_=>none)
 |.mapEntry ka ks va z,[.om id,kv]=>(match fO s.heap id with
  |some (.mp kt vt m)=>(match rn kt kv with
   |some q=>bif(lH kt==ka)&&(lH vt==va)&&decide (BQ kt=some ks)&&rx (lJ vt) z&&je vt&&(va||bm vt==1)then
     k (.tp (.co (.x vt (ky m (qt vt) q).2.1) (.co (.x (.i .i64) (ky m (qt vt) q).2.2) .ni))) (cX s id (some (.mp kt vt (ky m (qt vt) q).1))) [id]else none
   |none=>none)
  |_=>none)
 |.entryStore va n,[.om id,.x (.i _) st,w]=>(match fO s.heap id with
  |some (.mp kt vt m)=>(match rn vt w with
   |some y=>bif(lH vt==va)&&(bm vt==n)&&je vt then(s_ m st y).bind fun m=>k (.tp .ni) (cX s id (some (.mp kt vt m))) [id]else none
   |none=>none)
  |_=>none)
 |_,_=>none
@[reducible] def oV:List Ty->Type
 |[]=>Unit
 |a::r=>CE a r
where CE:Ty->List Ty->Type
 |a,[]=>El a
 |a,c::r=>El a×CE c r
def rQ(u:Ty):V->Option (El u)
 |.x t v=>fk t u v
 |_=>none
def FM{α β:Type}:Option α->Option β->Option (α×β)
 |some x,some y=>some (x,y)
 |_,_=>none
def CP:(a:Ty)->(r:List Ty)->List V->Option (oV.CE a r)
 |a,[],l=>(match l with|[v]=>rQ a v|_=>none)
 |a,c::r,l=>(match l with|v::l=>FM (rQ a v) (CP c r l)|[]=>none)
def tU:(cs:List Ty)->List V->Option (oV cs)
 |[],[]=>some ()
 |a::r,l=>CP a r l
 |_,_=>none
def K6:(a:Ty)->(r:List Ty)->oV.CE a r->List V
 |a,[],v=>[.x a v]
 |a,c::r,v=>.x a v.1::K6 c r v.2
def mV:(cs:List Ty)->oV cs->List V
 |[],_=>[]
 |a::r,v=>K6 a r v
inductive Sh where
 | x (t : Ty)            -- data
 | pt (t : Ty)           -- a pointer to data
 | os (t : Ty)           -- a slice of its bn
 | rw (t : Ty)           -- a cC of aj of its bn
 | mp (k v : Ty)         -- a map of its bn
 | pb (t : Ty) (c : Sh)  -- a pointer to a box of its bn
 |st (c:Sh)
 |pr (a c:Sh)
 |nl (k:Nat)
 |fn (f:Nat) (l:Sh)
 |ni
 |gn
 deriving Inhabited,DecidableEq
def Ml:Sh->List Ty
 |.x t|.pt t=>[t]
 |.os t=>[.sl t]
 |.rw t=>[.sl (.sl t)]
 |.mp k v=>[.mp k v]
 |.pb _ c|.st c|.fn _ c=>Ml c
 |.pr a c=>Ml a++Ml c
 |_=>[]
def gG:List Sh->List Ty
 |[]=>[]
 |a::r=>Ml a++gG r
abbrev Wy:=List (List Sh×List Sh)
@[reducible] def tG:Wy->Type
 |[]=>Empty
 |(r,o)::w=>Et r o w
where Et:List Sh->List Sh->Wy->Type
 |r,o,[]=>oV (gG r++gG o)
 |r,o,(r',o')::w=>oV (gG r++gG o)⊕Et r' o' w
def Nl{β:Type}(k:List Sh->List Sh->List V->Option β):(r o:List Sh)->(w:Wy)->tG.Et r o w->Option β
 |r,o,[],z=>k r o (mV (gG r++gG o) z)
 |r,o,(r',o')::w,z=>match z with|.inl z=>k r o (mV (gG r++gG o) z)|.inr z=>Nl k r' o' w z
def Pg{β:Type}(k:List Sh->List Sh->List V->Option β):(w:Wy)->tG w->Option β
 |[],z=>nomatch z
 |(r,o)::w,z=>Nl k r o w z
structure l8 where
 ps:List (Bool×Sh)
 al:Wy
 ro:Bool
 iR:List Bool
 fn:oV (gG (ps.map (·.2)))->Option (tG al)
abbrev Cz:=List (Nat×l8)
def mM(h:H2):Sh->V->Option (List V×List Nat)
 |.x t,v=>match ie h v with|some (w,l)=>(match rn t w with|some y=>some ([.x t y],l)|none=>none)|none=>none
 |.pt t,.pt u v=>match fk u t v with|some y=>some ([.x t y],[])|none=>none
 |.pt t,.op id u []=>(match fO h id with
  |some (.bx w c)=>bif decide (w=u)&&gu h c then(match ie h c with|some (c,l)=>(match rn t c with|some y=>some ([.x t y],id::l)|none=>none)|none=>none)else none
  |some (.ib w v)=>bif decide (w=u)then(match fk w t v with|some y=>some ([.x t y],[id])|none=>none)else none
  |_=>none)
 |.pt t,.ep id n u []=>(match fO h id with
  |some (.ar w s _)|some (.im w s _)=>bif decide (w=u)then(match fk w t (gt s.l n)with|some y=>some ([.x t y],[id])|none=>none)else none
  |_=>none)
 |.nl k,.nl k'=>bif k==k' then some ([],[])else none
 |.fn f c,.fn _ f' l=>bif f==f' then mM h c l else none
 |.pr a c,.co x r=>match mM h a x,mM h c r with|some (l,i),some (m,j)=>some (l++m,i++j)|_,_=>none
 |.ni,.ni=>some ([],[])
 |_,_=>none
def NX(t:Ty){u:Ty}(v:El (.sl u)):Option (List V×List Nat):=match(v:Sl (El u))with|.nil=>some ([.x (.sl t) Sl.nil],[])|.mk _=>none
def dH(h:H2):Sh->Bool->V->Option (List V×List Nat)
 |.os t,false,.so id=>(match fO h id with|some (.ar u s _)=>(match fk (.sl u) (.sl t) s with|some s=>some ([.x (.sl t) s],[id])|none=>none)|_=>none)
 |.os t,false,.nl 0=>some ([.x (.sl t) Sl.nil],[])
 |.rw t,false,.sr id=>(match fO h id with|some (.rw u s none)=>(match fk (.sl (.sl u)) (.sl (.sl t)) s with|some s=>some ([.x (.sl (.sl t)) s],[id])|none=>none)|_=>none)
 |.rw t,false,.nl 0=>some ([.x (.sl (.sl t)) Sl.nil],[])
 |.pb t c,false,.op id u []=>(match fO h id with|some (.bx w v)=>bif decide (w=u)&&decide (u=t)then(match dH h c false v with|some (l,i)=>some (l,id::i)|none=>none)else none|_=>none)
 |.nl k,false,.nl k'=>bif k==k' then some ([],[])else none
 |.x t,false,v=>match rn t v with|some y=>some ([.x t y],[])|none=>none
 |.st c,false,.rc l=>dH h c true l
 |.st c,false,.x (.st u) v=>dH h c true (FO u v)
 |.pr a c,true,.co x r=>match(match a,x with|.os t,.x (.sl _) v=>NX t v|_,_=>dH h a false x),dH h c true r with|some (l,i),some (m,j)=>some (l++m,i++j)|_,_=>none
 |.ni,true,.ni=>some ([],[])
 |_,_,_=>none
def pB:Sh->Bool->List V->S2->Option (V×List V×S2)
 |.x t,false,.x u v::l,s=>bif decide (u=t)&&je t then some (.x u v,l,{s with next:=s.next+bm t})else none
 |.os t,false,.x (.sl u) v::l,s=>bif decide (u=t)&&xE t then some (.so s.next,l,fJ s (.ar u v 0))else none
 |.rw t,false,.x (.sl (.sl u)) v::l,s=>bif decide (u=t)&&xE t then some (.sr s.next,l,fJ s (.rw u v none))else none
 |.pb t c,false,l,s=>
  match pB c false l {s with next:=s.next+1}with
  |some (w,l,s')=>bif dW w false t then some (.op s.next t [],l,cX s' s.next (some (.bx t w)))else none
  |none=>none
 |.nl k,false,l,s=>some (.nl k,l,{s with next:=s.next+1})
 |.st c,false,l,s=>match pB c true l s with|some (w,l,s)=>some (.rc w,l,s)|none=>none
 |.pr a c,true,l,s=>match pB a false l s with|some (x,l,s)=>(match pB c true l s with|some (r,l,s)=>some (.co x r,l,s)|none=>none)|none=>none
 |.ni,true,l,s=>some (.ni,l,s)
 |_,_,_,_=>none
def GC:List Sh->List V->S2->Option (List V×List V×S2)
 |[],l,s=>some ([],l,s)
 |a::r,l,s=>match pB a false l s with|some (x,l,s)=>(match GC r l s with|some (xs,l,s)=>some (x::xs,l,s)|none=>none)|none=>none
def sD(h:H2):List (Bool×Sh)->List V->Option (List V×List Nat×List (V×List Nat))
 |[],[]=>some ([],[],[])
 |(b,c)::r,v::vs=>
  match sD h r vs with
  |some (m,j,q)=>
   bif b then(match dH h c false v with|some (l,i)=>some (l++m,j,(v,i)::q)|none=>none)
   else(match mM h c v with|some (l,i)=>some (l++m,i++j,q)|none=>none)
  |none=>none
 |_,_=>none
def yP(h:H2)(f:Nat)(vs:List V):Cz->Option (l8×List V×List Nat×List (V×List Nat))
 |[]=>none
 |(g,sp)::r=>bif g==f then(match sD h sp.ps vs with|some (l,i,q)=>some (sp,l,i,q)|none=>yP h f vs r)else yP h f vs r
def gZ:List Nat->S2->S2
 |[],s=>s
 |id::r,s=>cX (gZ r s) id none
def dJ{β:Type}:List Sh->List (V×List Nat)->List V->S2->(S2->Option β)->Option β
 |[],[],[],s,k=>k s
 |.nl _::r,(_,[])::q,l,s,k=>dJ r q l s k
 |.gn::r,(_,i)::q,l,s,k=>dJ r q l (gZ i s) k
 |.os t::r,(.nl 0,[])::q,.x (.sl u) v::l,s,k=>(match fk (.sl u) (.sl t) v with|some v=>(su v (Sl.nil:Sl (El t))).bind fun _=>dJ r q l s k|none=>none)
 |.os t::r,(.so id,_)::q,.x (.sl u) v::l,s,k=>(match fO s.heap id,fk (.sl u) (.sl t) v with
  |some (.ar w old ver),some v=>(match fk (.sl t) (.sl w) v with
   |some v=>(su v old).bind fun _=>dJ r q l (cX s id (some (.ar w v (ver+1)))) k
   |none=>none)
  |_,_=>none)
 |.rw t::r,(.nl 0,[])::q,.x (.sl (.sl u)) v::l,s,k=>(match fk (.sl (.sl u)) (.sl (.sl t)) v with|some v=>(su (v:Sl (Sl (El t))) (Sl.nil:Sl (Sl (El t)))).bind fun _=>dJ r q l s k|none=>none)
 |.rw t::r,(.sr id,_)::q,.x (.sl (.sl u)) v::l,s,k=>(match fO s.heap id,fk (.sl (.sl u)) (.sl (.sl t)) v with
  |some (.rw w old _),some v=>(match fk (.sl (.sl t)) (.sl (.sl w)) v with
   |some v=>(su (v:Sl (Sl (El w))) old).bind fun _=>dJ r q l (cX s id (some (.rw w v none))) k
   |none=>none)
  |_,_=>none)
 |.pb t c::r,(.op id u [],i)::q,l,s,k=>(match fO s.heap id with
  |some _=>(match pB c false l s with
   |some (w,l,s)=>bif dW w false t&&decide (u=t)then dJ r q l (cX (gZ i s) id (some (.bx t w))) k else none
   |none=>none)
  |none=>none)
 |_,_,_,_,_=>none
def ND:List V->V
 |[v]=>v
 |l=>.tp (cC l)
def wB:List Nat->Bool
 |[]=>true
 |a::r=>!r.contains a&&wB r
def tM:V->Option (List V)
 |.ni=>some []
 |.co a r=>bif(vO a==1)&&!qS a then(match tM r with|some l=>some (a::l)|none=>none)else none
 |_=>none
def vB{β:Type}(tb:Cz)(ro:Bool)(iR:List Bool)(f:V)(vs:List V)(s:S2)(k:V->S2->List Nat->Option β):Option β:=
 match f with
 |.fn _ fid caps=>
  match(match tM caps with|some cs=>yP s.heap fid (vs++cs) tb|none=>none)with
  |some (sp,pay,aw,q)=>
   bif(!ro||sp.ro)&&decide (sp.iR=iR)&&wB (q.flatMap (·.2))&&(q.flatMap (·.2)).all (fun i=>!aw.contains i)then
    match tU (gG (sp.ps.map (·.2))) pay with
    |some p=>(sp.fn p).bind fun z=>Pg (fun rs os l=>
     match(bif ro then some s else oQ s.heap aw s)with
     |some s0=>dJ os q (l.drop (gG rs).length) s0 fun s1=>
      (match GC rs (l.take (gG rs).length) s1 with
      |some (xs,_,s2)=>k (ND xs) s2 (aw++q.flatMap (·.2))
      |none=>none)
     |none=>none) sp.al z
    |none=>none
   else none
  |none=>none
 |_=>none
structure Rg where
 kn:List (Nat×Bool)
 cd:List (Nat×Nat×Bool×V)
def N9(kn:List (Nat×Bool))(g:Nat):Option Bool:=bX kn g
def Hz(s:S2)(q:Rg)(gc:Option (Nat×Bool)):Operand->Option V
 |.tmp t=>match bX q.cd t with|some (g,b,v)=>bif decide (gc=some (g,b))||decide (N9 q.kn g=some b)then(bif gu s.heap v then some v else none)else none|none=>Hy s.db s.heap (.tmp t)
 |o=>Hy s.db s.heap o
def Dx(s:S2)(q:Rg)(gc:Option (Nat×Bool)):List Operand->Option (List V)
 |[]=>some []
 |a::r=>match Hz s q gc a,Dx s q gc r with|some x,some y=>some (x::y)|_,_=>none
inductive GV where
 |run
 |skip
 |O7 (g:Nat) (b:Bool) (c:Bool)
def Rw(e:List (Nat×V))(kn:List (Nat×Bool)):Option (Nat×Bool)->Option GV
 |none=>some .run
 |some (g,b)=>
  match N9 kn g with
  |some c=>some (bif c==b then .run else .skip)
  |none=>(match bX e g with
   |some (.kb c)=>some (bif c==b then .run else .skip)
   |some (.x .b c)=>some (.O7 g b c)
   |some .no=>some .skip
   |_=>none)
def Ik(s:S2)(q:Rg)(gc:Option (Nat×Bool)):List Operand->Option V
 |[.tmp g,a,b]=>match N9 q.kn g,bX s.db g with|some c,_=>Hz s q gc (bif c then a else b)|none,some (.kb c)=>Hz s q gc (bif c then a else b)|none,some (.x .b c)=>(match Hz s q (some (g,true)) a,Hz s q (some (g,false)) b with|some x,some y=>Rr c x y|_,_=>none)|_,_=>none
 |[.const (.bool c),a,b]=>Hz s q gc (bif c then a else b)
 |_=>none
def DS:K->Bool
 |.pick=>true
 |_=>false
def K9(o:OP)(s:S2)(q:Rg)(gc:Option (Nat×Bool)):Option (V×List Nat):=
 bif DS o.o.k then(match Ik s q gc o.o.args with|some v=>some (v,[])|none=>none)
 else(match Dx s q gc o.o.args with|some vs=>Nu o vs s.heap|none=>none)
def rA(s:S2)(d:Option Nat)(v:V):S2:=match d with|some d=>{s with db:=(d,v)::s.db}|none=>s
def Mq(q:Rg)(d:Option Nat):Option Rg:=match d with|none=>some q|some d=>bif q.cd.any (fun e=>e.2.1==d)||q.kn.any (fun e=>e.1==d)then none else some ⟨q.kn,q.cd.filter (fun e=>!(e.1==d))⟩
abbrev HC:=List (List Nat×List Nat)
def Qe{β:Type}(tb:Cz)(o:OP)(s:S2)(q:Rg)(gc:Option (Nat×Bool))(k:V->S2->List Nat->Option β):Option β:=
 match K9 o s q gc with
 |some (v,l)=>k v s l
 |none=>
  match Dx s q gc o.o.args with
  |some vs=>
   (match o.o.k,vs with
   |.call ro iR,f::vs=>vB tb ro iR f vs s k
   |_,vs=>part o vs s k)
  |none=>none
def KT(dr:Option Nat)(i:Nat)(s:S2):S2:=match dr with|some b=>{s with next:=b+gO*i}|none=>s
def GM(dr:Option Nat)(i:Nat)(s:S2):Bool:=match dr with|some b=>gm s.next (b+gO*(i+1))|none=>true
def Ph(d:Option Nat)(r:List OP):Bool:=
 match d with
 |some d=>r.any fun o=>match o.o.guard with|some (g,_)=>jy g d|none=>false
 |none=>false
def ly{β:Type}(tb:Cz)(dr:Option Nat):List OP->Nat->S2->Rg->HC->(S2->HC->Option β)->Option β
 |[],_,s,_,tr,k=>k s tr
 |o::r,i,s0,q,tr,k=>
  let s:=KT dr i s0
  let go:Rg->Option β:=fun q=>Qe tb o s q o.o.guard fun v s1 l=>
   bif GM dr i s1 then(match Mq q o.o.dst with
    |some q=>ly tb dr r (i+1) (rA s1 o.o.dst v) q (tr++[(l,s1.wo.take (s1.wo.length-s.wo.length))]) k
    |none=>none)else none
  let no:Rg->Option β:=fun q=>match Mq q o.o.dst with|some q=>ly tb dr r (i+1) (rA s o.o.dst .no) q (tr++[([],[])]) k|none=>none
  match Rw s.db q.kn o.o.guard with
  |none=>none
  |some .run=>go q
  |some .skip=>no q
  |some (.O7 g b c)=>
   match(bif Ph o.o.dst r then none else K9 o s q (some (g,b)))with
   |some (v,l)=>
    (match Mq q o.o.dst,o.o.dst with
    |some q,some d=>bif jy g d then none else ly tb dr r (i+1) (rA s (some d) .gn) ⟨q.kn,(d,g,b,v)::q.cd⟩ (tr++[(l,[])]) k
    |_,_=>none)
   |none=>(match b with
    |true=>bif c then go ⟨(g,true)::q.kn,q.cd⟩else no ⟨(g,false)::q.kn,q.cd⟩
    |false=>bif c then no ⟨(g,true)::q.kn,q.cd⟩else go ⟨(g,false)::q.kn,q.cd⟩)
inductive JV where
 |x (t:Ty)
 |pt (t:Ty)
 |so (j:Nat)
 |sr (j:Nat)
 |om (j:Nat)
 |op (j:Nat) (t:Ty) (p:List Nat)
 |nl (k:Nat)
 |fn (z:Bool) (f:Nat) (l:JV)
 |rc (l:JV)
 |ni
 |co (a r:JV)
 |sm
 |gn
 deriving Inhabited
inductive JO where
 |ar (t:Ty)
 |bx (t:Ty) (c:JV)
 |mp (k v:Ty)
 |rw(t:Ty)
 deriving Inhabited
structure J where
 vs:List (Nat×JV):=[]
 gs:JV:=.sm
 os:List JO:=[]
 kl:List Nat:=[]
 deriving Inhabited
def Hc:JV->List Ty
 |.x t|.pt t=>[t]
 |.fn _ _ l|.rc l=>Hc l
 |.co a r=>Hc a++Hc r
 |_=>[]
def M5:List (Nat×JV)->List Ty
 |[]=>[]
 |(_,a)::r=>Hc a++M5 r
def RK:JO->List Ty
 |.ar t=>[.sl t]
 |.bx _ c=>Hc c
 |.mp k v=>[.mp k v]
 |.rw t=>[.sl (.sl t)]
def M6:List JO->List Ty
 |[]=>[]
 |a::r=>RK a++M6 r
def nX(j:J):List Ty:=M5 j.vs++(Hc j.gs++M6 j.os)
structure Bd where
 j:Nat
 id:Option Nat
def Kq:List Bd->Nat->Option Bd
 |[],_=>none
 |b::r,j=>bif b.j==j then some b else Kq r j
def rR(m:List Bd)(b:Bd):Option (List Bd):=
 match Kq m b.j with
 |none=>bif(match b.id with|some i=>m.all (fun c=>match c.id with|some i'=>!(i'==i)|none=>true)|none=>true)then some (b::m)else none
 |some c=>(match b.id,c.id with
  |some i,some i'=>bif i==i' then some m else none
  |_,_=>none)
def Be:nZ->Option (List Nat)
 |[]=>some []
 |.fd i::p=>match Be p with|some l=>some (i::l)|none=>none
 |.ix _::_=>none
def cU:JV->Bool->V->List Bd->Option (List V×List Bd)
 |.x t,false,v,m=>match rn t v with|some y=>some ([.x t y],m)|none=>none
 |.pt t,false,.pt u v,m=>match fk u t v with|some y=>some ([.x t y],m)|none=>none
 |.so j,false,.so id,m=>match rR m ⟨j,some id⟩with|some m=>some ([],m)|none=>none
 |.so j,false,.nl 0,m=>match rR m ⟨j,none⟩with|some m=>some ([],m)|none=>none
 |.so j,false,.x (.sl _) v,m=>bif Sl.eC v then(match rR m ⟨j,none⟩with|some m=>some ([],m)|none=>none)else none
 |.sr j,false,.sr id,m=>match rR m ⟨j,some id⟩with|some m=>some ([],m)|none=>none
 |.sr j,false,.nl 0,m=>match rR m ⟨j,none⟩with|some m=>some ([],m)|none=>none
 |.om j,false,.om id,m=>match rR m ⟨j,some id⟩with|some m=>some ([],m)|none=>none
 |.op j t p,false,.op id u q,m=>bif decide (u=t)&&decide (Be q=some p)then(match rR m ⟨j,some id⟩with|some m=>some ([],m)|none=>none)else none
 |.nl k,false,.nl k',m=>bif k==k' then some ([],m)else none
 |.fn z f l,false,.fn z' f' l',m=>bif(z==z')&&(f==f')then cU l true l' m else none
 |.rc l,false,.rc l',m=>cU l true l' m
 |.rc l,false,.x (.st t) v,m=>cU l true (FO t v) m
 |.ni,true,.ni,m=>some ([],m)
 |.co a r,true,.co x y,m=>match cU a false x m with|some (l,m)=>(match cU r true y m with|some (l',m)=>some (l++l',m)|none=>none)|none=>none
 |_,_,_,_=>none
def yZ(s:S2):List (Nat×JV)->List Bd->Option (List V×List Bd)
 |[],m=>some ([],m)
 |(t,a)::r,m=>match Hy s.db s.heap (.tmp t)with|some v=>(match cU a false v m with|some (l,m)=>(match yZ s r m with|some (l',m)=>some (l++l',m)|none=>none)|none=>none)|none=>none
def Kh(h:H2)(j:Nat)(o:JO)(m:List Bd):Option (List V×List Bd):=
 match Kq m j with
 |some b=>(match o,b.id with
  |.ar t,none=>bif xE t then some ([.x (.sl t) Sl.nil],m)else none
  |.ar t,some id=>(match fO h id with|some (.ar u s _)=>(match fk (.sl u) (.sl t) s with|some s=>some ([.x (.sl t) s],m)|none=>none)|_=>none)
  |.rw t,none=>bif xE t then some ([.x (.sl (.sl t)) Sl.nil],m)else none
  |.rw t,some id=>(match fO h id with|some (.rw u s none)=>(match fk (.sl (.sl u)) (.sl (.sl t)) s with|some s=>some ([.x (.sl (.sl t)) s],m)|none=>none)|_=>none)
  |.bx t c,some id=>(match fO h id with|some (.bx u v)=>bif decide (u=t)then cU c false v m else none|_=>none)
  |.mp k v,some id=>(match fO h id with|some (.mp k' v' y)=>(match fk (.mp k' v') (.mp k v) y with|some y=>some ([.x (.mp k v) y],m)|none=>none)|_=>none)
  |_,_=>none)
 |none=>none
def y5(h:H2):List JO->Nat->List Bd->Option (List V×List Bd)
 |[],_,m=>some ([],m)
 |o::r,j,m=>match Kh h j o m with|some (l,m)=>(match y5 h r (j+1) m with|some (l',m)=>some (l++l',m)|none=>none)|none=>none
def qf:V->V->Bool
 |.so i,.so j=>i==j
 |.sr i,.sr j=>i==j
 |.op i t [],.op j u []=>(i==j)&&decide (t=u)
 |.nl k,.nl l=>k==l
 |.gn,.gn=>true
 |_,_=>false
def v8:V->V->Bool
 |.ni,.ni=>true
 |.co a r,.co x y=>qf a x&&v8 r y
 |_,_=>false
def nY(h:H2):JV->V->V->List Bd->Option (List V×List Bd)
 |.sm,g0,g,m=>bif v8 g0 g then some ([],m)else none
 |.ni,.ni,.ni,m=>some ([],m)
 |.co a r,.co x0 y0,.co x y,m=>match a with|.sm=>bif qf x0 x then nY h r y0 y m else none|.gn=>nY h r y0 y m|a=>bif gu h x then(match cU a false x m with|some (l,m)=>(match nY h r y0 y m with|some (l',m)=>some (l++l',m)|none=>none)|none=>none)else none
 |_,_,_,_=>none
def x8:List (Nat×JV)->S2->S2
 |[],s=>s
 |(t,.so _)::r,s=>(match bX s.db t with
  |some (.sb id ver _ u x)=>(match fO s.heap id with
   |some (.ar _ _ v)=>bif je u&&v==ver then x8 r ⟨(t,.so s.next)::s.db,(s.next,some (.ar u x 0))::(id,none)::s.heap,s.next+1,s.next::id::s.wo,s.gh⟩else x8 r s
   |_=>x8 r s)
  |_=>x8 r s)
 |_::r,s=>x8 r s
def y7(j:J)(s0:S2)(s:S2):Option (List V):=
 match yZ s j.vs []with
 |some (l1,m)=>match nY s.heap j.gs s0.gh s.gh m with
  |some (l2,m)=>(match y5 s.heap j.os 0 m with
   |some (l3,m)=>bif s.wo.all (fun i=>gm s0.next i||j.kl.contains i)&&m.all (fun b=>gH b.j j.os.length&&(match b.id with|some i=>gm s0.next i||j.kl.contains i|none=>true))then some (l1++(l2++l3))else none
   |none=>none)
  |none=>none
 |none=>none
def vg(j:J)(s0:S2)(s:S2):Option (List V):=match x8 j.vs s with|⟨e,h,n,w,g⟩=>y7 j s0 ⟨e,h,n,w,g⟩
def gS(b:Nat):JV->Bool->List V->V->Option (V×List V)
 |.x t,false,.x u v::l,_=>bif decide (u=t)&&je u then some (.x u v,l)else none
 |.pt t,false,.x u v::l,_=>bif decide (u=t)&&je u then some (.pt u v,l)else none
 |.so j,false,l,_=>some (.so (b+j),l)
 |.sr j,false,l,_=>some (.sr (b+j),l)
 |.om j,false,l,_=>some (.om (b+j),l)
 |.op j t p,false,l,_=>some (.op (b+j) t (p.map .fd),l)
 |.nl k,false,l,_=>some (.nl k,l)
 |.fn z f c,false,l,_=>match gS b c true l .ni with|some (w,l)=>some (.fn z f w,l)|none=>none
 |.rc c,false,l,_=>match gS b c true l .ni with|some (w,l)=>some (.rc w,l)|none=>none
 |.ni,true,l,_=>some (.ni,l)
 |.co a r,true,l,.co x y=>match gS b a false l x with|some (v,l)=>(match gS b r true l y with|some (w,l)=>some (.co v w,l)|none=>none)|none=>none
 |.co a r,true,l,_=>match gS b a false l .gn with|some (v,l)=>(match gS b r true l .ni with|some (w,l)=>some (.co v w,l)|none=>none)|none=>none
 |.sm,_,l,v=>some (v,l)
 |.gn,false,l,_=>some (.gn,l)
 |_,_,_,_=>none
def EN(b:Nat):List (Nat×JV)->List V->Option (List (Nat×V)×List V)
 |[],l=>some ([],l)
 |(t,a)::r,l=>match gS b a false l .gn with|some (v,l)=>(match EN b r l with|some (e,l)=>some ((t,v)::e,l)|none=>none)|none=>none
def A4(b:Nat):JO->List V->Option (O×List V)
 |.ar t,.x (.sl u) v::l=>bif decide (u=t)then some (.ar u v 0,l)else none
 |.rw t,.x (.sl (.sl u)) v::l=>bif decide (u=t)&&xE t then some (.rw u v none,l)else none
 |.bx t c,l=>match gS b c false l .gn with|some (w,l)=>bif dW w false t then some (.bx t w,l)else none|none=>none
 |.mp k v,.x (.mp k' v') m::l=>bif decide (k'=k)&&decide (v'=v)then some (.mp k' v' m,l)else none
 |_,_=>none
def A3(b:Nat):List JO->Nat->List V->Option (H2×List V)
 |[],_,l=>some ([],l)
 |o::r,j,l=>match A4 b o l with|some (o,l)=>(match A3 b r (j+1) l with|some (h,l)=>some ((b+j,some o)::h,l)|none=>none)|none=>none
def sj(j:J)(ds:List Nat)(s0:S2)(l:List V):Option S2:=
 match EN s0.next j.vs l with
 |some (e,l)=>(match gS s0.next j.gs true l s0.gh with
  |some (g,l)=>(match A3 s0.next j.os 0 l with
   |some (h,_)=>some ⟨e++ds.map (fun t=>(t,V.gn))++s0.db,h++j.kl.map (fun i=>(i,none))++s0.heap,s0.next+j.os.length,h.map (·.1)++j.kl++s0.wo,g⟩
   |none=>none)
  |none=>none)
 |none=>none
abbrev Ex:=List (qo×J)
@[reducible] def CA:Ex->Type
 |[]=>Empty
 |(_,j)::r=>KF j r
where KF:J->Ex->Type
 |j,[]=>oV (nX j)
 |j,(_,j')::r=>oV (nX j)⊕KF j' r
def Jm(s0:S2)(o:qo)(s:S2):(o':qo)->(j:J)->(r:Ex)->Option (CA.KF j r)
 |o',j,[]=>bif decide (o=o')then(match vg j s0 s with|some l=>tU (nX j) l|none=>none)else none
 |o',j,(o2,j2)::r=>bif decide (o=o')then(match vg j s0 s with|some l=>(match tU (nX j) l with|some p=>some (.inl p)|none=>none)|none=>none)
  else(match Jm s0 o s o2 j2 r with|some x=>some (.inr x)|none=>none)
def GL(s0:S2)(o:qo)(s:S2):(e:Ex)->Option (CA e)
 |[]=>none
 |(o',j)::r=>Jm s0 o s o' j r
def NJ{β:Type}(ds:List Nat)(s0:S2)(k:qo->S2->Option β):(o:qo)->(j:J)->(r:Ex)->CA.KF j r->Option β
 |o,j,[],p=>match sj j ds s0 (mV (nX j) p)with|some s=>k o s|none=>none
 |o,j,(o2,j2)::r,x=>match x with|.inl p=>(match sj j ds s0 (mV (nX j) p)with|some s=>k o s|none=>none)|.inr y=>NJ ds s0 k o2 j2 r y
def Im{β:Type}(ds:List Nat)(s0:S2)(k:qo->S2->Option β):(e:Ex)->CA e->Option β
 |[],x=>nomatch x
 |(o,j)::r,x=>NJ ds s0 k o j r x
inductive C2 where
 |skip
 |Lt (ops:List OP) (dr:Option (List (Nat×Nat))) (jn:Option J)
 |seq (a b:C2) (e:Ex)
 |cond (c:Operand) (a b:C2)
 |block (id:Nat) (a:C2)
 |loop (j:J) (e:Ex) (a:C2)
 |exit (id:Nat)
 |ret
 |fr
 deriving Inhabited
def k9:C2->List Nat
 |.Lt ops _ _=>ops.filterMap (·.o.dst)
 |.seq a b _|.cond _ a b=>k9 a++k9 b
 |.block _ a|.loop _ _ a=>k9 a
 |_=>[]
def Ji:K->Bool
 |.lookup _ _ _ _ _=>true
 |_=>false
def MM(ops:List OP)(tr:HC)(i j:Nat):Bool:=
 match ops[i]?,tr[i]?with
 |some o,some ([id],[])=>Ji o.o.k&&((tr.take j).drop (i+1)).all (fun x=>!x.2.contains id)
 |_,_=>false
def Oz(ops:List OP)(tr:HC)(dyn:List (Nat×Nat)):Bool:=
 dyn.all fun p=>bif gm 1000 p.2 then(match tr[p.1]?,tr[p.2-1000]?with|some a,some b=>kC a b||MM ops tr p.1 (p.2-1000)|_,_=>true)
  else(match tr[p.1]?,tr[p.2]?with|some a,some b=>kC a b|_,_=>true)
def OY(s:S2)(id:Nat):Option S2:=
 match fO s.heap id with
 |some (.rw t v (some (m,id2)))=>(match fO s.heap id2 with
  |some (.ar u r _)=>(match fk (.sl u) (.sl t) r with
   |some r=>some (cX (cX s id2 none) id (some (.rw t (.mk (v.l.set m r)) none)))
   |none=>none)
  |_=>none)
 |_=>some s
def Au:List Nat->S2->Option S2
 |[],s=>some s
 |id::r,s=>match OY s id with|some s=>Au r s|none=>none
def OZ(s s':S2):Option S2:=Au (s'.wo.take (s'.wo.length-s.wo.length)) s'
def Fl{β:Type}(tb:Cz)(ops:List OP)(dr:Option (List (Nat×Nat)))(s:S2)(k:S2->Option β):Option β:=match dr with|none=>ly tb none ops 0 s ⟨[],[]⟩ [] fun s' _=>(OZ s s').bind k|some dyn=>ly tb (some s.next) ops 0 s ⟨[],[]⟩ [] fun s' tr=>bif Oz ops tr dyn then(OZ s {s' with next:=s.next+gO*ops.length}).bind k else none
def vf{β:Type}(tb:Cz):C2->S2->(qo->S2->Option β)->Option β
 |.skip,s,k=>k .normal s
 |.Lt ops dr none,s,k=>Fl tb ops dr s fun s=>k .normal s
 |.Lt ops dr (some j),s,k=>(Fl tb ops dr {s with wo:=[]} fun s'=>match vg j s s' with|some l=>tU (nX j) l|none=>none).bind fun p=>match sj j (ops.filterMap (·.o.dst)) s (mV (nX j) p)with|some s=>k .normal s|none=>none
 |.seq a b [],s,k=>vf tb a s fun o s=>match o with|.normal=>vf tb b s k|o=>k o s
 |.seq a b (e::r),s,k=>(vf tb a {s with wo:=[]} fun o s'=>GL s o s' (e::r)).bind fun x=>Im (k9 a) s (fun o s=>match o with|.normal=>vf tb b s k|o=>k o s) (e::r) x
 |.cond c a b,s,k=>(match Hy s.db s.heap c with
  |some (.kb t)=>bif t then vf tb a s k else vf tb b s k
  |some (.x .b t)=>bif t then vf tb a s k else vf tb b s k
  |_=>none)
 |.block id a,s,k=>vf tb a s fun o s=>match o with|.exit i=>k (bif i==id then .normal else .exit i) s|o=>k o s
 |.loop j e a,s,k=>
  bif e.all (fun x=>j.kl.all fun i=>x.2.kl.contains i)then(match vg j s {s with wo:=[]}with
  |some l=>(match tU (nX j) l with
   |some p0=>(bL (fun p=>match sj j (k9 a) s (mV (nX j) p)with
     |some s1=>vf tb a {s1 with wo:=[]} fun o s'=>(match o with
      |.normal=>(match vg j s s' with|some l=>(match tU (nX j) l with|some q=>some (Sum.inl q)|none=>none)|none=>none)
      |o=>(match GL s o s' e with|some x=>some (Sum.inr x)|none=>none))
     |none=>none) p0).bind fun x=>Im (k9 a) s k e x
   |none=>none)
  |none=>none)else none
 |.exit id,s,k=>k (.exit id) s
 |.ret,s,k=>k .ret s
 |.fr,_,_=>none
def ed(P:Program):Nat->TypeId->Ty
 |0,_=>.o 9
 |n+1,t=>match P.underlying t with|some (.int k)=>.i k|some .bool=>.b|some .string=>.s|some (.float k)=>.f k|some (.slice e)=>.sl (ed P n e)|some (.map k v)=>.mp (ed P n k) (ed P n v)|some (.struct fs)=>.st (P0 (fs.toList.map fun f=>ed P n f.type))|some (.array m e)=>.ar m (ed P n e)|some (.pointer _)=>.o 1|some (.func ..)=>.o 2|_=>.o 4
where P0:List Ty->Ty
 |[]=>.un
 |[t]=>t
 |t::r=>.pr t (P0 r)
def G7:Nat:=12
def Ow(P:Program)(t:TypeId):Ty:=match P.underlying t with|some (.slice e)=>ed P G7 e|some (.array _ e)=>ed P G7 e|_=>.o 9
def MY(P:Program):Op->Ty×List Nat
 |.alloc e=>(ed P G7 e,[])
 |.box t _=>(ed P G7 t,[])
 |.build t parts=>(ed P G7 t,parts.toList.map (·.1))
 |.buildSlice t _ parts=>(Ow P t,parts.toList.map (·.1))
 |.fieldAddr _ _ f=>(.o 9,[f])
 |.field _ _ f=>(.o 9,[f])
 |.makeSlice t _ _=>(Ow P t,[])
 |.makeMap t _=>(ed P G7 t,[])
 |.call c=>(match c.callee,c.argTypes.toList with|.builtin _,t::_=>Ow P t|_,_=>.o 9,[])
 |_=>(.o 9,[])
def NQ(P:Program)(da:uY)(nt:Nat)(all:Array Oper)(o:Oper):OP:=⟨fz P da nt all o,(MY P o.op).1,(MY P o.op).2⟩
structure An where
 j:Option J:=none
 e:Ex:=[]
 deriving Inhabited
def nR(P:Program)(da:uY)(nt:Nat)(an:List (Nat×An)):Code->Nat->C2×Nat
 |.skip,n=>(.skip,n)
 |.region _ ops draw,n=>
  (if draw then(if wx (KA ops.toList []) ops.toList 0&&v6 (KA ops.toList []) (ops.toList.map (fz P da nt ops)) 0&&decide (ops.toList.length<=1000)
   then .Lt (ops.toList.map (NQ P da nt ops)) (some (qN (KA ops.toList []) (ops.toList.map (fz P da nt ops)) 0)) ((bX an n).bind (·.j))else .fr)
   else .Lt (ops.toList.map (NQ P da nt ops)) none ((bX an n).bind (·.j)),n+1)
 |.seq a b,n=>
  let x:=nR P da nt an a (n+1);let y:=nR P da nt an b x.2
  (.seq x.1 y.1 (match bX an n with|some w=>w.e|none=>[]),y.2)
 |.cond c a b,n=>let x:=nR P da nt an a n;let y:=nR P da nt an b x.2;(.cond c x.1 y.1,y.2)
 |.block id a,n=>let x:=nR P da nt an a n;(.block id x.1,x.2)
 |.loop a,n=>
  let x:=nR P da nt an a (n+1)
  (match bX an n with|some ⟨some j,e⟩=>.loop j e x.1|_=>.fr,x.2)
 |.scope a,n=>nR P da nt an a n
 |.label _,n=>(.skip,n)
 |.exit id,n=>(.exit id,n)
 |.ret,n=>(.ret,n)
 |_,n=>(.fr,n)
structure F2 where
 np:Nat
 ji:List RV
 body:C2
def yY(P:Program)(da:uY)(f np:Nat)(an:List (Nat×An)):Option F2:=
 match P.funcs[f]?with
 |none=>none
 |some g=>
  match g.body with
  |none=>none
  |some code=>
   if(g.name== "runtime.NumGoroutine")=false/\np<=g.ntmps/\g.ntmps<1000000000 then
    match yo P g.results.toList with|some ji=>some ⟨np,ji,(nR P da g.ntmps an code 0).1⟩|none=>none
   else none
def AI:Sh->List V->Option (V×List V)
 |.ni,l=>some (.ni,l)
 |.pr (.pt t) c,.x u v::l=>bif decide (u=t)&&je t then(match AI c l with|some (w,l)=>some (.co (.pt u v) w,l)|none=>none)else none
 |_,_=>none
def qM:List (Bool×Sh)->Nat->List V->S2->Option (List (Nat×V)×S2)
 |[],_,[],s=>some ([],s)
 |(false,.x t)::r,i,.x u v::l,s=>bif decide (u=t)&&je t then(match qM r (i+1) l s with|some (e,s)=>some ((i,.x u v)::e,s)|none=>none)else none
 |(false,.pt t)::r,i,.x u v::l,s=>bif decide (u=t)&&je t then(match qM r (i+1) l s with|some (e,s)=>some ((i,.pt u v)::e,s)|none=>none)else none
 |(false,.nl k)::r,i,l,s=>(match qM r (i+1) l s with|some (e,s)=>some ((i,.nl k)::e,s)|none=>none)
 |(false,.fn f c)::r,i,l,s=>(match AI c l with|some (w,l)=>(match qM r (i+1) l s with|some (e,s)=>some ((i,.fn true f w)::e,s)|none=>none)|none=>none)
 |(true,c)::r,i,l,s=>(match pB c false l s with
  |some (w,l,s)=>(match qM r (i+1) l s with|some (e,s)=>some ((i,w)::e,{s with gh:=.co w s.gh})|none=>none)
  |none=>none)
 |_,_,_,_=>none
def Ov(ps:List (Bool×Sh))(l:List V):Option S2:=
 match qM ps 0 l ⟨[],[],0,[],.ni⟩with
 |some (e,s)=>some {s with db:=e}
 |none=>none
def Lq(s:S2):RV->Option V
 |.tmp t=>Hy s.db s.heap (.tmp t)
 |.cell t g n=>match Hy s.db s.heap (.tmp t)with|some p=>(match wH s.heap p with|some (w,_)=>bif Ee s.heap g n w then some w else none|none=>none)|none=>none
def Lr(h:H2):Sh->V->Option (List V×List Nat)
 |.x t,v=>match ie h v with|some (w,l)=>(match rn t w with|some y=>some ([.x t y],l)|none=>none)|none=>none
 |.os t,.sb id _ _ u r=>(match fO h id with|some (.ar _ _ _)=>(match fk (.sl u) (.sl t) r with|some s=>some ([.x (.sl t) s],[id])|none=>none)|_=>none)
 |c,v=>dH h c false v
def QV(h:H2):Sh->V->Option (List V×List Nat)
 |.gn,_=>some ([],[])
 |c,v=>bif gu h v then dH h c false v else none
def yt(h:H2):List Sh->List V->Option (List V×List Nat)
 |[],[]=>some ([],[])
 |c::r,v::vs=>match Lr h c v,yt h r vs with|some (l,i),some (m,j)=>some (l++m,i++j)|_,_=>none
 |_,_=>none
def yr(h:H2):List Sh->List V->Option (List V×List Nat)
 |[],[]=>some ([],[])
 |c::r,v::vs=>match QV h c v,yr h r vs with|some (l,i),some (m,j)=>some (l++m,i++j)|_,_=>none
 |_,_=>none
def LS{α β:Type}(f:α->Option β):List α->Option (List β)
 |[]=>some []
 |a::r=>match f a,LS f r with|some x,some y=>some (x::y)|_,_=>none
def GU(ji:List RV)(rs os:List Sh)(s:S2):Option (List V):=
 match LS (Lq s) ji with
 |some vs=>match yt s.heap rs vs,yr s.heap os (yg s.gh)with|some (l,i),some (m,j)=>bif wB (i++j)then some (l++m)else none|_,_=>none
 |none=>none
def GW(ji:List RV)(s:S2):(r o:List Sh)->(w:Wy)->Option (tG.Et r o w)
 |r,o,[]=>match GU ji r o s with|some l=>tU (gG r++gG o) l|none=>none
 |r,o,(r',o')::w=>match GU ji r o s with|some l=>(match tU (gG r++gG o) l with|some z=>some (.inl z)|none=>none)|none=>(match GW ji s r' o' w with|some z=>some (.inr z)|none=>none)
def Ma(ji:List RV)(s:S2):(w:Wy)->Option (tG w)
 |[]=>none
 |(r,o)::w=>GW ji s r o w
def PO(tb:Cz)(F:Option F2)(ps:List (Bool×Sh))(al:Wy)(p:oV (gG (ps.map (·.2)))):Option (tG al):=
 match F with
 |some F=>
  match Ov ps (mV _ p)with
  |some s=>vf tb F.body s fun o s=>match o with|.exit _=>none|_=>Ma F.ji s al
  |none=>none
 |none=>none
theorem jR{α β:Type}{f:α->List β}{n:Nat}(h:∀a,(f a).length=n)(l:List α):(l.flatMap f).length=l.length*n:=by induction l with|nil=>simp|cons a l ih=>simp[bf,h,ih,bI];omega
theorem bD:∀(t:Ty)(v:El t),(aM t v).length=bm t:=by intro t;induction t with|pr a c iha ihc=>intro v;simp[aM,bm,iha,ihc]|st t ih=>intro v;simp[aM,bm,ih]|ar n t ih=>intro v;rw[aM,jR ih,v.2];rfl|_=>intro v;rfl
theorem wV{α β:Type}[Inhabited α]{f:α->List β}{n:Nat}(h:∀a,(f a).length=n):∀(l:List α)(k:Nat),k<l.length->((l.flatMap f).drop (k*n)).take n=f (gt l k):=by
 intro l;induction l with
 |nil=>intro k hk;simp at hk
 |cons a l ih=>
  intro k hk;cases k with
  |zero=>simp[gt,h]
  |succ k=>
   have e:(k+1)*n=(f a).length+k*n:=by rw[h,bI];omega
   rw[bf,e,<-dp,dR (ao _),fm,bo,ih k (by simpa using hk)];rfl
theorem JJ{α β:Type}{f:α->List β}{n:Nat}(h:∀a,(f a).length=n):∀(l:List α)(k:Nat)(x:α),k<l.length->(l.set k x).flatMap f=aX (l.flatMap f) (k*n) (f x):=by
 intro l;induction l with
 |nil=>intro k x hk;simp at hk
 |cons a l ih=>
  intro k x hk;cases k with
  |zero=>
   simp only[List.set_cons_zero,bf,aX,Nat.zero_mul,List.take_zero,bo,Nat.zero_add,h];have:(f a++l.flatMap f).drop n=l.flatMap f:=by rw[<-h a,dR (ao _),fm,bo]
   rw[this]
  |succ k=>
   have e:(k+1)*n=(f a).length+k*n:=by rw[h,bI];omega
   simp only[List.set_cons_succ,bf,aX,e,List.take_length_add_append,ct];rw[<-dp,dR (ao _),fm,bo,ih k x (by simpa using hk)];simp[aX]
theorem cR{t u:Ty}{v:El t}{y:El u}(h:fk t u v=some y):∃e:t=u,y=e▸v:=by
 unfold fk at h;split at h
 .rename_i e;exact⟨e,(aa h).symm⟩
 .simp at h
theorem ux{t u:Ty}{v:El t}{y:El u}(h:fk t u v=some y):aM u y=aM t v/\t=u:=by obtain⟨rfl,rfl⟩:=cR h;exact⟨rfl,rfl⟩
theorem pk:∀(t:Ty)(v:El t)(i:Nat)(w:V),xZ t v i=some w->∃u y,w=.x u y/\AB t i=some u/\mS t i+bm u<=bm t/\((aM t v).drop (mS t i)).take (bm u)=aM u y:=by
 intro t;induction t with
 |pr a c iha ihc=>intro v i w h;cases i with|zero=>obtain rfl:=aa h;refine⟨a,v.1,rfl,rfl,by simp[mS,bm],?_⟩;simp[mS,aM,bD]|succ i=>obtain⟨u,y,rfl,h1,h2,h3⟩:=ihc v.2 i w h;refine⟨u,y,rfl,h1,by simp only[mS,bm];omega,?_⟩;simp only[mS,aM];rw[<-dp,<-bD a v.1,dR (ao _),fm,bo,h3]
 |_=>intro v i w h;cases i with|zero=>obtain rfl:=aa h;exact⟨_,v,rfl,rfl,by simp[mS],by simp[mS,dn,bD]⟩|succ i=>simp[xZ]at h
theorem Of:∀(t:Ty)(i:Nat)(u:Ty),AB t i=some u->mS t i+bm u<=bm t:=by
 intro t;induction t with
 |pr a c iha ihc=>intro i u h;cases i with|zero=>obtain rfl:=aa h;simp[mS,bm]|succ i=>have:=ihc i u h;simp only[mS,bm];omega
 |_=>intro i u h;cases i with|zero=>obtain rfl:=aa h;simp[mS]|succ i=>simp[AB]at h
theorem qY{α:Type}{a b p:List α}{off:Nat}:aX (a++b) (a.length+off) p=a++aX b off p:=by simp only[aX,List.take_length_add_append,ct,aP];rw[<-dp,dR (ao _),fm,bo]
theorem qX{α:Type}{a b p:List α}{off:Nat}(h:off+p.length<=a.length):aX (a++b) off p=aX a off p++b:=by simp only[aX,aP];rw[List.take_append_of_le_length (by omega),dR h]
theorem kS{α:Type}{b p:List α}(h:p.length=b.length):aX b 0 p=p:=by simp[aX,h]
theorem se{α:Type}{b p:List α}{off:Nat}(h:off+p.length<=b.length):(aX b off p).length=b.length:=by simp only[aX,aG,List.length_take,List.length_drop];omega
theorem sd{α β:Type}{f:α->β}{b p:List α}{off:Nat}:(aX b off p).map f=aX (b.map f) off (p.map f):=by simp[aX]
theorem oJ{α:Type}{b c p:List α}{o1 o2 n:Nat}(hc:(b.drop o1).take n=c)(h1:o1+n<=b.length)(h2:o2+p.length<=n):aX b o1 (aX c o2 p)=aX b (o1+o2) p:=by
 have hcl:c.length=n:=by rw[<-hc];simp;omega
 have e:b=b.take o1++(c++b.drop (o1+n)):=by rw[<-hc,<-dp,List.take_append_drop,List.take_append_drop]
 have hl:(b.take o1).length=o1:=by simp;omega
 have hs:(aX c o2 p).length=n:=by rw[se (by omega),hcl]
 have r2:aX b (o1+o2) p=b.take o1++(aX c o2 p++b.drop (o1+n)):=by
  conv=>lhs;rw[e]
  have:=qY (a:=b.take o1) (b:=c++b.drop (o1+n)) (p:=p) (off:=o2);rw[hl]at this;rw[this,qX (by omega)]
 rw[r2];show b.take o1++aX c o2 p++b.drop (o1+(aX c o2 p).length)=_;rw[hs,aP]
theorem G8:∀(t:Ty)(l r:List Value)(x:El t),sA t l=some (x,r)->l.all dP=true->∃p,l=p++r/\(aM t x)=p.map D.lit:=by
 intro t;induction t with
 |pr a c iha ihc=>
  intro l r x h hp;simp only[sA]at h;split at h
  .rename_i y l1 h1;split at h
   .rename_i z l2 h2;obtain⟨rfl,rfl⟩:=ad (aa h);obtain⟨p,rfl,e1⟩:=iha _ _ _ h1 hp;obtain⟨q,rfl,e2⟩:=ihc _ _ _ h2 (by rw[List.all_append,af]at hp;exact hp.2);exact⟨p++q,by simp,by simp[aM,e1,e2]⟩
   .simp at h
  .simp at h
 |st t ih=>intro l r x h hp;exact ih l r x h hp
 |ar n t ih=>
  intro l r x h hp;simp only[sA]at h
  have key:∀(m:Nat)(l r:List Value)(x:Arr m (El t)),Mf (sA t) m l=some (x,r)->l.all dP=true->∃p,l=p++r/\x.1.flatMap (aM t)=p.map D.lit:=by
   intro m;induction m with
   |zero=>intro l r x h hp;obtain⟨rfl,rfl⟩:=ad (aa h);exact⟨[],rfl,rfl⟩
   |succ m ihn=>
    intro l r x h hp;simp only[Mf]at h;split at h
    .rename_i y l1 h1;split at h
     .rename_i v l2 h2;obtain⟨rfl,rfl⟩:=ad (aa h);obtain⟨p,rfl,e1⟩:=ih _ _ _ h1 hp;obtain⟨q,rfl,e2⟩:=ihn _ _ _ h2 (by rw[List.all_append,af]at hp;exact hp.2);exact⟨p++q,by simp,by simp[bf,e1,e2]⟩
     .simp at h
    .simp at h
  exact key n l r x h hp
 |i k=>
  intro l r x h hp;simp only[sA]at h;unfold PV at h;split at h
  .split at h
   .rename_i e;subst e;obtain⟨rfl,rfl⟩:=ad (aa h);exact⟨[_],rfl,rfl⟩
   .simp at h
  .simp at h
 |b=>
  intro l r x h hp;simp only[sA]at h;unfold PW at h;split at h
  .obtain ⟨rfl,rfl⟩:=ad (aa h);exact⟨[_],rfl,rfl⟩
  .simp at h
 |s=>
  intro l r x h hp;simp only[sA]at h;unfold PT at h;split at h
  .obtain ⟨rfl,rfl⟩:=ad (aa h);exact⟨[_],rfl,rfl⟩
  .simp at h
 |f k=>
  intro l r x h hp;simp only[sA]at h;unfold M1 at h;split at h
  .split at h
   .rename_i e;subst e;obtain⟨rfl,rfl⟩:=ad (aa h);exact⟨[_],rfl,rfl⟩
   .simp at h
  .simp at h
 |sl t ih=>
  intro l r x h hp;simp only[sA]at h;unfold PU at h;split at h
  .obtain ⟨rfl,rfl⟩:=ad (aa h);exact⟨[_],rfl,rfl⟩
  .simp at h
 |_=>intro l r x h hp;simp[sA]at h
def As(h:H2)(id ver:Nat):Bool:=match fO h id with|some (.ar _ _ v)|some (.im _ _ v)=>v==ver|_=>false
def N_(id:Nat)(c:C):Prop:=∀i∈d_ c,i=id
def eD(h:H2):V->List C->Prop
 |.x t v,cs=>je t=true/\cs=(aM t v).map .d
 |.kb c,cs=>cs=[.d (.lit (.bool c))]
 |.nl k,cs=>cs=[yD k]
 |.so id,cs=>∃c,cs=[c]/\(∀c',yj id (fO h id)=some c'->c=c')/\N_ id c
 |.sr id,cs=>∃c,cs=[c]/\(∀c',xB id (fO h id)=some c'->c=c')/\N_ id c
 |.sb id ver lo t r,cs=>∃c,cs=[c]/\(As h id ver=true->c=v7 id lo t r)/\N_ id c
 |.op id t p,cs=>cs=[.op id (k_ t p)]
 |.ep id n t p,cs=>cs=[.ep id n (k_ t p)]
 |.pt t v,cs=>je t=true/\cs=[.d (.pt (aM t v))]
 |.fn true f l,cs=>∃ds,oU l=some ds/\cs=[.d (.fn f ds)]
 |.fn false f l,cs=>∃xs,eD h l xs/\cs=[.mP f xs]
 |.om id,cs=>cs=[.om id]
 |.rc l,cs=>eD h l cs
 |.fl l,cs=>l.all dP=true/\cs=eJ l
 |.ni,cs=>cs=[]
 |.co a r,cs=>∃x y,cs=x++y/\eD h a x/\eD h r y
 |.tp _,_|.no,_|.gn,_=>False
def qv(h:H2)(v:V)(x:TV):Prop:=∃cs,eD h v cs/\(qS v=true->x=.agg cs)/\(qS v=false->∃c,cs=[c]/\x=.c c)
def zk(h:H2):V->List TV->Prop
 |.ni,xs=>xs=[]
 |.co a r,xs=>∃x ys,xs=x::ys/\qv h a x/\zk h r ys
 |_,_=>False
def eW(h:H2):V->TV->Prop
 |.tp l,x=>∃xs,x=.gR xs/\zk h l xs
 |.no,x=>x=.gR []
 |.gn,_=>False
 |v,x=>qv h v x
def RI(t u:Ty)(s:Sl (El t))(lo:Nat)(r:Sl (El u)):Prop:=bm t=bm u/\match s,r with|.nil,.nil=>True|.mk l,.mk m=>lo+m.length<=l.length/\((l.map (aM t)).drop lo).take m.length=m.map (aM u)|_,_=>False
def eA(n:Nat)(h:H2):V->Prop
 |.so id|.sr id|.om id=>id<n
 |.sb id ver lo t r=>id<n/\∀u s v,(fO h id=some (.ar u s v)\/fO h id=some (.im u s v))->ver<=v/\(v=ver->RI u t s lo r)
 |.op id t p=>id<n/\Gq t p
 |.ep id m t p=>id<n/\Gq t p/\(∀u s v,(fO h id=some (.ar u s v)\/fO h id=some (.im u s v))->m<s.l.length)/\∀u s v,fO h id=some (.rw u s v)->m<s.l.length
 |.fn _ _ l|.rc l|.tp l=>eA n h l
 |.co a r=>eA n h a/\eA n h r
 |_=>True
def sX(h:H2):O->Option Ob->Prop
 |.ar t s _,b=>je t=true/\0<bm t/\(∀l,s=.mk l->b=some (.aJ (bm t) (l.map (aM t))))
 |.im t s _,b=>je t=true/\0<bm t/\(∀l,s=.mk l->b=some (.nL (bm t) (l.map (aM t))))
 |.bx t c,b=>∃cs,b=some (.box cs)/\eD h c cs/\dW c false t=true
 |.ib t v,b=>je t=true/\b=some (.my (aM t v))
 |.mp k v m,b=>je v=true/\(∃ks,BQ k=some ks)/\b=CH (lH k) (lH v) (fun x=>(aM k x).map fun|.lit y=>y|_=>.nilFunc) (aM v) m
 |.rw t s ln,b=>je t=true/\0<bm t/\(∀l,(s:Sl (Sl (El t)))=.mk l->b=some (.nst (bm t) (di t l ln)))
def Az(n:Nat)(h:H2):O->Prop
 |.bx _ c=>eA n h c
 |.rw _ s (some (m,id))=>m<s.l.length/\id<n/\∀u r v,(fO h id=some (.ar u r v)\/fO h id=some (.im u r v))->r.eC=(gt s.l m).eC/\r.l.length=(gt s.l m).l.length
 |_=>True
structure HR(n:Nat)(h1:bz)(h2:H2):Prop where
 ob:∀id o,fO h2 id=some o->id<n/\sX h2 o (av h1 id)/\Az n h2 o
abbrev KU(t:Ty)(s:Sl (El t)):(t:Ty)×Sl (El t):=⟨t,s⟩
abbrev R6(t:Ty)(s:El t):(t:Ty)×El t:=⟨t,s⟩
def MG(t u:Ty)(s:Sl (El t))(s':Sl (El u))(v v':Nat):Prop:=v<=v'/\t=u/\s.eC=s'.eC/\s.l.length=s'.l.length/\(v=v'->KU t s=KU u s')
def qp:O->O->Prop
 |.ar t s v,.ar u s' v'|.ar t s v,.im u s' v'=>MG t u s s' v v'
 |.im t s v,.im u s' v'=>v=v'/\KU t s=KU u s'
 |.bx t _,.bx u _=>t=u
 |.bx _ _,.ib _ _=>True
 |.ib t v,.ib u w=>R6 t v=R6 u w
 |.mp _ _ _,.mp _ _ _=>True
 |.rw t s _,.rw u s' _=>t=u/\s.eC=s'.eC/\s.l.length=s'.l.length
 |_,_=>False
def L0:O->Bool
 |.bx _ _|.ib _ _=>true
 |_=>false
structure ik(n:Nat)(h h':H2):Prop where
 ob:∀id o',id<n->fO h' id=some o'->(∃o,fO h id=some o/\qp o o')\/L0 o'=true
theorem MG.trans{t u w:Ty}{s:Sl (El t)}{s':Sl (El u)}{s2:Sl (El w)}{a b c:Nat}(h1:MG t u s s' a b)(h2:MG u w s' s2 b c):MG t w s s2 a c:=by obtain⟨a1,rfl,a3,a4,a5⟩:=h1;obtain⟨b1,rfl,b3,b4,b5⟩:=h2;refine⟨Nat.le_trans a1 b1,rfl,a3.trans b3,a4.trans b4,fun e=>?_⟩;have e1:a=b:=Nat.le_antisymm a1 (e▸b1);exact(a5 e1).trans (b5 (e1▸e))
theorem MG.PD{t u:Ty}{s:Sl (El t)}{s':Sl (El u)}{a b:Nat}(h:a=b)(e:KU t s=KU u s'):MG t u s s' a b:=by subst h;obtain⟨rfl,e⟩:=il e;cases e;exact⟨ao _,rfl,rfl,rfl,fun _=>rfl⟩
theorem qp.refl(o:O):qp o o:=by cases o<;>simp[qp,MG]
theorem qp.trans{a b c:O}(h1:qp a b)(h2:qp b c):qp a c:=by
 cases a<;>cases b<;>simp only[qp]at h1<;>first|exact h1.elim|skip
 all_goals(cases c<;>simp only[qp]at h2|-<;>first|exact h2.elim|skip)
 .exact h1.trans h2
 .exact h1.trans h2
 .exact h1.trans (MG.PD h2.1 h2.2)
 .exact ⟨h1.1.trans h2.1,h1.2.trans h2.2⟩
 .exact h1.trans h2
 .exact h1.trans h2
 .exact ⟨h1.1.trans h2.1,h1.2.1.trans h2.2.1,h1.2.2.trans h2.2.2⟩
theorem ik.refl(n:Nat)(h:H2):ik n h h:=⟨fun _ o _ h=>.inl ⟨o,h,qp.refl o⟩⟩
theorem ik.trans{n n':Nat}{a b c:H2}(hn:n<=n')(h1:ik n a b)(h2:ik n' b c):ik n a c:=
 ⟨fun id o' hi ho=>by
  rcases h2.ob id o' (by omega) ho with⟨o1,h3,h4⟩|q
  .rcases h1.ob id o1 hi h3 with⟨o2,h5,h6⟩|q
   .exact .inl ⟨o2,h5,h6.trans h4⟩
   .exact .inr (by cases o1<;>simp[L0]at q<;>cases o'<;>simp[qp]at h4<;>rfl)
  .exact .inr q⟩
theorem vX{sz id:Nat}{α:Type}{e:α->List D}{s:Sl α}:N_ id (jm sz e id s):=by intro i hi;cases s with|nil=>simp[jm,d_]at hi|mk l=>simpa[jm,d_]using hi
theorem H8{id lo:Nat}{t:Ty}{s:Sl (El t)}:N_ id (v7 id lo t s):=by intro i hi;cases s with|nil=>simp[v7,d_]at hi|mk l=>simpa[v7,d_]using hi
section
variable{n n':Nat}{h h':H2}
theorem C7{t:Ty}{s s':Sl (El t)}{id:Nat}(h1:s.eC=s'.eC)(h2:s.l.length=s'.l.length):jm (bm t) (aM t) id s=jm (bm t) (aM t) id s':=by cases s<;>cases s'<;>simp_all[Sl.eC,jm]
theorem HX(hs:ik n h h'){id:Nat}(hi:id<n){c:C}(hc:yj id (fO h' id)=some c):yj id (fO h id)=some c:=by
 cases ho:fO h' id with
 |none=>rw[ho]at hc;simp[yj]at hc
 |some o'=>
  rw[ho]at hc;obtain⟨o,h1,h2⟩:=(hs.ob id o' hi ho).resolve_right fun e=>by cases o'<;>simp[L0]at e<;>simp[yj]at hc
  rw[h1];cases o'<;>simp only[yj]at hc<;>first|cases hc;done|skip
  all_goals(cases o<;>simp only[qp]at h2<;>first|exact h2.elim|skip)
  .obtain ⟨_,rfl,h3,h4,_⟩:=h2;rw[<-hc];simp only[yj];rw[C7 h3 h4]
  .obtain ⟨_,rfl,h3,h4,_⟩:=h2;rw[<-hc];simp only[yj];rw[C7 h3 h4]
  .obtain ⟨_,h3⟩:=h2;obtain⟨rfl,h3⟩:=il h3;cases h3;rw[<-hc];rfl
  all_goals simp at hc
theorem HT(hs:ik n h h'){id:Nat}(hi:id<n){c:C}(hc:xB id (fO h' id)=some c):xB id (fO h id)=some c:=by
 cases ho:fO h' id with
 |none=>rw[ho]at hc;simp[xB]at hc
 |some o'=>
  rw[ho]at hc;obtain⟨o,h1,h2⟩:=(hs.ob id o' hi ho).resolve_right fun e=>by cases o'<;>simp[L0]at e<;>simp[xB]at hc
  rw[h1];cases o'<;>simp only[xB]at hc<;>first|cases hc;done|skip
  all_goals(cases o<;>simp only[qp]at h2<;>first|exact h2.elim|skip)
  .obtain ⟨rfl,h3,h4⟩:=h2;rw[<-hc];simp only[xB];exact congrArg some (C7 (t:=.sl _) h3 h4)
  all_goals simp at hc
theorem EK(hs:ik n h h'){id:Nat}(hi:id<n){u:Ty}{s:Sl (Sl (El u))}{ln:Option (Nat×Nat)}(ho:fO h' id=some (.rw u s ln)):∃s0 ln0,fO h id=some (.rw u s0 ln0)/\s0.eC=s.eC/\s0.l.length=s.l.length:=by
 obtain⟨o,h1,h2⟩:=(hs.ob id _ hi ho).resolve_right fun e=>by simp[L0]at e
 cases o<;>simp only[qp]at h2<;>first|exact h2.elim|skip
 obtain⟨rfl,h3,h4⟩:=h2;exact⟨_,_,h1,h3,h4⟩
theorem H3(hs:ik n h h'){id:Nat}(hi:id<n){u:Ty}{s:Sl (El u)}{v:Nat}(ho:fO h' id=some (.ar u s v)\/fO h' id=some (.im u s v)):
  ∃s0 v0,(fO h id=some (.ar u s0 v0)\/fO h id=some (.im u s0 v0))/\s0.eC=s.eC/\s0.l.length=s.l.length:=by
 rcases ho with ho|ho
 all_goals
  obtain⟨o,h1,h2⟩:=(hs.ob id _ hi ho).resolve_right fun e=>by simp[L0]at e
  cases o<;>simp only[qp]at h2<;>first|exact h2.elim|skip
 .obtain ⟨_,rfl,h3,h4,_⟩:=h2;exact⟨_,_,.inl h1,h3,h4⟩
 .obtain ⟨_,rfl,h3,h4,_⟩:=h2;exact⟨_,_,.inl h1,h3,h4⟩
 .obtain ⟨rfl,h3⟩:=h2;obtain⟨rfl,h3⟩:=il h3;cases h3;exact⟨_,_,.inr h1,rfl,rfl⟩
theorem q8(hs:ik n h h'){id:Nat}(hi:id<n){u:Ty}{s:Sl (El u)}{v:Nat}(ho:fO h' id=some (.ar u s v)\/fO h' id=some (.im u s v)):
  ∃s0 v0,(fO h id=some (.ar u s0 v0)\/fO h id=some (.im u s0 v0))/\v0<=v/\s0.l.length=s.l.length/\(v0=v->s0=s):=by
 rcases ho with ho|ho
 all_goals
  obtain⟨o,h1,h2⟩:=(hs.ob id _ hi ho).resolve_right fun e=>by simp[L0]at e
  cases o<;>simp only[qp]at h2<;>first|exact h2.elim|skip
 .obtain ⟨h3,rfl,_,h4,h5⟩:=h2;exact⟨_,_,.inl h1,h3,h4,fun e=>by have:=h5 e;simpa using this⟩
 .obtain ⟨h3,rfl,_,h4,h5⟩:=h2;exact⟨_,_,.inl h1,h3,h4,fun e=>by have:=h5 e;simpa using this⟩
 .obtain ⟨rfl,h3⟩:=h2;obtain⟨rfl,h3⟩:=il h3;cases h3;exact⟨_,_,.inr h1,ao _,rfl,fun _=>rfl⟩
theorem j9{id ver:Nat}(ha:As h id ver=true):∃u s,fO h id=some (.ar u s ver)\/fO h id=some (.im u s ver):=by
 unfold As at ha;split at ha
 .rename_i u s v ho;obtain rfl:v=ver:=by simpa using ha
  exact⟨u,s,.inl ho⟩
 .rename_i u s v ho;obtain rfl:v=ver:=by simpa using ha
  exact⟨u,s,.inr ho⟩
 .simp at ha
theorem fN(hn:n<=n')(hs:ik n h h'):∀{v:V},eA n h v->eA n' h' v:=by
 intro v;induction v with
 |so id=>intro hv;simp only[eA]at hv|-;omega
 |sr id=>intro hv;simp only[eA]at hv|-;omega
 |om id=>intro hv;simp only[eA]at hv|-;omega
 |sb id ver lo t r=>
  rintro⟨h1,h2⟩;refine⟨by omega,fun u s v ho=>?_⟩;obtain⟨s0,v0,h3,h4,h5,h6⟩:=q8 hs h1 ho;obtain⟨h7,h8⟩:=h2 u s0 v0 h3;refine⟨by omega,fun e=>?_⟩;have e2:v0=ver:=by omega
  have:=h6 (by omega);subst this;exact h8 e2
 |op id t p=>rintro⟨h1,h2⟩;exact⟨by omega,h2⟩
 |ep id m t p=>
  rintro⟨h1,h2,h3,h6⟩;refine⟨by omega,h2,fun u s v ho=>?_,fun u s v ho=>?_⟩
  .obtain ⟨s0,v0,h4,_,h5,_⟩:=q8 hs h1 ho;have:=h3 u s0 v0 h4;omega
  .obtain ⟨s0,v0,h4,_,h5⟩:=EK hs h1 ho;have:=h6 u s0 v0 h4;omega
 |fn z f l ih=>intro hv;exact ih hv
 |rc l ih=>intro hv;exact ih hv
 |tp l ih=>intro hv;exact ih hv
 |co a r iha ihr=>rintro⟨h1,h2⟩;exact⟨iha h1,ihr h2⟩
 |_=>intro _;trivial
theorem j8(hs:ik n h h'):∀{v:V}{cs:List C},eA n h v->eD h v cs->eD h' v cs:=by
 intro v;induction v with
 |so id=>rintro cs hi ⟨c,rfl,hc,hid⟩;exact⟨c,rfl,fun c' hc'=>hc c' (HX hs hi hc'),hid⟩
 |sr id=>rintro cs hi ⟨c,rfl,hc,hid⟩;exact⟨c,rfl,fun c' hc'=>hc c' (HT hs hi hc'),hid⟩
 |sb id ver lo t r=>
  rintro cs ⟨hi,h2⟩ ⟨c,rfl,hc,hid⟩;refine⟨c,rfl,fun ha=>hc ?_,hid⟩;obtain⟨u,s,ho⟩:=j9 ha;obtain⟨s0,v0,h3,h4,_,_⟩:=q8 hs hi ho;obtain⟨h7,_⟩:=h2 u s0 v0 h3;have:v0=ver:=by omega
  subst this;unfold As;rcases h3 with h3|h3<;>rw[h3]<;>simp
 |fn z f l ih=>intro cs hv hc;cases z with|true=>exact hc|false=>obtain⟨xs,h1,h2⟩:=hc;exact⟨xs,ih hv h1,h2⟩
 |rc l ih=>intro cs hv hc;exact ih hv hc
 |co a r iha ihr=>rintro cs ⟨h1,h2⟩ ⟨x,y,rfl,h3,h4⟩;exact⟨x,y,rfl,iha h1 h3,ihr h2 h4⟩
 |_=>intro cs _ hc;exact hc
theorem tT(hs:ik n h h'){v:V}{x:TV}(hv:eA n h v)(hx:qv h v x):qv h' v x:=by obtain⟨cs,h1,h2⟩:=hx;exact⟨cs,j8 hs hv h1,h2⟩
theorem FL(hs:ik n h h'):∀{v:V}{xs:List TV},eA n h v->zk h v xs->zk h' v xs:=by intro v;induction v with|co a r iha ihr=>rintro xs ⟨h1,h2⟩ ⟨x,ys,rfl,h3,h4⟩;exact⟨x,ys,rfl,tT hs h1 h3,ihr h2 h4⟩|ni=>intro xs _ h;exact h|_=>intro xs _ h;exact h.elim
theorem sH(hs:ik n h h'){v:V}{x:TV}(hv:eA n h v)(hx:eW h v x):eW h' v x:=by cases v with|tp l=>obtain⟨xs,h1,h2⟩:=hx;exact⟨xs,h1,FL hs hv h2⟩|no=>exact hx|gn=>exact hx|_=>exact tT hs hv hx
theorem nF(hs:ik n h h'){o:O}{b:Option Ob}(ho:Az n h o)(hb:sX h o b):sX h' o b:=by cases o with|bx t c=>obtain⟨cs,h1,h2,h3⟩:=hb;exact⟨cs,h1,j8 hs ho h2,h3⟩|_=>exact hb
theorem mr(hn:n<=n')(hs:ik n h h'){o:O}(ho:Az n h o):Az n' h' o:=by
 cases o with
 |bx t c=>exact fN hn hs ho
 |rw t s ln=>cases ln with|none=>trivial|some q=>obtain⟨m,id⟩:=q;obtain⟨h1,h2,h3⟩:=ho;refine⟨h1,Nat.lt_of_lt_of_le h2 hn,fun u r v hu=>?_⟩;obtain⟨s0,v0,h4,h5,h6⟩:=H3 hs h2 hu;obtain⟨h7,h8⟩:=h3 u s0 v0 h4;exact⟨h5▸h7,h6▸h8⟩
 |_=>trivial
end
theorem gy{h:H2}:∀{v:V}{cs:List C},eD h v cs->cs.length=vO v:=by
 intro v;induction v with
 |x t v=>rintro cs ⟨_,rfl⟩;simp[vO,bD]
 |so id=>rintro cs ⟨c,rfl,_⟩;rfl
 |sr id=>rintro cs ⟨c,rfl,_⟩;rfl
 |sb id ver lo t r=>rintro cs ⟨c,rfl,_⟩;rfl
 |pt t v=>rintro cs ⟨_,rfl⟩;rfl
 |fn z f l ih=>intro cs hc;cases z with|true=>obtain⟨ds,_,rfl⟩:=hc;rfl|false=>obtain⟨ds,_,rfl⟩:=hc;rfl
 |rc l ih=>intro cs hc;exact ih hc
 |fl l=>rintro cs ⟨_,rfl⟩;simp[eJ,vO]
 |ni=>rintro cs rfl;rfl
 |co a r iha ihr=>rintro cs ⟨x,y,rfl,h1,h2⟩;simp[vO,iha h1,ihr h2]
 |tp l=>intro cs hc;exact hc.elim
 |no=>intro cs hc;exact hc.elim
 |gn=>intro cs hc;exact hc.elim
 |_=>rintro cs rfl;rfl
theorem fQ:∀(v:V)(ln:Bool)(t:Ty),dW v ln t=true->vO v=bm t:=by
 intro v;induction v with
 |rc l ih=>
  intro ln t hf;cases ln with
  |true=>cases t<;>simp[dW]at hf
  |false=>cases t with|st t=>exact ih true t hf|_=>simp[dW]at hf
 |co a r iha ihr=>
  intro ln t hf;cases ln with
  |false=>simp[dW]at hf
  |true=>
   cases t with
   |pr t u=>simp only[dW,af]at hf;simp[vO,bm,iha _ _ hf.1,ihr _ _ hf.2]
   |_=>cases r with|ni=>have hf':dW a false _=true:=hf;simp[vO,iha _ _ hf']|_=>simp[dW]at hf
 |x u v=>intro ln t hf;cases ln with|false=>simp only[dW,decide_eq_true_eq]at hf;subst hf;rfl|true=>cases t<;>simp[dW]at hf
 |nl k=>intro ln t hf;cases ln<;>cases t<;>first|rfl|(simp[dW]at hf;done)|skip
 |_=>intro ln t hf;cases ln<;>cases t<;>first|rfl|(simp[dW]at hf;done)
section
variable{h:H2}
theorem nT{v:V}{u:Ty}{y:El u}{cs:List C}(hc:gi u v=some y)(hv:eD h v cs):cs=(aM u y).map .d:=by
 cases v with
 |x t v=>obtain⟨rfl,rfl⟩:=cR hc;exact hv.2
 |kb c=>obtain⟨rfl,rfl⟩:=cR (t:=.b) hc;exact hv
 |nl k=>
  cases k with
  |zero=>
   cases u<;>simp only[gi]at hc<;>first|cases hc;done|skip
   obtain rfl:=aa hc;exact hv
  |succ k=>simp[gi]at hc
 |fl l=>
  obtain⟨h1,rfl⟩:=hv;simp only[gi]at hc;cases ha:lH u
  .rw [ha]at hc;simp at hc
  rw[ha,cond_true]at hc;split at hc
  .rename_i x hx;obtain rfl:=aa hc;obtain⟨p,rfl,e⟩:=G8 u _ _ _ hx h1;rw[e];simp[eJ]
  .simp at hc
 |_=>simp[gi]at hc
theorem gW:∀(v:V)(ln:Bool)(u:Ty)(y:El u)(cs:List C),js v ln u=some y->eD h v cs->cs=(aM u y).map .d:=by
 intro v;induction v with
 |rc l ih=>
  intro ln u y cs hc hv;cases ln with
  |true=>cases u<;>simp[js]at hc
  |false=>cases u with|st u=>exact ih true u y cs hc hv|_=>simp[js,gi]at hc
 |co a r iha ihr=>
  intro ln u y cs hc hv;obtain⟨x1,x2,rfl,h1,h2⟩:=hv;cases ln with
  |false=>cases u<;>simp[js,gi]at hc
  |true=>
   cases u with
   |pr t u=>
    simp only[js]at hc;split at hc
    .rename_i p q hp hq;obtain rfl:=aa hc;rw[iha _ _ _ _ hp h1,ihr _ _ _ _ hq h2];simp[aM]
    .simp at hc
   |_=>cases r with|ni=>have hc':js a false _=some y:=hc;obtain rfl:x2=[]:=h2;rw[bi];exact iha _ _ _ _ hc' h1|_=>simp[js]at hc
 |_=>
  intro ln u y cs hc hv;cases ln with
  |true=>cases u<;>simp[js]at hc
  |false=>first|exact nT hc hv|(simp[js]at hc)
theorem Cm{v:V}{u:Ty}{y:El u}(hc:gi u v=some y):qS v=lH u:=by
 cases v with
 |x t v=>obtain⟨rfl,_⟩:=cR hc;rfl
 |kb c=>obtain⟨rfl,_⟩:=cR (t:=.b) hc;rfl
 |nl k=>
  cases k with
  |zero=>cases u<;>simp only[gi]at hc<;>first|rfl|cases hc
  |succ k=>simp[gi]at hc
 |fl l=>
  simp only[gi]at hc;cases ha:lH u
  .rw [ha]at hc;simp at hc
  .rfl
 |_=>simp[gi]at hc
theorem ut{v:V}{u:Ty}{y:El u}(hc:rn u v=some y):qS v=lH u:=by
 cases v with
 |rc l=>cases u with|st u=>rfl|_=>simp[rn,js,gi]at hc
 |co a r=>cases u<;>simp[rn,js,gi]at hc
 |ni=>cases u<;>simp[rn,js]at hc
 |_=>exact Cm hc
theorem yC:∀(l:V)(t:Ty)(i:Nat)(w:V)(cs:List C),dW l true t=true->eD h l cs->ql l i=some w->
  ∃u cw,AB t i=some u/\dW w false u=true/\eD h w cw/\mS t i+bm u<=cs.length/\(cs.drop (mS t i)).take (bm u)=cw:=by
 intro l;induction l with
 |co a r iha ihr=>
  intro t i w cs hf hv hw;obtain⟨x,y,rfl,h1,h2⟩:=hv;have one:∀t,dW a false t=true->r=.ni->AB t 0=some t->mS t 0=0->i=0->∃u cw,AB t i=some u/\dW w false u=true/\eD h w cw/\mS t i+bm u<=(x++y).length/\((x++y).drop (mS t i)).take (bm u)=cw:=by intro t hf hr h3 h4 hi;subst hi;obtain rfl:=aa hw;have hs:=fQ _ _ _ hf;have hl:=gy h1;refine⟨t,x,h3,hf,h1,by rw[h4];simp;omega,?_⟩;rw[h4,cA,<-hs,<-hl,List.take_left]
  cases t with
  |pr t u=>simp only[dW,af]at hf;have hs:=fQ _ _ _ hf.1;have hl:=gy h1;cases i with|zero=>obtain rfl:=aa hw;refine⟨t,x,rfl,hf.1,h1,by simp[mS];omega,?_⟩;simp only[mS,cA];rw[<-hs,<-hl,List.take_left]|succ i=>obtain⟨u',cw,q1,q2,q3,q4,q5⟩:=ihr u i w y hf.2 h2 hw;refine⟨u',cw,q1,q2,q3,by simp only[mS,aG];omega,?_⟩;simp only[mS];rw[<-dp,<-hs,<-hl,List.drop_left,q5]
  |_=>
   cases r with
   |ni=>have hf':dW a false _=true:=hf;cases i with|zero=>exact one _ hf' rfl rfl rfl rfl|succ i=>simp[ql]at hw
   |_=>simp[dW]at hf
 |_=>intro t i w cs hf hv hw;simp[ql]at hw
theorem yu:∀(l:V)(t:Ty)(i:Nat)(w:V)(cs cw:List C)(u:Ty),dW l true t=true->eD h l cs->AB t i=some u->eD h w cw->cw.length=bm u->(∃w0,ql l i=some w0)->eD h (Ih l i w) (aX cs (mS t i) cw):=by
 intro l;induction l with
 |co a r iha ihr=>
  intro t i w cs cw u hf hv hu hw hlen hn;obtain⟨x,y,rfl,h1,h2⟩:=hv;cases t with
  |pr t u'=>simp only[dW,af]at hf;have hs:=fQ _ _ _ hf.1;have hl:=gy h1;cases i with|zero=>obtain rfl:=aa hu;refine⟨cw,y,?_,hw,h2⟩;simp only[mS];rw[qX (by omega),kS (by omega)]|succ i=>have:=ihr u' i w y cw u hf.2 h2 hu hw hlen hn;refine⟨x,_,?_,h1,this⟩;simp only[mS];rw[<-hs,<-hl,qY]
  |_=>
   cases r with
   |ni=>cases i with|zero=>obtain rfl:=aa hu;have hf':dW a false _=true:=hf;have hs:=fQ _ _ _ hf';have hl:=gy h1;obtain rfl:y=[]:=h2;refine⟨cw,[],?_,hw,rfl⟩;simp only[mS,bi];rw[kS (by omega)]|succ i=>obtain⟨w0,hn⟩:=hn;simp[ql]at hn
   |_=>simp[dW]at hf
 |_=>intro t i w cs cw u hf hv hu hw hlen hn;obtain⟨w0,hn⟩:=hn;simp[ql]at hn
theorem zo:∀(t:Ty)(v:El t),je t=true->eD h (FO t v) ((aM t v).map .d):=by intro t;induction t with|pr a c iha ihc=>intro v hd;simp only[je,af]at hd;exact⟨(aM a v.1).map .d,(aM c v.2).map .d,by simp[aM],⟨hd.1,rfl⟩,ihc v.2 hd.2⟩|_=>intro v hd;exact⟨_,[],(bi _).symm,⟨hd,rfl⟩,rfl⟩
theorem La:∀(t:Ty)(v:El t),dW (FO t v) true t=true:=by intro t;induction t with|pr a c iha ihc=>intro v;simp[FO,dW,ihc]|_=>intro v;simp[FO,dW]
theorem K_:∀(t:Ty)(v:El t)(i:Nat)(w:V),xZ t v i=some w->ql (FO t v) i=some w:=by
 intro t;induction t with
 |pr a c iha ihc=>intro v i w hw;cases i with|zero=>exact hw|succ i=>exact ihc v.2 i w hw
 |_=>intro v i w hw;cases i with|zero=>exact hw|succ i=>simp[xZ]at hw
theorem xa:∀(t:Ty)(i:Nat)(u:Ty),je t=true->AB t i=some u->je u=true:=by
 intro t;induction t with
 |pr a c iha ihc=>intro i u hd hu;simp only[je,af]at hd;cases i with|zero=>obtain rfl:=aa hu;exact hd.1|succ i=>exact ihc i u hd.2 hu
 |_=>intro i u hd hu;cases i with|zero=>obtain rfl:=aa hu;exact hd|succ i=>simp[AB]at hu
theorem ub:∀(p:nZ)(t u:Ty),pA t p=some u->Gq t p->k_ t p+bm u<=bm t:=by
 intro p;induction p with
 |nil=>
  intro t u hu _;have e2:pA t []=some t:=by cases t<;>rfl
  have e:k_ t []=0:=by cases t<;>rfl
  obtain rfl:t=u:=by rw[e2]at hu;exact aa hu
  omega
 |cons q p ih=>
  intro t u hu hp;cases q with
  |fd i=>cases t with|st t=>obtain⟨a,ha,hp⟩:=hp;simp only[pA,ha]at hu;have:=ih a u hu hp;have:=Of t i a ha;simp only[k_,ha,bm];omega|_=>exact hp.elim
  |ix k=>cases t with|ar n t=>obtain⟨hk,hp⟩:=hp;have:=ih t u hu hp;have h2:(k+1)*bm t<=n*bm t:=aH _ hk;rw[bI]at h2;simp only[k_,bm];omega|_=>exact hp.elim
theorem ul:∀(p:nZ)(c:V)(t:Ty)(w:V)(cs:List C),dW c false t=true->eD h c cs->Gq t p->nN c p=some w->
  ∃u cw,pA t p=some u/\dW w false u=true/\eD h w cw/\k_ t p+bm u<=cs.length/\(cs.drop (k_ t p)).take (bm u)=cw:=by
 intro p;induction p with
 |nil=>
  intro c t w cs hf hv _ hw;obtain rfl:c=w:=by simpa[nN]using hw
  have hs:=fQ _ _ _ hf;have hl:=gy hv;refine⟨t,cs,by cases t<;>rfl,hf,hv,?_,?_⟩
  .cases t<;>simp[k_]<;>omega
  .have e:k_ t []=0:=by cases t<;>rfl
   rw[e,cA,dn (by omega)]
 |cons q p ih=>
  intro c t w cs hf hv hp hw
  have sub:∀(o n:Nat)(c2:V)(u:Ty)(c3:List C),dW c2 false u=true->eD h c2 c3->(cs.drop o).take (bm u)=c3->o+bm u<=cs.length->Gq u p->nN c2 p=some w->pA t (q::p)=pA u p->k_ t (q::p)=o+k_ u p->
    ∃u cw,pA t (q::p)=some u/\dW w false u=true/\eD h w cw/\k_ t (q::p)+bm u<=cs.length/\(cs.drop (k_ t (q::p))).take (bm u)=cw:=by
   intro o n c2 u c3 hf2 hv2 h3 h4 h5 h6 h7 h8;obtain⟨u',cw,q1,q2,q3,q4,q5⟩:=ih c2 u w c3 hf2 hv2 h5 h6;have hl:=gy hv2;rw[fQ _ _ _ hf2]at hl;refine⟨u',cw,h7.trans q1,q2,q3,by rw[h8];omega,?_⟩;rw[h8,<-q5,<-h3,<-dp];rw[List.drop_take,List.take_take];congr 1;omega
  cases q with
  |fd i=>
   cases t with
   |st t=>
    obtain⟨u,hu,hp⟩:=hp;have e7:pA (.st t) (.fd i::p)=pA u p:=by simp only[pA,hu]
    have e8:k_ (.st t) (.fd i::p)=mS t i+k_ u p:=by simp only[k_,hu]
    cases c with
    |x t' v=>
     simp only[dW,decide_eq_true_eq]at hf;subst hf;obtain⟨hd,rfl⟩:=hv;simp only[nN]at hw;split at hw
     .rename_i y hy;obtain⟨u',y',rfl,h1,h2,h3⟩:=pk _ _ _ _ hy;obtain rfl:u=u':=by rw[hu]at h1;exact aa h1
      refine sub (mS t i) 0 (.x u y') u ((aM u y').map .d) (by simp[dW]) ⟨xa t _ _ hd hu,rfl⟩ ?_ ?_ hp hw e7 e8
      .rw [<-h3,fZ,fx];rfl
      .simp [bD,bm];exact h2
     .simp at hw
    |rc l=>
     simp only[nN]at hw;split at hw
     .rename_i y hy;obtain⟨u',cw,q1,q2,q3,q4,q5⟩:=yC l t i y cs hf hv hy;obtain rfl:u=u':=by rw[hu]at q1;exact aa q1
      exact sub (mS t i) 0 y u cw q2 q3 q5 q4 hp hw e7 e8
     .simp at hw
    |_=>simp[nN]at hw
   |_=>exact hp.elim
  |ix k=>
   cases t with
   |ar n t=>
    obtain⟨hk,hp⟩:=hp;cases c with
    |x t' v=>
     simp only[dW,decide_eq_true_eq]at hf;subst hf;obtain⟨hd,rfl⟩:=hv;simp only[nN]at hw;have hk':k<v.1.length:=by rw[v.2];exact hk
     have hg:=wV (bD t) v.1 k hk';refine sub (k*bm t) 0 (.x t (gt v.1 k)) t ((aM t (gt v.1 k)).map .d) (by simp[dW]) ⟨hd,rfl⟩ ?_ ?_ hp hw rfl rfl
     .rw [<-hg,fZ,fx];rfl
     .simp only[aI,bD,bm];have:(k+1)*bm t<=n*bm t:=aH _ hk;rw[bI]at this;omega
    |_=>simp[nN]at hw
   |_=>exact hp.elim
theorem FY:∀(t:Ty)(v:El t)(i:Nat)(w:V)(v':El t),FZ t v i w=some v'->∃u z,AB t i=some u/\gi u w=some z/\aM t v'=aX (aM t v) (mS t i) (aM u z):=by
 intro t;induction t with
 |pr a c iha ihc=>
  intro v i w v' hs;cases i with
  |zero=>
   simp only[FZ]at hs;split at hs
   .rename_i y hy;obtain rfl:=aa hs;refine⟨a,y,rfl,hy,?_⟩;simp only[aM,mS];rw[qX (by simp[bD]),kS (by simp[bD])]
   .simp at hs
  |succ i=>
   simp only[FZ]at hs;split at hs
   .rename_i y hy;obtain rfl:=aa hs;obtain⟨u,z,h1,h2,h3⟩:=ihc _ _ _ _ hy;refine⟨u,z,h1,h2,?_⟩;simp only[aM,mS,h3];have:=qY (a:=aM a v.1) (b:=aM c v.2) (off:=mS c i) (p:=aM u z);rw[bD]at this;rw[this]
   .simp at hs
 |_=>intro v i w v' hs;cases i with|zero=>have hs':gi _ w=some v':=hs;exact⟨_,v',rfl,hs',by simp only[mS];rw[kS (by simp[bD])]⟩|succ i=>simp[FZ]at hs
theorem tW:∀(p:nZ)(c:V)(t:Ty)(w c':V)(cs cw:List C)(u:Ty),dW c false t=true->eD h c cs->Gq t p->mG c p w=some c'->pA t p=some u->eD h w cw->cw.length=bm u->
  eD h c' (aX cs (k_ t p) cw):=by
 intro p;induction p with
 |nil=>
  intro c t w c' cs cw u hf hv _ hs hu hw hlen;obtain rfl:w=c':=by simpa[mG]using hs
  have e:k_ t []=0:=by cases t<;>rfl
  have e2:pA t []=some t:=by cases t<;>rfl
  obtain rfl:t=u:=by rw[e2]at hu;exact aa hu
  have:=gy hv;rw[fQ _ _ _ hf]at this;rw[e,kS (by omega)];exact hw
 |cons q p ih=>
  intro c t w c' cs cw u hf hv hp hs hu hw hlen;cases q with
  |fd i=>
   cases t with
   |st t=>
    obtain⟨a,ha,hp⟩:=hp;have hu':pA a p=some u:=by simpa only[pA,ha]using hu
    have e8:k_ (.st t) (.fd i::p)=mS t i+k_ a p:=by simp only[k_,ha]
    cases c with
    |x t' v=>
     simp only[dW,decide_eq_true_eq]at hf;subst hf;obtain⟨hd,rfl⟩:=hv;simp only[mG]at hs;split at hs
     .rename_i y hy;split at hs
      .rename_i y1 hy1;obtain⟨a',z,rfl,h1,h2,h3⟩:=pk _ _ _ _ hy;obtain rfl:a=a':=by rw[ha]at h1;exact aa h1
       have hz:eD h (.x a z) ((aM a z).map .d):=⟨xa t _ _ hd ha,rfl⟩
       have h4:=ih (.x a z) a w y1 ((aM a z).map .d) cw u (by simp[dW]) hz hp hy1 hu' hw hlen;have hle:k_ a p+cw.length<=bm a:=by have:=ub p a u hu' hp;omega
       have h5:((aM (.st t) v).map C.d|>.drop (mS t i)).take (bm a)=(aM a z).map .d:=by rw[<-h3,fZ,fx];rfl
       have h6:aX ((aM (.st t) v).map C.d) (mS t i+k_ a p) cw=aX ((aM (.st t) v).map C.d) (mS t i) (aX ((aM a z).map .d) (k_ a p) cw):=(oJ h5 (by simp[bD,bm];exact h2) hle).symm;rw[e8,h6];split at hs
       .rename_i v' hv';obtain rfl:=aa hs;obtain⟨a2,z2,k1,k2,k3⟩:=FY _ _ _ _ _ hv';obtain rfl:a=a2:=by rw[ha]at k1;exact aa k1
        refine⟨hd,?_⟩;have:=nT k2 h4;rw[this];show _=(aM t v').map C.d;rw[k3,sd];rfl
       .obtain rfl:=aa hs;refine yu (FO t v) t i y1 _ _ a (La t v) (zo t v hd) ha h4 ?_ ⟨_,K_ t v i _ hy⟩;rw[se (by simp[bD];exact hle)];simp[bD]
      .simp at hs
     .simp at hs
    |rc l=>
     simp only[mG]at hs;split at hs
     .rename_i y hy;split at hs
      .rename_i y1 hy1;obtain rfl:=aa hs;obtain⟨a',cw2,q1,q2,q3,q4,q5⟩:=yC l t i y cs hf hv hy;obtain rfl:a=a':=by rw[ha]at q1;exact aa q1
       have h4:=ih y a w y1 cw2 cw u q2 q3 hp hy1 hu' hw hlen;have hl:=gy q3;rw[fQ _ _ _ q2]at hl;have hle:k_ a p+cw.length<=bm a:=by have:=ub p a u hu' hp;omega
       rw[e8,<-oJ q5 q4 hle];exact yu l t i y1 cs _ a hf hv ha h4 (by rw[se (by omega),hl]) ⟨_,hy⟩
      .simp at hs
     .simp at hs
    |_=>simp[mG]at hs
   |_=>exact hp.elim
  |ix k=>
   cases t with
   |ar n t=>
    obtain⟨hk,hp⟩:=hp;have hu':pA t p=some u:=hu;cases c with
    |x t' v=>
     simp only[dW,decide_eq_true_eq]at hf;subst hf;obtain⟨hd,rfl⟩:=hv;simp only[mG]at hs;split at hs
     .rename_i y1 hy1;split at hs
      .rename_i z hz;obtain rfl:=aa hs;have hk':k<v.1.length:=by rw[v.2];exact hk
       have hg:=wV (bD t) v.1 k hk';have h4:=ih (.x t (gt v.1 k)) t w y1 ((aM t (gt v.1 k)).map .d) cw u (by simp[dW]) ⟨hd,rfl⟩ hp hy1 hu' hw hlen;have h7:=nT hz h4;have hle:k_ t p+cw.length<=bm t:=by have:=ub p t u hu' hp;omega
       have h5:((aM (.ar n t) v).map C.d|>.drop (k*bm t)).take (bm t)=(aM t (gt v.1 k)).map .d:=by rw[<-hg,fZ,fx];rfl
       have h8:k*bm t+bm t<=((aM (.ar n t) v).map C.d).length:=by simp only[aI,bD,bm];have:(k+1)*bm t<=n*bm t:=aH _ hk;rw[bI]at this;omega
       refine⟨hd,?_⟩;show aX _ (k*bm t+k_ t p) cw=_;rw[<-oJ h5 h8 hle,h7,<-sd];show _=((v.1.set k z).flatMap (aM t)).map C.d;rw[JJ (bD t) v.1 k z hk'];rfl
      .simp at hs
     .simp at hs
    |_=>simp[mG]at hs
   |_=>exact hp.elim
theorem vu{n:Nat}:∀(l:V)(i:Nat)(w:V),eA n h l->ql l i=some w->eA n h w:=by
 intro l;induction l with
 |co a r iha ihr=>intro i w hk hw;cases i with|zero=>obtain rfl:=aa hw;exact hk.1|succ i=>exact ihr i w hk.2 hw
 |_=>intro i w hk hw;simp[ql]at hw
theorem EP{n:Nat}:∀(l:V)(i:Nat)(w:V),eA n h l->eA n h w->eA n h (Ih l i w):=by
 intro l;induction l with
 |co a r iha ihr=>intro i w hk hw;cases i with|zero=>exact⟨hw,hk.2⟩|succ i=>exact⟨hk.1,ihr i w hk.2 hw⟩
 |_=>intro i w hk hw;exact hk
theorem Ff{n:Nat}{t:Ty}{v:El t}{i:Nat}{w:V}(hw:xZ t v i=some w):eA n h w:=by obtain⟨u,y,rfl,_⟩:=pk _ _ _ _ hw;trivial
theorem CT{n:Nat}:∀(t:Ty)(v:El t),eA n h (FO t v):=by intro t;induction t with|pr a c iha ihc=>intro v;exact⟨trivial,ihc v.2⟩|_=>intro v;exact⟨trivial,trivial⟩
theorem zZ{n:Nat}:∀(p:nZ)(c w:V),eA n h c->nN c p=some w->eA n h w:=by
 intro p;induction p with
 |nil=>intro c w hk hw;obtain rfl:c=w:=by simpa[nN]using hw
       exact hk
 |cons q p ih=>
  intro c w hk hw;cases q with
  |fd i=>
   cases c with
   |x t v=>
    cases t with
    |st t=>
     simp only[nN]at hw;split at hw
     .rename_i y hy;exact ih y w (Ff hy) hw
     .simp at hw
    |_=>simp[nN]at hw
   |rc l=>
    simp only[nN]at hw;split at hw
    .rename_i y hy;exact ih y w (vu l _ _ hk hy) hw
    .simp at hw
   |_=>simp[nN]at hw
  |ix k=>
   cases c with
   |x t v=>cases t with|ar m t=>exact ih (.x t (gt v.1 k)) w trivial hw|_=>simp[nN]at hw
   |_=>simp[nN]at hw
theorem EJ{n:Nat}:∀(p:nZ)(c w c':V),eA n h c->eA n h w->mG c p w=some c'->eA n h c':=by
 intro p;induction p with
 |nil=>intro c w c' _ hw hs;obtain rfl:w=c':=by simpa[mG]using hs
       exact hw
 |cons q p ih=>
  intro c w c' hk hw hs;cases q with
  |fd i=>
   cases c with
   |x t v=>
    cases t with
    |st t=>
     simp only[mG]at hs;split at hs
     .rename_i y hy;split at hs
      .rename_i y1 hy1;split at hs
       .obtain rfl:=aa hs;trivial
       .obtain rfl:=aa hs;exact EP _ _ _ (CT t v) (ih y w y1 (Ff hy) hw hy1)
      .simp at hs
     .simp at hs
    |_=>simp[mG]at hs
   |rc l=>
    simp only[mG]at hs;split at hs
    .rename_i y hy;split at hs
     .rename_i y1 hy1;obtain rfl:=aa hs;exact EP l _ _ hk (ih y w y1 (vu l _ _ hk hy) hw hy1)
     .simp at hs
    .simp at hs
   |_=>simp[mG]at hs
  |ix k=>
   cases c with
   |x t v=>
    cases t with
    |ar m t=>
     simp only[mG]at hs;split at hs
     .split at hs
      .obtain rfl:=aa hs;trivial
      .simp at hs
     .simp at hs
    |_=>simp[mG]at hs
   |_=>simp[mG]at hs
end
section
variable{h:H2}{n:Nat}{h1:bz}
theorem c_{v:V}{c:C}(ha:qS v=false)(hc:eD h v [c]):qv h v (.c c):=⟨[c],hc,fun e=>(by rw[ha]at e;cases e),fun _=>⟨c,rfl,rfl⟩⟩
theorem vK{v:V}{cs:List C}(ha:qS v=true)(hc:eD h v cs):qv h v (.agg cs):=⟨cs,hc,fun _=>rfl,fun e=>(by rw[ha]at e;cases e)⟩
theorem gY{v:V}{x:TV}(hx:qv h v x)(ha:qS v=false):∃c,x=.c c/\eD h v [c]:=by obtain⟨cs,h1,_,h2⟩:=hx;obtain⟨c,rfl,rfl⟩:=h2 ha;exact⟨c,rfl,h1⟩
theorem o4{v:V}{x:TV}(hx:qv h v x):∃cs,eD h v cs/\cellsOf x=some cs:=by obtain⟨cs,h1,h2,h3⟩:=hx;refine⟨cs,h1,?_⟩;cases ha:qS v with|true=>rw[h2 ha];rfl|false=>obtain⟨c,rfl,rfl⟩:=h3 ha;rfl
theorem iS{k:IntKind}{a:Int}{x:TV}(hx:eW h (.x (.i k) a) x):x=tI k a:=by obtain⟨c,rfl,_,hc⟩:=gY (v:=.x (.i k) a) hx rfl;obtain rfl:=(bW hc).1;rfl
theorem EF{a:Bool}{x:TV}(hx:eW h (.x .b a) x):x=tB a:=by obtain⟨c,rfl,_,hc⟩:=gY (v:=.x .b a) hx rfl;obtain rfl:=(bW hc).1;rfl
theorem uL{a:ByteArray}{x:TV}(hx:eW h (.x .s a) x):x=.c (.d (dS a)):=by obtain⟨c,rfl,_,hc⟩:=gY (v:=.x .s a) hx rfl;obtain rfl:=(bW hc).1;rfl
theorem vI{t:Ty}{s:Sl (El t)}{x:TV}(hx:eW h (.x (.sl t) s) x):x=.c (.d (tV (bm t) (aM t) s)):=by obtain⟨c,rfl,_,hc⟩:=gY (v:=.x (.sl t) s) hx rfl;obtain rfl:=(bW hc).1;rfl
theorem tR{a:Bool}{x:TV}(hx:eW h (.kb a) x):x=tB a:=by obtain⟨c,rfl,hc⟩:=gY (v:=.kb a) hx rfl;obtain rfl:=(bW hc).1;rfl
theorem rY{k:Nat}{x:TV}(hx:eW h (.nl k) x):x=.c (yD k):=by obtain⟨c,rfl,hc⟩:=gY (v:=.nl k) hx rfl;obtain rfl:=(bW hc).1;rfl
theorem vJ{t:Ty}{a:El t}{x:TV}(hx:eW h (.pt t a) x):je t=true/\x=.c (.d (.pt (aM t a))):=by obtain⟨c,rfl,hd,hc⟩:=gY (v:=.pt t a) hx rfl;obtain rfl:=(bW hc).1;exact⟨hd,rfl⟩
theorem tQ{id:Nat}{t:Ty}{p:nZ}{x:TV}(hx:eW h (.op id t p) x):x=.c (.op id (k_ t p)):=by obtain⟨c,rfl,hc⟩:=gY (v:=.op id t p) hx rfl;obtain rfl:=(bW hc).1;rfl
theorem qu{id m:Nat}{t:Ty}{p:nZ}{x:TV}(hx:eW h (.ep id m t p) x):x=.c (.ep id m (k_ t p)):=by obtain⟨c,rfl,hc⟩:=gY (v:=.ep id m t p) hx rfl;obtain rfl:=(bW hc).1;rfl
theorem CN{id:Nat}{x:TV}(hx:eW h (.om id) x):x=.c (.om id):=by obtain⟨c,rfl,hc⟩:=gY (v:=.om id) hx rfl;obtain rfl:=(bW hc).1;rfl
theorem pH{id:Nat}{c:C}{x:TV}(hx:eW h (.so id) x)(hc:yj id (fO h id)=some c):x=.c c:=by obtain⟨c',rfl,c2,h2,h3⟩:=gY (v:=.so id) hx rfl;obtain rfl:=(bW h2).1;rw[h3.1 c hc]
theorem zj{id:Nat}{c:C}{x:TV}(hx:eW h (.sr id) x)(hc:xB id (fO h id)=some c):x=.c c:=by obtain⟨c',rfl,c2,h2,h3⟩:=gY (v:=.sr id) hx rfl;obtain rfl:=(bW h2).1;rw[h3.1 c hc]
theorem qy{id:Nat}{t:Ty}{s:Sl (Sl (El t))}{ln:Option (Nat×Nat)}(ho:fO h id=some (.rw t s ln)):xB id (fO h id)=some (jm 1 (aM (.sl t)) id s):=by rw[ho];rfl
theorem oH{id ver lo:Nat}{t:Ty}{r:Sl (El t)}{x:TV}(hx:eW h (.sb id ver lo t r) x)(ha:gu h (.sb id ver lo t r)=true):x=.c (v7 id lo t r):=by obtain⟨c',rfl,c2,h2,h3⟩:=gY (v:=.sb id ver lo t r) hx rfl;obtain rfl:=(bW h2).1;rw[h3.1 (Bool.and_eq_true_iff.1 ha).2]
theorem CO{z:Bool}{f:Nat}{l:V}{x:TV}(hx:eW h (.fn z f l) x):(z=true/\∃ds,oU l=some ds/\x=.c (.d (.fn f ds)))\/(z=false/\∃cs,eD h l cs/\x=.c (.mP f cs)):=by obtain⟨c',rfl,hc⟩:=gY (v:=.fn z f l) hx rfl;cases z with|true=>obtain⟨ds,h2,h3⟩:=hc;exact .inl ⟨rfl,ds,h2,by rw[(bW h3).1]⟩|false=>obtain⟨ds,h2,h3⟩:=hc;exact .inr ⟨rfl,ds,h2,by rw[(bW h3).1]⟩
theorem Nt{l:V}{x:TV}(hx:eW h (.tp l) x):∃xs,x=.gR xs/\zk h l xs:=hx
def Ly:V->Prop
 |.tp _|.no|.gn=>False
 |_=>True
theorem mO{v:V}{x:TV}(hv:Ly v)(hx:eW h v x):qv h v x:=by cases v<;>first|exact hx|exact hv.elim
theorem bM{v:V}{x:TV}(hx:qv h v x):eW h v x:=by cases v<;>first|exact hx|(obtain⟨cs,hc,_⟩:=hx;exact hc.elim)
theorem M4{v:V}{u:Ty}{y:El u}(hc:rn u v=some y):Ly v:=by cases v<;>first|trivial|(simp[rn,js,gi]at hc)
theorem tu{v:V}{u:Ty}{y:El u}{x:TV}(hx:eW h v x)(hc:rn u v=some y):(lH u=true->x=.agg ((aM u y).map .d))/\(lH u=false->∃d,aM u y=[d]/\x=.c (.d d)):=by
 obtain⟨cs,h2,h3,h4⟩:=mO (M4 hc) hx;have h5:=gW v false u y cs hc h2;have ha:=ut hc;constructor
 .intro hu;rw[h3 (ha.trans hu),h5]
 .intro hu;obtain⟨c,rfl,rfl⟩:=h4 (ha.trans hu);cases he:aM u y with
  |nil=>rw[he]at h5;simp at h5
  |cons d ds=>
   rw[he]at h5;simp only[List.map_cons,List.cons.injEq]at h5;obtain⟨rfl,h6⟩:=h5;have:ds=[]:=by simpa using h6.symm
   subst this;exact⟨d,rfl,rfl⟩
theorem M3{v:V}{x:TV}{a:Bool}(hx:eW h v x)(hc:rn .b v=some a):x=tB a:=by obtain⟨d,h1,rfl⟩:=(tu hx hc).2 rfl;obtain rfl:=(bW h1).1;rfl
def kH(h:H2):List V->List TV->Prop
 |[],[]=>True
 |v::vs,x::xs=>eW h v x/\kH h vs xs
 |_,_=>False
theorem jB{xs:List TV}(hx:kH h [] xs):xs=[]:=by cases xs<;>first|rfl|exact hx.elim
theorem fg{v:V}{vs:List V}{xs:List TV}(hx:kH h (v::vs) xs):∃x ys,xs=x::ys/\eW h v x/\kH h vs ys:=by cases xs with|nil=>exact hx.elim|cons x ys=>exact⟨x,ys,rfl,hx.1,hx.2⟩
theorem ga{v:V}{xs:List TV}(hx:kH h [v] xs):∃x,xs=[x]/\eW h v x:=by obtain⟨x,ys,rfl,h1,h2⟩:=fg hx;obtain rfl:=jB h2;exact⟨x,rfl,h1⟩
theorem gD{v w:V}{xs:List TV}(hx:kH h [v,w] xs):∃x y,xs=[x,y]/\eW h v x/\eW h w y:=by obtain⟨x,ys,rfl,h1,h2⟩:=fg hx;obtain⟨y,rfl,h3⟩:=ga h2;exact⟨x,y,rfl,h1,h3⟩
theorem Ns{v w z:V}{xs:List TV}(hx:kH h [v,w,z] xs):∃x y u,xs=[x,y,u]/\eW h v x/\eW h w y/\eW h z u:=by obtain⟨x,ys,rfl,h1,h2⟩:=fg hx;obtain⟨y,u,rfl,h3⟩:=gD h2;exact⟨x,y,u,rfl,h1,h3⟩
theorem HK:∀{vs:List V}{xs:List TV},kH h vs xs->(∀v∈vs,Ly v/\qS v=false)->∃cs,eD h (cC vs) cs/\xs=cs.map TV.c:=by intro vs;induction vs with|nil=>intro xs hx _;obtain rfl:=jB hx;exact⟨[],rfl,rfl⟩|cons v vs ih=>intro xs hx hv;obtain⟨x,ys,rfl,h1,h2⟩:=fg hx;obtain⟨hp,ha⟩:=hv v (by simp);obtain⟨c,rfl,h3⟩:=gY (mO hp h1) ha;obtain⟨cs,h4,rfl⟩:=ih h2 fun w hw=>hv w (by simp[hw]);exact⟨c::cs,⟨[c],cs,rfl,h3,h4⟩,rfl⟩
theorem sg{id:Nat}{q:(t:Ty)×Sl (El t)×List Nat}(hs:ry h (.so id)=some q):∃ver,(fO h id=some (.ar q.1 q.2.1 ver)\/fO h id=some (.im q.1 q.2.1 ver))/\q.2.2=[id]:=by
 simp only[ry]at hs;split at hs
 .rename_i t s v ho;obtain rfl:=aa hs;exact⟨v,.inl ho,rfl⟩
 .rename_i t s v ho;obtain rfl:=aa hs;exact⟨v,.inr ho,rfl⟩
 .simp at hs
theorem ki{id ver:Nat}{t:Ty}{s:Sl (El t)}(ho:fO h id=some (.ar t s ver)\/fO h id=some (.im t s ver)):yj id (fO h id)=some (jm (bm t) (aM t) id s):=by rcases ho with ho|ho<;>rw[ho]<;>rfl
theorem N7{id lo nx:Nat}{t:Ty}{r:Sl (El t)}{c:Call}{H:bz}:cm c (.len false) [some (.c (v7 id lo t r))] H nx=some (tI .i64 r.l.length,[],[],nx):=by cases r with|nil=>rfl|mk l=>simp[cm,rO,v7,Sl.l,lv]
theorem N5{v:V}{x:TV}{q:(t:Ty)×Sl (El t)×List Nat}{c:Call}{H:bz}{nx:Nat}(hx:eW h v x)(ha:gu h v=true)(hs:ry h v=some q):
  cm c (.len false) [some x] H nx=some (tI .i64 q.2.1.l.length,[],[],nx):=by
 cases v with
 |x t s=>cases t with|sl t=>obtain rfl:=aa hs;rw[vI hx];exact N6|_=>simp[ry]at hs
 |so id=>obtain⟨ver,ho,_⟩:=sg hs;rw[pH hx (ki ho)];exact MU
 |sb id ver lo t r=>obtain rfl:=aa hs;rw[oH hx ha];exact N7
 |_=>simp[ry]at hs
theorem Jg{id lo nx:Nat}{t:Ty}{r:Sl (El t)}{c:Call}{H:bz}{neg:Bool}:cm c (.po 0 neg) [some (.c (v7 id lo t r))] H nx=some (tB (if neg then !r.eC else r.eC),[],[],nx):=by cases r<;>rfl
theorem NV{v:V}{x:TV}{q:(t:Ty)×Sl (El t)×List Nat}{c:Call}{H:bz}{nx:Nat}{neg:Bool}(hx:eW h v x)(ha:gu h v=true)(hs:ry h v=some q):
  cm c (.po 0 neg) [some x] H nx=some (tB (if neg then !q.2.1.eC else q.2.1.eC),[],[],nx):=by
 cases v with
 |x t s=>cases t with|sl t=>obtain rfl:=aa hs;rw[vI hx];exact NW|_=>simp[ry]at hs
 |so id=>obtain⟨ver,ho,_⟩:=sg hs;rw[pH hx (ki ho)];exact PE
 |sb id ver lo t r=>obtain rfl:=aa hs;rw[oH hx ha];exact Jg
 |_=>simp[ry]at hs
theorem mB{g:Bool}{m:Nat}{w:V}(hc:Ee h g m w=true):qS w=g/\vO w=m/\(g=false->m=1)/\gu h w=true:=by
 simp only[Ee,af,beq_iff_eq,Bool.or_eq_true]at hc;obtain⟨⟨⟨h1,h2⟩,h3⟩,h4⟩:=hc;refine⟨h1,h2,fun e=>?_,h4⟩;rcases h3 with h3|h3
 .rw [e]at h3;cases h3
 .exact h3
theorem nI{g:Bool}{m off:Nat}{cs cw:List C}{w:V}(hc:Ee h g m w=true)(hw:eD h w cw)(hle:off+m<=cs.length)(he:(cs.drop off).take m=cw):∃x,BM g m (cs.drop off)=some x/\eW h w x:=by
 obtain⟨ha,hs,hm,_⟩:=mB hc;cases g with
 |true=>refine⟨.agg cw,?_,bM (vK ha hw)⟩;simp only[BM,if_true];rw[if_pos (by simp;omega),he]
 |false=>obtain rfl:=hm rfl;cases hd:cs.drop off with|nil=>have:=congrArg List.length hd;simp at this;omega|cons c r=>rw[hd]at he;subst he;exact⟨.c c,rfl,bM (c_ ha hw)⟩
theorem zQ{g:Bool}{m:Nat}{ds:List D}:MW g m ds=BM g m (ds.map .d):=by
 unfold MW BM;cases g
 .cases ds<;>simp
 .simp
theorem ug{p w:V}{l:List Nat}{g:Bool}{m nx:Nat}{c:Call}{x:TV}(hr:HR n h1 h)(hl:wH h p=some (w,l))(hc:Ee h g m w=true)(hx:eW h p x)(hok:eA n h p):
  ∃y,cm c (.load g m) [some x] h1 nx=some (y,[],l,nx)/\eW h w y/\eA n h w:=by
 cases p with
 |pt t v=>obtain⟨rfl,rfl⟩:=ad (aa hl);obtain⟨hd,rfl⟩:=vJ hx;obtain⟨_,hs,_,_⟩:=mB hc;have hs':bm t=m:=hs;obtain⟨y,h2,h3⟩:=nI (cs:=(aM t v).map .d) (off:=0) hc (show eD h (.x t v) ((aM t v).map .d)from⟨hd,rfl⟩) (by simp[bD];omega) (by rw[cA,dn (by simp[bD];omega)]);refine⟨y,?_,h3,trivial⟩;rw[cA,<-zQ]at h2;simp only[cm,ge,h2]
 |op id t p=>
  obtain rfl:=tQ hx;simp only[wH]at hl;split at hl
  .rename_i u cc ho;obtain⟨_,hb,hko⟩:=hr.ob id _ ho;obtain⟨cs,h2,h3,h4⟩:=hb;by_cases hu:u=t
   .subst hu;simp only[decide_true,cond_true]at hl;split at hl
    .rename_i w' hw;obtain⟨rfl,rfl⟩:=ad (aa hl);obtain⟨a,cw,q1,q2,q3,q4,q5⟩:=ul p cc u w' cs h4 h3 hok.2 hw;obtain⟨_,hs,_,_⟩:=mB hc;rw[fQ _ _ _ q2]at hs;subst hs;obtain⟨y,h5,h6⟩:=nI hc q3 q4 q5;refine⟨y,?_,h6,zZ p cc w' hko hw⟩;simp only[cm,ge,h2,h5]
    .simp at hl
   .simp [hu]at hl
  .rename_i u v ho;obtain⟨_,hb,hko⟩:=hr.ob id _ ho;obtain⟨hd,h2⟩:=hb;by_cases hu:u=t
   .subst hu;simp only[decide_true,cond_true]at hl;split at hl
    .rename_i w' hw;obtain⟨rfl,rfl⟩:=ad (aa hl);obtain⟨a,cw,q1,q2,q3,q4,q5⟩:=ul (h:=h) p (.x u v) u w' ((aM u v).map .d) (by simp[dW]) ⟨hd,rfl⟩ hok.2 hw;obtain⟨_,hs,_,_⟩:=mB hc;rw[fQ _ _ _ q2]at hs;subst hs;obtain⟨y,h5,h6⟩:=nI hc q3 q4 q5;refine⟨y,?_,h6,zZ p (.x u v) w' trivial hw⟩;rw[<-fx,<-zQ]at h5;simp only[cm,ge,h2,h5]
    .simp at hl
   .simp [hu]at hl
  .simp at hl
 |ep id k t p=>
  obtain rfl:=qu hx;obtain⟨_,hp,hk,_⟩:=hok
  have main:∀(u:Ty)(s:Sl (El u))(ver:Nat),(fO h id=some (.ar u s ver)\/fO h id=some (.im u s ver))->(bif decide (u=t)then(match nN (.x u (gt s.l k)) p with|some w=>some (w,[id])|none=>none)else none)=some (w,l)->
    ∃y,cm c (.load g m) [some (.c (.ep id k (k_ t p)))] h1 nx=some (y,[],l,nx)/\eW h w y/\eA n h w:=by
   intro u s ver ho hl;have hlt:=hk u s ver ho;by_cases hu:u=t
   .subst hu;simp only[decide_true,cond_true]at hl;split at hl
    .rename_i w' hw;obtain⟨rfl,rfl⟩:=ad (aa hl);cases s with
     |nil=>simp[Sl.l]at hlt
     |mk ls=>
     have hrow:(ls.map (aM u))[k]?=some (aM u (gt ls k)):=zW hlt;have hd:je u=true:=by rcases ho with ho|ho<;>exact(hr.ob id _ ho).2.1.1
     obtain⟨a,cw,q1,q2,q3,q4,q5⟩:=ul (h:=h) p (.x u (gt ls k)) u w' ((aM u (gt ls k)).map .d) (by simp[dW]) ⟨hd,rfl⟩ hp hw;obtain⟨_,hs,_,_⟩:=mB hc;rw[fQ _ _ _ q2]at hs;subst hs;obtain⟨y,h5,h6⟩:=nI hc q3 q4 q5;refine⟨y,?_,h6,zZ p (.x u (gt ls k)) w' trivial hw⟩;rw[<-fx,<-zQ]at h5;rcases ho with ho|ho
     .have h2:=(hr.ob id _ ho).2.1.2.2 ls rfl;simp only[cm,ge,h2,hrow,h5]
     .have h2:=(hr.ob id _ ho).2.1.2.2 ls rfl;simp only[cm,ge,h2,hrow,h5]
    .simp at hl
   .simp [hu]at hl
  simp only[wH]at hl;split at hl
  .rename_i u s ver ho;exact main u s ver (.inl ho) hl
  .rename_i u s ver ho;exact main u s ver (.inr ho) hl
  .simp at hl
 |_=>simp[wH]at hl
end
end Go.Ev
