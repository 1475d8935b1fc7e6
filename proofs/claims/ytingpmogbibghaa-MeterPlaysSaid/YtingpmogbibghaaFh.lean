/- Typed data by codes: the types, the values that a frame holds, its objects, and how they are laid into the abstract machine's. Conditions: none, these are definitions. -/
import Derived.Test.YtingpmogbibghaaEvY
open Bool renaming and_eq_true->ae
open List renaming append_assoc->aI,append_nil->eI,drop_append_of_le_length->cH,drop_drop->cj,drop_length->gY,drop_zero->cA,flatMap_cons->aZ,length_append->bh,length_map->aH,length_replicate->bW,map_drop->dO,map_take->eE,nil_append->bc,replicate->au,take_of_length_le->dj
open List.cons renaming inj->bz
open Nat renaming add_assoc->bK,add_mul->bf,beq->eL,ble->fy,le_refl->ai,mul_le_mul_right->aw
open Option.some renaming inj->aa
open Prod.mk renaming inj->ad
open Sigma.mk renaming inj->fG
noncomputable section
namespace Go.Ev
inductive Ty where
 |i (k:IntKind)
 |b
 |s
 |f (k:FloatKind)
 |sl (t:Ty)
 |mp (k v:Ty)
 |un
 |pr (a c:Ty)
 |st (t:Ty)
 |ar (n:Nat) (t:Ty)
 |o (k:Nat)
 deriving Inhabited,DecidableEq
def Arr(n:Nat)(α:Type):Type:={l:List α//l.length=n}
def Arr.set{n:Nat}{α:Type}(v:Arr n α)(k:Nat)(x:α):Arr n α:=⟨v.1.set k x,by rw[List.length_set];exact v.2⟩
instance{n:Nat}{α:Type}[Inhabited α]:Inhabited (Arr n α):=⟨⟨au n default,bW⟩⟩
instance{n:Nat}{α:Type}[DecidableEq α]:DecidableEq (Arr n α):=inferInstanceAs (DecidableEq {l:List α//l.length=n})
@[reducible] def El:Ty->Type
 |.i _=>Int
 |.b=>Bool
 |.s=>ByteArray
 |.f _=>Nat
 |.sl t=>Sl (El t)
 |.mp k v=>Mp (El k) (El v)
 |.un=>Unit
 |.pr a c=>El a×El c
 |.st t=>El t
 |.ar n t=>Arr n (El t)
 |.o _=>Unit
instance zI:(t:Ty)->Inhabited (El t)
 |.i _=>⟨(0:Int)⟩
 |.b=>⟨false⟩
 |.s=>⟨(default:ByteArray)⟩
 |.f _=>⟨(0:Nat)⟩
 |.sl _=>⟨Sl.nil⟩
 |.mp _ _=>⟨Mp.none⟩
 |.un=>⟨()⟩
 |.pr a c=>⟨((zI a).default,(zI c).default)⟩
 |.st t=>zI t
 |.ar n t=>⟨⟨au n (zI t).default,bW⟩⟩
 |.o _=>⟨()⟩
def lX:(t:Ty)->El t
 |.i _=>(0:Int)
 |.b=>false
 |.s=>(ByteArray.empty)
 |.f _=>(0:Nat)
 |.sl _=>Sl.nil
 |.mp _ _=>Mp.none
 |.un=>()
 |.pr a c=>(lX a,lX c)
 |.st t=>lX t
 |.ar n t=>⟨au n (lX t),bW⟩
 |.o _=>()
def dT(t u:Ty)(v:El t):Option (El u):=if h:t=u then some (h▸v)else none
def bn:Ty->Nat
 |.un=>0
 |.pr a c=>bn a+bn c
 |.st t=>bn t
 |.ar n t=>n*bn t
 |_=>1
def L_:Ty->Bool
 |.o _|.mp _ _=>false
 |.pr a c=>L_ a&&L_ c
 |.st t|.ar _ t|.sl t=>L_ t
 |_=>true
def iS:Ty->Bool
 |.st _|.ar _ _=>true
 |_=>false
def aJ:(t:Ty)->El t->List D
 |.i k,x=>[.lit (.int k x)]
 |.b,x=>[.lit (.bool x)]
 |.s,x=>[.lit (.string x)]
 |.f k,x=>[.lit (.float k x)]
 |.sl t,x=>[oK (bn t) (aJ t) x]
 |.mp _ _,_=>[.lit .nilFunc]
 |.un,_=>[]
 |.pr a c,x=>aJ a x.1++aJ c x.2
 |.st t,x=>aJ t x
 |.ar _ t,x=>x.1.flatMap (aJ t)
 |.o _,_=>[.lit .nilFunc]
inductive Pe where
 |fd (i:Nat)
 |ix (n:Nat)
abbrev ki:=List Pe
inductive V where
 |x (t:Ty) (v:El t)
 |kb (c:Bool)
 |nl (k:Nat)
 |so (id:Nat)
 |sr (id:Nat)
 |sb (id ver lo:Nat) (t:Ty) (r:Sl (El t))
 |op (id:Nat) (t:Ty) (p:ki)
 |ep (id n:Nat) (t:Ty) (p:ki)
 |pt (t:Ty) (v:El t)
 |fn (z:Bool) (f:Nat) (caps:V)
 |om (id:Nat)
 |rc (l:V)
 |tp (l:V)
 |ni
 |co (a r:V)
 |fl (l:List Value)
 |no
 |gn
inductive O where
 |ar (t:Ty) (s:Sl (El t)) (ver:Nat)
 |im (t:Ty) (s:Sl (El t)) (ver:Nat)
 |bx (t:Ty) (c:V)
 |ib (t:Ty) (v:El t)
 |mp (k v:Ty) (m:Mp (El k) (El v))
 |rw(t:Ty) (s:Sl (Sl (El t))) (ln:Option (Nat×Nat))
abbrev H2:=List (Nat×Option O)
def fO(h:H2)(id:Nat):Option O:=(bv h id).join
def rX:(t:Ty)->El t->Nat->Option V
 |.pr a _,v,0=>some (.x a v.1)
 |.pr _ c,v,n+1=>rX c v.2 n
 |t,v,0=>some (.x t v)
 |_,_,_=>none
def uE:Ty->Nat->Option Ty
 |.pr a _,0=>some a
 |.pr _ c,n+1=>uE c n
 |t,0=>some t
 |_,_=>none
def jA:Ty->Nat->Nat
 |.pr _ _,0=>0
 |.pr a c,n+1=>bn a+jA c n
 |_,_=>0
def zZ:(t:Ty)->El t->V
 |.pr a c,v=>.co (.x a v.1) (zZ c v.2)
 |t,v=>.co (.x t v) .ni
def IE(k:IntKind):List Value->Option (Int×List Value)
 |.int k' n::r=>if k'=k then some (n,r)else none
 |_=>none
def IF:List Value->Option (Bool×List Value)
 |.bool c::r=>some (c,r)
 |_=>none
def IC:List Value->Option (ByteArray×List Value)
 |.string c::r=>some (c,r)
 |_=>none
def FY(k:FloatKind):List Value->Option (Nat×List Value)
 |.float k' n::r=>if k'=k then some (n,r)else none
 |_=>none
def ID{α:Type}:List Value->Option (Sl α×List Value)
 |.slice none 0 0::r=>some (Sl.nil,r)
 |_=>none
def E_{α:Type}(f:List Value->Option (α×List Value)):(m:Nat)->List Value->Option (Arr m α×List Value)
 |0,l=>some (⟨[],rfl⟩,l)
 |m+1,l=>match f l with|some (x,l)=>(match E_ f m l with|some (v,l)=>some (⟨x::v.1,by rw[List.length_cons,v.2]⟩,l)|none=>none)|none=>none
def nB:(t:Ty)->List Value->Option (El t×List Value)
 |.i k=>IE k
 |.b=>IF
 |.s=>IC
 |.f k=>FY k
 |.sl _=>ID
 |.pr a c=>fun l=>match nB a l with|some (x,l)=>(match nB c l with|some (y,l)=>some ((x,y),l)|none=>none)|none=>none
 |.st t=>nB t
 |.ar n t=>E_ (nB t) n
 |.mp _ _|.un|.o _=>fun _=>none
def eJ(u:Ty):V->Option (El u)
 |.x t v=>dT t u v
 |.kb c=>dT .b u c
 |.nl 0=>(match u with|.sl _=>some Sl.nil|_=>none)
 |.fl l=>bif iS u then(match nB u l with|some (x,[])=>some x|_=>none)else none
 |_=>none
def z8:(t:Ty)->El t->Nat->V->Option (El t)
 |.pr a _,v,0,w=>match eJ a w with|some y=>some (y,v.2)|none=>none
 |.pr _ c,v,n+1,w=>match z8 c v.2 n w with|some y=>some (v.1,y)|none=>none
 |t,_,0,w=>eJ t w
 |_,_,_,_=>none
def lS:V->Nat->Option V
 |.co a _,0=>some a
 |.co _ r,n+1=>lS r n
 |_,_=>none
def B3:V->Nat->V->V
 |.co _ r,0,w=>.co w r
 |.co a r,n+1,w=>.co a (B3 r n w)
 |l,_,_=>l
def MM:V->ki->Option V
 |v,[]=>some v
 |.x (.st t) v,.fd i::p=>match rX t v i with|some w=>MM w p|none=>none
 |.x (.ar _ t) v,.ix k::p=>MM (.x t (gt v.1 k)) p
 |.rc l,.fd i::p=>match lS l i with|some w=>MM w p|none=>none
 |_,_=>none
def jm:V->ki->V->Option V
 |_,[],w=>some w
 |.x (.st t) v,.fd i::p,w=>
  match rX t v i with
  |some y=>match jm y p w with|some y'=>(match z8 t v i y' with|some v'=>some (.x (.st t) v')|none=>some (.rc (B3 (zZ t v) i y')))|none=>none
  |none=>none
 |.x (.ar n t) v,.ix k::p,w=>match jm (.x t (gt v.1 k)) p w with|some y=>(match eJ t y with|some y'=>some (.x (.ar n t) (v.set k y'))|none=>none)|none=>none
 |.rc l,.fd i::p,w=>match lS l i with|some y=>(match jm y p w with|some y'=>some (.rc (B3 l i y'))|none=>none)|none=>none
 |_,_,_=>none
def Sf:Ty->ki->Option Ty
 |t,[]=>some t
 |.st t,.fd i::p=>match uE t i with|some u=>Sf u p|none=>none
 |.ar _ t,.ix _::p=>Sf t p
 |_,_=>none
def iE:Ty->ki->Nat
 |.st t,.fd i::p=>jA t i+(match uE t i with|some u=>iE u p|none=>0)
 |.ar _ t,.ix k::p=>k*bn t+iE t p
 |_,_=>0
def Aw:Ty->ki->Prop
 |.st t,.fd i::p=>∃u,uE t i=some u/\Aw u p
 |.ar n t,.ix k::p=>k<n/\Aw t p
 |_,[]=>True
 |_,_=>False
def tj:Ty->V×V
 |.pr a c=>(.no,.co (tj a).1 (tj c).2)
 |.st t=>(bif L_ t then .x (.st t) (lX t)else .rc (tj t).2,.co (bif L_ t then .x (.st t) (lX t)else .rc (tj t).2) .ni)
 |.o k=>(.nl k,.co (.nl k) .ni)
 |.mp _ _=>(.nl 3,.co (.nl 3) .ni)
 |.sl t=>(bif L_ t then .x (.sl t) Sl.nil else .nl 0,.co (bif L_ t then .x (.sl t) Sl.nil else .nl 0) .ni)
 |.ar n t=>(bif L_ t then .x (.ar n t) (lX (.ar n t))else .no,.co (bif L_ t then .x (.ar n t) (lX (.ar n t))else .no) .ni)
 |.un=>(.x .un (),.co (.x .un ()) .ni)
 |.i k=>(.x (.i k) (0:Int),.co (.x (.i k) (0:Int)) .ni)
 |.b=>(.x .b false,.co (.x .b false) .ni)
 |.s=>(.x .s ByteArray.empty,.co (.x .s ByteArray.empty) .ni)
 |.f k=>(.x (.f k) (0:Nat),.co (.x (.f k) (0:Nat)) .ni)
abbrev FG(t:Ty):V:=(tj t).1
def vF(k:Nat):C:=.d (.lit (match k with|0=>.slice none 0 0|1=>.pointer none|2=>.nilFunc|3=>.map none|_=>.nilIface))
def sq(id:Nat):Option O->Option C
 |some (.ar t s _)=>some (ij (bn t) (aJ t) id s)
 |some (.im t s _)=>some (ij (bn t) (aJ t) id s)
 |_=>none
def jx(t:Ty):Sl (El t)->gH
 |.nil=>.nil
 |.mk l=>.aW (l.map (aJ t))
def Ak{α:Type}(id:Nat):Sl α->gH
 |.nil=>.nil
 |.mk l=>.ku id l.length
def cT(t:Ty)(l:List (Sl (El t))):Option (Nat×Nat)->List gH
 |none=>l.map (jx t)
 |some (m,id)=>(l.map (jx t)).set m (Ak id (gt l m))
def wQ(id:Nat):Option O->Option C
 |some (.rw t s _)=>some (ij 1 (aJ (.sl t)) id (s:Sl (Sl (El t))))
 |_=>none
def qq(id lo:Nat)(t:Ty):Sl (El t)->C
 |.nil=>.d (.lit (.slice none 0 0))
 |.mk l=>.da (bn t) id lo (l.map (aJ t)).length
def kN:V->Option (List D)
 |.pt t v=>if L_ t then some [.pt (aJ t v)]else none
 |.ni=>some []
 |.co a r=>match kN a,kN r with|some x,some y=>some (x++y)|_,_=>none
 |_=>none
def mu:V->Bool
 |.x t _=>iS t
 |.rc _|.fl _=>true
 |_=>false
deriving instance DecidableEq for Mp
instance rj:(t:Ty)->DecidableEq (El t)
 |.i _=>inferInstanceAs (DecidableEq Int)
 |.b=>inferInstanceAs (DecidableEq Bool)
 |.s=>inferInstanceAs (DecidableEq ByteArray)
 |.f _=>inferInstanceAs (DecidableEq Nat)
 |.sl t=>@instDecidableEqSl (El t) (rj t)
 |.mp k v=>@instDecidableEqMp (El k) (El v) (rj k) (rj v)
 |.un=>inferInstanceAs (DecidableEq Unit)
 |.pr a c=>@instDecidableEqProd (El a) (El c) (rj a) (rj c)
 |.st t=>rj t
 |.ar n t=>@instDecidableEqArr n (El t) (rj t)
 |.o _=>inferInstanceAs (DecidableEq Unit)
structure S2 where
 bS:List (Nat×V)
 heap:H2
 next:Nat
 wo:List Nat
 gh:V
structure OP where
 o:iX
 t:Ty
 fi:List Nat
def ut:V->Bool
 |.pt t _=>L_ t
 |.ni=>true
 |.co a r=>ut a&&ut r
 |_=>false
def eT(h:H2):V->Bool
 |.x t _=>L_ t
 |.pt t _=>L_ t
 |.kb _|.nl _=>true
 |.op id _ _|.ep id _ _ _|.om id=>(match fO h id with|some _=>true|none=>false)
 |.so id=>(match fO h id with|some (.ar _ _ _)|some (.im _ _ _)=>true|_=>false)
 |.sr id=>(match fO h id with|some (.rw _ _ _)=>true|_=>false)
 |.sb id ver _ t _=>L_ t&&(match fO h id with|some (.ar _ _ v)|some (.im _ _ v)=>v==ver|_=>false)
 |.fn true _ l=>ut l
 |.fn false _ l=>eT h l
 |.rc l|.tp l=>eT h l
 |.fl l=>l.all cO
 |.ni=>true
 |.co a r=>eT h a&&eT h r
 |.no|.gn=>false
def IV:Value->Option V
 |.bool c=>some (.kb c)
 |.int k n=>some (.x (.i k) n)
 |.float k n=>some (.x (.f k) n)
 |.string s=>some (.x .s s)
 |.pointer none=>some (.nl 1)
 |.slice none 0 0=>some (.nl 0)
 |.nilFunc=>some (.nl 2)
 |.map none=>some (.nl 3)
 |.nilIface=>some (.nl 4)
 |.agg cs=>if cs.toList.all cO then some (.fl cs.toList)else none
 |_=>none
def G3:Nat->Option V:=fun _ => none
def Bt(e:List (Nat×V))(h:H2):Operand->Option V
 |.tmp t=>match bv e t with|some v=>bif eT h v then some v else none|none=>none
 |.const c=>IV c
 |.global g=>G3 g
 |.func f=>some (.fn true f .ni)
def qj:V->Nat
 |.x t _=>bn t
 |.rc l=>qj l
 |.co a r=>qj a+qj r
 |.ni=>0
 |.fl l=>l.length
 |_=>1
def EZ:V->Nat->Nat
 |.co a r,n+1=>qj a+EZ r n
 |_,_=>0
def cU:List V->V
 |[]=>.ni
 |v::r=>.co v (cU r)
def si:V->List V
 |.co a r=>a::si r
 |_=>[]
def gD:V->Bool->(u:Ty)->Option (El u)
 |.rc l,false,.st u=>gD l true u
 |.co a r,true,.pr t u=>match gD a false t,gD r true u with|some x,some y=>some (x,y)|_,_=>none
 |.co a .ni,true,u=>gD a false u
 |.ni,_,_=>none
 |v,false,u=>eJ u v
 |_,_,_=>none
abbrev mP(u:Ty)(v:V):Option (El u):=gD v false u
def cL:V->Bool->Ty->Bool
 |.x u _,false,t=>decide (u=t)
 |.rc l,false,.st t=>cL l true t
 |.co a r,true,.pr t u=>cL a false t&&cL r true u
 |.co a .ni,true,t=>cL a false t
 |.kb _,false,.b=>true
 |.nl 0,false,.sl _|.so _,false,.sl _|.sr _,false,.sl _|.sb _ _ _ _ _,false,.sl _=>true
 |.nl 3,false,.mp _ _|.om _,false,.mp _ _=>true
 |.nl _,false,.o _|.op _ _ _,false,.o _|.ep _ _ _ _,false,.o _|.pt _ _,false,.o _|.fn _ _ _,false,.o _=>true
 |_,_,_=>false
def DX(t:Ty)(v:V):Option V:=match(bif L_ t then eJ t v else none)with|some y=>some (.x t y)|none=>bif cL v false t then some v else none
def mU(h:H2):V->Option ((t:Ty)×Sl (El t)×List Nat)
 |.x (.sl t) s=>some ⟨t,s,[]⟩
 |.so id=>(match fO h id with|some (.ar t s _)|some (.im t s _)=>some ⟨t,s,[id]⟩|_=>none)
 |.sb id _ _ t r=>some ⟨t,r,[id]⟩
 |_=>none
def BO(t:Ty)(h:H2):V->Option ((t:Ty)×Sl (El t)×List Nat)
 |.nl 0=>some ⟨t,Sl.nil,[]⟩
 |v=>mU h v
def fA(h:H2):V->Option (V×List Nat)
 |.so id=>match mU h (.so id)with|some ⟨t,s,l⟩=>some (.x (.sl t) s,l)|none=>none
 |.sr id=>match fO h id with|some (.rw t s none)=>some (.x (.sl (.sl t)) s,[id])|_=>none
 |.sb id ver lo t r=>match mU h (.sb id ver lo t r)with|some ⟨t,s,l⟩=>some (.x (.sl t) s,l)|none=>none
 |.rc l=>match fA h l with|some (w,l)=>some (.rc w,l)|none=>none
 |.co a r=>match fA h a,fA h r with|some (x,l),some (y,m)=>some (.co x y,l++m)|_,_=>none
 |.x t v=>some (.x t v,[])
 |.kb c=>some (.kb c,[])
 |.nl k=>some (.nl k,[])
 |.fl l=>some (.fl l,[])
 |.ni=>some (.ni,[])
 |.fn true f l=>some (.fn true f l,[])
 |.pt t v=>some (.pt t v,[])
 |_=>none
def Jo(c:Bool):V->V->Option V
 |.kb a,.kb b=>some (.x .b (bif c then a else b))
 |.x t a,w=>match mP t w with|some b=>some (.x t (bif c then a else b))|none=>none
 |w,.x t b=>match mP t w with|some a=>some (.x t (bif c then a else b))|none=>none
 |_,_=>none
def IX:Value->Value->Bool
 |.bool a,.bool b=>a==b
 |.int k a,.int k' b=>decide (k=k')&&a==b
 |.float k a,.float k' b=>decide (k=k')&&a==b
 |.string a,.string b=>decide (a=b)
 |.pointer none,.pointer none|.slice none 0 0,.slice none 0 0|.nilFunc,.nilFunc|.map none,.map none|.nilIface,.nilIface=>true
 |_,_=>false
def mT:List Value->List Value->Bool
 |[],[]=>true
 |a::r,b::s=>IX a b&&mT r s
 |_,_=>false
def iU:Ty->List Value
 |.i k=>[.int k 0]
 |.b=>[.bool false]
 |.s=>[.string ByteArray.empty]
 |.f k=>[.float k 0]
 |.sl _=>[.slice none 0 0]
 |.mp _ _=>[.map none]
 |.un=>[]
 |.pr a c=>iU a++iU c
 |.st t=>iU t
 |.ar n t=>(au n (iU t)).flatten
 |.o k=>[match k with|0=>.slice none 0 0|1=>.pointer none|2=>.nilFunc|3=>.map none|_=>.nilIface]
def vU:Ty->Option (List Kd)
 |.i k=>some [.i k]
 |.b=>some [.b]
 |.s=>some [.s]
 |.pr a c=>match vU a,vU c with|some x,some y=>some (x++y)|_,_=>none
 |.st t=>vU t
 |.ar n t=>match vU t with|some x=>some ((au n x).flatten)|none=>none
 |_=>none
def HB(z:Bool)(op:BinOp)(k k':IntKind)(a b:Int):Option V:=
 match op with
 |.shl=>bif z then some (.x (.i k) (HG k a b))else none
 |.shr=>bif z then some (.x (.i k) (HF k a b))else none
 |op=>bif decide (k=k')then(match op with
  |.add=>some (.x (.i k) (wr k (a+b)))
  |.sub=>some (.x (.i k) (wr k (a-b)))
  |.mul=>some (.x (.i k) (wr k (a*b)))
  |.quo=>bif z then some (.x (.i k) (wr k (a.tdiv b)))else none
  |.rem=>bif z then some (.x (.i k) (a.tmod b))else none
  |.and=>some (.x (.i k) (HI k a b))
  |.or=>some (.x (.i k) (Jz k a b))
  |.xor=>some (.x (.i k) (HE k a b))
  |.andNot=>some (.x (.i k) (Y7 k a b))
  |.eql=>some (.x .b (a==b))
  |.neq=>some (.x .b (a !=b))
  |.lss=>some (.x .b (decide (a<b)))
  |.leq=>some (.x .b (decide (a<=b)))
  |.gtr=>some (.x .b (decide (a>b)))
  |.geq=>some (.x .b (decide (a>=b)))
  |_=>none)else none
def Dd(k:FloatKind)(a b:Nat):Nat:=(k.format.add a b).getD (Sy k)
def E3(k:FloatKind)(a b:Nat):Nat:=(k.format.sub a b).getD (Sy k)
def yf(k:FloatKind)(a b:Nat):Nat:=(k.format.mul a b).getD (Sy k)
def AZ(k:FloatKind)(a b:Nat):Nat:=(k.format.div a b).getD (Sy k)
def wT(k:FloatKind)(a b:Nat):Bool:=k.format.order a b==some .eq
def H4(k:FloatKind)(a b:Nat):Bool:=k.format.order a b==some .lt
def H5(k:FloatKind)(a b:Nat):Bool:=k.format.order a b==some .gt
def G7(k:FloatKind)(a b:Nat):Nat:=match k.format.order a b with|none=>Sy k|some .lt=>a|some .gt=>b|some .eq=>if(k.decode a).neg then a else b
def G8(k:FloatKind)(a b:Nat):Nat:=match k.format.order a b with|none=>Sy k|some .lt=>b|some .gt=>a|some .eq=>if(k.decode a).neg then b else a
def DE(op:BinOp)(k k':FloatKind)(a b:Nat):Option V:=
 bif decide (k=k')then(match op with
  |.add=>some (.x (.f k) (Dd k a b))
  |.sub=>some (.x (.f k) (E3 k a b))
  |.mul=>some (.x (.f k) (yf k a b))
  |.quo=>some (.x (.f k) (AZ k a b))
  |.eql=>some (.x .b (wT k a b))
  |.neq=>some (.x .b (!(wT k a b)))
  |.lss=>some (.x .b (H4 k a b))
  |.leq=>some (.x .b (H4 k a b||wT k a b))
  |.gtr=>some (.x .b (H5 k a b))
  |.geq=>some (.x .b (H5 k a b||wT k a b))
  |_=>none)else none
def HA(op:BinOp)(x y:ByteArray):Option V:=match op with|.eql=>some (.x .b (x.toList==y.toList))|.neq=>some (.x .b (!(x.toList==y.toList)))|.lss=>some (.x .b (Op.bytesLess x.toList y.toList))|.leq=>some (.x .b (Op.bytesLess x.toList y.toList||x.toList==y.toList))|.gtr=>some (.x .b (!(Op.bytesLess x.toList y.toList||x.toList==y.toList)))|.geq=>some (.x .b (!(Op.bytesLess x.toList y.toList)))|_=>none
def EA:List Operand->Bool
 |[_,.const (.int _ n)]=>decide (n>0)
 |_=>false
def HZ(m:Bool)(k:IntKind):Int->List V->Option Int
 |x,[]=>some x
 |x,.x (.i k') y::r=>bif decide (k'=k)then HZ m k (bif m then(if y>x then y else x)else(if y<x then y else x)) r else none
 |_,_=>none
def AD(m:Bool)(k:FloatKind):Nat->List V->Option Nat
 |x,[]=>some x
 |x,.x (.f k') y::r=>bif decide (k'=k)then AD m k (bif m then G8 k x y else G7 k x y) r else none
 |_,_=>none
def qS(h:H2):V->Option (V×List Nat)
 |.pt t v=>some (.x t v,[])
 |.op id t p=>(match fO h id with
  |some (.bx u c)=>bif decide (u=t)then(match MM c p with|some w=>some (w,[id])|none=>none)else none
  |some (.ib u v)=>bif decide (u=t)then(match MM (.x u v) p with|some w=>some (w,[id])|none=>none)else none
  |_=>none)
 |.ep id n t p=>(match fO h id with
  |some (.ar u s _)|some (.im u s _)=>bif decide (u=t)then(match MM (.x u (gt s.l n)) p with|some w=>some (w,[id])|none=>none)else none
  |_=>none)
 |_=>none
def qM(h:H2)(kind:Nat):V->Option V
 |.nl k=>bif(k==kind)&&Nat.blt k 3 then some (.kb true)else none
 |.pt _ _|.op _ _ _|.ep _ _ _ _=>bif kind==1 then some (.kb false)else none
 |.fn _ _ _=>bif kind==2 then some (.kb false)else none
 |v=>bif kind==0 then(match mU h v with|some ⟨_,s,_⟩=>some (.x .b s.QH)|none=>none)else none
def Cm:V->V
 |.kb c=>.kb (!c)
 |.x .b c=>.x .b (!c)
 |v=>v
def yd(off n:Nat)(i:Nat):V->Option V
 |.op id t p=>(match Sf t p with
  |some (.st u)=>(match uE u i with|some w=>bif(jA u i==off)&&(bn w==n)then some (.op id t (p++[.fd i]))else none|none=>none)
  |_=>none)
 |.ep id m t p=>(match Sf t p with
  |some (.st u)=>(match uE u i with|some w=>bif(jA u i==off)&&(bn w==n)then some (.ep id m t (p++[.fd i]))else none|none=>none)
  |_=>none)
 |.pt (.st u) v=>(match rX u v i with|some (.x w y)=>bif(jA u i==off)&&(bn w==n)then some (.pt w y)else none|_=>none)
 |_=>none
def yA(h:H2)(g:Bool)(n:Nat)(w:V):Bool:=(mu w==g)&&(qj w==n)&&(g||n==1)&&eT h w
def EQ(h:H2):V->Option ((k:Ty)×(v:Ty)×Mp (El k) (El v)×List Nat)
 |.om id=>(match fO h id with|some (.mp k v m)=>some ⟨k,v,m,[id]⟩|_=>none)
 |_=>none
def pQ(t:Ty):List Nat->List (Nat×Nat)->List V->V->Option V
 |[],[],[],c=>some c
 |i::is,(off,n)::ps,w::ws,c=>
  match t with
  |.st u=>(match uE u i with
   |some a=>bif(jA u i==off)&&(bn a==n)then(match DX a w with|some w=>(match jm c [.fd i] w with|some c=>bif cL c false t then pQ t is ps ws c else none|none=>none)|none=>none)else none
   |none=>none)
  |.ar m u=>bif(i*bn u==off)&&(bn u==n)&&decide (i<m)then(match DX u w with|some w=>(match jm c [.ix i] w with|some c=>bif cL c false t then pQ t is ps ws c else none|none=>none)|none=>none)else none
  |_=>none
 |_,_,_,_=>none
def Fk:V->Bool
 |.tp _|.no|.gn|.ni|.co _ _=>false
 |v=>!mu v
def Gm(o:OP)(vs:List V)(h:H2):Option (V×List Nat):=
 match o.o.k,vs with
 |.mv,[v]=>some (v,[])
 |.nilCheck,[v]=>(match v with|.pt _ _|.fn _ _ _|.ep _ _ _ _|.op _ _ _=>some (v,[])|_=>none)
 |.rB op,[.x (.i k) a,.x (.i k') b]=>(match HB (EA o.o.args) op k k' a b with|some v=>some (v,[])|none=>none)
 |.rB op,[.x (.f k) a,.x (.f k') b]=>(match DE op k k' a b with|some v=>some (v,[])|none=>none)
 |.rB op,[.x .s a,.x .s b]=>(match HA op a b with|some v=>some (v,[])|none=>none)
 |.nA neg,[x,y]=>(match mP .b x,mP .b y with|some a,some b=>some (.x .b (bif neg then !(a==b)else a==b),[])|_,_=>none)
 |.lc kind neg,[x]=>(match qM h kind x with|some v=>some (bif neg then Cm v else v,[])|none=>none)
 |.rh neg ks,[.x t a,y]=>(match mP t y with|some b=>bif iS t&&decide (vU t=some ks)then some (.x .b (bif neg then !(decide (a=b))else decide (a=b)),[])else none|none=>none)
 |.un .not,[.kb c]=>some (.kb (!c),[])
 |.un .not,[.x .b c]=>some (.x .b (!c),[])
 |.un .neg,[.x (.i k) n]=>some (.x (.i k) (wr k (0-n)),[])
 |.un .neg,[.x (.f k) n]=>some (.x (.f k) (Op.negFloat k n),[])
 |.un .xor,[.x (.i k) n]=>some (.x (.i k) (JA k n),[])
 |.oe k,[.x (.i _) n]=>some (.x (.i k) (wr k n),[])
 |.wn k,[.x (.i _) n]=>some (.x (.f k) (k.nearest n),[])
 |.mn,[.x .s s]=>some (.x .s s,[])
 |.AG f,vs=>bif vs.all Fk then some (.fn false f (cU vs),[])else none
 |.load g n,[p]=>(match qS h p with|some (w,l)=>bif yA h g n w then some (w,l)else none|none=>none)
 |.m7,[p]=>(match qS h p with|some (w,l)=>bif yA h false 1 w then some (w,l)else none|none=>none)
 |.fieldAddr off n,[p]=>(match o.fi with|[i]=>(match yd off n i p with|some w=>some (w,[])|none=>none)|_=>none)
 |.field g off n,[.x (.st u) v]=>(match o.fi with|[i]=>(match rX u v i with|some w=>bif(jA u i==off)&&yA h g n w then some (w,[])else none|none=>none)|_=>none)
 |.field g off n,[.rc l]=>(match o.fi with|[i]=>(match lS l i with|some w=>bif(EZ l i==off)&&yA h g n w then some (w,[])else none|none=>none)|_=>none)
 |.extract i,[.tp l]=>(match lS l i with|some w=>some (w,[])|none=>none)
 |.len true,[.x .s s]=>some (.x (.i .i64) (s.size:Int),[])
 |.len false,[.nl 0]=>some (.x (.i .i64) (0:Int),[])
 |.len false,[.sr id]=>(match fO h id with|some (.rw _ s _)=>some (.x (.i .i64) (s.l.length:Int),[])|_=>none)
 |.len false,[v]=>(match mU h v with|some ⟨_,s,_⟩=>some (.x (.i .i64) (s.l.length:Int),[])|none=>none)
 |.lE m,.x (.i k) x::r=>(match HZ m k x r with|some y=>some (.x (.i k) y,[])|none=>none)
 |.lE m,.x (.f k) x::r=>(match AD m k x r with|some y=>some (.x (.f k) y,[])|none=>none)
 |.build z ps,vs=>bif mT (iU o.t) z&&iS o.t&&cL (FG o.t) false o.t then(match pQ o.t o.fi ps vs (FG o.t)with|some v=>some (v,[])|none=>none)else none
 |.lookup ka ks va z ok,[m,kv]=>(match EQ h m with
  |some ⟨kt,vt,mp,l⟩=>(match mP kt kv with
   |some k=>bif(iS kt==ka)&&(iS vt==va)&&decide (vU kt=some ks)&&mT (iU vt) z&&L_ vt&&(va||bn vt==1)then
     some (bif ok then .tp (.co (.x vt (sK mp (lX vt) k)) (.co (.x .b (Co mp k)) .ni))else .x vt (sK mp (lX vt) k),l)else none
   |none=>none)
  |none=>none)
 |_,_=>none
def pR{α:Type}(s:Sl α)(x r:List α):Sl α:=match x with|[]=>(match s with|.nil=>.nil|.mk _=>.mk r)|_::_=>.mk r
def AK{α:Type}:Sl α->Sl α->Option Unit
 |.nil,.nil=>some ()
 |.mk a,.mk b=>GW a b
 |_,_=>none
def fI(s:S2)(o:O):S2:=⟨s.bS,(s.next,some o)::s.heap,s.next+1,s.next::s.wo,s.gh⟩
def cJ(s:S2)(id:Nat)(o:Option O):S2:=⟨s.bS,(id,o)::s.heap,s.next,id::s.wo,s.gh⟩
def t_(h:H2)(id:Nat):Option O:=match fO h id with|some (.ar t s v)|some (.im t s v)=>some (.im t s v)|some (.ib t v)=>some (.ib t v)|some (.bx t c)=>bif L_ t&&Nat.blt (bn t) 300 then(match fA h c with|some (_,[])=>(match mP t c with|some v=>some (.ib t v)|none=>none)|_=>none)else none|_=>none
def kL(h:H2):List Nat->S2->Option S2
 |[],s=>some s
 |id::r,s=>match fO h id with|some (.rw _ _ none)=>(match kL h r s with|some s=>some (cJ s id none)|none=>none)|_=>(match t_ h id,kL h r s with|some o,some s=>some (cJ s id (some o))|_,_=>none)
def uB(t:Ty):Bool:=L_ t&&Nat.blt 0 (bn t)
def qw(h:H2)(t:Ty)(len:Nat):Nat->List Nat->List V->Option (List (El t)×List Nat)
 |m,[],[]=>some (au (len-m) (lX t),[])
 |m,i::is,v::vs=>
  match fA h v with
  |some (w,a)=>(match mP t w with
   |some y=>bif fy m i&&Nat.blt i len then(match qw h t len (i+1) is vs with|some (l,b)=>some (au (i-m) (lX t)++y::l,a++b)|none=>none)else none
   |none=>none)
  |none=>none
 |_,_,_=>none
def o4:List V->Option (List Int)
 |[]=>some []
 |.x (.i _) n::r=>match o4 r with|some l=>some (n::l)|none=>none
 |_=>none
def xV(h:H2):V->Option Int
 |.nl 0=>some 0
 |v=>match mU h v with|some ⟨_,v,_⟩=>some (v.l.length:Int)|none=>none
def Fh{α:Type}(w:Sl α)(lo n:Nat)(z:α):Option (Sl α):=match w with|.nil=>none|.mk l=>some (.mk (Dq l lo n (au n z)))
def mY{β:Type}(sz:Nat)(h:H2)(x:V)(l u:Int)(k:V->Option β):Option β:=
 match x with
 |.x (.sl t) v=>bif bn t==sz then(o_ v.l l u).bind fun y=>k (.x (.sl t) (v.to y))else none
 |.so id=>(match fO h id with
  |some (.ar t v ver)=>bif bn t==sz then(o_ v.l l u).bind fun y=>k (.sb id ver l.toNat t (v.to y))else none
  |some (.im t v ver)=>bif bn t==sz then(o_ v.l l u).bind fun y=>k (.sb id ver l.toNat t (v.to y))else none
  |_=>none)
 |.sb id ver lo t v=>bif bn t==sz then(o_ v.l l u).bind fun y=>k (.sb id ver (lo+l.toNat) t (v.to y))else none
 |.nl 0=>(o_ ([]:List Unit) l u).bind fun _=>k (.nl 0)
 |_=>none
def Hz{β:Type}(t:Ty)(sz len:Nat)(z:List Value)(pl:List Nat)(vs:List V)(s:S2)(k:V->S2->List Nat->Option β):Option β:=
 bif(bn t==sz)&&mT ((au len (iU t)).flatten) z&&uB t then
  (match qw s.heap t len 0 pl vs with
  |some (l,a)=>(match kL s.heap a s with|some s'=>k (.so s.next) (fI s' (.ar t (.mk l) 0)) a|none=>none)
  |none=>none)else none
def yY(ln:Option (Nat×Nat))(m:Nat):Bool:=match ln with|none=>true|some (m',_)=>eL m' m
def xd{β:Type}(id m:Nat)(t:Ty)(p:ki)(w:V)(s:S2)(k:S2->List Nat->Option β):Option β:=
 match fO s.heap id with
 |some (.rw u v ln)=>(match p,w with
  |[],.so id2=>(match fO s.heap id2 with
   |some (.ar u2 r _)=>(match dT (.sl u2) (.sl u) r with
    |some r=>bif decide (t=.sl u)&&!(id2==id)&&yY ln m then k (cJ (cJ s id2 none) id (some (.rw u (.mk (v.l.set m r)) none))) [id,id2]else none
    |none=>none)
   |_=>none)
  |_,_=>none)
 |some (.ar u l ver)=>(match fA s.heap w with
  |some (w,a)=>bif decide (u=t)then(match Sf u p with
   |some q=>(match mP q w with
    |some y=>(match jm (.x u (gt l.l m)) p (.x q y)with
     |some c=>(match eJ u c with
      |some y=>(match kL s.heap a s with|some s=>bif !a.contains id then k (cJ s id (some (.ar u (.mk (l.l.set m y)) (ver+1)))) (id::a)else none|none=>none)
      |none=>none)
     |none=>none)
    |none=>none)
   |none=>none)else none
  |none=>none)
 |_=>none
def part{β:Type}(o:OP)(vs:List V)(s:S2)(k:V->S2->List Nat->Option β):Option β:=
 match o.o.k,vs with
 |.rB .quo,[.x (.i q) a,.x (.i q') b]=>bif decide (q=q')then(Ho q a b).bind fun x=>k (.x (.i q) x) s []else none
 |.rB .rem,[.x (.i q) a,.x (.i q') b]=>bif decide (q=q')then(Gx q a b).bind fun x=>k (.x (.i q) x) s []else none
 |.rB .shl,[.x (.i q) a,.x (.i _) b]=>(Gt q a b).bind fun x=>k (.x (.i q) x) s []
 |.rB .shr,[.x (.i q) a,.x (.i _) b]=>(Gs q a b).bind fun x=>k (.x (.i q) x) s []
 |.rB .add,[.x .s a,.x .s b]=>(Hw a b).bind fun x=>k (.x .s x) s []
 |.alloc z,[]=>bif mT (iU o.t) z&&cL (FG o.t) false o.t then k (.op s.next o.t []) (fI s (.bx o.t (FG o.t))) []else none
 |.box,[v]=>(match DX o.t v with|some w=>k (.op s.next o.t []) (fI s (.bx o.t w)) []|none=>none)
 |.buildSlice sz len z pl,vs=>Hz o.t sz len z pl vs s k
 |.store n,[.op id t p,w]=>bif(qj w==n)then(match fO s.heap id with
  |some (.bx u c)=>bif decide (u=t)then(match Sf t p with
   |some a=>(match DX a w with
    |some w=>(match jm c p w with|some c=>bif cL c false t then k (.tp .ni) (cJ s id (some (.bx t c))) [id]else none|none=>none)
    |none=>none)
   |none=>none)else none
  |_=>none)else none
 |.m7,[.ep id m u []]=>(match fO s.heap id with
  |some (.rw t v none)=>bif decide (u=.sl t)then k (.so s.next) (fI (cJ s id (some (.rw t v (some (m,s.next))))) (.ar t (gt v.l m) 0)) [id]else none
  |_=>none)
 |.sM szi,[.x (.i _) l,.x (.i _) c]=>(match o.t with
  |.sl t=>bif(bn t==szi)&&uB t then(H3 (Sl.nil:Sl (El t)) l c).bind fun r=>k (.sr s.next) (fI s (.rw t (.mk r) none)) []else none
  |_=>none)
 |.store n,[.ep id m t p,w]=>bif(qj w==n)then xd id m t p w s (fun s l=>k (.tp .ni) s l)else none
 |.makeSlice z,[.x (.i _) l,.x (.i _) c]=>bif mT (iU o.t) z&&uB o.t then(H3 (lX o.t) l c).bind fun r=>k (.so s.next) (fI s (.ar o.t (.mk r) 0)) []else none
 |.slice true _ lo hi,.x .s x::r=>(match lo,hi,o4 r with
  |false,false,some []=>(rP x 0 x.size).bind fun y=>k (.x .s y) s []
  |true,false,some [l]=>(rP x l x.size).bind fun y=>k (.x .s y) s []
  |false,true,some [u]=>(rP x 0 u).bind fun y=>k (.x .s y) s []
  |true,true,some [l,u]=>(rP x l u).bind fun y=>k (.x .s y) s []
  |_,_,_=>none)
 |.slice false sz lo hi,x::r=>
  (match lo,hi,o4 r,xV s.heap x with
  |false,false,some [],some n=>mY sz s.heap x 0 n fun v=>k v s []
  |true,false,some [l],some n=>mY sz s.heap x l n fun v=>k v s []
  |false,true,some [u],some _=>mY sz s.heap x 0 u fun v=>k v s []
  |true,true,some [l,u],some _=>mY sz s.heap x l u fun v=>k v s []
  |_,_,_,_=>none)
 |.indexAddr none sz,[x,.x (.i _) i]=>(match x with
  |.x (.sl t) v=>bif bn t==sz then(rM i v.l.length).bind fun m=>k (.pt t (gt v.l m)) s []else none
  |.so id=>(match mU s.heap (.so id)with|some ⟨t,v,_⟩=>bif bn t==sz then(rM i v.l.length).bind fun m=>k (.ep id m t []) s []else none|none=>none)
  |.sb id _ lo t v=>bif bn t==sz then(rM i v.l.length).bind fun m=>k (.ep id (lo+m) t []) s []else none
  |.sr id=>(match fO s.heap id with|some (.rw t v _)=>bif 1==sz then(rM i v.l.length).bind fun m=>k (.ep id m (.sl t) []) s []else none|_=>none)
  |_=>none)
 |.indexAddr (some n) sz,[x,.x (.i _) i]=>(match x with
  |.op id t p=>(match Sf t p with|some (.ar n' u)=>bif(n'==n)&&(bn u==sz)then(rM i n).bind fun m=>k (.op id t (p++[.ix m])) s []else none|_=>none)
  |.ep id q t p=>(match Sf t p with|some (.ar n' u)=>bif(n'==n)&&(bn u==sz)then(rM i n).bind fun m=>k (.ep id q t (p++[.ix m])) s []else none|_=>none)
  |.pt (.ar n' u) v=>bif(n'==n)&&(bn u==sz)then(rM i n).bind fun m=>k (.pt u (gt v.1 m)) s []else none
  |_=>none)
 |.jZ,[.x .s x,.x (.i _) i]=>(JB x i).bind fun c=>k (.x (.i .u8) c) s []
 |.index g n sz,[.x (.ar n' u) v,.x (.i _) i]=>bif(n'==n)&&(bn u==sz)&&(iS u==g)&&L_ u&&(g||sz==1)then(rM i n).bind fun m=>k (.x u (gt v.1 m)) s []else none
 |.append sz,[a,x]=>
  (match BO o.t s.heap x with
  |some ⟨t,m,aj⟩=>bif(bn t==sz)&&uB t then(match a with
   |.nl 0=>(pO ([]++m.l)).bind fun r=>k (.so s.next) (fI s (.ar t (pR Sl.nil m.l r) 0)) aj
   |.x (.sl _) v=>bif Sl.QH v then((pO ([]++m.l)).bind fun r=>k (.so s.next) (fI s (.ar t (pR Sl.nil m.l r) 0)) aj)else none
   |.so id=>(match fO s.heap id with
    |some (.ar u v _)=>(match dT (.sl t) (.sl u) m with
     |some m=>(pO (v.l++m.l)).bind fun r=>k (.so s.next) (fI (cJ s id none) (.ar u (pR v m.l r) 0)) (id::aj)
     |none=>none)
    |_=>none)
   |.sb id _ lo u v=>(match fO s.heap id,dT (.sl t) (.sl u) m with
    |some (.ar _ s0 _),some m=>bif fy s0.l.length (lo+(v.l.length+m.l.length))then((pO (v.l++m.l)).bind fun r=>k (.so s.next) (fI (cJ s id none) (.ar u (pR v m.l r) 0)) (id::aj))else none
    |_,_=>none)
   |_=>none)else none
  |none=>none)
 |.copy sz,[a,x]=>
  (match BO o.t s.heap x with
  |some ⟨t,m,aj⟩=>bif bn t==sz then(match a with
   |.nl 0=>k (.x (.i .i64) (0:Int)) s aj
   |.so id=>(match fO s.heap id with
    |some (.ar u v ver)=>(match dT (.sl t) (.sl u) m with
     |some m=>k (.x (.i .i64) ((min m.l.length v.l.length:Nat):Int)) (cJ s id (some (.ar u (v.to (Dq v.l 0 v.l.length m.l)) (ver+1)))) (id::aj)
     |none=>none)
    |_=>none)
   |.sb id ver lo _ v=>(match fO s.heap id with
    |some (.ar u w ver')=>(match dT (.sl t) (.sl u) m with
     |some m=>bif ver'==ver then k (.x (.i .i64) ((min m.l.length v.l.length:Nat):Int)) (cJ s id (some (.ar u (w.to (Dq w.l lo v.l.length m.l)) (ver+1)))) (id::aj)else none
     |none=>none)
    |_=>none)
   |_=>none)else none
  |none=>none)
 |.clear zz,[a]=>(match a with
  |.sb id ver lo _ v=>(match fO s.heap id with
   |some (.ar u w ver')=>bif(ver'==ver)&&mT (iU u) zz&&uB u then(Fh w lo v.l.length (lX u)).bind fun w=>k (.tp .ni) (cJ s id (some (.ar u w (ver+1)))) [id]else none
   |_=>none)
  |_=>none)
 |.makeMap ka va,[]=>(match o.t with
  |.mp kt vt=>bif(iS kt==ka)&&(iS vt==va)&&L_ vt&&(vU kt).isSome then k (.om s.next) (fI s (.mp kt vt Mp.none)) []else none
  |_=>none)
 |.mapEntry ka ks va z,[.om id,kv]=>(match fO s.heap id with
  |some (.mp kt vt m)=>(match mP kt kv with
   |some q=>bif(iS kt==ka)&&(iS vt==va)&&decide (vU kt=some ks)&&mT (iU vt) z&&L_ vt&&(va||bn vt==1)then
     k (.tp (.co (.x vt (md m (lX vt) q).2.1) (.co (.x (.i .i64) (md m (lX vt) q).2.2) .ni))) (cJ s id (some (.mp kt vt (md m (lX vt) q).1))) [id]else none
   |none=>none)
  |_=>none)
 |.entryStore va n,[.om id,.x (.i _) st,w]=>(match fO s.heap id with
  |some (.mp kt vt m)=>(match mP vt w with
   |some y=>bif(iS vt==va)&&(bn vt==n)&&L_ vt then(zr m st y).bind fun m=>k (.tp .ni) (cJ s id (some (.mp kt vt m))) [id]else none
   |none=>none)
  |_=>none)
 |_,_=>none
@[reducible] def kO:List Ty->Type
 |[]=>Unit
 |a::r=>wO a r
where wO:Ty->List Ty->Type
 |a,[]=>El a
 |a,c::r=>El a×wO c r
def nc(u:Ty):V->Option (El u)
 |.x t v=>dT t u v
 |_=>none
def zX{α β:Type}:Option α->Option β->Option (α×β)
 |some x,some y=>some (x,y)
 |_,_=>none
def w8:(a:Ty)->(r:List Ty)->List V->Option (kO.wO a r)
 |a,[],l=>(match l with|[v]=>nc a v|_=>none)
 |a,c::r,l=>(match l with|v::l=>zX (nc a v) (w8 c r l)|[]=>none)
def oJ:(cs:List Ty)->List V->Option (kO cs)
 |[],[]=>some ()
 |a::r,l=>w8 a r l
 |_,_=>none
def D_:(a:Ty)->(r:List Ty)->kO.wO a r->List V
 |a,[],v=>[.x a v]
 |a,c::r,v=>.x a v.1::D_ c r v.2
def jC:(cs:List Ty)->kO cs->List V
 |[],_=>[]
 |a::r,v=>D_ a r v
inductive Sh where
 | x (t : Ty)            -- data
 | pt (t : Ty)           -- a pointer to data
 | os (t : Ty)           -- a slice of its aW
 | rw (t : Ty)           -- a cU of rows of its aW
 | mp (k v : Ty)         -- a map of its aW
 | pb (t : Ty) (c : Sh)  -- a pointer to a box of its aW
 |st (c:Sh)
 |pr (a c:Sh)
 |nl (k:Nat)
 |fn (f:Nat) (l:Sh)
 |ni
 |gn
 deriving Inhabited,DecidableEq
def Fc:Sh->List Ty
 |.x t|.pt t=>[t]
 |.os t=>[.sl t]
 |.rw t=>[.sl (.sl t)]
 |.mp k v=>[.mp k v]
 |.pb _ c|.st c|.fn _ c=>Fc c
 |.pr a c=>Fc a++Fc c
 |_=>[]
def eX:List Sh->List Ty
 |[]=>[]
 |a::r=>Fc a++eX r
abbrev Wy:=List (List Sh×List Sh)
@[reducible] def ou:Wy->Type
 |[]=>Empty
 |(r,o)::w=>yN r o w
where yN:List Sh->List Sh->Wy->Type
 |r,o,[]=>kO (eX r++eX o)
 |r,o,(r',o')::w=>kO (eX r++eX o)⊕yN r' o' w
def Ge{β:Type}(k:List Sh->List Sh->List V->Option β):(r o:List Sh)->(w:Wy)->ou.yN r o w->Option β
 |r,o,[],z=>k r o (jC (eX r++eX o) z)
 |r,o,(r',o')::w,z=>match z with|.inl z=>k r o (jC (eX r++eX o) z)|.inr z=>Ge k r' o' w z
def H9{β:Type}(k:List Sh->List Sh->List V->Option β):(w:Wy)->ou w->Option β
 |[],z=>nomatch z
 |(r,o)::w,z=>Ge k r o w z
structure pE where
 ps:List (Bool×Sh)
 al:Wy
 ro:Bool
 ga:List Bool
 fn:kO (eX (ps.map (·.2)))->Option (ou al)
abbrev wK:=List (Nat×pE)
def js(h:H2):Sh->V->Option (List V×List Nat)
 |.x t,v=>match fA h v with|some (w,l)=>(match mP t w with|some y=>some ([.x t y],l)|none=>none)|none=>none
 |.pt t,.pt u v=>match dT u t v with|some y=>some ([.x t y],[])|none=>none
 |.pt t,.op id u []=>(match fO h id with
  |some (.bx w c)=>bif decide (w=u)&&eT h c then(match fA h c with|some (c,l)=>(match mP t c with|some y=>some ([.x t y],id::l)|none=>none)|none=>none)else none
  |some (.ib w v)=>bif decide (w=u)then(match dT w t v with|some y=>some ([.x t y],[id])|none=>none)else none
  |_=>none)
 |.pt t,.ep id n u []=>(match fO h id with
  |some (.ar w s _)|some (.im w s _)=>bif decide (w=u)then(match dT w t (gt s.l n)with|some y=>some ([.x t y],[id])|none=>none)else none
  |_=>none)
 |.nl k,.nl k'=>bif k==k' then some ([],[])else none
 |.fn f c,.fn _ f' l=>bif f==f' then js h c l else none
 |.pr a c,.co x r=>match js h a x,js h c r with|some (l,i),some (m,j)=>some (l++m,i++j)|_,_=>none
 |.ni,.ni=>some ([],[])
 |_,_=>none
def GN(t:Ty){u:Ty}(v:El (.sl u)):Option (List V×List Nat):=match(v:Sl (El u))with|.nil=>some ([.x (.sl t) Sl.nil],[])|.mk _=>none
def Wo(h:H2):Sh->Bool->V->Option (List V×List Nat)
 |.os t,false,.so id=>(match fO h id with|some (.ar u s _)=>(match dT (.sl u) (.sl t) s with|some s=>some ([.x (.sl t) s],[id])|none=>none)|_=>none)
 |.os t,false,.nl 0=>some ([.x (.sl t) Sl.nil],[])
 |.rw t,false,.sr id=>(match fO h id with|some (.rw u s none)=>(match dT (.sl (.sl u)) (.sl (.sl t)) s with|some s=>some ([.x (.sl (.sl t)) s],[id])|none=>none)|_=>none)
 |.rw t,false,.nl 0=>some ([.x (.sl (.sl t)) Sl.nil],[])
 |.pb t c,false,.op id u []=>(match fO h id with|some (.bx w v)=>bif decide (w=u)&&decide (u=t)then(match Wo h c false v with|some (l,i)=>some (l,id::i)|none=>none)else none|_=>none)
 |.nl k,false,.nl k'=>bif k==k' then some ([],[])else none
 |.x t,false,v=>match mP t v with|some y=>some ([.x t y],[])|none=>none
 |.st c,false,.rc l=>Wo h c true l
 |.st c,false,.x (.st u) v=>Wo h c true (zZ u v)
 |.pr a c,true,.co x r=>match(match a,x with|.os t,.x (.sl _) v=>GN t v|_,_=>Wo h a false x),Wo h c true r with|some (l,i),some (m,j)=>some (l++m,i++j)|_,_=>none
 |.ni,true,.ni=>some ([],[])
 |_,_,_=>none
def ll:Sh->Bool->List V->S2->Option (V×List V×S2)
 |.x t,false,.x u v::l,s=>bif decide (u=t)&&L_ t then some (.x u v,l,{s with next:=s.next+bn t})else none
 |.os t,false,.x (.sl u) v::l,s=>bif decide (u=t)&&uB t then some (.so s.next,l,fI s (.ar u v 0))else none
 |.rw t,false,.x (.sl (.sl u)) v::l,s=>bif decide (u=t)&&uB t then some (.sr s.next,l,fI s (.rw u v none))else none
 |.pb t c,false,l,s=>
  match ll c false l {s with next:=s.next+1}with
  |some (w,l,s')=>bif cL w false t then some (.op s.next t [],l,cJ s' s.next (some (.bx t w)))else none
  |none=>none
 |.nl k,false,l,s=>some (.nl k,l,{s with next:=s.next+1})
 |.st c,false,l,s=>match ll c true l s with|some (w,l,s)=>some (.rc w,l,s)|none=>none
 |.pr a c,true,l,s=>match ll a false l s with|some (x,l,s)=>(match ll c true l s with|some (r,l,s)=>some (.co x r,l,s)|none=>none)|none=>none
 |.ni,true,l,s=>some (.ni,l,s)
 |_,_,_,_=>none
def AF:List Sh->List V->S2->Option (List V×List V×S2)
 |[],l,s=>some ([],l,s)
 |a::r,l,s=>match ll a false l s with|some (x,l,s)=>(match AF r l s with|some (xs,l,s)=>some (x::xs,l,s)|none=>none)|none=>none
def nF(h:H2):List (Bool×Sh)->List V->Option (List V×List Nat×List (V×List Nat))
 |[],[]=>some ([],[],[])
 |(b,c)::r,v::vs=>
  match nF h r vs with
  |some (m,j,q)=>
   bif b then(match Wo h c false v with|some (l,i)=>some (l++m,j,(v,i)::q)|none=>none)
   else(match js h c v with|some (l,i)=>some (l++m,i++j,q)|none=>none)
  |none=>none
 |_,_=>none
def sR(h:H2)(f:Nat)(vs:List V):wK->Option (pE×List V×List Nat×List (V×List Nat))
 |[]=>none
 |(g,sp)::r=>bif g==f then(match nF h sp.ps vs with|some (l,i,q)=>some (sp,l,i,q)|none=>sR h f vs r)else sR h f vs r
def fw:List Nat->S2->S2
 |[],s=>s
 |id::r,s=>cJ (fw r s) id none
def cC{β:Type}:List Sh->List (V×List Nat)->List V->S2->(S2->Option β)->Option β
 |[],[],[],s,k=>k s
 |.nl _::r,(_,[])::q,l,s,k=>cC r q l s k
 |.gn::r,(_,i)::q,l,s,k=>cC r q l (fw i s) k
 |.os t::r,(.nl 0,[])::q,.x (.sl u) v::l,s,k=>(match dT (.sl u) (.sl t) v with|some v=>(AK v (Sl.nil:Sl (El t))).bind fun _=>cC r q l s k|none=>none)
 |.os t::r,(.so id,_)::q,.x (.sl u) v::l,s,k=>(match fO s.heap id,dT (.sl u) (.sl t) v with
  |some (.ar w old ver),some v=>(match dT (.sl t) (.sl w) v with
   |some v=>(AK v old).bind fun _=>cC r q l (cJ s id (some (.ar w v (ver+1)))) k
   |none=>none)
  |_,_=>none)
 |.rw t::r,(.nl 0,[])::q,.x (.sl (.sl u)) v::l,s,k=>(match dT (.sl (.sl u)) (.sl (.sl t)) v with|some v=>(AK (v:Sl (Sl (El t))) (Sl.nil:Sl (Sl (El t)))).bind fun _=>cC r q l s k|none=>none)
 |.rw t::r,(.sr id,_)::q,.x (.sl (.sl u)) v::l,s,k=>(match fO s.heap id,dT (.sl (.sl u)) (.sl (.sl t)) v with
  |some (.rw w old _),some v=>(match dT (.sl (.sl t)) (.sl (.sl w)) v with
   |some v=>(AK (v:Sl (Sl (El w))) old).bind fun _=>cC r q l (cJ s id (some (.rw w v none))) k
   |none=>none)
  |_,_=>none)
 |.pb t c::r,(.op id u [],i)::q,l,s,k=>(match fO s.heap id with
  |some _=>(match ll c false l s with
   |some (w,l,s)=>bif cL w false t&&decide (u=t)then cC r q l (cJ (fw i s) id (some (.bx t w))) k else none
   |none=>none)
  |none=>none)
 |_,_,_,_,_=>none
def Gw:List V->V
 |[v]=>v
 |l=>.tp (cU l)
def qK:List Nat->Bool
 |[]=>true
 |a::r=>!r.contains a&&qK r
def oB:V->Option (List V)
 |.ni=>some []
 |.co a r=>bif(qj a==1)&&!mu a then(match oB r with|some l=>some (a::l)|none=>none)else none
 |_=>none
def p9{β:Type}(tb:wK)(ro:Bool)(ga:List Bool)(f:V)(vs:List V)(s:S2)(k:V->S2->List Nat->Option β):Option β:=
 match f with
 |.fn _ fid caps=>
  match(match oB caps with|some cs=>sR s.heap fid (vs++cs) tb|none=>none)with
  |some (sp,pay,aj,q)=>
   bif(!ro||sp.ro)&&decide (sp.ga=ga)&&qK (q.flatMap (·.2))&&(q.flatMap (·.2)).all (fun i=>!aj.contains i)then
    match oJ (eX (sp.ps.map (·.2))) pay with
    |some p=>(sp.fn p).bind fun z=>H9 (fun rs os l=>
     match(bif ro then some s else kL s.heap aj s)with
     |some s0=>cC os q (l.drop (eX rs).length) s0 fun s1=>
      (match AF rs (l.take (eX rs).length) s1 with
      |some (xs,_,s2)=>k (Gw xs) s2 (aj++q.flatMap (·.2))
      |none=>none)
     |none=>none) sp.al z
    |none=>none
   else none
  |none=>none
 |_=>none
structure Rg where
 kn:List (Nat×Bool)
 cd:List (Nat×Nat×Bool×V)
def GX(kn:List (Nat×Bool))(g:Nat):Option Bool:=bv kn g
def Bu(s:S2)(q:Rg)(gc:Option (Nat×Bool)):Operand->Option V
 |.tmp t=>match bv q.cd t with|some (g,b,v)=>bif decide (gc=some (g,b))||decide (GX q.kn g=some b)then(bif eT s.heap v then some v else none)else none|none=>Bt s.bS s.heap (.tmp t)
 |o=>Bt s.bS s.heap o
def xJ(s:S2)(q:Rg)(gc:Option (Nat×Bool)):List Operand->Option (List V)
 |[]=>some []
 |a::r=>match Bu s q gc a,xJ s q gc r with|some x,some y=>some (x::y)|_,_=>none
inductive GV where
 |run
 |skip
 |HX (g:Nat) (b:Bool) (c:Bool)
def Js(e:List (Nat×V))(kn:List (Nat×Bool)):Option (Nat×Bool)->Option GV
 |none=>some .run
 |some (g,b)=>
  match GX kn g with
  |some c=>some (bif c==b then .run else .skip)
  |none=>(match bv e g with
   |some (.kb c)=>some (bif c==b then .run else .skip)
   |some (.x .b c)=>some (.HX g b c)
   |some .no=>some .skip
   |_=>none)
def B6(s:S2)(q:Rg)(gc:Option (Nat×Bool)):List Operand->Option V
 |[.tmp g,a,b]=>match GX q.kn g,bv s.bS g with|some c,_=>Bu s q gc (bif c then a else b)|none,some (.kb c)=>Bu s q gc (bif c then a else b)|none,some (.x .b c)=>(match Bu s q (some (g,true)) a,Bu s q (some (g,false)) b with|some x,some y=>Jo c x y|_,_=>none)|_,_=>none
 |[.const (.bool c),a,b]=>Bu s q gc (bif c then a else b)
 |_=>none
def TI:K->Bool
 |.pick=>true
 |_=>false
def Ea(o:OP)(s:S2)(q:Rg)(gc:Option (Nat×Bool)):Option (V×List Nat):=
 bif TI o.o.k then(match B6 s q gc o.o.args with|some v=>some (v,[])|none=>none)
 else(match xJ s q gc o.o.args with|some vs=>Gm o vs s.heap|none=>none)
def mV(s:S2)(d:Option Nat)(v:V):S2:=match d with|some d=>{s with bS:=(d,v)::s.bS}|none=>s
def Fi(q:Rg)(d:Option Nat):Option Rg:=match d with|none=>some q|some d=>bif q.cd.any (fun e=>e.2.1==d)||q.kn.any (fun e=>e.1==d)then none else some ⟨q.kn,q.cd.filter (fun e=>!(e.1==d))⟩
abbrev Bw:=List (List Nat×List Nat)
def IU{β:Type}(tb:wK)(o:OP)(s:S2)(q:Rg)(gc:Option (Nat×Bool))(k:V->S2->List Nat->Option β):Option β:=
 match Ea o s q gc with
 |some (v,l)=>k v s l
 |none=>
  match xJ s q gc o.o.args with
  |some vs=>
   (match o.o.k,vs with
   |.call ro ga,f::vs=>p9 tb ro ga f vs s k
   |_,vs=>part o vs s k)
  |none=>none
def DY(dr:Option Nat)(i:Nat)(s:S2):S2:=match dr with|some b=>{s with next:=b+e9*i}|none=>s
def AO(dr:Option Nat)(i:Nat)(s:S2):Bool:=match dr with|some b=>fy s.next (b+e9*(i+1))|none=>true
def H_(d:Option Nat)(r:List OP):Bool:=
 match d with
 |some d=>r.any fun o=>match o.o.guard with|some (g,_)=>eL g d|none=>false
 |none=>false
def iM{β:Type}(tb:wK)(dr:Option Nat):List OP->Nat->S2->Rg->Bw->(S2->Bw->Option β)->Option β
 |[],_,s,_,tr,k=>k s tr
 |o::r,i,s0,q,tr,k=>
  let s:=DY dr i s0
  let go:Rg->Option β:=fun q=>IU tb o s q o.o.guard fun v s1 l=>
   bif AO dr i s1 then(match Fi q o.o.dst with
    |some q=>iM tb dr r (i+1) (mV s1 o.o.dst v) q (tr++[(l,s1.wo.take (s1.wo.length-s.wo.length))]) k
    |none=>none)else none
  let no:Rg->Option β:=fun q=>match Fi q o.o.dst with|some q=>iM tb dr r (i+1) (mV s o.o.dst .no) q (tr++[([],[])]) k|none=>none
  match Js s.bS q.kn o.o.guard with
  |none=>none
  |some .run=>go q
  |some .skip=>no q
  |some (.HX g b c)=>
   match(bif H_ o.o.dst r then none else Ea o s q (some (g,b)))with
   |some (v,l)=>
    (match Fi q o.o.dst,o.o.dst with
    |some q,some d=>bif eL g d then none else iM tb dr r (i+1) (mV s (some d) .gn) ⟨q.kn,(d,g,b,v)::q.cd⟩ (tr++[(l,[])]) k
    |_,_=>none)
   |none=>(match b with
    |true=>bif c then go ⟨(g,true)::q.kn,q.cd⟩else no ⟨(g,false)::q.kn,q.cd⟩
    |false=>bif c then no ⟨(g,true)::q.kn,q.cd⟩else go ⟨(g,false)::q.kn,q.cd⟩)
inductive JV where
 |x (t:Ty)
 |pt (t:Ty)
 |so (j:Nat)
 |sr (j:Nat)
 |om (j:Nat)
 |op (j:Nat) (t:Ty) (p:List Nat)
 |nl (k:Nat)
 |fn (z:Bool) (f:Nat) (l:JV)
 |rc (l:JV)
 |ni
 |co (a r:JV)
 |sm
 |gn
 deriving Inhabited
inductive JO where
 |ar (t:Ty)
 |bx (t:Ty) (c:JV)
 |mp (k v:Ty)
 |rw(t:Ty)
 deriving Inhabited
structure J where
 vs:List (Nat×JV):=[]
 gs:JV:=.sm
 os:List JO:=[]
 kl:List Nat:=[]
 deriving Inhabited
def Bc:JV->List Ty
 |.x t|.pt t=>[t]
 |.fn _ _ l|.rc l=>Bc l
 |.co a r=>Bc a++Bc r
 |_=>[]
def F1:List (Nat×JV)->List Ty
 |[]=>[]
 |(_,a)::r=>Bc a++F1 r
def Jy:JO->List Ty
 |.ar t=>[.sl t]
 |.bx _ c=>Bc c
 |.mp k v=>[.mp k v]
 |.rw t=>[.sl (.sl t)]
def F3:List JO->List Ty
 |[]=>[]
 |a::r=>Jy a++F3 r
def kg(j:J):List Ty:=F1 j.vs++(Bc j.gs++F3 j.os)
structure Bd where
 j:Nat
 id:Option Nat
def DI:List Bd->Nat->Option Bd
 |[],_=>none
 |b::r,j=>bif b.j==j then some b else DI r j
def oh(m:List Bd)(b:Bd):Option (List Bd):=
 match DI m b.j with
 |none=>bif(match b.id with|some i=>m.all (fun c=>match c.id with|some i'=>!(i'==i)|none=>true)|none=>true)then some (b::m)else none
 |some c=>(match b.id,c.id with
  |some i,some i'=>bif i==i' then some m else none
  |_,_=>none)
def vf:ki->Option (List Nat)
 |[]=>some []
 |.fd i::p=>match vf p with|some l=>some (i::l)|none=>none
 |.ix _::_=>none
def bU:JV->Bool->V->List Bd->Option (List V×List Bd)
 |.x t,false,v,m=>match mP t v with|some y=>some ([.x t y],m)|none=>none
 |.pt t,false,.pt u v,m=>match dT u t v with|some y=>some ([.x t y],m)|none=>none
 |.so j,false,.so id,m=>match oh m ⟨j,some id⟩with|some m=>some ([],m)|none=>none
 |.so j,false,.nl 0,m=>match oh m ⟨j,none⟩with|some m=>some ([],m)|none=>none
 |.so j,false,.x (.sl _) v,m=>bif Sl.QH v then(match oh m ⟨j,none⟩with|some m=>some ([],m)|none=>none)else none
 |.sr j,false,.sr id,m=>match oh m ⟨j,some id⟩with|some m=>some ([],m)|none=>none
 |.om j,false,.om id,m=>match oh m ⟨j,some id⟩with|some m=>some ([],m)|none=>none
 |.op j t p,false,.op id u q,m=>bif decide (u=t)&&decide (vf q=some p)then(match oh m ⟨j,some id⟩with|some m=>some ([],m)|none=>none)else none
 |.nl k,false,.nl k',m=>bif k==k' then some ([],m)else none
 |.fn z f l,false,.fn z' f' l',m=>bif(z==z')&&(f==f')then bU l true l' m else none
 |.rc l,false,.rc l',m=>bU l true l' m
 |.rc l,false,.x (.st t) v,m=>bU l true (zZ t v) m
 |.ni,true,.ni,m=>some ([],m)
 |.co a r,true,.co x y,m=>match bU a false x m with|some (l,m)=>(match bU r true y m with|some (l',m)=>some (l++l',m)|none=>none)|none=>none
 |_,_,_,_=>none
def sY(s:S2):List (Nat×JV)->List Bd->Option (List V×List Bd)
 |[],m=>some ([],m)
 |(t,a)::r,m=>match Bt s.bS s.heap (.tmp t)with|some v=>(match bU a false v m with|some (l,m)=>(match sY s r m with|some (l',m)=>some (l++l',m)|none=>none)|none=>none)|none=>none
def Dz(h:H2)(j:Nat)(o:JO)(m:List Bd):Option (List V×List Bd):=
 match DI m j with
 |some b=>(match o,b.id with
  |.ar t,none=>bif uB t then some ([.x (.sl t) Sl.nil],m)else none
  |.ar t,some id=>(match fO h id with|some (.ar u s _)=>(match dT (.sl u) (.sl t) s with|some s=>some ([.x (.sl t) s],m)|none=>none)|_=>none)
  |.rw t,some id=>(match fO h id with|some (.rw u s none)=>(match dT (.sl (.sl u)) (.sl (.sl t)) s with|some s=>some ([.x (.sl (.sl t)) s],m)|none=>none)|_=>none)
  |.bx t c,some id=>(match fO h id with|some (.bx u v)=>bif decide (u=t)then bU c false v m else none|_=>none)
  |.mp k v,some id=>(match fO h id with|some (.mp k' v' y)=>(match dT (.mp k' v') (.mp k v) y with|some y=>some ([.x (.mp k v) y],m)|none=>none)|_=>none)
  |_,_=>none)
 |none=>none
def sZ(h:H2):List JO->Nat->List Bd->Option (List V×List Bd)
 |[],_,m=>some ([],m)
 |o::r,j,m=>match Dz h j o m with|some (l,m)=>(match sZ h r (j+1) m with|some (l',m)=>some (l++l',m)|none=>none)|none=>none
def Sk:V->V->Bool
 |.so i,.so j=>i==j
 |.sr i,.sr j=>i==j
 |.op i t [],.op j u []=>(i==j)&&decide (t=u)
 |.nl k,.nl l=>k==l
 |.gn,.gn=>true
 |_,_=>false
def qr:V->V->Bool
 |.ni,.ni=>true
 |.co a r,.co x y=>Sk a x&&qr r y
 |_,_=>false
def kh(h:H2):JV->V->V->List Bd->Option (List V×List Bd)
 |.sm,g0,g,m=>bif qr g0 g then some ([],m)else none
 |.ni,.ni,.ni,m=>some ([],m)
 |.co a r,.co x0 y0,.co x y,m=>match a with|.sm=>bif Sk x0 x then kh h r y0 y m else none|.gn=>kh h r y0 y m|a=>bif eT h x then(match bU a false x m with|some (l,m)=>(match kh h r y0 y m with|some (l',m)=>some (l++l',m)|none=>none)|none=>none)else none
 |_,_,_,_=>none
def r_:List (Nat×JV)->S2->S2
 |[],s=>s
 |(t,.so _)::r,s=>(match bv s.bS t with
  |some (.sb id ver _ u x)=>(match fO s.heap id with
   |some (.ar _ _ v)=>bif L_ u&&v==ver then r_ r ⟨(t,.so s.next)::s.bS,(s.next,some (.ar u x 0))::(id,none)::s.heap,s.next+1,s.next::id::s.wo,s.gh⟩else r_ r s
   |_=>r_ r s)
  |_=>r_ r s)
 |_::r,s=>r_ r s
def Tg(j:J)(s0:S2)(s:S2):Option (List V):=
 match sY s j.vs []with
 |some (l1,m)=>match kh s.heap j.gs s0.gh s.gh m with
  |some (l2,m)=>(match sZ s.heap j.os 0 m with
   |some (l3,m)=>bif s.wo.all (fun i=>fy s0.next i||j.kl.contains i)&&m.all (fun b=>Nat.blt b.j j.os.length&&(match b.id with|some i=>fy s0.next i||j.kl.contains i|none=>true))then some (l1++(l2++l3))else none
   |none=>none)
  |none=>none
 |none=>none
def pN(j:J)(s0:S2)(s:S2):Option (List V):=match r_ j.vs s with|⟨e,h,n,w,g⟩=>Tg j s0 ⟨e,h,n,w,g⟩
def fo(b:Nat):JV->Bool->List V->V->Option (V×List V)
 |.x t,false,.x u v::l,_=>bif decide (u=t)&&L_ u then some (.x u v,l)else none
 |.pt t,false,.x u v::l,_=>bif decide (u=t)&&L_ u then some (.pt u v,l)else none
 |.so j,false,l,_=>some (.so (b+j),l)
 |.sr j,false,l,_=>some (.sr (b+j),l)
 |.om j,false,l,_=>some (.om (b+j),l)
 |.op j t p,false,l,_=>some (.op (b+j) t (p.map .fd),l)
 |.nl k,false,l,_=>some (.nl k,l)
 |.fn z f c,false,l,_=>match fo b c true l .ni with|some (w,l)=>some (.fn z f w,l)|none=>none
 |.rc c,false,l,_=>match fo b c true l .ni with|some (w,l)=>some (.rc w,l)|none=>none
 |.ni,true,l,_=>some (.ni,l)
 |.co a r,true,l,.co x y=>match fo b a false l x with|some (v,l)=>(match fo b r true l y with|some (w,l)=>some (.co v w,l)|none=>none)|none=>none
 |.co a r,true,l,_=>match fo b a false l .gn with|some (v,l)=>(match fo b r true l .ni with|some (w,l)=>some (.co v w,l)|none=>none)|none=>none
 |.sm,_,l,v=>some (v,l)
 |.gn,false,l,_=>some (.gn,l)
 |_,_,_,_=>none
def y_(b:Nat):List (Nat×JV)->List V->Option (List (Nat×V)×List V)
 |[],l=>some ([],l)
 |(t,a)::r,l=>match fo b a false l .gn with|some (v,l)=>(match y_ b r l with|some (e,l)=>some ((t,v)::e,l)|none=>none)|none=>none
def xu(b:Nat):JO->List V->Option (O×List V)
 |.ar t,.x (.sl u) v::l=>bif decide (u=t)then some (.ar u v 0,l)else none
 |.rw t,.x (.sl (.sl u)) v::l=>bif decide (u=t)&&uB t then some (.rw u v none,l)else none
 |.bx t c,l=>match fo b c false l .gn with|some (w,l)=>bif cL w false t then some (.bx t w,l)else none|none=>none
 |.mp k v,.x (.mp k' v') m::l=>bif decide (k'=k)&&decide (v'=v)then some (.mp k' v' m,l)else none
 |_,_=>none
def u5(b:Nat):List JO->Nat->List V->Option (H2×List V)
 |[],_,l=>some ([],l)
 |o::r,j,l=>match xu b o l with|some (o,l)=>(match u5 b r (j+1) l with|some (h,l)=>some ((b+j,some o)::h,l)|none=>none)|none=>none
def nw(j:J)(ds:List Nat)(s0:S2)(l:List V):Option S2:=
 match y_ s0.next j.vs l with
 |some (e,l)=>(match fo s0.next j.gs true l s0.gh with
  |some (g,l)=>(match u5 s0.next j.os 0 l with
   |some (h,_)=>some ⟨e++ds.map (fun t=>(t,V.gn))++s0.bS,h++j.kl.map (fun i=>(i,none))++s0.heap,s0.next+j.os.length,h.map (·.1)++j.kl++s0.wo,g⟩
   |none=>none)
  |none=>none)
 |none=>none
abbrev Ex:=List (kP×J)
@[reducible] def wL:Ex->Type
 |[]=>Empty
 |(_,j)::r=>DR j r
where DR:J->Ex->Type
 |j,[]=>kO (kg j)
 |j,(_,j')::r=>kO (kg j)⊕DR j' r
def CV(s0:S2)(o:kP)(s:S2):(o':kP)->(j:J)->(r:Ex)->Option (wL.DR j r)
 |o',j,[]=>bif decide (o=o')then(match pN j s0 s with|some l=>oJ (kg j) l|none=>none)else none
 |o',j,(o2,j2)::r=>bif decide (o=o')then(match pN j s0 s with|some l=>(match oJ (kg j) l with|some p=>some (.inl p)|none=>none)|none=>none)
  else(match CV s0 o s o2 j2 r with|some x=>some (.inr x)|none=>none)
def AN(s0:S2)(o:kP)(s:S2):(e:Ex)->Option (wL e)
 |[]=>none
 |(o',j)::r=>CV s0 o s o' j r
def GA{β:Type}(ds:List Nat)(s0:S2)(k:kP->S2->Option β):(o:kP)->(j:J)->(r:Ex)->wL.DR j r->Option β
 |o,j,[],p=>match nw j ds s0 (jC (kg j) p)with|some s=>k o s|none=>none
 |o,j,(o2,j2)::r,x=>match x with|.inl p=>(match nw j ds s0 (jC (kg j) p)with|some s=>k o s|none=>none)|.inr y=>GA ds s0 k o2 j2 r y
def B7{β:Type}(ds:List Nat)(s0:S2)(k:kP->S2->Option β):(e:Ex)->wL e->Option β
 |[],x=>nomatch x
 |(o,j)::r,x=>GA ds s0 k o j r x
inductive C2 where
 |skip
 |Et (ops:List OP) (dr:Option (List (Nat×Nat))) (jn:Option J)
 |seq (a b:C2) (e:Ex)
 |cond (c:Operand) (a b:C2)
 |block (id:Nat) (a:C2)
 |loop (j:J) (e:Ex) (a:C2)
 |exit (id:Nat)
 |ret
 |dL
 deriving Inhabited
def iC:C2->List Nat
 |.Et ops _ _=>ops.filterMap (·.o.dst)
 |.seq a b _|.cond _ a b=>iC a++iC b
 |.block _ a|.loop _ _ a=>iC a
 |_=>[]
def CS:K->Bool
 |.lookup _ _ _ _ _=>true
 |_=>false
def FI(ops:List OP)(tr:Bw)(i j:Nat):Bool:=
 match ops[i]?,tr[i]?with
 |some o,some ([id],[])=>CS o.o.k&&((tr.take j).drop (i+1)).all (fun x=>!x.2.contains id)
 |_,_=>false
def Hn(ops:List OP)(tr:Bw)(dyn:List (Nat×Nat)):Bool:=
 dyn.all fun p=>bif fy 1000 p.2 then(match tr[p.1]?,tr[p.2-1000]?with|some a,some b=>Mh a b||FI ops tr p.1 (p.2-1000)|_,_=>true)
  else(match tr[p.1]?,tr[p.2]?with|some a,some b=>Mh a b|_,_=>true)
def HN(s:S2)(id:Nat):Option S2:=
 match fO s.heap id with
 |some (.rw t v (some (m,id2)))=>(match fO s.heap id2 with
  |some (.ar u r _)=>(match dT (.sl u) (.sl t) r with
   |some r=>some (cJ (cJ s id2 none) id (some (.rw t (.mk (v.l.set m r)) none)))
   |none=>none)
  |_=>none)
 |_=>some s
def uw:List Nat->S2->Option S2
 |[],s=>some s
 |id::r,s=>match HN s id with|some s=>uw r s|none=>none
def HO(s s':S2):Option S2:=uw (s'.wo.take (s'.wo.length-s.wo.length)) s'
def zH{β:Type}(tb:wK)(ops:List OP)(dr:Option (List (Nat×Nat)))(s:S2)(k:S2->Option β):Option β:=match dr with|none=>iM tb none ops 0 s ⟨[],[]⟩ [] fun s' _=>(HO s s').bind k|some dyn=>iM tb (some s.next) ops 0 s ⟨[],[]⟩ [] fun s' tr=>bif Hn ops tr dyn then(HO s {s' with next:=s.next+e9*ops.length}).bind k else none
def pM{β:Type}(tb:wK):C2->S2->(kP->S2->Option β)->Option β
 |.skip,s,k=>k .normal s
 |.Et ops dr none,s,k=>zH tb ops dr s fun s=>k .normal s
 |.Et ops dr (some j),s,k=>(zH tb ops dr {s with wo:=[]} fun s'=>match pN j s s' with|some l=>oJ (kg j) l|none=>none).bind fun p=>match nw j (ops.filterMap (·.o.dst)) s (jC (kg j) p)with|some s=>k .normal s|none=>none
 |.seq a b [],s,k=>pM tb a s fun o s=>match o with|.normal=>pM tb b s k|o=>k o s
 |.seq a b (e::r),s,k=>(pM tb a {s with wo:=[]} fun o s'=>AN s o s' (e::r)).bind fun x=>B7 (iC a) s (fun o s=>match o with|.normal=>pM tb b s k|o=>k o s) (e::r) x
 |.cond c a b,s,k=>(match Bt s.bS s.heap c with
  |some (.kb t)=>bif t then pM tb a s k else pM tb b s k
  |some (.x .b t)=>bif t then pM tb a s k else pM tb b s k
  |_=>none)
 |.block id a,s,k=>pM tb a s fun o s=>match o with|.exit i=>k (bif i==id then .normal else .exit i) s|o=>k o s
 |.loop j e a,s,k=>
  bif e.all (fun x=>j.kl.all fun i=>x.2.kl.contains i)then(match pN j s {s with wo:=[]}with
  |some l=>(match oJ (kg j) l with
   |some p0=>(zu (fun p=>match nw j (iC a) s (jC (kg j) p)with
     |some s1=>pM tb a {s1 with wo:=[]} fun o s'=>(match o with
      |.normal=>(match pN j s s' with|some l=>(match oJ (kg j) l with|some q=>some (Sum.inl q)|none=>none)|none=>none)
      |o=>(match AN s o s' e with|some x=>some (Sum.inr x)|none=>none))
     |none=>none) p0).bind fun x=>B7 (iC a) s k e x
   |none=>none)
  |none=>none)else none
 |.exit id,s,k=>k (.exit id) s
 |.ret,s,k=>k .ret s
 |.dL,_,_=>none
def cP(P:Program):Nat->TypeId->Ty
 |0,_=>.o 9
 |n+1,t=>match P.underlying t with|some (.int k)=>.i k|some .bool=>.b|some .string=>.s|some (.float k)=>.f k|some (.slice e)=>.sl (cP P n e)|some (.map k v)=>.mp (cP P n k) (cP P n v)|some (.struct fs)=>.st (IJ (fs.toList.map fun f=>cP P n f.type))|some (.array m e)=>.ar m (cP P n e)|some (.pointer _)=>.o 1|some (.func ..)=>.o 2|_=>.o 4
where IJ:List Ty->Ty
 |[]=>.un
 |[t]=>t
 |t::r=>.pr t (IJ r)
def A7:Nat:=12
def Hk(P:Program)(t:TypeId):Ty:=match P.underlying t with|some (.slice e)=>cP P A7 e|some (.array _ e)=>cP P A7 e|_=>.o 9
def FV(P:Program):Op->Ty×List Nat
 |.alloc e=>(cP P A7 e,[])
 |.box t _=>(cP P A7 t,[])
 |.build t parts=>(cP P A7 t,parts.toList.map (·.1))
 |.buildSlice t _ parts=>(Hk P t,parts.toList.map (·.1))
 |.fieldAddr _ _ f=>(.o 9,[f])
 |.field _ _ f=>(.o 9,[f])
 |.makeSlice t _ _=>(Hk P t,[])
 |.makeMap t _=>(cP P A7 t,[])
 |.call c=>(match c.callee,c.argTypes.toList with|.builtin _,t::_=>Hk P t|_,_=>.o 9,[])
 |_=>(.o 9,[])
def GI(P:Program)(QC:pT)(nt:Nat)(all:Array Oper)(o:Oper):OP:=⟨QL P QC nt all o,(FV P o.op).1,(FV P o.op).2⟩
structure An where
 j:Option J:=none
 e:Ex:=[]
 deriving Inhabited
def j7(P:Program)(QC:pT)(nt:Nat)(an:List (Nat×An)):Code->Nat->C2×Nat
 |.skip,n=>(.skip,n)
 |.region _ ops draw,n=>
  (if draw then(if qH (DN ops.toList []) ops.toList 0&&qp (DN ops.toList []) (ops.toList.map (QL P QC nt ops)) 0&&decide (ops.toList.length<=1000)
   then .Et (ops.toList.map (GI P QC nt ops)) (some (mm (DN ops.toList []) (ops.toList.map (QL P QC nt ops)) 0)) ((bv an n).bind (·.j))else .dL)
   else .Et (ops.toList.map (GI P QC nt ops)) none ((bv an n).bind (·.j)),n+1)
 |.seq a b,n=>
  let x:=j7 P QC nt an a (n+1);let y:=j7 P QC nt an b x.2
  (.seq x.1 y.1 (match bv an n with|some w=>w.e|none=>[]),y.2)
 |.cond c a b,n=>let x:=j7 P QC nt an a n;let y:=j7 P QC nt an b x.2;(.cond c x.1 y.1,y.2)
 |.block id a,n=>let x:=j7 P QC nt an a n;(.block id x.1,x.2)
 |.loop a,n=>
  let x:=j7 P QC nt an a (n+1)
  (match bv an n with|some ⟨some j,e⟩=>.loop j e x.1|_=>.dL,x.2)
 |.scope a,n=>j7 P QC nt an a n
 |.label _,n=>(.skip,n)
 |.exit id,n=>(.exit id,n)
 |.ret,n=>(.ret,n)
 |_,n=>(.dL,n)
structure F2 where
 np:Nat
 gu:List RV
 body:C2
def sX(P:Program)(QC:pT)(f np:Nat)(an:List (Nat×An)):Option F2:=
 match P.funcs[f]?with
 |none=>none
 |some g=>
  match g.body with
  |none=>none
  |some code=>
   if(g.name== "runtime.NumGoroutine")=false/\np<=g.ntmps/\g.ntmps<1000000000 then
    match NR P g.results.toList with|some gu=>some ⟨np,gu,(j7 P QC g.ntmps an code 0).1⟩|none=>none
   else none
def uL:Sh->List V->Option (V×List V)
 |.ni,l=>some (.ni,l)
 |.pr (.pt t) c,.x u v::l=>bif decide (u=t)&&L_ t then(match uL c l with|some (w,l)=>some (.co (.pt u v) w,l)|none=>none)else none
 |_,_=>none
def ml:List (Bool×Sh)->Nat->List V->S2->Option (List (Nat×V)×S2)
 |[],_,[],s=>some ([],s)
 |(false,.x t)::r,i,.x u v::l,s=>bif decide (u=t)&&L_ t then(match ml r (i+1) l s with|some (e,s)=>some ((i,.x u v)::e,s)|none=>none)else none
 |(false,.pt t)::r,i,.x u v::l,s=>bif decide (u=t)&&L_ t then(match ml r (i+1) l s with|some (e,s)=>some ((i,.pt u v)::e,s)|none=>none)else none
 |(false,.nl k)::r,i,l,s=>(match ml r (i+1) l s with|some (e,s)=>some ((i,.nl k)::e,s)|none=>none)
 |(false,.fn f c)::r,i,l,s=>(match uL c l with|some (w,l)=>(match ml r (i+1) l s with|some (e,s)=>some ((i,.fn true f w)::e,s)|none=>none)|none=>none)
 |(true,c)::r,i,l,s=>(match ll c false l s with
  |some (w,l,s)=>(match ml r (i+1) l s with|some (e,s)=>some ((i,w)::e,{s with gh:=.co w s.gh})|none=>none)
  |none=>none)
 |_,_,_,_=>none
def Hj(ps:List (Bool×Sh))(l:List V):Option S2:=
 match ml ps 0 l ⟨[],[],0,[],.ni⟩with
 |some (e,s)=>some {s with bS:=e}
 |none=>none
def Ep(s:S2):RV->Option V
 |.tmp t=>Bt s.bS s.heap (.tmp t)
 |.cell t g n=>match Bt s.bS s.heap (.tmp t)with|some p=>(match qS s.heap p with|some (w,_)=>bif yA s.heap g n w then some w else none|none=>none)|none=>none
def Er(h:H2):Sh->V->Option (List V×List Nat)
 |.x t,v=>match fA h v with|some (w,l)=>(match mP t w with|some y=>some ([.x t y],l)|none=>none)|none=>none
 |.os t,.sb id _ _ u r=>(match fO h id with|some (.ar _ _ _)=>(match dT (.sl u) (.sl t) r with|some s=>some ([.x (.sl t) s],[id])|none=>none)|_=>none)
 |c,v=>Wo h c false v
def Jb(h:H2):Sh->V->Option (List V×List Nat)
 |.gn,_=>some ([],[])
 |c,v=>bif eT h v then Wo h c false v else none
def sD(h:H2):List Sh->List V->Option (List V×List Nat)
 |[],[]=>some ([],[])
 |c::r,v::vs=>match Er h c v,sD h r vs with|some (l,i),some (m,j)=>some (l++m,i++j)|_,_=>none
 |_,_=>none
def sC(h:H2):List Sh->List V->Option (List V×List Nat)
 |[],[]=>some ([],[])
 |c::r,v::vs=>match Jb h c v,sC h r vs with|some (l,i),some (m,j)=>some (l++m,i++j)|_,_=>none
 |_,_=>none
def ER{α β:Type}(f:α->Option β):List α->Option (List β)
 |[]=>some []
 |a::r=>match f a,ER f r with|some x,some y=>some (x::y)|_,_=>none
def AX(gu:List RV)(rs os:List Sh)(s:S2):Option (List V):=
 match ER (Ep s) gu with
 |some vs=>match sD s.heap rs vs,sC s.heap os (si s.gh)with|some (l,i),some (m,j)=>bif qK (i++j)then some (l++m)else none|_,_=>none
 |none=>none
def AY(gu:List RV)(s:S2):(r o:List Sh)->(w:Wy)->Option (ou.yN r o w)
 |r,o,[]=>match AX gu r o s with|some l=>oJ (eX r++eX o) l|none=>none
 |r,o,(r',o')::w=>match AX gu r o s with|some l=>(match oJ (eX r++eX o) l with|some z=>some (.inl z)|none=>none)|none=>(match AY gu s r' o' w with|some z=>some (.inr z)|none=>none)
def E2(gu:List RV)(s:S2):(w:Wy)->Option (ou w)
 |[]=>none
 |(r,o)::w=>AY gu s r o w
def Ix(tb:wK)(F:Option F2)(ps:List (Bool×Sh))(al:Wy)(p:kO (eX (ps.map (·.2)))):Option (ou al):=
 match F with
 |some F=>
  match Hj ps (jC _ p)with
  |some s=>pM tb F.body s fun o s=>match o with|.exit _=>none|_=>E2 F.gu s al
  |none=>none
 |none=>none
theorem v8{α β:Type}{f:α->List β}{n:Nat}(h:∀a,(f a).length=n)(l:List α):(l.flatMap f).length=l.length*n:=by induction l with|nil=>simp|cons a l ih=>simp[aZ,h,ih,bf];omega
theorem bg:∀(t:Ty)(v:El t),(aJ t v).length=bn t:=by intro t;induction t with|pr a c iha ihc=>intro v;simp[aJ,bn,iha,ihc]|st t ih=>intro v;simp[aJ,bn,ih]|ar n t ih=>intro v;rw[aJ,v8 ih,v.2];rfl|_=>intro v;rfl
theorem q8{α β:Type}[Inhabited α]{f:α->List β}{n:Nat}(h:∀a,(f a).length=n):∀(l:List α)(k:Nat),k<l.length->((l.flatMap f).drop (k*n)).take n=f (gt l k):=by
 intro l;induction l with
 |nil=>intro k hk;simp at hk
 |cons a l ih=>
  intro k hk;cases k with
  |zero=>simp[gt,h]
  |succ k=>
   have e:(k+1)*n=(f a).length+k*n:=by rw[h,bf];omega
   rw[aZ,e,<-cj,cH (ai _),gY,bc,ih k (by simpa using hk)];rfl
theorem C_{α β:Type}{f:α->List β}{n:Nat}(h:∀a,(f a).length=n):∀(l:List α)(k:Nat)(x:α),k<l.length->(l.set k x).flatMap f=aM (l.flatMap f) (k*n) (f x):=by
 intro l;induction l with
 |nil=>intro k x hk;simp at hk
 |cons a l ih=>
  intro k x hk;cases k with
  |zero=>
   simp only[List.set_cons_zero,aZ,aM,Nat.zero_mul,List.take_zero,bc,Nat.zero_add,h];have:(f a++l.flatMap f).drop n=l.flatMap f:=by rw[<-h a,cH (ai _),gY,bc]
   rw[this]
  |succ k=>
   have e:(k+1)*n=(f a).length+k*n:=by rw[h,bf];omega
   simp only[List.set_cons_succ,aZ,aM,e,List.take_length_add_append,bK];rw[<-cj,cH (ai _),gY,bc,ih k x (by simpa using hk)];simp[aM]
theorem bL{t u:Ty}{v:El t}{y:El u}(h:dT t u v=some y):∃e:t=u,y=e▸v:=by
 unfold dT at h;split at h
 .rename_i e;exact⟨e,(aa h).symm⟩
 .simp at h
theorem ph{t u:Ty}{v:El t}{y:El u}(h:dT t u v=some y):aJ u y=aJ t v/\t=u:=by obtain⟨rfl,rfl⟩:=bL h;exact⟨rfl,rfl⟩
theorem k8:∀(t:Ty)(v:El t)(i:Nat)(w:V),rX t v i=some w->∃u y,w=.x u y/\uE t i=some u/\jA t i+bn u<=bn t/\((aJ t v).drop (jA t i)).take (bn u)=aJ u y:=by
 intro t;induction t with
 |pr a c iha ihc=>intro v i w h;cases i with|zero=>obtain rfl:=aa h;refine⟨a,v.1,rfl,rfl,by simp[jA,bn],?_⟩;simp[jA,aJ,bg]|succ i=>obtain⟨u,y,rfl,h1,h2,h3⟩:=ihc v.2 i w h;refine⟨u,y,rfl,h1,by simp only[jA,bn];omega,?_⟩;simp only[jA,aJ];rw[<-cj,<-bg a v.1,cH (ai _),gY,bc,h3]
 |_=>intro v i w h;cases i with|zero=>obtain rfl:=aa h;exact⟨_,v,rfl,rfl,by simp[jA],by simp[jA,dj,bg]⟩|succ i=>simp[rX]at h
theorem G4:∀(t:Ty)(i:Nat)(u:Ty),uE t i=some u->jA t i+bn u<=bn t:=by
 intro t;induction t with
 |pr a c iha ihc=>intro i u h;cases i with|zero=>obtain rfl:=aa h;simp[jA,bn]|succ i=>have:=ihc i u h;simp only[jA,bn];omega
 |_=>intro i u h;cases i with|zero=>obtain rfl:=aa h;simp[jA]|succ i=>simp[uE]at h
theorem mB{α:Type}{a b p:List α}{off:Nat}:aM (a++b) (a.length+off) p=a++aM b off p:=by simp only[aM,List.take_length_add_append,bK,aI];rw[<-cj,cH (ai _),gY,bc]
theorem mA{α:Type}{a b p:List α}{off:Nat}(h:off+p.length<=a.length):aM (a++b) off p=aM a off p++b:=by simp only[aM,aI];rw[List.take_append_of_le_length (by omega),cH h]
theorem iv{α:Type}{b p:List α}(h:p.length=b.length):aM b 0 p=p:=by simp[aM,h]
theorem KA{α:Type}{b p:List α}{off:Nat}(h:off+p.length<=b.length):(aM b off p).length=b.length:=by simp only[aM,bh,List.length_take,List.length_drop];omega
theorem nm{α β:Type}{f:α->β}{b p:List α}{off:Nat}:(aM b off p).map f=aM (b.map f) off (p.map f):=by simp[aM]
theorem kG{α:Type}{b c p:List α}{o1 o2 n:Nat}(hc:(b.drop o1).take n=c)(h1:o1+n<=b.length)(h2:o2+p.length<=n):aM b o1 (aM c o2 p)=aM b (o1+o2) p:=by
 have hcl:c.length=n:=by rw[<-hc];simp;omega
 have e:b=b.take o1++(c++b.drop (o1+n)):=by rw[<-hc,<-cj,List.take_append_drop,List.take_append_drop]
 have hl:(b.take o1).length=o1:=by simp;omega
 have hs:(aM c o2 p).length=n:=by rw[KA (by omega),hcl]
 have r2:aM b (o1+o2) p=b.take o1++(aM c o2 p++b.drop (o1+n)):=by
  conv=>lhs;rw[e]
  have:=mB (a:=b.take o1) (b:=c++b.drop (o1+n)) (p:=p) (off:=o2);rw[hl]at this;rw[this,mA (by omega)]
 rw[r2];show b.take o1++aM c o2 p++b.drop (o1+(aM c o2 p).length)=_;rw[hs,aI]
theorem A_:∀(t:Ty)(l r:List Value)(x:El t),nB t l=some (x,r)->l.all cO=true->∃p,l=p++r/\(aJ t x)=p.map D.lit:=by
 intro t;induction t with
 |pr a c iha ihc=>
  intro l r x h hp;simp only[nB]at h;split at h
  .rename_i y l1 h1;split at h
   .rename_i z l2 h2;obtain⟨rfl,rfl⟩:=ad (aa h);obtain⟨p,rfl,e1⟩:=iha _ _ _ h1 hp;obtain⟨q,rfl,e2⟩:=ihc _ _ _ h2 (by rw[List.all_append,ae]at hp;exact hp.2);exact⟨p++q,by simp,by simp[aJ,e1,e2]⟩
   .simp at h
  .simp at h
 |st t ih=>intro l r x h hp;exact ih l r x h hp
 |ar n t ih=>
  intro l r x h hp;simp only[nB]at h
  have key:∀(m:Nat)(l r:List Value)(x:Arr m (El t)),E_ (nB t) m l=some (x,r)->l.all cO=true->∃p,l=p++r/\x.1.flatMap (aJ t)=p.map D.lit:=by
   intro m;induction m with
   |zero=>intro l r x h hp;obtain⟨rfl,rfl⟩:=ad (aa h);exact⟨[],rfl,rfl⟩
   |succ m ihn=>
    intro l r x h hp;simp only[E_]at h;split at h
    .rename_i y l1 h1;split at h
     .rename_i v l2 h2;obtain⟨rfl,rfl⟩:=ad (aa h);obtain⟨p,rfl,e1⟩:=ih _ _ _ h1 hp;obtain⟨q,rfl,e2⟩:=ihn _ _ _ h2 (by rw[List.all_append,ae]at hp;exact hp.2);exact⟨p++q,by simp,by simp[aZ,e1,e2]⟩
     .simp at h
    .simp at h
  exact key n l r x h hp
 |i k=>
  intro l r x h hp;simp only[nB]at h;unfold IE at h;split at h
  .split at h
   .rename_i e;subst e;obtain⟨rfl,rfl⟩:=ad (aa h);exact⟨[_],rfl,rfl⟩
   .simp at h
  .simp at h
 |b=>
  intro l r x h hp;simp only[nB]at h;unfold IF at h;split at h
  .obtain ⟨rfl,rfl⟩:=ad (aa h);exact⟨[_],rfl,rfl⟩
  .simp at h
 |s=>
  intro l r x h hp;simp only[nB]at h;unfold IC at h;split at h
  .obtain ⟨rfl,rfl⟩:=ad (aa h);exact⟨[_],rfl,rfl⟩
  .simp at h
 |f k=>
  intro l r x h hp;simp only[nB]at h;unfold FY at h;split at h
  .split at h
   .rename_i e;subst e;obtain⟨rfl,rfl⟩:=ad (aa h);exact⟨[_],rfl,rfl⟩
   .simp at h
  .simp at h
 |sl t ih=>
  intro l r x h hp;simp only[nB]at h;unfold ID at h;split at h
  .obtain ⟨rfl,rfl⟩:=ad (aa h);exact⟨[_],rfl,rfl⟩
  .simp at h
 |_=>intro l r x h hp;simp[nB]at h
def uv(h:H2)(id ver:Nat):Bool:=match fO h id with|some (.ar _ _ v)|some (.im _ _ v)=>v==ver|_=>false
def G0(id:Nat)(c:C):Prop:=∀i∈cR c,i=id
def cY(h:H2):V->List C->Prop
 |.x t v,cs=>L_ t=true/\cs=(aJ t v).map .d
 |.kb c,cs=>cs=[.d (.lit (.bool c))]
 |.nl k,cs=>cs=[vF k]
 |.so id,cs=>∃c,cs=[c]/\(∀c',sq id (fO h id)=some c'->c=c')/\G0 id c
 |.sr id,cs=>∃c,cs=[c]/\(∀c',wQ id (fO h id)=some c'->c=c')/\G0 id c
 |.sb id ver lo t r,cs=>∃c,cs=[c]/\(uv h id ver=true->c=qq id lo t r)/\G0 id c
 |.op id t p,cs=>cs=[.op id (iE t p)]
 |.ep id n t p,cs=>cs=[.ep id n (iE t p)]
 |.pt t v,cs=>L_ t=true/\cs=[.d (.pt (aJ t v))]
 |.fn true f l,cs=>∃ds,kN l=some ds/\cs=[.d (.fn f ds)]
 |.fn false f l,cs=>∃xs,cY h l xs/\cs=[.jy f xs]
 |.om id,cs=>cs=[.om id]
 |.rc l,cs=>cY h l cs
 |.fl l,cs=>l.all cO=true/\cs=db l
 |.ni,cs=>cs=[]
 |.co a r,cs=>∃x y,cs=x++y/\cY h a x/\cY h r y
 |.tp _,_|.no,_|.gn,_=>False
def Yz(h:H2)(v:V)(x:TV):Prop:=∃cs,cY h v cs/\(mu v=true->x=.agg cs)/\(mu v=false->∃c,cs=[c]/\x=.c c)
def tu(h:H2):V->List TV->Prop
 |.ni,xs=>xs=[]
 |.co a r,xs=>∃x ys,xs=x::ys/\Yz h a x/\tu h r ys
 |_,_=>False
def dD(h:H2):V->TV->Prop
 |.tp l,x=>∃xs,x=.fm xs/\tu h l xs
 |.no,x=>x=.fm []
 |.gn,_=>False
 |v,x=>Yz h v x
def Jw(t u:Ty)(s:Sl (El t))(lo:Nat)(r:Sl (El u)):Prop:=bn t=bn u/\match s,r with|.nil,.nil=>True|.mk l,.mk m=>lo+m.length<=l.length/\((l.map (aJ t)).drop lo).take m.length=m.map (aJ u)|_,_=>False
def cX(n:Nat)(h:H2):V->Prop
 |.so id|.sr id|.om id=>id<n
 |.sb id ver lo t r=>id<n/\∀u s v,(fO h id=some (.ar u s v)\/fO h id=some (.im u s v))->ver<=v/\(v=ver->Jw u t s lo r)
 |.op id t p=>id<n/\Aw t p
 |.ep id m t p=>id<n/\Aw t p/\(∀u s v,(fO h id=some (.ar u s v)\/fO h id=some (.im u s v))->m<s.l.length)/\∀u s v,fO h id=some (.rw u s v)->m<s.l.length
 |.fn _ _ l|.rc l|.tp l=>cX n h l
 |.co a r=>cX n h a/\cX n h r
 |_=>True
def KB(h:H2):O->Option Ob->Prop
 |.ar t s _,b=>L_ t=true/\0<bn t/\(∀l,s=.mk l->b=some (.aB (bn t) (l.map (aJ t))))
 |.im t s _,b=>L_ t=true/\0<bn t/\(∀l,s=.mk l->b=some (.ML (bn t) (l.map (aJ t))))
 |.bx t c,b=>∃cs,b=some (.box cs)/\cY h c cs/\cL c false t=true
 |.ib t v,b=>L_ t=true/\b=some (.ji (aJ t v))
 |.mp k v m,b=>L_ v=true/\(∃ks,vU k=some ks)/\b=wR (iS k) (iS v) (fun x=>(aJ k x).map fun|.lit y=>y|_=>.nilFunc) (aJ v) m
 |.rw t s ln,b=>L_ t=true/\0<bn t/\(∀l,(s:Sl (Sl (El t)))=.mk l->b=some (.nst (bn t) (cT t l ln)))
def uC(n:Nat)(h:H2):O->Prop
 |.bx _ c=>cX n h c
 |.rw _ s (some (m,id))=>m<s.l.length/\id<n/\∀u r v,(fO h id=some (.ar u r v)\/fO h id=some (.im u r v))->r.QH=(gt s.l m).QH/\r.l.length=(gt s.l m).l.length
 |_=>True
structure HR(n:Nat)(h1:aY)(h2:H2):Prop where
 ob:∀id o,fO h2 id=some o->id<n/\KB h2 o (ak h1 id)/\uC n h2 o
abbrev DZ(t:Ty)(s:Sl (El t)):(t:Ty)×Sl (El t):=⟨t,s⟩
abbrev JN(t:Ty)(s:El t):(t:Ty)×El t:=⟨t,s⟩
def FD(t u:Ty)(s:Sl (El t))(s':Sl (El u))(v v':Nat):Prop:=v<=v'/\t=u/\s.QH=s'.QH/\s.l.length=s'.l.length/\(v=v'->DZ t s=DZ u s')
def lW:O->O->Prop
 |.ar t s v,.ar u s' v'|.ar t s v,.im u s' v'=>FD t u s s' v v'
 |.im t s v,.im u s' v'=>v=v'/\DZ t s=DZ u s'
 |.bx t _,.bx u _=>t=u
 |.bx _ _,.ib _ _=>True
 |.ib t v,.ib u w=>JN t v=JN u w
 |.mp _ _ _,.mp _ _ _=>True
 |.rw t s _,.rw u s' _=>t=u/\s.QH=s'.QH/\s.l.length=s'.l.length
 |_,_=>False
def EU:O->Bool
 |.bx _ _|.ib _ _=>true
 |_=>false
structure fF(n:Nat)(h h':H2):Prop where
 ob:∀id o',id<n->fO h' id=some o'->(∃o,fO h id=some o/\lW o o')\/EU o'=true
theorem FD.trans{t u w:Ty}{s:Sl (El t)}{s':Sl (El u)}{s2:Sl (El w)}{a b c:Nat}(h1:FD t u s s' a b)(h2:FD u w s' s2 b c):FD t w s s2 a c:=by obtain⟨a1,rfl,a3,a4,a5⟩:=h1;obtain⟨b1,rfl,b3,b4,b5⟩:=h2;refine⟨Nat.le_trans a1 b1,rfl,a3.trans b3,a4.trans b4,fun e=>?_⟩;have e1:a=b:=Nat.le_antisymm a1 (e▸b1);exact(a5 e1).trans (b5 (e1▸e))
theorem FD.Im{t u:Ty}{s:Sl (El t)}{s':Sl (El u)}{a b:Nat}(h:a=b)(e:DZ t s=DZ u s'):FD t u s s' a b:=by subst h;obtain⟨rfl,e⟩:=fG e;cases e;exact⟨ai _,rfl,rfl,rfl,fun _=>rfl⟩
theorem lW.refl(o:O):lW o o:=by cases o<;>simp[lW,FD]
theorem lW.trans{a b c:O}(h1:lW a b)(h2:lW b c):lW a c:=by
 cases a<;>cases b<;>simp only[lW]at h1<;>first|exact h1.elim|skip
 all_goals(cases c<;>simp only[lW]at h2|-<;>first|exact h2.elim|skip)
 .exact h1.trans h2
 .exact h1.trans h2
 .exact h1.trans (FD.Im h2.1 h2.2)
 .exact ⟨h1.1.trans h2.1,h1.2.trans h2.2⟩
 .exact h1.trans h2
 .exact h1.trans h2
 .exact ⟨h1.1.trans h2.1,h1.2.1.trans h2.2.1,h1.2.2.trans h2.2.2⟩
theorem fF.refl(n:Nat)(h:H2):fF n h h:=⟨fun _ o _ h=>.inl ⟨o,h,lW.refl o⟩⟩
theorem fF.trans{n n':Nat}{a b c:H2}(hn:n<=n')(h1:fF n a b)(h2:fF n' b c):fF n a c:=
 ⟨fun id o' hi ho=>by
  rcases h2.ob id o' (by omega) ho with⟨o1,h3,h4⟩|q
  .rcases h1.ob id o1 hi h3 with⟨o2,h5,h6⟩|q
   .exact .inl ⟨o2,h5,h6.trans h4⟩
   .exact .inr (by cases o1<;>simp[EU]at q<;>cases o'<;>simp[lW]at h4<;>rfl)
  .exact .inr q⟩
theorem tE{sz id:Nat}{α:Type}{e:α->List D}{s:Sl α}:G0 id (ij sz e id s):=by intro i hi;cases s with|nil=>simp[ij,cR]at hi|mk l=>simpa[ij,cR]using hi
theorem BR{id lo:Nat}{t:Ty}{s:Sl (El t)}:G0 id (qq id lo t s):=by intro i hi;cases s with|nil=>simp[qq,cR]at hi|mk l=>simpa[qq,cR]using hi
section
variable{n n':Nat}{h h':H2}
theorem xj{t:Ty}{s s':Sl (El t)}{id:Nat}(h1:s.QH=s'.QH)(h2:s.l.length=s'.l.length):ij (bn t) (aJ t) id s=ij (bn t) (aJ t) id s':=by cases s<;>cases s'<;>simp_all[Sl.QH,ij]
theorem BL(hs:fF n h h'){id:Nat}(hi:id<n){c:C}(hc:sq id (fO h' id)=some c):sq id (fO h id)=some c:=by
 cases ho:fO h' id with
 |none=>rw[ho]at hc;simp[sq]at hc
 |some o'=>
  rw[ho]at hc;obtain⟨o,h1,h2⟩:=(hs.ob id o' hi ho).resolve_right fun e=>by cases o'<;>simp[EU]at e<;>simp[sq]at hc
  rw[h1];cases o'<;>simp only[sq]at hc<;>first|cases hc;done|skip
  all_goals(cases o<;>simp only[lW]at h2<;>first|exact h2.elim|skip)
  .obtain ⟨_,rfl,h3,h4,_⟩:=h2;rw[<-hc];simp only[sq];rw[xj h3 h4]
  .obtain ⟨_,rfl,h3,h4,_⟩:=h2;rw[<-hc];simp only[sq];rw[xj h3 h4]
  .obtain ⟨_,h3⟩:=h2;obtain⟨rfl,h3⟩:=fG h3;cases h3;rw[<-hc];rfl
  all_goals simp at hc
theorem BK(hs:fF n h h'){id:Nat}(hi:id<n){c:C}(hc:wQ id (fO h' id)=some c):wQ id (fO h id)=some c:=by
 cases ho:fO h' id with
 |none=>rw[ho]at hc;simp[wQ]at hc
 |some o'=>
  rw[ho]at hc;obtain⟨o,h1,h2⟩:=(hs.ob id o' hi ho).resolve_right fun e=>by cases o'<;>simp[EU]at e<;>simp[wQ]at hc
  rw[h1];cases o'<;>simp only[wQ]at hc<;>first|cases hc;done|skip
  all_goals(cases o<;>simp only[lW]at h2<;>first|exact h2.elim|skip)
  .obtain ⟨rfl,h3,h4⟩:=h2;rw[<-hc];simp only[wQ];exact congrArg some (xj (t:=.sl _) h3 h4)
  all_goals simp at hc
theorem y6(hs:fF n h h'){id:Nat}(hi:id<n){u:Ty}{s:Sl (Sl (El u))}{ln:Option (Nat×Nat)}(ho:fO h' id=some (.rw u s ln)):∃s0 ln0,fO h id=some (.rw u s0 ln0)/\s0.QH=s.QH/\s0.l.length=s.l.length:=by
 obtain⟨o,h1,h2⟩:=(hs.ob id _ hi ho).resolve_right fun e=>by simp[EU]at e
 cases o<;>simp only[lW]at h2<;>first|exact h2.elim|skip
 obtain⟨rfl,h3,h4⟩:=h2;exact⟨_,_,h1,h3,h4⟩
theorem BN(hs:fF n h h'){id:Nat}(hi:id<n){u:Ty}{s:Sl (El u)}{v:Nat}(ho:fO h' id=some (.ar u s v)\/fO h' id=some (.im u s v)):
  ∃s0 v0,(fO h id=some (.ar u s0 v0)\/fO h id=some (.im u s0 v0))/\s0.QH=s.QH/\s0.l.length=s.l.length:=by
 rcases ho with ho|ho
 all_goals
  obtain⟨o,h1,h2⟩:=(hs.ob id _ hi ho).resolve_right fun e=>by simp[EU]at e
  cases o<;>simp only[lW]at h2<;>first|exact h2.elim|skip
 .obtain ⟨_,rfl,h3,h4,_⟩:=h2;exact⟨_,_,.inl h1,h3,h4⟩
 .obtain ⟨_,rfl,h3,h4,_⟩:=h2;exact⟨_,_,.inl h1,h3,h4⟩
 .obtain ⟨rfl,h3⟩:=h2;obtain⟨rfl,h3⟩:=fG h3;cases h3;exact⟨_,_,.inr h1,rfl,rfl⟩
theorem mC(hs:fF n h h'){id:Nat}(hi:id<n){u:Ty}{s:Sl (El u)}{v:Nat}(ho:fO h' id=some (.ar u s v)\/fO h' id=some (.im u s v)):
  ∃s0 v0,(fO h id=some (.ar u s0 v0)\/fO h id=some (.im u s0 v0))/\v0<=v/\s0.l.length=s.l.length/\(v0=v->s0=s):=by
 rcases ho with ho|ho
 all_goals
  obtain⟨o,h1,h2⟩:=(hs.ob id _ hi ho).resolve_right fun e=>by simp[EU]at e
  cases o<;>simp only[lW]at h2<;>first|exact h2.elim|skip
 .obtain ⟨h3,rfl,_,h4,h5⟩:=h2;exact⟨_,_,.inl h1,h3,h4,fun e=>by have:=h5 e;simpa using this⟩
 .obtain ⟨h3,rfl,_,h4,h5⟩:=h2;exact⟨_,_,.inl h1,h3,h4,fun e=>by have:=h5 e;simpa using this⟩
 .obtain ⟨rfl,h3⟩:=h2;obtain⟨rfl,h3⟩:=fG h3;cases h3;exact⟨_,_,.inr h1,ai _,rfl,fun _=>rfl⟩
theorem gW{id ver:Nat}(ha:uv h id ver=true):∃u s,fO h id=some (.ar u s ver)\/fO h id=some (.im u s ver):=by
 unfold uv at ha;split at ha
 .rename_i u s v ho;obtain rfl:v=ver:=by simpa using ha
  exact⟨u,s,.inl ho⟩
 .rename_i u s v ho;obtain rfl:v=ver:=by simpa using ha
  exact⟨u,s,.inr ho⟩
 .simp at ha
theorem WI(hn:n<=n')(hs:fF n h h'):∀{v:V},cX n h v->cX n' h' v:=by
 intro v;induction v with
 |so id=>intro hv;simp only[cX]at hv|-;omega
 |sr id=>intro hv;simp only[cX]at hv|-;omega
 |om id=>intro hv;simp only[cX]at hv|-;omega
 |sb id ver lo t r=>
  rintro⟨h1,h2⟩;refine⟨by omega,fun u s v ho=>?_⟩;obtain⟨s0,v0,h3,h4,h5,h6⟩:=mC hs h1 ho;obtain⟨h7,h8⟩:=h2 u s0 v0 h3;refine⟨by omega,fun e=>?_⟩;have e2:v0=ver:=by omega
  have:=h6 (by omega);subst this;exact h8 e2
 |op id t p=>rintro⟨h1,h2⟩;exact⟨by omega,h2⟩
 |ep id m t p=>
  rintro⟨h1,h2,h3,h6⟩;refine⟨by omega,h2,fun u s v ho=>?_,fun u s v ho=>?_⟩
  .obtain ⟨s0,v0,h4,_,h5,_⟩:=mC hs h1 ho;have:=h3 u s0 v0 h4;omega
  .obtain ⟨s0,v0,h4,_,h5⟩:=y6 hs h1 ho;have:=h6 u s0 v0 h4;omega
 |fn z f l ih=>intro hv;exact ih hv
 |rc l ih=>intro hv;exact ih hv
 |tp l ih=>intro hv;exact ih hv
 |co a r iha ihr=>rintro⟨h1,h2⟩;exact⟨iha h1,ihr h2⟩
 |_=>intro _;trivial
theorem gV(hs:fF n h h'):∀{v:V}{cs:List C},cX n h v->cY h v cs->cY h' v cs:=by
 intro v;induction v with
 |so id=>rintro cs hi ⟨c,rfl,hc,hid⟩;exact⟨c,rfl,fun c' hc'=>hc c' (BL hs hi hc'),hid⟩
 |sr id=>rintro cs hi ⟨c,rfl,hc,hid⟩;exact⟨c,rfl,fun c' hc'=>hc c' (BK hs hi hc'),hid⟩
 |sb id ver lo t r=>
  rintro cs ⟨hi,h2⟩ ⟨c,rfl,hc,hid⟩;refine⟨c,rfl,fun ha=>hc ?_,hid⟩;obtain⟨u,s,ho⟩:=gW ha;obtain⟨s0,v0,h3,h4,_,_⟩:=mC hs hi ho;obtain⟨h7,_⟩:=h2 u s0 v0 h3;have:v0=ver:=by omega
  subst this;unfold uv;rcases h3 with h3|h3<;>rw[h3]<;>simp
 |fn z f l ih=>intro cs hv hc;cases z with|true=>exact hc|false=>obtain⟨xs,h1,h2⟩:=hc;exact⟨xs,ih hv h1,h2⟩
 |rc l ih=>intro cs hv hc;exact ih hv hc
 |co a r iha ihr=>rintro cs ⟨h1,h2⟩ ⟨x,y,rfl,h3,h4⟩;exact⟨x,y,rfl,iha h1 h3,ihr h2 h4⟩
 |_=>intro cs _ hc;exact hc
theorem oI(hs:fF n h h'){v:V}{x:TV}(hv:cX n h v)(hx:Yz h v x):Yz h' v x:=by obtain⟨cs,h1,h2⟩:=hx;exact⟨cs,gV hs hv h1,h2⟩
theorem zW(hs:fF n h h'):∀{v:V}{xs:List TV},cX n h v->tu h v xs->tu h' v xs:=by intro v;induction v with|co a r iha ihr=>rintro xs ⟨h1,h2⟩ ⟨x,ys,rfl,h3,h4⟩;exact⟨x,ys,rfl,oI hs h1 h3,ihr h2 h4⟩|ni=>intro xs _ h;exact h|_=>intro xs _ h;exact h.elim
theorem nJ(hs:fF n h h'){v:V}{x:TV}(hv:cX n h v)(hx:dD h v x):dD h' v x:=by cases v with|tp l=>obtain⟨xs,h1,h2⟩:=hx;exact⟨xs,h1,zW hs hv h2⟩|no=>exact hx|gn=>exact hx|_=>exact oI hs hv hx
theorem jV(hs:fF n h h'){o:O}{b:Option Ob}(ho:uC n h o)(hb:KB h o b):KB h' o b:=by cases o with|bx t c=>obtain⟨cs,h1,h2,h3⟩:=hb;exact⟨cs,h1,gV hs ho h2,h3⟩|_=>exact hb
theorem jf(hn:n<=n')(hs:fF n h h'){o:O}(ho:uC n h o):uC n' h' o:=by
 cases o with
 |bx t c=>exact WI hn hs ho
 |rw t s ln=>cases ln with|none=>trivial|some q=>obtain⟨m,id⟩:=q;obtain⟨h1,h2,h3⟩:=ho;refine⟨h1,Nat.lt_of_lt_of_le h2 hn,fun u r v hu=>?_⟩;obtain⟨s0,v0,h4,h5,h6⟩:=BN hs h2 hu;obtain⟨h7,h8⟩:=h3 u s0 v0 h4;exact⟨h5▸h7,h6▸h8⟩
 |_=>trivial
end
theorem eS{h:H2}:∀{v:V}{cs:List C},cY h v cs->cs.length=qj v:=by
 intro v;induction v with
 |x t v=>rintro cs ⟨_,rfl⟩;simp[qj,bg]
 |so id=>rintro cs ⟨c,rfl,_⟩;rfl
 |sr id=>rintro cs ⟨c,rfl,_⟩;rfl
 |sb id ver lo t r=>rintro cs ⟨c,rfl,_⟩;rfl
 |pt t v=>rintro cs ⟨_,rfl⟩;rfl
 |fn z f l ih=>intro cs hc;cases z with|true=>obtain⟨ds,_,rfl⟩:=hc;rfl|false=>obtain⟨ds,_,rfl⟩:=hc;rfl
 |rc l ih=>intro cs hc;exact ih hc
 |fl l=>rintro cs ⟨_,rfl⟩;simp[db,qj]
 |ni=>rintro cs rfl;rfl
 |co a r iha ihr=>rintro cs ⟨x,y,rfl,h1,h2⟩;simp[qj,iha h1,ihr h2]
 |tp l=>intro cs hc;exact hc.elim
 |no=>intro cs hc;exact hc.elim
 |gn=>intro cs hc;exact hc.elim
 |_=>rintro cs rfl;rfl
theorem ei:∀(v:V)(ln:Bool)(t:Ty),cL v ln t=true->qj v=bn t:=by
 intro v;induction v with
 |rc l ih=>
  intro ln t hf;cases ln with
  |true=>cases t<;>simp[cL]at hf
  |false=>cases t with|st t=>exact ih true t hf|_=>simp[cL]at hf
 |co a r iha ihr=>
  intro ln t hf;cases ln with
  |false=>simp[cL]at hf
  |true=>
   cases t with
   |pr t u=>simp only[cL,ae]at hf;simp[qj,bn,iha _ _ hf.1,ihr _ _ hf.2]
   |_=>cases r with|ni=>have hf':cL a false _=true:=hf;simp[qj,iha _ _ hf']|_=>simp[cL]at hf
 |x u v=>intro ln t hf;cases ln with|false=>simp only[cL,decide_eq_true_eq]at hf;subst hf;rfl|true=>cases t<;>simp[cL]at hf
 |nl k=>intro ln t hf;cases ln<;>cases t<;>first|rfl|(simp[cL]at hf;done)|skip
 |_=>intro ln t hf;cases ln<;>cases t<;>first|rfl|(simp[cL]at hf;done)
section
variable{h:H2}
theorem j9{v:V}{u:Ty}{y:El u}{cs:List C}(hc:eJ u v=some y)(hv:cY h v cs):cs=(aJ u y).map .d:=by
 cases v with
 |x t v=>obtain⟨rfl,rfl⟩:=bL hc;exact hv.2
 |kb c=>obtain⟨rfl,rfl⟩:=bL (t:=.b) hc;exact hv
 |nl k=>
  cases k with
  |zero=>
   cases u<;>simp only[eJ]at hc<;>first|cases hc;done|skip
   obtain rfl:=aa hc;exact hv
  |succ k=>simp[eJ]at hc
 |fl l=>
  obtain⟨h1,rfl⟩:=hv;simp only[eJ]at hc;cases ha:iS u
  .rw [ha]at hc;simp at hc
  rw[ha,cond_true]at hc;split at hc
  .rename_i x hx;obtain rfl:=aa hc;obtain⟨p,rfl,e⟩:=A_ u _ _ _ hx h1;rw[e];simp[db]
  .simp at hc
 |_=>simp[eJ]at hc
theorem fq:∀(v:V)(ln:Bool)(u:Ty)(y:El u)(cs:List C),gD v ln u=some y->cY h v cs->cs=(aJ u y).map .d:=by
 intro v;induction v with
 |rc l ih=>
  intro ln u y cs hc hv;cases ln with
  |true=>cases u<;>simp[gD]at hc
  |false=>cases u with|st u=>exact ih true u y cs hc hv|_=>simp[gD,eJ]at hc
 |co a r iha ihr=>
  intro ln u y cs hc hv;obtain⟨x1,x2,rfl,h1,h2⟩:=hv;cases ln with
  |false=>cases u<;>simp[gD,eJ]at hc
  |true=>
   cases u with
   |pr t u=>
    simp only[gD]at hc;split at hc
    .rename_i p q hp hq;obtain rfl:=aa hc;rw[iha _ _ _ _ hp h1,ihr _ _ _ _ hq h2];simp[aJ]
    .simp at hc
   |_=>cases r with|ni=>have hc':gD a false _=some y:=hc;obtain rfl:x2=[]:=h2;rw[eI];exact iha _ _ _ _ hc' h1|_=>simp[gD]at hc
 |_=>
  intro ln u y cs hc hv;cases ln with
  |true=>cases u<;>simp[gD]at hc
  |false=>first|exact j9 hc hv|(simp[gD]at hc)
theorem wA{v:V}{u:Ty}{y:El u}(hc:eJ u v=some y):mu v=iS u:=by
 cases v with
 |x t v=>obtain⟨rfl,_⟩:=bL hc;rfl
 |kb c=>obtain⟨rfl,_⟩:=bL (t:=.b) hc;rfl
 |nl k=>
  cases k with
  |zero=>cases u<;>simp only[eJ]at hc<;>first|rfl|cases hc
  |succ k=>simp[eJ]at hc
 |fl l=>
  simp only[eJ]at hc;cases ha:iS u
  .rw [ha]at hc;simp at hc
  .rfl
 |_=>simp[eJ]at hc
theorem pd{v:V}{u:Ty}{y:El u}(hc:mP u v=some y):mu v=iS u:=by
 cases v with
 |rc l=>cases u with|st u=>rfl|_=>simp[mP,gD,eJ]at hc
 |co a r=>cases u<;>simp[mP,gD,eJ]at hc
 |ni=>cases u<;>simp[mP,gD]at hc
 |_=>exact wA hc
theorem sJ:∀(l:V)(t:Ty)(i:Nat)(w:V)(cs:List C),cL l true t=true->cY h l cs->lS l i=some w->
  ∃u cw,uE t i=some u/\cL w false u=true/\cY h w cw/\jA t i+bn u<=cs.length/\(cs.drop (jA t i)).take (bn u)=cw:=by
 intro l;induction l with
 |co a r iha ihr=>
  intro t i w cs hf hv hw;obtain⟨x,y,rfl,h1,h2⟩:=hv;have one:∀t,cL a false t=true->r=.ni->uE t 0=some t->jA t 0=0->i=0->∃u cw,uE t i=some u/\cL w false u=true/\cY h w cw/\jA t i+bn u<=(x++y).length/\((x++y).drop (jA t i)).take (bn u)=cw:=by intro t hf hr h3 h4 hi;subst hi;obtain rfl:=aa hw;have hs:=ei _ _ _ hf;have hl:=eS h1;refine⟨t,x,h3,hf,h1,by rw[h4];simp;omega,?_⟩;rw[h4,cA,<-hs,<-hl,List.take_left]
  cases t with
  |pr t u=>simp only[cL,ae]at hf;have hs:=ei _ _ _ hf.1;have hl:=eS h1;cases i with|zero=>obtain rfl:=aa hw;refine⟨t,x,rfl,hf.1,h1,by simp[jA];omega,?_⟩;simp only[jA,cA];rw[<-hs,<-hl,List.take_left]|succ i=>obtain⟨u',cw,q1,q2,q3,q4,q5⟩:=ihr u i w y hf.2 h2 hw;refine⟨u',cw,q1,q2,q3,by simp only[jA,bh];omega,?_⟩;simp only[jA];rw[<-cj,<-hs,<-hl,List.drop_left,q5]
  |_=>
   cases r with
   |ni=>have hf':cL a false _=true:=hf;cases i with|zero=>exact one _ hf' rfl rfl rfl rfl|succ i=>simp[lS]at hw
   |_=>simp[cL]at hf
 |_=>intro t i w cs hf hv hw;simp[lS]at hw
theorem sE:∀(l:V)(t:Ty)(i:Nat)(w:V)(cs cw:List C)(u:Ty),cL l true t=true->cY h l cs->uE t i=some u->cY h w cw->cw.length=bn u->(∃w0,lS l i=some w0)->cY h (B3 l i w) (aM cs (jA t i) cw):=by
 intro l;induction l with
 |co a r iha ihr=>
  intro t i w cs cw u hf hv hu hw hlen hn;obtain⟨x,y,rfl,h1,h2⟩:=hv;cases t with
  |pr t u'=>simp only[cL,ae]at hf;have hs:=ei _ _ _ hf.1;have hl:=eS h1;cases i with|zero=>obtain rfl:=aa hu;refine⟨cw,y,?_,hw,h2⟩;simp only[jA];rw[mA (by omega),iv (by omega)]|succ i=>have:=ihr u' i w y cw u hf.2 h2 hu hw hlen hn;refine⟨x,_,?_,h1,this⟩;simp only[jA];rw[<-hs,<-hl,mB]
  |_=>
   cases r with
   |ni=>cases i with|zero=>obtain rfl:=aa hu;have hf':cL a false _=true:=hf;have hs:=ei _ _ _ hf';have hl:=eS h1;obtain rfl:y=[]:=h2;refine⟨cw,[],?_,hw,rfl⟩;simp only[jA,eI];rw[iv (by omega)]|succ i=>obtain⟨w0,hn⟩:=hn;simp[lS]at hn
   |_=>simp[cL]at hf
 |_=>intro t i w cs cw u hf hv hu hw hlen hn;obtain⟨w0,hn⟩:=hn;simp[lS]at hn
theorem tw:∀(t:Ty)(v:El t),L_ t=true->cY h (zZ t v) ((aJ t v).map .d):=by intro t;induction t with|pr a c iha ihc=>intro v hd;simp only[L_,ae]at hd;exact⟨(aJ a v.1).map .d,(aJ c v.2).map .d,by simp[aJ],⟨hd.1,rfl⟩,ihc v.2 hd.2⟩|_=>intro v hd;exact⟨_,[],(eI _).symm,⟨hd,rfl⟩,rfl⟩
theorem Ec:∀(t:Ty)(v:El t),cL (zZ t v) true t=true:=by intro t;induction t with|pr a c iha ihc=>intro v;simp[zZ,cL,ihc]|_=>intro v;simp[zZ,cL]
theorem Eb:∀(t:Ty)(v:El t)(i:Nat)(w:V),rX t v i=some w->lS (zZ t v) i=some w:=by
 intro t;induction t with
 |pr a c iha ihc=>intro v i w hw;cases i with|zero=>exact hw|succ i=>exact ihc v.2 i w hw
 |_=>intro v i w hw;cases i with|zero=>exact hw|succ i=>simp[rX]at hw
theorem rm:∀(t:Ty)(i:Nat)(u:Ty),L_ t=true->uE t i=some u->L_ u=true:=by
 intro t;induction t with
 |pr a c iha ihc=>intro i u hd hu;simp only[L_,ae]at hd;cases i with|zero=>obtain rfl:=aa hu;exact hd.1|succ i=>exact ihc i u hd.2 hu
 |_=>intro i u hd hu;cases i with|zero=>obtain rfl:=aa hu;exact hd|succ i=>simp[uE]at hu
theorem oS:∀(p:ki)(t u:Ty),Sf t p=some u->Aw t p->iE t p+bn u<=bn t:=by
 intro p;induction p with
 |nil=>
  intro t u hu _;have e2:Sf t []=some t:=by cases t<;>rfl
  have e:iE t []=0:=by cases t<;>rfl
  obtain rfl:t=u:=by rw[e2]at hu;exact aa hu
  omega
 |cons q p ih=>
  intro t u hu hp;cases q with
  |fd i=>cases t with|st t=>obtain⟨a,ha,hp⟩:=hp;simp only[Sf,ha]at hu;have:=ih a u hu hp;have:=G4 t i a ha;simp only[iE,ha,bn];omega|_=>exact hp.elim
  |ix k=>cases t with|ar n t=>obtain⟨hk,hp⟩:=hp;have:=ih t u hu hp;have h2:(k+1)*bn t<=n*bn t:=aw _ hk;rw[bf]at h2;simp only[iE,bn];omega|_=>exact hp.elim
theorem o5:∀(p:ki)(c:V)(t:Ty)(w:V)(cs:List C),cL c false t=true->cY h c cs->Aw t p->MM c p=some w->
  ∃u cw,Sf t p=some u/\cL w false u=true/\cY h w cw/\iE t p+bn u<=cs.length/\(cs.drop (iE t p)).take (bn u)=cw:=by
 intro p;induction p with
 |nil=>
  intro c t w cs hf hv _ hw;obtain rfl:c=w:=by simpa[MM]using hw
  have hs:=ei _ _ _ hf;have hl:=eS hv;refine⟨t,cs,by cases t<;>rfl,hf,hv,?_,?_⟩
  .cases t<;>simp[iE]<;>omega
  .have e:iE t []=0:=by cases t<;>rfl
   rw[e,cA,dj (by omega)]
 |cons q p ih=>
  intro c t w cs hf hv hp hw
  have sub:∀(o n:Nat)(c2:V)(u:Ty)(c3:List C),cL c2 false u=true->cY h c2 c3->(cs.drop o).take (bn u)=c3->o+bn u<=cs.length->Aw u p->MM c2 p=some w->Sf t (q::p)=Sf u p->iE t (q::p)=o+iE u p->
    ∃u cw,Sf t (q::p)=some u/\cL w false u=true/\cY h w cw/\iE t (q::p)+bn u<=cs.length/\(cs.drop (iE t (q::p))).take (bn u)=cw:=by
   intro o n c2 u c3 hf2 hv2 h3 h4 h5 h6 h7 h8;obtain⟨u',cw,q1,q2,q3,q4,q5⟩:=ih c2 u w c3 hf2 hv2 h5 h6;have hl:=eS hv2;rw[ei _ _ _ hf2]at hl;refine⟨u',cw,h7.trans q1,q2,q3,by rw[h8];omega,?_⟩;rw[h8,<-q5,<-h3,<-cj];rw[List.drop_take,List.take_take];congr 1;omega
  cases q with
  |fd i=>
   cases t with
   |st t=>
    obtain⟨u,hu,hp⟩:=hp;have e7:Sf (.st t) (.fd i::p)=Sf u p:=by simp only[Sf,hu]
    have e8:iE (.st t) (.fd i::p)=jA t i+iE u p:=by simp only[iE,hu]
    cases c with
    |x t' v=>
     simp only[cL,decide_eq_true_eq]at hf;subst hf;obtain⟨hd,rfl⟩:=hv;simp only[MM]at hw;split at hw
     .rename_i y hy;obtain⟨u',y',rfl,h1,h2,h3⟩:=k8 _ _ _ _ hy;obtain rfl:u=u':=by rw[hu]at h1;exact aa h1
      refine sub (jA t i) 0 (.x u y') u ((aJ u y').map .d) (by simp[cL]) ⟨rm t _ _ hd hu,rfl⟩ ?_ ?_ hp hw e7 e8
      .rw [<-h3,eE,dO];rfl
      .simp [bg,bn];exact h2
     .simp at hw
    |rc l=>
     simp only[MM]at hw;split at hw
     .rename_i y hy;obtain⟨u',cw,q1,q2,q3,q4,q5⟩:=sJ l t i y cs hf hv hy;obtain rfl:u=u':=by rw[hu]at q1;exact aa q1
      exact sub (jA t i) 0 y u cw q2 q3 q5 q4 hp hw e7 e8
     .simp at hw
    |_=>simp[MM]at hw
   |_=>exact hp.elim
  |ix k=>
   cases t with
   |ar n t=>
    obtain⟨hk,hp⟩:=hp;cases c with
    |x t' v=>
     simp only[cL,decide_eq_true_eq]at hf;subst hf;obtain⟨hd,rfl⟩:=hv;simp only[MM]at hw;have hk':k<v.1.length:=by rw[v.2];exact hk
     have hg:=q8 (bg t) v.1 k hk';refine sub (k*bn t) 0 (.x t (gt v.1 k)) t ((aJ t (gt v.1 k)).map .d) (by simp[cL]) ⟨hd,rfl⟩ ?_ ?_ hp hw rfl rfl
     .rw [<-hg,eE,dO];rfl
     .simp only[aH,bg,bn];have:(k+1)*bn t<=n*bn t:=aw _ hk;rw[bf]at this;omega
    |_=>simp[MM]at hw
   |_=>exact hp.elim
theorem z7:∀(t:Ty)(v:El t)(i:Nat)(w:V)(v':El t),z8 t v i w=some v'->∃u z,uE t i=some u/\eJ u w=some z/\aJ t v'=aM (aJ t v) (jA t i) (aJ u z):=by
 intro t;induction t with
 |pr a c iha ihc=>
  intro v i w v' hs;cases i with
  |zero=>
   simp only[z8]at hs;split at hs
   .rename_i y hy;obtain rfl:=aa hs;refine⟨a,y,rfl,hy,?_⟩;simp only[aJ,jA];rw[mA (by simp[bg]),iv (by simp[bg])]
   .simp at hs
  |succ i=>
   simp only[z8]at hs;split at hs
   .rename_i y hy;obtain rfl:=aa hs;obtain⟨u,z,h1,h2,h3⟩:=ihc _ _ _ _ hy;refine⟨u,z,h1,h2,?_⟩;simp only[aJ,jA,h3];have:=mB (a:=aJ a v.1) (b:=aJ c v.2) (off:=jA c i) (p:=aJ u z);rw[bg]at this;rw[this]
   .simp at hs
 |_=>intro v i w v' hs;cases i with|zero=>have hs':eJ _ w=some v':=hs;exact⟨_,v',rfl,hs',by simp only[jA];rw[iv (by simp[bg])]⟩|succ i=>simp[z8]at hs
theorem oL:∀(p:ki)(c:V)(t:Ty)(w c':V)(cs cw:List C)(u:Ty),cL c false t=true->cY h c cs->Aw t p->jm c p w=some c'->Sf t p=some u->cY h w cw->cw.length=bn u->
  cY h c' (aM cs (iE t p) cw):=by
 intro p;induction p with
 |nil=>
  intro c t w c' cs cw u hf hv _ hs hu hw hlen;obtain rfl:w=c':=by simpa[jm]using hs
  have e:iE t []=0:=by cases t<;>rfl
  have e2:Sf t []=some t:=by cases t<;>rfl
  obtain rfl:t=u:=by rw[e2]at hu;exact aa hu
  have:=eS hv;rw[ei _ _ _ hf]at this;rw[e,iv (by omega)];exact hw
 |cons q p ih=>
  intro c t w c' cs cw u hf hv hp hs hu hw hlen;cases q with
  |fd i=>
   cases t with
   |st t=>
    obtain⟨a,ha,hp⟩:=hp;have hu':Sf a p=some u:=by simpa only[Sf,ha]using hu
    have e8:iE (.st t) (.fd i::p)=jA t i+iE a p:=by simp only[iE,ha]
    cases c with
    |x t' v=>
     simp only[cL,decide_eq_true_eq]at hf;subst hf;obtain⟨hd,rfl⟩:=hv;simp only[jm]at hs;split at hs
     .rename_i y hy;split at hs
      .rename_i y1 hy1;obtain⟨a',z,rfl,h1,h2,h3⟩:=k8 _ _ _ _ hy;obtain rfl:a=a':=by rw[ha]at h1;exact aa h1
       have hz:cY h (.x a z) ((aJ a z).map .d):=⟨rm t _ _ hd ha,rfl⟩
       have h4:=ih (.x a z) a w y1 ((aJ a z).map .d) cw u (by simp[cL]) hz hp hy1 hu' hw hlen;have hle:iE a p+cw.length<=bn a:=by have:=oS p a u hu' hp;omega
       have h5:((aJ (.st t) v).map C.d|>.drop (jA t i)).take (bn a)=(aJ a z).map .d:=by rw[<-h3,eE,dO];rfl
       have h6:aM ((aJ (.st t) v).map C.d) (jA t i+iE a p) cw=aM ((aJ (.st t) v).map C.d) (jA t i) (aM ((aJ a z).map .d) (iE a p) cw):=(kG h5 (by simp[bg,bn];exact h2) hle).symm;rw[e8,h6];split at hs
       .rename_i v' hv';obtain rfl:=aa hs;obtain⟨a2,z2,k1,k2,k3⟩:=z7 _ _ _ _ _ hv';obtain rfl:a=a2:=by rw[ha]at k1;exact aa k1
        refine⟨hd,?_⟩;have:=j9 k2 h4;rw[this];show _=(aJ t v').map C.d;rw[k3,nm];rfl
       .obtain rfl:=aa hs;refine sE (zZ t v) t i y1 _ _ a (Ec t v) (tw t v hd) ha h4 ?_ ⟨_,Eb t v i _ hy⟩;rw[KA (by simp[bg];exact hle)];simp[bg]
      .simp at hs
     .simp at hs
    |rc l=>
     simp only[jm]at hs;split at hs
     .rename_i y hy;split at hs
      .rename_i y1 hy1;obtain rfl:=aa hs;obtain⟨a',cw2,q1,q2,q3,q4,q5⟩:=sJ l t i y cs hf hv hy;obtain rfl:a=a':=by rw[ha]at q1;exact aa q1
       have h4:=ih y a w y1 cw2 cw u q2 q3 hp hy1 hu' hw hlen;have hl:=eS q3;rw[ei _ _ _ q2]at hl;have hle:iE a p+cw.length<=bn a:=by have:=oS p a u hu' hp;omega
       rw[e8,<-kG q5 q4 hle];exact sE l t i y1 cs _ a hf hv ha h4 (by rw[KA (by omega),hl]) ⟨_,hy⟩
      .simp at hs
     .simp at hs
    |_=>simp[jm]at hs
   |_=>exact hp.elim
  |ix k=>
   cases t with
   |ar n t=>
    obtain⟨hk,hp⟩:=hp;have hu':Sf t p=some u:=hu;cases c with
    |x t' v=>
     simp only[cL,decide_eq_true_eq]at hf;subst hf;obtain⟨hd,rfl⟩:=hv;simp only[jm]at hs;split at hs
     .rename_i y1 hy1;split at hs
      .rename_i z hz;obtain rfl:=aa hs;have hk':k<v.1.length:=by rw[v.2];exact hk
       have hg:=q8 (bg t) v.1 k hk';have h4:=ih (.x t (gt v.1 k)) t w y1 ((aJ t (gt v.1 k)).map .d) cw u (by simp[cL]) ⟨hd,rfl⟩ hp hy1 hu' hw hlen;have h7:=j9 hz h4;have hle:iE t p+cw.length<=bn t:=by have:=oS p t u hu' hp;omega
       have h5:((aJ (.ar n t) v).map C.d|>.drop (k*bn t)).take (bn t)=(aJ t (gt v.1 k)).map .d:=by rw[<-hg,eE,dO];rfl
       have h8:k*bn t+bn t<=((aJ (.ar n t) v).map C.d).length:=by simp only[aH,bg,bn];have:(k+1)*bn t<=n*bn t:=aw _ hk;rw[bf]at this;omega
       refine⟨hd,?_⟩;show aM _ (k*bn t+iE t p) cw=_;rw[<-kG h5 h8 hle,h7,<-nm];show _=((v.1.set k z).flatMap (aJ t)).map C.d;rw[C_ (bg t) v.1 k z hk'];rfl
      .simp at hs
     .simp at hs
    |_=>simp[jm]at hs
   |_=>exact hp.elim
theorem pX{n:Nat}:∀(l:V)(i:Nat)(w:V),cX n h l->lS l i=some w->cX n h w:=by
 intro l;induction l with
 |co a r iha ihr=>intro i w hk hw;cases i with|zero=>obtain rfl:=aa hw;exact hk.1|succ i=>exact ihr i w hk.2 hw
 |_=>intro i w hk hw;simp[lS]at hw
theorem zb{n:Nat}:∀(l:V)(i:Nat)(w:V),cX n h l->cX n h w->cX n h (B3 l i w):=by
 intro l;induction l with
 |co a r iha ihr=>intro i w hk hw;cases i with|zero=>exact⟨hw,hk.2⟩|succ i=>exact⟨hk.1,ihr i w hk.2 hw⟩
 |_=>intro i w hk hw;exact hk
theorem zF{n:Nat}{t:Ty}{v:El t}{i:Nat}{w:V}(hw:rX t v i=some w):cX n h w:=by obtain⟨u,y,rfl,_⟩:=k8 _ _ _ _ hw;trivial
theorem w9{n:Nat}:∀(t:Ty)(v:El t),cX n h (zZ t v):=by intro t;induction t with|pr a c iha ihc=>intro v;exact⟨trivial,ihc v.2⟩|_=>intro v;exact⟨trivial,trivial⟩
theorem t8{n:Nat}:∀(p:ki)(c w:V),cX n h c->MM c p=some w->cX n h w:=by
 intro p;induction p with
 |nil=>intro c w hk hw;obtain rfl:c=w:=by simpa[MM]using hw
       exact hk
 |cons q p ih=>
  intro c w hk hw;cases q with
  |fd i=>
   cases c with
   |x t v=>
    cases t with
    |st t=>
     simp only[MM]at hw;split at hw
     .rename_i y hy;exact ih y w (zF hy) hw
     .simp at hw
    |_=>simp[MM]at hw
   |rc l=>
    simp only[MM]at hw;split at hw
    .rename_i y hy;exact ih y w (pX l _ _ hk hy) hw
    .simp at hw
   |_=>simp[MM]at hw
  |ix k=>
   cases c with
   |x t v=>cases t with|ar m t=>exact ih (.x t (gt v.1 k)) w trivial hw|_=>simp[MM]at hw
   |_=>simp[MM]at hw
theorem TN{n:Nat}:∀(p:ki)(c w c':V),cX n h c->cX n h w->jm c p w=some c'->cX n h c':=by
 intro p;induction p with
 |nil=>intro c w c' _ hw hs;obtain rfl:w=c':=by simpa[jm]using hs
       exact hw
 |cons q p ih=>
  intro c w c' hk hw hs;cases q with
  |fd i=>
   cases c with
   |x t v=>
    cases t with
    |st t=>
     simp only[jm]at hs;split at hs
     .rename_i y hy;split at hs
      .rename_i y1 hy1;split at hs
       .obtain rfl:=aa hs;trivial
       .obtain rfl:=aa hs;exact zb _ _ _ (w9 t v) (ih y w y1 (zF hy) hw hy1)
      .simp at hs
     .simp at hs
    |_=>simp[jm]at hs
   |rc l=>
    simp only[jm]at hs;split at hs
    .rename_i y hy;split at hs
     .rename_i y1 hy1;obtain rfl:=aa hs;exact zb l _ _ hk (ih y w y1 (pX l _ _ hk hy) hw hy1)
     .simp at hs
    .simp at hs
   |_=>simp[jm]at hs
  |ix k=>
   cases c with
   |x t v=>
    cases t with
    |ar m t=>
     simp only[jm]at hs;split at hs
     .split at hs
      .obtain rfl:=aa hs;trivial
      .simp at hs
     .simp at hs
    |_=>simp[jm]at hs
   |_=>simp[jm]at hs
end
section
variable{h:H2}{n:Nat}{h1:aY}
theorem cn{v:V}{c:C}(ha:mu v=false)(hc:cY h v [c]):Yz h v (.c c):=⟨[c],hc,fun e=>(by rw[ha]at e;cases e),fun _=>⟨c,rfl,rfl⟩⟩
theorem qh{v:V}{cs:List C}(ha:mu v=true)(hc:cY h v cs):Yz h v (.agg cs):=⟨cs,hc,fun _=>rfl,fun e=>(by rw[ha]at e;cases e)⟩
theorem ft{v:V}{x:TV}(hx:Yz h v x)(ha:mu v=false):∃c,x=.c c/\cY h v [c]:=by obtain⟨cs,h1,_,h2⟩:=hx;obtain⟨c,rfl,rfl⟩:=h2 ha;exact⟨c,rfl,h1⟩
theorem kS{v:V}{x:TV}(hx:Yz h v x):∃cs,cY h v cs/\cellsOf x=some cs:=by obtain⟨cs,h1,h2,h3⟩:=hx;refine⟨cs,h1,?_⟩;cases ha:mu v with|true=>rw[h2 ha];rfl|false=>obtain⟨c,rfl,rfl⟩:=h3 ha;rfl
theorem ge{k:IntKind}{a:Int}{x:TV}(hx:dD h (.x (.i k) a) x):x=tI k a:=by obtain⟨c,rfl,_,hc⟩:=ft (v:=.x (.i k) a) hx rfl;obtain rfl:=(bz hc).1;rfl
theorem yX{a:Bool}{x:TV}(hx:dD h (.x .b a) x):x=tB a:=by obtain⟨c,rfl,_,hc⟩:=ft (v:=.x .b a) hx rfl;obtain rfl:=(bz hc).1;rfl
theorem pq{a:ByteArray}{x:TV}(hx:dD h (.x .s a) x):x=.c (.d (dS a)):=by obtain⟨c,rfl,_,hc⟩:=ft (v:=.x .s a) hx rfl;obtain rfl:=(bz hc).1;rfl
theorem qf{t:Ty}{s:Sl (El t)}{x:TV}(hx:dD h (.x (.sl t) s) x):x=.c (.d (oK (bn t) (aJ t) s)):=by obtain⟨c,rfl,_,hc⟩:=ft (v:=.x (.sl t) s) hx rfl;obtain rfl:=(bz hc).1;rfl
theorem oH{a:Bool}{x:TV}(hx:dD h (.kb a) x):x=tB a:=by obtain⟨c,rfl,hc⟩:=ft (v:=.kb a) hx rfl;obtain rfl:=(bz hc).1;rfl
theorem oG{k:Nat}{x:TV}(hx:dD h (.nl k) x):x=.c (vF k):=by obtain⟨c,rfl,hc⟩:=ft (v:=.nl k) hx rfl;obtain rfl:=(bz hc).1;rfl
theorem qg{t:Ty}{a:El t}{x:TV}(hx:dD h (.pt t a) x):L_ t=true/\x=.c (.d (.pt (aJ t a))):=by obtain⟨c,rfl,hd,hc⟩:=ft (v:=.pt t a) hx rfl;obtain rfl:=(bz hc).1;exact⟨hd,rfl⟩
theorem oF{id:Nat}{t:Ty}{p:ki}{x:TV}(hx:dD h (.op id t p) x):x=.c (.op id (iE t p)):=by obtain⟨c,rfl,hc⟩:=ft (v:=.op id t p) hx rfl;obtain rfl:=(bz hc).1;rfl
theorem lZ{id m:Nat}{t:Ty}{p:ki}{x:TV}(hx:dD h (.ep id m t p) x):x=.c (.ep id m (iE t p)):=by obtain⟨c,rfl,hc⟩:=ft (v:=.ep id m t p) hx rfl;obtain rfl:=(bz hc).1;rfl
theorem Oe{id:Nat}{x:TV}(hx:dD h (.om id) x):x=.c (.om id):=by obtain⟨c,rfl,hc⟩:=ft (v:=.om id) hx rfl;obtain rfl:=(bz hc).1;rfl
theorem lY{id:Nat}{c:C}{x:TV}(hx:dD h (.so id) x)(hc:sq id (fO h id)=some c):x=.c c:=by obtain⟨c',rfl,c2,h2,h3⟩:=ft (v:=.so id) hx rfl;obtain rfl:=(bz h2).1;rw[h3.1 c hc]
theorem BE{id:Nat}{c:C}{x:TV}(hx:dD h (.sr id) x)(hc:wQ id (fO h id)=some c):x=.c c:=by obtain⟨c',rfl,c2,h2,h3⟩:=ft (v:=.sr id) hx rfl;obtain rfl:=(bz h2).1;rw[h3.1 c hc]
theorem Sp{id:Nat}{t:Ty}{s:Sl (Sl (El t))}{ln:Option (Nat×Nat)}(ho:fO h id=some (.rw t s ln)):wQ id (fO h id)=some (ij 1 (aJ (.sl t)) id s):=by rw[ho];rfl
theorem kF{id ver lo:Nat}{t:Ty}{r:Sl (El t)}{x:TV}(hx:dD h (.sb id ver lo t r) x)(ha:eT h (.sb id ver lo t r)=true):x=.c (qq id lo t r):=by obtain⟨c',rfl,c2,h2,h3⟩:=ft (v:=.sb id ver lo t r) hx rfl;obtain rfl:=(bz h2).1;rw[h3.1 (Bool.and_eq_true_iff.1 ha).2]
theorem Of{z:Bool}{f:Nat}{l:V}{x:TV}(hx:dD h (.fn z f l) x):(z=true/\∃ds,kN l=some ds/\x=.c (.d (.fn f ds)))\/(z=false/\∃cs,cY h l cs/\x=.c (.jy f cs)):=by obtain⟨c',rfl,hc⟩:=ft (v:=.fn z f l) hx rfl;cases z with|true=>obtain⟨ds,h2,h3⟩:=hc;exact .inl ⟨rfl,ds,h2,by rw[(bz h3).1]⟩|false=>obtain⟨ds,h2,h3⟩:=hc;exact .inr ⟨rfl,ds,h2,by rw[(bz h3).1]⟩
theorem Gl{l:V}{x:TV}(hx:dD h (.tp l) x):∃xs,x=.fm xs/\tu h l xs:=hx
def EC:V->Prop
 |.tp _|.no|.gn=>False
 |_=>True
theorem jw{v:V}{x:TV}(hv:EC v)(hx:dD h v x):Yz h v x:=by cases v<;>first|exact hx|exact hv.elim
theorem bA{v:V}{x:TV}(hx:Yz h v x):dD h v x:=by cases v<;>first|exact hx|(obtain⟨cs,hc,_⟩:=hx;exact hc.elim)
theorem F0{v:V}{u:Ty}{y:El u}(hc:mP u v=some y):EC v:=by cases v<;>first|trivial|(simp[mP,gD,eJ]at hc)
theorem od{v:V}{u:Ty}{y:El u}{x:TV}(hx:dD h v x)(hc:mP u v=some y):(iS u=true->x=.agg ((aJ u y).map .d))/\(iS u=false->∃d,aJ u y=[d]/\x=.c (.d d)):=by
 obtain⟨cs,h2,h3,h4⟩:=jw (F0 hc) hx;have h5:=fq v false u y cs hc h2;have ha:=pd hc;constructor
 .intro hu;rw[h3 (ha.trans hu),h5]
 .intro hu;obtain⟨c,rfl,rfl⟩:=h4 (ha.trans hu);cases he:aJ u y with
  |nil=>rw[he]at h5;simp at h5
  |cons d ds=>
   rw[he]at h5;simp only[List.map_cons,List.cons.injEq]at h5;obtain⟨rfl,h6⟩:=h5;have:ds=[]:=by simpa using h6.symm
   subst this;exact⟨d,rfl,rfl⟩
theorem FZ{v:V}{x:TV}{a:Bool}(hx:dD h v x)(hc:mP .b v=some a):x=tB a:=by obtain⟨d,h1,rfl⟩:=(od hx hc).2 rfl;obtain rfl:=(bz h1).1;rfl
def ig(h:H2):List V->List TV->Prop
 |[],[]=>True
 |v::vs,x::xs=>dD h v x/\ig h vs xs
 |_,_=>False
theorem gK{xs:List TV}(hx:ig h [] xs):xs=[]:=by cases xs<;>first|rfl|exact hx.elim
theorem dK{v:V}{vs:List V}{xs:List TV}(hx:ig h (v::vs) xs):∃x ys,xs=x::ys/\dD h v x/\ig h vs ys:=by cases xs with|nil=>exact hx.elim|cons x ys=>exact⟨x,ys,rfl,hx.1,hx.2⟩
theorem eO{v:V}{xs:List TV}(hx:ig h [v] xs):∃x,xs=[x]/\dD h v x:=by obtain⟨x,ys,rfl,h1,h2⟩:=dK hx;obtain rfl:=gK h2;exact⟨x,rfl,h1⟩
theorem fk{v w:V}{xs:List TV}(hx:ig h [v,w] xs):∃x y,xs=[x,y]/\dD h v x/\dD h w y:=by obtain⟨x,ys,rfl,h1,h2⟩:=dK hx;obtain⟨y,rfl,h3⟩:=eO h2;exact⟨x,y,rfl,h1,h3⟩
theorem Gk{v w z:V}{xs:List TV}(hx:ig h [v,w,z] xs):∃x y u,xs=[x,y,u]/\dD h v x/\dD h w y/\dD h z u:=by obtain⟨x,ys,rfl,h1,h2⟩:=dK hx;obtain⟨y,u,rfl,h3⟩:=fk h2;exact⟨x,y,u,rfl,h1,h3⟩
theorem BD:∀{vs:List V}{xs:List TV},ig h vs xs->(∀v∈vs,EC v/\mu v=false)->∃cs,cY h (cU vs) cs/\xs=cs.map TV.c:=by intro vs;induction vs with|nil=>intro xs hx _;obtain rfl:=gK hx;exact⟨[],rfl,rfl⟩|cons v vs ih=>intro xs hx hv;obtain⟨x,ys,rfl,h1,h2⟩:=dK hx;obtain⟨hp,ha⟩:=hv v (by simp);obtain⟨c,rfl,h3⟩:=ft (jw hp h1) ha;obtain⟨cs,h4,rfl⟩:=ih h2 fun w hw=>hv w (by simp[hw]);exact⟨c::cs,⟨[c],cs,rfl,h3,h4⟩,rfl⟩
theorem nr{id:Nat}{q:(t:Ty)×Sl (El t)×List Nat}(hs:mU h (.so id)=some q):∃ver,(fO h id=some (.ar q.1 q.2.1 ver)\/fO h id=some (.im q.1 q.2.1 ver))/\q.2.2=[id]:=by
 simp only[mU]at hs;split at hs
 .rename_i t s v ho;obtain rfl:=aa hs;exact⟨v,.inl ho,rfl⟩
 .rename_i t s v ho;obtain rfl:=aa hs;exact⟨v,.inr ho,rfl⟩
 .simp at hs
theorem ii{id ver:Nat}{t:Ty}{s:Sl (El t)}(ho:fO h id=some (.ar t s ver)\/fO h id=some (.im t s ver)):sq id (fO h id)=some (ij (bn t) (aJ t) id s):=by rcases ho with ho|ho<;>rw[ho]<;>rfl
theorem GU{id lo nx:Nat}{t:Ty}{r:Sl (El t)}{c:Call}{H:aY}:bD c (.len false) [some (.c (qq id lo t r))] H nx=some (tI .i64 r.l.length,[],[],nx):=by cases r with|nil=>rfl|mk l=>simp[bD,m_,qq,Sl.l,lv]
theorem GS{v:V}{x:TV}{q:(t:Ty)×Sl (El t)×List Nat}{c:Call}{H:aY}{nx:Nat}(hx:dD h v x)(ha:eT h v=true)(hs:mU h v=some q):
  bD c (.len false) [some x] H nx=some (tI .i64 q.2.1.l.length,[],[],nx):=by
 cases v with
 |x t s=>cases t with|sl t=>obtain rfl:=aa hs;rw[qf hx];exact GT|_=>simp[mU]at hs
 |so id=>obtain⟨ver,ho,_⟩:=nr hs;rw[lY hx (ii ho)];exact FS
 |sb id ver lo t r=>obtain rfl:=aa hs;rw[kF hx ha];exact GU
 |_=>simp[mU]at hs
theorem CP{id lo nx:Nat}{t:Ty}{r:Sl (El t)}{c:Call}{H:aY}{neg:Bool}:bD c (.lc 0 neg) [some (.c (qq id lo t r))] H nx=some (tB (if neg then !r.QH else r.QH),[],[],nx):=by cases r<;>rfl
theorem GL{v:V}{x:TV}{q:(t:Ty)×Sl (El t)×List Nat}{c:Call}{H:aY}{nx:Nat}{neg:Bool}(hx:dD h v x)(ha:eT h v=true)(hs:mU h v=some q):
  bD c (.lc 0 neg) [some x] H nx=some (tB (if neg then !q.2.1.QH else q.2.1.QH),[],[],nx):=by
 cases v with
 |x t s=>cases t with|sl t=>obtain rfl:=aa hs;rw[qf hx];exact GM|_=>simp[mU]at hs
 |so id=>obtain⟨ver,ho,_⟩:=nr hs;rw[lY hx (ii ho)];exact In
 |sb id ver lo t r=>obtain rfl:=aa hs;rw[kF hx ha];exact CP
 |_=>simp[mU]at hs
theorem jk{g:Bool}{m:Nat}{w:V}(hc:yA h g m w=true):mu w=g/\qj w=m/\(g=false->m=1)/\eT h w=true:=by
 simp only[yA,ae,beq_iff_eq,Bool.or_eq_true]at hc;obtain⟨⟨⟨h1,h2⟩,h3⟩,h4⟩:=hc;refine⟨h1,h2,fun e=>?_,h4⟩;rcases h3 with h3|h3
 .rw [e]at h3;cases h3
 .exact h3
theorem jX{g:Bool}{m off:Nat}{cs cw:List C}{w:V}(hc:yA h g m w=true)(hw:cY h w cw)(hle:off+m<=cs.length)(he:(cs.drop off).take m=cw):∃x,vQ g m (cs.drop off)=some x/\dD h w x:=by
 obtain⟨ha,hs,hm,_⟩:=jk hc;cases g with
 |true=>refine⟨.agg cw,?_,bA (qh ha hw)⟩;simp only[vQ,if_true];rw[if_pos (by simp;omega),he]
 |false=>obtain rfl:=hm rfl;cases hd:cs.drop off with|nil=>have:=congrArg List.length hd;simp at this;omega|cons c r=>rw[hd]at he;subst he;exact⟨.c c,rfl,bA (cn ha hw)⟩
theorem tY{g:Bool}{m:Nat}{ds:List D}:FT g m ds=vQ g m (ds.map .d):=by
 unfold FT vQ;cases g
 .cases ds<;>simp
 .simp
theorem oW{p w:V}{l:List Nat}{g:Bool}{m nx:Nat}{c:Call}{x:TV}(hr:HR n h1 h)(hl:qS h p=some (w,l))(hc:yA h g m w=true)(hx:dD h p x)(hok:cX n h p):
  ∃y,bD c (.load g m) [some x] h1 nx=some (y,[],l,nx)/\dD h w y/\cX n h w:=by
 cases p with
 |pt t v=>obtain⟨rfl,rfl⟩:=ad (aa hl);obtain⟨hd,rfl⟩:=qg hx;obtain⟨_,hs,_,_⟩:=jk hc;have hs':bn t=m:=hs;obtain⟨y,h2,h3⟩:=jX (cs:=(aJ t v).map .d) (off:=0) hc (show cY h (.x t v) ((aJ t v).map .d)from⟨hd,rfl⟩) (by simp[bg];omega) (by rw[cA,dj (by simp[bg];omega)]);refine⟨y,?_,h3,trivial⟩;rw[cA,<-tY]at h2;simp only[bD,eH,h2]
 |op id t p=>
  obtain rfl:=oF hx;simp only[qS]at hl;split at hl
  .rename_i u cc ho;obtain⟨_,hb,hko⟩:=hr.ob id _ ho;obtain⟨cs,h2,h3,h4⟩:=hb;by_cases hu:u=t
   .subst hu;simp only[decide_true,cond_true]at hl;split at hl
    .rename_i w' hw;obtain⟨rfl,rfl⟩:=ad (aa hl);obtain⟨a,cw,q1,q2,q3,q4,q5⟩:=o5 p cc u w' cs h4 h3 hok.2 hw;obtain⟨_,hs,_,_⟩:=jk hc;rw[ei _ _ _ q2]at hs;subst hs;obtain⟨y,h5,h6⟩:=jX hc q3 q4 q5;refine⟨y,?_,h6,t8 p cc w' hko hw⟩;simp only[bD,eH,h2,h5]
    .simp at hl
   .simp [hu]at hl
  .rename_i u v ho;obtain⟨_,hb,hko⟩:=hr.ob id _ ho;obtain⟨hd,h2⟩:=hb;by_cases hu:u=t
   .subst hu;simp only[decide_true,cond_true]at hl;split at hl
    .rename_i w' hw;obtain⟨rfl,rfl⟩:=ad (aa hl);obtain⟨a,cw,q1,q2,q3,q4,q5⟩:=o5 (h:=h) p (.x u v) u w' ((aJ u v).map .d) (by simp[cL]) ⟨hd,rfl⟩ hok.2 hw;obtain⟨_,hs,_,_⟩:=jk hc;rw[ei _ _ _ q2]at hs;subst hs;obtain⟨y,h5,h6⟩:=jX hc q3 q4 q5;refine⟨y,?_,h6,t8 p (.x u v) w' trivial hw⟩;rw[<-dO,<-tY]at h5;simp only[bD,eH,h2,h5]
    .simp at hl
   .simp [hu]at hl
  .simp at hl
 |ep id k t p=>
  obtain rfl:=lZ hx;obtain⟨_,hp,hk,_⟩:=hok
  have main:∀(u:Ty)(s:Sl (El u))(ver:Nat),(fO h id=some (.ar u s ver)\/fO h id=some (.im u s ver))->(bif decide (u=t)then(match MM (.x u (gt s.l k)) p with|some w=>some (w,[id])|none=>none)else none)=some (w,l)->
    ∃y,bD c (.load g m) [some (.c (.ep id k (iE t p)))] h1 nx=some (y,[],l,nx)/\dD h w y/\cX n h w:=by
   intro u s ver ho hl;have hlt:=hk u s ver ho;by_cases hu:u=t
   .subst hu;simp only[decide_true,cond_true]at hl;split at hl
    .rename_i w' hw;obtain⟨rfl,rfl⟩:=ad (aa hl);cases s with
     |nil=>simp[Sl.l]at hlt
     |mk ls=>
     have hrow:(ls.map (aJ u))[k]?=some (aJ u (gt ls k)):=t5 hlt;have hd:L_ u=true:=by rcases ho with ho|ho<;>exact(hr.ob id _ ho).2.1.1
     obtain⟨a,cw,q1,q2,q3,q4,q5⟩:=o5 (h:=h) p (.x u (gt ls k)) u w' ((aJ u (gt ls k)).map .d) (by simp[cL]) ⟨hd,rfl⟩ hp hw;obtain⟨_,hs,_,_⟩:=jk hc;rw[ei _ _ _ q2]at hs;subst hs;obtain⟨y,h5,h6⟩:=jX hc q3 q4 q5;refine⟨y,?_,h6,t8 p (.x u (gt ls k)) w' trivial hw⟩;rw[<-dO,<-tY]at h5;rcases ho with ho|ho
     .have h2:=(hr.ob id _ ho).2.1.2.2 ls rfl;simp only[bD,eH,h2,hrow,h5]
     .have h2:=(hr.ob id _ ho).2.1.2.2 ls rfl;simp only[bD,eH,h2,hrow,h5]
    .simp at hl
   .simp [hu]at hl
  simp only[qS]at hl;split at hl
  .rename_i u s ver ho;exact main u s ver (.inl ho) hl
  .rename_i u s ver ho;exact main u s ver (.inr ho) hl
  .simp at hl
 |_=>simp[qS]at hl
end
end Go.Ev
