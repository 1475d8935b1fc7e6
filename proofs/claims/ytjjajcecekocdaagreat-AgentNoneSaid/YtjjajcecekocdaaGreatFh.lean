/- Typed data by codes: the types, the values that a frame holds, its objects, and how they are laid into the abstract machine's. Conditions: none, these are definitions. -/
import Derived.Test.YtjjajcecekocdaaGreatEvY
open Bool renaming and_eq_true->ah
open List renaming append_assoc->aS,append_nil->bo,drop_append_of_le_length->dq,drop_drop->dU,drop_length->lC,drop_zero->cM,flatMap_cons->br,length_append->bm,length_map->aR,length_replicate->dm,map_drop->fI,map_take->f_,nil_append->bB,replicate->aB,take_of_length_le->bZ
open List.cons renaming inj->cf
open Nat renaming add_assoc->cS,add_mul->bK,beq->l7,ble->gZ,le_refl->am,mul_le_mul_right->aI
open Option.some renaming inj->aa
open Prod.mk renaming inj->ad
open Sigma.mk renaming inj->jr
noncomputable section
namespace Go.Ev
inductive Ty where
 |i (k:IntKind)
 |b
 |s
 |f (k:FloatKind)
 |sl (t:Ty)
 |mp (k v:Ty)
 |un
 |pr (a c:Ty)
 |st (t:Ty)
 |ar (n:Nat) (t:Ty)
 |o (k:Nat)
 deriving Inhabited,DecidableEq
def Arr(n:Nat)(α:Type):Type:={l:List α//l.length=n}
def Arr.set{n:Nat}{α:Type}(v:Arr n α)(k:Nat)(x:α):Arr n α:=⟨v.1.set k x,by rw[List.length_set];exact v.2⟩
instance{n:Nat}{α:Type}[Inhabited α]:Inhabited (Arr n α):=⟨⟨aB n default,dm⟩⟩
instance{n:Nat}{α:Type}[DecidableEq α]:DecidableEq (Arr n α):=inferInstanceAs (DecidableEq {l:List α//l.length=n})
@[reducible] def El:Ty->Type
 |.i _=>Int
 |.b=>Bool
 |.s=>ByteArray
 |.f _=>Nat
 |.sl t=>Sl (El t)
 |.mp k v=>Mp (El k) (El v)
 |.un=>Unit
 |.pr a c=>El a×El c
 |.st t=>El t
 |.ar n t=>Arr n (El t)
 |.o _=>Unit
instance FG:(t:Ty)->Inhabited (El t)
 |.i _=>⟨(0:Int)⟩
 |.b=>⟨false⟩
 |.s=>⟨(default:ByteArray)⟩
 |.f _=>⟨(0:Nat)⟩
 |.sl _=>⟨Sl.nil⟩
 |.mp _ _=>⟨Mp.none⟩
 |.un=>⟨()⟩
 |.pr a c=>⟨((FG a).default,(FG c).default)⟩
 |.st t=>FG t
 |.ar n t=>⟨⟨aB n (FG t).default,dm⟩⟩
 |.o _=>⟨()⟩
def mE:(t:Ty)->El t
 |.i _=>(0:Int)
 |.b=>false
 |.s=>(ByteArray.empty)
 |.f _=>(0:Nat)
 |.sl _=>Sl.nil
 |.mp _ _=>Mp.none
 |.un=>()
 |.pr a c=>(mE a,mE c)
 |.st t=>mE t
 |.ar n t=>⟨aB n (mE t),dm⟩
 |.o _=>()
def fF(t u:Ty)(v:El t):Option (El u):=if h:t=u then some (h▸v)else none
def bG:Ty->Nat
 |.un=>0
 |.pr a c=>bG a+bG c
 |.st t=>bG t
 |.ar n t=>n*bG t
 |_=>1
def jW:Ty->Bool
 |.o _|.mp _ _=>false
 |.pr a c=>jW a&&jW c
 |.st t|.ar _ t|.sl t=>jW t
 |_=>true
def li:Ty->Bool
 |.st _|.ar _ _=>true
 |_=>false
def aP:(t:Ty)->El t->List D
 |.i k,x=>[.lit (.int k x)]
 |.b,x=>[.lit (.bool x)]
 |.s,x=>[.lit (.string x)]
 |.f k,x=>[.lit (.float k x)]
 |.sl t,x=>[vU (bG t) (aP t) x]
 |.mp _ _,_=>[.lit .nilFunc]
 |.un,_=>[]
 |.pr a c,x=>aP a x.1++aP c x.2
 |.st t,x=>aP t x
 |.ar _ t,x=>x.1.flatMap (aP t)
 |.o _,_=>[.lit .nilFunc]
inductive Pe where
 |fd (i:Nat)
 |ix (n:Nat)
abbrev pS:=List Pe
inductive V where
 |x (t:Ty) (v:El t)
 |kb (c:Bool)
 |nl (k:Nat)
 |so (id:Nat)
 |sr (id:Nat)
 |sb (id ver lo:Nat) (t:Ty) (r:Sl (El t))
 |op (id:Nat) (t:Ty) (p:pS)
 |ep (id n:Nat) (t:Ty) (p:pS)
 |pt (t:Ty) (v:El t)
 |fn (z:Bool) (f:Nat) (caps:V)
 |om (id:Nat)
 |rc (l:V)
 |tp (l:V)
 |ni
 |co (a r:V)
 |fl (l:List Value)
 |no
 |gn
inductive O where
 |ar (t:Ty) (s:Sl (El t)) (ver:Nat)
 |im (t:Ty) (s:Sl (El t)) (ver:Nat)
 |bx (t:Ty) (c:V)
 |ib (t:Ty) (v:El t)
 |mp (k v:Ty) (m:Mp (El k) (El v))
 |rw(t:Ty) (s:Sl (Sl (El t))) (ln:Option (Nat×Nat))
abbrev H2:=List (Nat×Option O)
def fO(h:H2)(id:Nat):Option O:=(bQ h id).join
def zA:(t:Ty)->El t->Nat->Option V
 |.pr a _,v,0=>some (.x a v.1)
 |.pr _ c,v,n+1=>zA c v.2 n
 |t,v,0=>some (.x t v)
 |_,_,_=>none
def BA:Ty->Nat->Option Ty
 |.pr a _,0=>some a
 |.pr _ c,n+1=>BA c n
 |t,0=>some t
 |_,_=>none
def oN:Ty->Nat->Nat
 |.pr _ _,0=>0
 |.pr a c,n+1=>bG a+oN c n
 |_,_=>0
def F0:(t:Ty)->El t->V
 |.pr a c,v=>.co (.x a v.1) (F0 c v.2)
 |t,v=>.co (.x t v) .ni
def PE(k:IntKind):List Value->Option (Int×List Value)
 |.int k' n::r=>if k'=k then some (n,r)else none
 |_=>none
def PF:List Value->Option (Bool×List Value)
 |.bool c::r=>some (c,r)
 |_=>none
def PC:List Value->Option (ByteArray×List Value)
 |.string c::r=>some (c,r)
 |_=>none
def Md(k:FloatKind):List Value->Option (Nat×List Value)
 |.float k' n::r=>if k'=k then some (n,r)else none
 |_=>none
def PD{α:Type}:List Value->Option (Sl α×List Value)
 |.slice none 0 0::r=>some (Sl.nil,r)
 |_=>none
def Lo{α:Type}(f:List Value->Option (α×List Value)):(m:Nat)->List Value->Option (Arr m α×List Value)
 |0,l=>some (⟨[],rfl⟩,l)
 |m+1,l=>match f l with|some (x,l)=>(match Lo f m l with|some (v,l)=>some (⟨x::v.1,by rw[List.length_cons,v.2]⟩,l)|none=>none)|none=>none
def uO:(t:Ty)->List Value->Option (El t×List Value)
 |.i k=>PE k
 |.b=>PF
 |.s=>PC
 |.f k=>Md k
 |.sl _=>PD
 |.pr a c=>fun l=>match uO a l with|some (x,l)=>(match uO c l with|some (y,l)=>some ((x,y),l)|none=>none)|none=>none
 |.st t=>uO t
 |.ar n t=>Lo (uO t) n
 |.mp _ _|.un|.o _=>fun _=>none
def gX(u:Ty):V->Option (El u)
 |.x t v=>fF t u v
 |.kb c=>fF .b u c
 |.nl 0=>(match u with|.sl _=>some Sl.nil|_=>none)
 |.fl l=>bif li u then(match uO u l with|some (x,[])=>some x|_=>none)else none
 |_=>none
def F6:(t:Ty)->El t->Nat->V->Option (El t)
 |.pr a _,v,0,w=>match gX a w with|some y=>some (y,v.2)|none=>none
 |.pr _ c,v,n+1,w=>match F6 c v.2 n w with|some y=>some (v.1,y)|none=>none
 |t,_,0,w=>gX t w
 |_,_,_,_=>none
def ss:V->Nat->Option V
 |.co a _,0=>some a
 |.co _ r,n+1=>ss r n
 |_,_=>none
def H4:V->Nat->V->V
 |.co _ r,0,w=>.co w r
 |.co a r,n+1,w=>.co a (H4 r n w)
 |l,_,_=>l
def pF:V->pS->Option V
 |v,[]=>some v
 |.x (.st t) v,.fd i::p=>match zA t v i with|some w=>pF w p|none=>none
 |.x (.ar _ t) v,.ix k::p=>pF (.x t (gt v.1 k)) p
 |.rc l,.fd i::p=>match ss l i with|some w=>pF w p|none=>none
 |_,_=>none
def oz:V->pS->V->Option V
 |_,[],w=>some w
 |.x (.st t) v,.fd i::p,w=>
  match zA t v i with
  |some y=>match oz y p w with|some y'=>(match F6 t v i y' with|some v'=>some (.x (.st t) v')|none=>some (.rc (H4 (F0 t v) i y')))|none=>none
  |none=>none
 |.x (.ar n t) v,.ix k::p,w=>match oz (.x t (gt v.1 k)) p w with|some y=>(match gX t y with|some y'=>some (.x (.ar n t) (v.set k y'))|none=>none)|none=>none
 |.rc l,.fd i::p,w=>match ss l i with|some y=>(match oz y p w with|some y'=>some (.rc (H4 l i y'))|none=>none)|none=>none
 |_,_,_=>none
def ru:Ty->pS->Option Ty
 |t,[]=>some t
 |.st t,.fd i::p=>match BA t i with|some u=>ru u p|none=>none
 |.ar _ t,.ix _::p=>ru t p
 |_,_=>none
def mJ:Ty->pS->Nat
 |.st t,.fd i::p=>oN t i+(match BA t i with|some u=>mJ u p|none=>0)
 |.ar _ t,.ix k::p=>k*bG t+mJ t p
 |_,_=>0
def Gr:Ty->pS->Prop
 |.st t,.fd i::p=>∃u,BA t i=some u/\Gr u p
 |.ar n t,.ix k::p=>k<n/\Gr t p
 |_,[]=>True
 |_,_=>False
def AA:Ty->V×V
 |.pr a c=>(.no,.co (AA a).1 (AA c).2)
 |.st t=>(bif jW t then .x (.st t) (mE t)else .rc (AA t).2,.co (bif jW t then .x (.st t) (mE t)else .rc (AA t).2) .ni)
 |.o k=>(.nl k,.co (.nl k) .ni)
 |.mp _ _=>(.nl 3,.co (.nl 3) .ni)
 |.sl t=>(bif jW t then .x (.sl t) Sl.nil else .nl 0,.co (bif jW t then .x (.sl t) Sl.nil else .nl 0) .ni)
 |.ar n t=>(bif jW t then .x (.ar n t) (mE (.ar n t))else .no,.co (bif jW t then .x (.ar n t) (mE (.ar n t))else .no) .ni)
 |.un=>(.x .un (),.co (.x .un ()) .ni)
 |.i k=>(.x (.i k) (0:Int),.co (.x (.i k) (0:Int)) .ni)
 |.b=>(.x .b false,.co (.x .b false) .ni)
 |.s=>(.x .s ByteArray.empty,.co (.x .s ByteArray.empty) .ni)
 |.f k=>(.x (.f k) (0:Nat),.co (.x (.f k) (0:Nat)) .ni)
abbrev L0(t:Ty):V:=(AA t).1
def z7(k:Nat):C:=.d (.lit (match k with|0=>.slice none 0 0|1=>.pointer none|2=>.nilFunc|3=>.map none|_=>.nilIface))
def zQ(id:Nat):Option O->Option C
 |some (.ar t s _)=>some (kr (bG t) (aP t) id s)
 |some (.im t s _)=>some (kr (bG t) (aP t) id s)
 |_=>none
def nn(t:Ty):Sl (El t)->ko
 |.nil=>.nil
 |.mk l=>.bi (l.map (aP t))
def zt{α:Type}(id:Nat):Sl α->ko
 |.nil=>.nil
 |.mk l=>.kU id l.length
def dO(t:Ty)(l:List (Sl (El t))):Option (Nat×Nat)->List ko
 |none=>l.map (nn t)
 |some (m,id)=>(l.map (nn t)).set m (zt id (gt l m))
def zg(id:Nat):Option O->Option C
 |some (.rw t s _)=>some (kr 1 (aP (.sl t)) id (s:Sl (Sl (El t))))
 |_=>none
def xp(id lo:Nat)(t:Ty):Sl (El t)->C
 |.nil=>.d (.lit (.slice none 0 0))
 |.mk l=>.bP (bG t) id lo (l.map (aP t)).length
def qD:V->Option (List D)
 |.pt t v=>if jW t then some [.pt (aP t v)]else none
 |.ni=>some []
 |.co a r=>match qD a,qD r with|some x,some y=>some (x++y)|_,_=>none
 |_=>none
def tw:V->Bool
 |.x t _=>li t
 |.rc _|.fl _=>true
 |_=>false
deriving instance DecidableEq for Mp
instance yJ:(t:Ty)->DecidableEq (El t)
 |.i _=>inferInstanceAs (DecidableEq Int)
 |.b=>inferInstanceAs (DecidableEq Bool)
 |.s=>inferInstanceAs (DecidableEq ByteArray)
 |.f _=>inferInstanceAs (DecidableEq Nat)
 |.sl t=>@instDecidableEqSl (El t) (yJ t)
 |.mp k v=>@instDecidableEqMp (El k) (El v) (yJ k) (yJ v)
 |.un=>inferInstanceAs (DecidableEq Unit)
 |.pr a c=>@instDecidableEqProd (El a) (El c) (yJ a) (yJ c)
 |.st t=>yJ t
 |.ar n t=>@instDecidableEqArr n (El t) (yJ t)
 |.o _=>inferInstanceAs (DecidableEq Unit)
structure S2 where
 cR:List (Nat×V)
 heap:H2
 next:Nat
 wo:List Nat
 gh:V
structure OP where
 o:l6
 t:Ty
 fi:List Nat
def Bp:V->Bool
 |.pt t _=>jW t
 |.ni=>true
 |.co a r=>Bp a&&Bp r
 |_=>false
def ig(h:H2):V->Bool
 |.x t _=>jW t
 |.pt t _=>jW t
 |.kb _|.nl _=>true
 |.op id _ _|.ep id _ _ _|.om id=>(match fO h id with|some _=>true|none=>false)
 |.so id=>(match fO h id with|some (.ar _ _ _)|some (.im _ _ _)=>true|_=>false)
 |.sr id=>(match fO h id with|some (.rw _ _ _)=>true|_=>false)
 |.sb id ver _ t _=>jW t&&(match fO h id with|some (.ar _ _ v)|some (.im _ _ v)=>v==ver|_=>false)
 |.fn true _ l=>Bp l
 |.fn false _ l=>ig h l
 |.rc l|.tp l=>ig h l
 |.fl l=>l.all eR
 |.ni=>true
 |.co a r=>ig h a&&ig h r
 |.no|.gn=>false
def PT:Value->Option V
 |.bool c=>some (.kb c)
 |.int k n=>some (.x (.i k) n)
 |.float k n=>some (.x (.f k) n)
 |.string s=>some (.x .s s)
 |.pointer none=>some (.nl 1)
 |.slice none 0 0=>some (.nl 0)
 |.nilFunc=>some (.nl 2)
 |.map none=>some (.nl 3)
 |.nilIface=>some (.nl 4)
 |.agg cs=>if cs.toList.all eR then some (.fl cs.toList)else none
 |_=>none
def Ni:Nat->Option V:=fun _ => none
def Hu(e:List (Nat×V))(h:H2):Operand->Option V
 |.tmp t=>match bQ e t with|some v=>bif ig h v then some v else none|none=>none
 |.const c=>PT c
 |.global g=>Ni g
 |.func f=>some (.fn true f .ni)
def xO:V->Nat
 |.x t _=>bG t
 |.rc l=>xO l
 |.co a r=>xO a+xO r
 |.ni=>0
 |.fl l=>l.length
 |_=>1
def La:V->Nat->Nat
 |.co a r,n+1=>xO a+La r n
 |_,_=>0
def eU:List V->V
 |[]=>.ni
 |v::r=>.co v (eU r)
def zM:V->List V
 |.co a r=>a::zM r
 |_=>[]
def kH:V->Bool->(u:Ty)->Option (El u)
 |.rc l,false,.st u=>kH l true u
 |.co a r,true,.pr t u=>match kH a false t,kH r true u with|some x,some y=>some (x,y)|_,_=>none
 |.co a .ni,true,u=>kH a false u
 |.ni,_,_=>none
 |v,false,u=>gX u v
 |_,_,_=>none
abbrev rx(u:Ty)(v:V):Option (El u):=kH v false u
def eH:V->Bool->Ty->Bool
 |.x u _,false,t=>decide (u=t)
 |.rc l,false,.st t=>eH l true t
 |.co a r,true,.pr t u=>eH a false t&&eH r true u
 |.co a .ni,true,t=>eH a false t
 |.kb _,false,.b=>true
 |.nl 0,false,.sl _|.so _,false,.sl _|.sr _,false,.sl _|.sb _ _ _ _ _,false,.sl _=>true
 |.nl 3,false,.mp _ _|.om _,false,.mp _ _=>true
 |.nl _,false,.o _|.op _ _ _,false,.o _|.ep _ _ _ _,false,.o _|.pt _ _,false,.o _|.fn _ _ _,false,.o _=>true
 |_,_,_=>false
def J2(t:Ty)(v:V):Option V:=match(bif jW t then gX t v else none)with|some y=>some (.x t y)|none=>bif eH v false t then some v else none
def t9(h:H2):V->Option ((t:Ty)×Sl (El t)×List Nat)
 |.x (.sl t) s=>some ⟨t,s,[]⟩
 |.so id=>(match fO h id with|some (.ar t s _)|some (.im t s _)=>some ⟨t,s,[id]⟩|_=>none)
 |.sb id _ _ t r=>some ⟨t,r,[id]⟩
 |_=>none
def HP(t:Ty)(h:H2):V->Option ((t:Ty)×Sl (El t)×List Nat)
 |.nl 0=>some ⟨t,Sl.nil,[]⟩
 |v=>t9 h v
def jb(h:H2):V->Option (V×List Nat)
 |.so id=>match t9 h (.so id)with|some ⟨t,s,l⟩=>some (.x (.sl t) s,l)|none=>none
 |.sr id=>match fO h id with|some (.rw t s none)=>some (.x (.sl (.sl t)) s,[id])|_=>none
 |.sb id ver lo t r=>match t9 h (.sb id ver lo t r)with|some ⟨t,s,l⟩=>some (.x (.sl t) s,l)|none=>none
 |.rc l=>match jb h l with|some (w,l)=>some (.rc w,l)|none=>none
 |.co a r=>match jb h a,jb h r with|some (x,l),some (y,m)=>some (.co x y,l++m)|_,_=>none
 |.x t v=>some (.x t v,[])
 |.kb c=>some (.kb c,[])
 |.nl k=>some (.nl k,[])
 |.fl l=>some (.fl l,[])
 |.ni=>some (.ni,[])
 |.fn true f l=>some (.fn true f l,[])
 |.pt t v=>some (.pt t v,[])
 |_=>none
def SI(c:Bool):V->V->Option V
 |.kb a,.kb b=>some (.x .b (bif c then a else b))
 |.x t a,w=>match rx t w with|some b=>some (.x t (bif c then a else b))|none=>none
 |w,.x t b=>match rx t w with|some a=>some (.x t (bif c then a else b))|none=>none
 |_,_=>none
def PV:Value->Value->Bool
 |.bool a,.bool b=>a==b
 |.int k a,.int k' b=>decide (k=k')&&a==b
 |.float k a,.float k' b=>decide (k=k')&&a==b
 |.string a,.string b=>decide (a=b)
 |.pointer none,.pointer none|.slice none 0 0,.slice none 0 0|.nilFunc,.nilFunc|.map none,.map none|.nilIface,.nilIface=>true
 |_,_=>false
def t8:List Value->List Value->Bool
 |[],[]=>true
 |a::r,b::s=>PV a b&&t8 r s
 |_,_=>false
def ng:Ty->List Value
 |.i k=>[.int k 0]
 |.b=>[.bool false]
 |.s=>[.string ByteArray.empty]
 |.f k=>[.float k 0]
 |.sl _=>[.slice none 0 0]
 |.mp _ _=>[.map none]
 |.un=>[]
 |.pr a c=>ng a++ng c
 |.st t=>ng t
 |.ar n t=>(aB n (ng t)).flatten
 |.o k=>[match k with|0=>.slice none 0 0|1=>.pointer none|2=>.nilFunc|3=>.map none|_=>.nilIface]
def zj:Ty->Option (List Kd)
 |.i k=>some [.i k]
 |.b=>some [.b]
 |.s=>some [.s]
 |.pr a c=>match zj a,zj c with|some x,some y=>some (x++y)|_,_=>none
 |.st t=>zj t
 |.ar n t=>match zj t with|some x=>some ((aB n x).flatten)|none=>none
 |_=>none
def NR(z:Bool)(op:BinOp)(k k':IntKind)(a b:Int):Option V:=
 match op with
 |.shl=>bif z then some (.x (.i k) (NU k a b))else none
 |.shr=>bif z then some (.x (.i k) (NT k a b))else none
 |op=>bif decide (k=k')then(match op with
  |.add=>some (.x (.i k) (wr k (a+b)))
  |.sub=>some (.x (.i k) (wr k (a-b)))
  |.mul=>some (.x (.i k) (wr k (a*b)))
  |.quo=>bif z then some (.x (.i k) (wr k (a.tdiv b)))else none
  |.rem=>bif z then some (.x (.i k) (a.tmod b))else none
  |.and=>some (.x (.i k) (uS k a b))
  |.or=>some (.x (.i k) (PL k a b))
  |.xor=>some (.x (.i k) (LL k a b))
  |.andNot=>some (.x (.i k) (xA k a b))
  |.eql=>some (.x .b (a==b))
  |.neq=>some (.x .b (a !=b))
  |.lss=>some (.x .b (decide (a<b)))
  |.leq=>some (.x .b (decide (a<=b)))
  |.gtr=>some (.x .b (decide (a>b)))
  |.geq=>some (.x .b (decide (a>=b)))
  |_=>none)else none
def SS(k:FloatKind)(a b:Nat):Nat:=(k.format.add a b).getD (t_ k)
def SP(k:FloatKind)(a b:Nat):Nat:=(k.format.sub a b).getD (t_ k)
def SQ(k:FloatKind)(a b:Nat):Nat:=(k.format.mul a b).getD (t_ k)
def SR(k:FloatKind)(a b:Nat):Nat:=(k.format.div a b).getD (t_ k)
def PR(k:FloatKind)(a b:Nat):Bool:=k.format.order a b==some .eq
def Ti(k:FloatKind)(a b:Nat):Bool:=k.format.order a b==some .lt
def Tj(k:FloatKind)(a b:Nat):Bool:=k.format.order a b==some .gt
def Nm(k:FloatKind)(a b:Nat):Nat:=match k.format.order a b with|none=>t_ k|some .lt=>a|some .gt=>b|some .eq=>if(k.decode a).neg then a else b
def Nn(k:FloatKind)(a b:Nat):Nat:=match k.format.order a b with|none=>t_ k|some .lt=>b|some .gt=>a|some .eq=>if(k.decode a).neg then b else a
def JD(op:BinOp)(k k':FloatKind)(a b:Nat):Option V:=
 bif decide (k=k')then(match op with
  |.add=>some (.x (.f k) (SS k a b))
  |.sub=>some (.x (.f k) (SP k a b))
  |.mul=>some (.x (.f k) (SQ k a b))
  |.quo=>some (.x (.f k) (SR k a b))
  |.eql=>some (.x .b (PR k a b))
  |.neq=>some (.x .b (!(PR k a b)))
  |.lss=>some (.x .b (Ti k a b))
  |.leq=>some (.x .b (Ti k a b||PR k a b))
  |.gtr=>some (.x .b (Tj k a b))
  |.geq=>some (.x .b (Tj k a b||PR k a b))
  |_=>none)else none
def NQ(op:BinOp)(x y:ByteArray):Option V:=match op with|.eql=>some (.x .b (x.toList==y.toList))|.neq=>some (.x .b (!(x.toList==y.toList)))|.lss=>some (.x .b (Op.bytesLess x.toList y.toList))|.leq=>some (.x .b (Op.bytesLess x.toList y.toList||x.toList==y.toList))|.gtr=>some (.x .b (!(Op.bytesLess x.toList y.toList||x.toList==y.toList)))|.geq=>some (.x .b (!(Op.bytesLess x.toList y.toList)))|_=>none
def KC:List Operand->Bool
 |[_,.const (.int _ n)]=>decide (n>0)
 |_=>false
def Oa(m:Bool)(k:IntKind):Int->List V->Option Int
 |x,[]=>some x
 |x,.x (.i k') y::r=>bif decide (k'=k)then Oa m k (bif m then(if y>x then y else x)else(if y<x then y else x)) r else none
 |_,_=>none
def Gx(m:Bool)(k:FloatKind):Nat->List V->Option Nat
 |x,[]=>some x
 |x,.x (.f k') y::r=>bif decide (k'=k)then Gx m k (bif m then Nn k x y else Nm k x y) r else none
 |_,_=>none
def yu(h:H2):V->Option (V×List Nat)
 |.pt t v=>some (.x t v,[])
 |.op id t p=>(match fO h id with
  |some (.bx u c)=>bif decide (u=t)then(match pF c p with|some w=>some (w,[id])|none=>none)else none
  |some (.ib u v)=>bif decide (u=t)then(match pF (.x u v) p with|some w=>some (w,[id])|none=>none)else none
  |_=>none)
 |.ep id n t p=>(match fO h id with
  |some (.ar u s _)|some (.im u s _)=>bif decide (u=t)then(match pF (.x u (gt s.l n)) p with|some w=>some (w,[id])|none=>none)else none
  |_=>none)
 |_=>none
def yp(h:H2)(kind:Nat):V->Option V
 |.nl k=>bif(k==kind)&&Nat.blt k 3 then some (.kb true)else none
 |.pt _ _|.op _ _ _|.ep _ _ _ _=>bif kind==1 then some (.kb false)else none
 |.fn _ _ _=>bif kind==2 then some (.kb false)else none
 |v=>bif kind==0 then(match t9 h v with|some ⟨_,s,_⟩=>some (.x .b s.eS)|none=>none)else none
def Is:V->V
 |.kb c=>.kb (!c)
 |.x .b c=>.x .b (!c)
 |v=>v
def Eo(off n:Nat)(i:Nat):V->Option V
 |.op id t p=>(match ru t p with
  |some (.st u)=>(match BA u i with|some w=>bif(oN u i==off)&&(bG w==n)then some (.op id t (p++[.fd i]))else none|none=>none)
  |_=>none)
 |.ep id m t p=>(match ru t p with
  |some (.st u)=>(match BA u i with|some w=>bif(oN u i==off)&&(bG w==n)then some (.ep id m t (p++[.fd i]))else none|none=>none)
  |_=>none)
 |.pt (.st u) v=>(match zA u v i with|some (.x w y)=>bif(oN u i==off)&&(bG w==n)then some (.pt w y)else none|_=>none)
 |_=>none
def EF(h:H2)(g:Bool)(n:Nat)(w:V):Bool:=(tw w==g)&&(xO w==n)&&(g||n==1)&&ig h w
def KY(h:H2):V->Option ((k:Ty)×(v:Ty)×Mp (El k) (El v)×List Nat)
 |.om id=>(match fO h id with|some (.mp k v m)=>some ⟨k,v,m,[id]⟩|_=>none)
 |_=>none
def xj(t:Ty):List Nat->List (Nat×Nat)->List V->V->Option V
 |[],[],[],c=>some c
 |i::is,(off,n)::ps,w::ws,c=>
  match t with
  |.st u=>(match BA u i with
   |some a=>bif(oN u i==off)&&(bG a==n)then(match J2 a w with|some w=>(match oz c [.fd i] w with|some c=>bif eH c false t then xj t is ps ws c else none|none=>none)|none=>none)else none
   |none=>none)
  |.ar m u=>bif(i*bG u==off)&&(bG u==n)&&decide (i<m)then(match J2 u w with|some w=>(match oz c [.ix i] w with|some c=>bif eH c false t then xj t is ps ws c else none|none=>none)|none=>none)else none
  |_=>none
 |_,_,_,_=>none
def C_:V->Bool
 |.tp _|.no|.gn|.ni|.co _ _=>false
 |v=>!tw v
def Mw(o:OP)(vs:List V)(h:H2):Option (V×List Nat):=
 match o.o.k,vs with
 |.mv,[v]=>some (v,[])
 |.nilCheck,[v]=>(match v with|.pt _ _|.fn _ _ _|.ep _ _ _ _|.op _ _ _=>some (v,[])|_=>none)
 |.sy op,[.x (.i k) a,.x (.i k') b]=>(match NR (KC o.o.args) op k k' a b with|some v=>some (v,[])|none=>none)
 |.sy op,[.x (.f k) a,.x (.f k') b]=>(match JD op k k' a b with|some v=>some (v,[])|none=>none)
 |.sy op,[.x .s a,.x .s b]=>(match NQ op a b with|some v=>some (v,[])|none=>none)
 |.uN neg,[x,y]=>(match rx .b x,rx .b y with|some a,some b=>some (.x .b (bif neg then !(a==b)else a==b),[])|_,_=>none)
 |.rg kind neg,[x]=>(match yp h kind x with|some v=>some (bif neg then Is v else v,[])|none=>none)
 |.yH neg ks,[.x t a,y]=>(match rx t y with|some b=>bif li t&&decide (zj t=some ks)then some (.x .b (bif neg then !(decide (a=b))else decide (a=b)),[])else none|none=>none)
 |.un .not,[.kb c]=>some (.kb (!c),[])
 |.un .not,[.x .b c]=>some (.x .b (!c),[])
 |.un .neg,[.x (.i k) n]=>some (.x (.i k) (wr k (0-n)),[])
 |.un .neg,[.x (.f k) n]=>some (.x (.f k) (Op.negFloat k n),[])
 |.un .xor,[.x (.i k) n]=>some (.x (.i k) (S5 k n),[])
 |.vC k,[.x (.i _) n]=>some (.x (.i k) (wr k n),[])
 |.C3 k,[.x (.i _) n]=>some (.x (.f k) (k.nearest n),[])
 |.sY,[.x .s s]=>some (.x .s s,[])
 |.GA f,vs=>bif vs.all C_ then some (.fn false f (eU vs),[])else none
 |.load g n,[p]=>(match yu h p with|some (w,l)=>bif EF h g n w then some (w,l)else none|none=>none)
 |.uj,[p]=>(match yu h p with|some (w,l)=>bif EF h false 1 w then some (w,l)else none|none=>none)
 |.fieldAddr off n,[p]=>(match o.fi with|[i]=>(match Eo off n i p with|some w=>some (w,[])|none=>none)|_=>none)
 |.field g off n,[.x (.st u) v]=>(match o.fi with|[i]=>(match zA u v i with|some w=>bif(oN u i==off)&&EF h g n w then some (w,[])else none|none=>none)|_=>none)
 |.field g off n,[.rc l]=>(match o.fi with|[i]=>(match ss l i with|some w=>bif(La l i==off)&&EF h g n w then some (w,[])else none|none=>none)|_=>none)
 |.extract i,[.tp l]=>(match ss l i with|some w=>some (w,[])|none=>none)
 |.len true,[.x .s s]=>some (.x (.i .i64) (s.size:Int),[])
 |.len false,[.nl 0]=>some (.x (.i .i64) (0:Int),[])
 |.len false,[.sr id]=>(match fO h id with|some (.rw _ s _)=>some (.x (.i .i64) (s.l.length:Int),[])|_=>none)
 |.len false,[v]=>(match t9 h v with|some ⟨_,s,_⟩=>some (.x (.i .i64) (s.l.length:Int),[])|none=>none)
 |.rK m,.x (.i k) x::r=>(match Oa m k x r with|some y=>some (.x (.i k) y,[])|none=>none)
 |.rK m,.x (.f k) x::r=>(match Gx m k x r with|some y=>some (.x (.f k) y,[])|none=>none)
 |.build z ps,vs=>bif t8 (ng o.t) z&&li o.t&&eH (L0 o.t) false o.t then(match xj o.t o.fi ps vs (L0 o.t)with|some v=>some (v,[])|none=>none)else none
 |.lookup ka ks va z ok,[m,kv]=>(match KY h m with
  |some ⟨kt,vt,mp,l⟩=>(match rx kt kv with
   |some k=>bif(li kt==ka)&&(li vt==va)&&decide (zj kt=some ks)&&t8 (ng vt) z&&jW vt&&(va||bG vt==1)then
     some (bif ok then .tp (.co (.x vt (oM mp (mE vt) k)) (.co (.x .b (px mp k)) .ni))else .x vt (oM mp (mE vt) k),l)else none
   |none=>none)
  |none=>none)
 |_,_=>none
def tg{α:Type}(s:Sl α)(x r:List α):Sl α:=match x with|[]=>(match s with|.nil=>.nil|.mk _=>.mk r)|_::_=>.mk r
def GG{α:Type}:Sl α->Sl α->Option Unit
 |.nil,.nil=>some ()
 |.mk a,.mk b=>M8 a b
 |_,_=>none
def gq(s:S2)(o:O):S2:=⟨s.cR,(s.next,some o)::s.heap,s.next+1,s.next::s.wo,s.gh⟩
def c8(s:S2)(id:Nat)(o:Option O):S2:=⟨s.cR,(id,o)::s.heap,s.next,id::s.wo,s.gh⟩
def A8(h:H2)(id:Nat):Option O:=match fO h id with|some (.ar t s v)|some (.im t s v)=>some (.im t s v)|some (.ib t v)=>some (.ib t v)|some (.bx t c)=>bif jW t&&Nat.blt (bG t) 300 then(match jb h c with|some (_,[])=>(match rx t c with|some v=>some (.ib t v)|none=>none)|_=>none)else none|_=>none
def qA(h:H2):List Nat->S2->Option S2
 |[],s=>some s
 |id::r,s=>match fO h id with|some (.rw _ _ none)=>(match qA h r s with|some s=>some (c8 s id none)|none=>none)|_=>(match A8 h id,qA h r s with|some o,some s=>some (c8 s id (some o))|_,_=>none)
def zi(t:Ty):Bool:=jW t&&Nat.blt 0 (bG t)
def x8(h:H2)(t:Ty)(len:Nat):Nat->List Nat->List V->Option (List (El t)×List Nat)
 |m,[],[]=>some (aB (len-m) (mE t),[])
 |m,i::is,v::vs=>
  match jb h v with
  |some (w,a)=>(match rx t w with
   |some y=>bif gZ m i&&Nat.blt i len then(match x8 h t len (i+1) is vs with|some (l,b)=>some (aB (i-m) (mE t)++y::l,a++b)|none=>none)else none
   |none=>none)
  |none=>none
 |_,_,_=>none
def wl:List V->Option (List Int)
 |[]=>some []
 |.x (.i _) n::r=>match wl r with|some l=>some (n::l)|none=>none
 |_=>none
def Eb(h:H2):V->Option Int
 |.nl 0=>some 0
 |v=>match t9 h v with|some ⟨_,v,_⟩=>some (v.l.length:Int)|none=>none
def Hc{α:Type}(w:Sl α)(lo n:Nat)(z:α):Option (Sl α):=match w with|.nil=>none|.mk l=>some (.mk (Jr l lo n (aB n z)))
def ub{β:Type}(sz:Nat)(h:H2)(x:V)(l u:Int)(k:V->Option β):Option β:=
 match x with
 |.x (.sl t) v=>bif bG t==sz then(pO v.l l u).bind fun y=>k (.x (.sl t) (v.to y))else none
 |.so id=>(match fO h id with
  |some (.ar t v ver)=>bif bG t==sz then(pO v.l l u).bind fun y=>k (.sb id ver l.toNat t (v.to y))else none
  |some (.im t v ver)=>bif bG t==sz then(pO v.l l u).bind fun y=>k (.sb id ver l.toNat t (v.to y))else none
  |_=>none)
 |.sb id ver lo t v=>bif bG t==sz then(pO v.l l u).bind fun y=>k (.sb id ver (lo+l.toNat) t (v.to y))else none
 |.nl 0=>(pO ([]:List Unit) l u).bind fun _=>k (.nl 0)
 |_=>none
def NO{β:Type}(t:Ty)(sz len:Nat)(z:List Value)(pl:List Nat)(vs:List V)(s:S2)(k:V->S2->List Nat->Option β):Option β:=
 bif(bG t==sz)&&t8 ((aB len (ng t)).flatten) z&&zi t then
  (match x8 s.heap t len 0 pl vs with
  |some (l,a)=>(match qA s.heap a s with|some s'=>k (.so s.next) (gq s' (.ar t (.mk l) 0)) a|none=>none)
  |none=>none)else none
def E5(ln:Option (Nat×Nat))(m:Nat):Bool:=match ln with|none=>true|some (m',_)=>l7 m' m
def Dz{β:Type}(id m:Nat)(t:Ty)(p:pS)(w:V)(s:S2)(k:S2->List Nat->Option β):Option β:=
 match fO s.heap id with
 |some (.rw u v ln)=>(match p,w with
  |[],.so id2=>(match fO s.heap id2 with
   |some (.ar u2 r _)=>(match fF (.sl u2) (.sl u) r with
    |some r=>bif decide (t=.sl u)&&!(id2==id)&&E5 ln m then k (c8 (c8 s id2 none) id (some (.rw u (.mk (v.l.set m r)) none))) [id,id2]else none
    |none=>none)
   |_=>none)
  |_,_=>none)
 |some (.ar u l ver)=>(match jb s.heap w with
  |some (w,a)=>bif decide (u=t)then(match ru u p with
   |some q=>(match rx q w with
    |some y=>(match oz (.x u (gt l.l m)) p (.x q y)with
     |some c=>(match gX u c with
      |some y=>(match qA s.heap a s with|some s=>bif !a.contains id then k (c8 s id (some (.ar u (.mk (l.l.set m y)) (ver+1)))) (id::a)else none|none=>none)
      |none=>none)
     |none=>none)
    |none=>none)
   |none=>none)else none
  |none=>none)
 |_=>none
def part{β:Type}(o:OP)(vs:List V)(s:S2)(k:V->S2->List Nat->Option β):Option β:=
 match o.o.k,vs with
 |.sy .quo,[.x (.i q) a,.x (.i q') b]=>bif decide (q=q')then(NA q a b).bind fun x=>k (.x (.i q) x) s []else none
 |.sy .rem,[.x (.i q) a,.x (.i q') b]=>bif decide (q=q')then(ME q a b).bind fun x=>k (.x (.i q) x) s []else none
 |.sy .shl,[.x (.i q) a,.x (.i _) b]=>(Km q a b).bind fun x=>k (.x (.i q) x) s []
 |.sy .shr,[.x (.i q) a,.x (.i _) b]=>(HQ q a b).bind fun x=>k (.x (.i q) x) s []
 |.sy .add,[.x .s a,.x .s b]=>(NL a b).bind fun x=>k (.x .s x) s []
 |.alloc z,[]=>bif t8 (ng o.t) z&&eH (L0 o.t) false o.t then k (.op s.next o.t []) (gq s (.bx o.t (L0 o.t))) []else none
 |.box,[v]=>(match J2 o.t v with|some w=>k (.op s.next o.t []) (gq s (.bx o.t w)) []|none=>none)
 |.buildSlice sz len z pl,vs=>NO o.t sz len z pl vs s k
 |.store n,[.op id t p,w]=>bif(xO w==n)then(match fO s.heap id with
  |some (.bx u c)=>bif decide (u=t)then(match ru t p with
   |some a=>(match J2 a w with
    |some w=>(match oz c p w with|some c=>bif eH c false t then k (.tp .ni) (c8 s id (some (.bx t c))) [id]else none|none=>none)
    |none=>none)
   |none=>none)else none
  |_=>none)else none
 |.uj,[.ep id m u []]=>(match fO s.heap id with
  |some (.rw t v none)=>bif decide (u=.sl t)then k (.so s.next) (gq (c8 s id (some (.rw t v (some (m,s.next))))) (.ar t (gt v.l m) 0)) [id]else none
  |_=>none)
 |.Aa szi,[.x (.i _) l,.x (.i _) c]=>(match o.t with
  |.sl t=>bif(bG t==szi)&&zi t then(Oc (Sl.nil:Sl (El t)) l c).bind fun r=>k (.sr s.next) (gq s (.rw t (.mk r) none)) []else none
  |_=>none)
 |.Hi szi,[.so id2]=>(match fO s.heap id2 with
  |some (.ar t (.mk l) _)=>bif(bG t==szi)&&zi t then k (.sr s.next) (gq s (.rw t (.mk [.mk l]) (some (0,id2)))) []else none
  |_=>none)
 |.Dg szi,[a,.sr idB]=>(match fO s.heap idB with
  |some (.rw t (.mk [.mk r]) (some (0,idR)))=>bif bG t==szi then(match a with
   |.nl 0=>k (.sr s.next) (gq (c8 s idB none) (.rw t (.mk [.mk r]) (some (0,idR)))) [idB]
   |.sr idA=>(match fO s.heap idA with
    |some (.rw u v none)=>(match fF (.sl t) (.sl u) (.mk r)with
     |some r=>bif !(idA==idB)then(mi (v.l++[r])).bind fun q=>k (.sr s.next) (gq (c8 (c8 s idB none) idA none) (.rw u (.mk q) (some (v.l.length,idR)))) [idA,idB]else none
     |none=>none)
    |_=>none)
   |_=>none)else none
  |_=>none)
 |.store n,[.ep id m t p,w]=>bif(xO w==n)then Dz id m t p w s (fun s l=>k (.tp .ni) s l)else none
 |.makeSlice z,[.x (.i _) l,.x (.i _) c]=>bif t8 (ng o.t) z&&zi o.t then(Oc (mE o.t) l c).bind fun r=>k (.so s.next) (gq s (.ar o.t (.mk r) 0)) []else none
 |.slice true _ lo hi,.x .s x::r=>(match lo,hi,wl r with
  |false,false,some []=>(zo x 0 x.size).bind fun y=>k (.x .s y) s []
  |true,false,some [l]=>(zo x l x.size).bind fun y=>k (.x .s y) s []
  |false,true,some [u]=>(zo x 0 u).bind fun y=>k (.x .s y) s []
  |true,true,some [l,u]=>(zo x l u).bind fun y=>k (.x .s y) s []
  |_,_,_=>none)
 |.slice false sz lo hi,x::r=>
  (match lo,hi,wl r,Eb s.heap x with
  |false,false,some [],some n=>ub sz s.heap x 0 n fun v=>k v s []
  |true,false,some [l],some n=>ub sz s.heap x l n fun v=>k v s []
  |false,true,some [u],some _=>ub sz s.heap x 0 u fun v=>k v s []
  |true,true,some [l,u],some _=>ub sz s.heap x l u fun v=>k v s []
  |_,_,_,_=>none)
 |.indexAddr none sz,[x,.x (.i _) i]=>(match x with
  |.x (.sl t) v=>bif bG t==sz then(fw i v.l.length).bind fun m=>k (.pt t (gt v.l m)) s []else none
  |.so id=>(match t9 s.heap (.so id)with|some ⟨t,v,_⟩=>bif bG t==sz then(fw i v.l.length).bind fun m=>k (.ep id m t []) s []else none|none=>none)
  |.sb id _ lo t v=>bif bG t==sz then(fw i v.l.length).bind fun m=>k (.ep id (lo+m) t []) s []else none
  |.sr id=>(match fO s.heap id with|some (.rw t v _)=>bif 1==sz then(fw i v.l.length).bind fun m=>k (.ep id m (.sl t) []) s []else none|_=>none)
  |_=>none)
 |.indexAddr (some n) sz,[x,.x (.i _) i]=>(match x with
  |.op id t p=>(match ru t p with|some (.ar n' u)=>bif(n'==n)&&(bG u==sz)then(fw i n).bind fun m=>k (.op id t (p++[.ix m])) s []else none|_=>none)
  |.ep id q t p=>(match ru t p with|some (.ar n' u)=>bif(n'==n)&&(bG u==sz)then(fw i n).bind fun m=>k (.ep id q t (p++[.ix m])) s []else none|_=>none)
  |.pt (.ar n' u) v=>bif(n'==n)&&(bG u==sz)then(fw i n).bind fun m=>k (.pt u (gt v.1 m)) s []else none
  |_=>none)
 |.pC,[.x .s x,.x (.i _) i]=>(S6 x i).bind fun c=>k (.x (.i .u8) c) s []
 |.index g n sz,[.x (.ar n' u) v,.x (.i _) i]=>bif(n'==n)&&(bG u==sz)&&(li u==g)&&jW u&&(g||sz==1)then(fw i n).bind fun m=>k (.x u (gt v.1 m)) s []else none
 |.append sz,[a,x]=>
  (match HP o.t s.heap x with
  |some ⟨t,m,au⟩=>bif(bG t==sz)&&zi t then(match a with
   |.nl 0=>(mi ([]++m.l)).bind fun r=>k (.so s.next) (gq s (.ar t (tg Sl.nil m.l r) 0)) au
   |.x (.sl _) v=>bif Sl.eS v then((mi ([]++m.l)).bind fun r=>k (.so s.next) (gq s (.ar t (tg Sl.nil m.l r) 0)) au)else none
   |.so id=>(match fO s.heap id with
    |some (.ar u v _)=>(match fF (.sl t) (.sl u) m with
     |some m=>(mi (v.l++m.l)).bind fun r=>k (.so s.next) (gq (c8 s id none) (.ar u (tg v m.l r) 0)) (id::au)
     |none=>none)
    |_=>none)
   |.sb id _ lo u v=>(match fO s.heap id,fF (.sl t) (.sl u) m with
    |some (.ar _ s0 _),some m=>bif gZ s0.l.length (lo+(v.l.length+m.l.length))then((mi (v.l++m.l)).bind fun r=>k (.so s.next) (gq (c8 s id none) (.ar u (tg v m.l r) 0)) (id::au))else none
    |_,_=>none)
   |_=>none)else none
  |none=>none)
 |.copy sz,[a,x]=>
  (match HP o.t s.heap x with
  |some ⟨t,m,au⟩=>bif bG t==sz then(match a with
   |.nl 0=>k (.x (.i .i64) (0:Int)) s au
   |.so id=>(match fO s.heap id with
    |some (.ar u v ver)=>(match fF (.sl t) (.sl u) m with
     |some m=>k (.x (.i .i64) ((min m.l.length v.l.length:Nat):Int)) (c8 s id (some (.ar u (v.to (Jr v.l 0 v.l.length m.l)) (ver+1)))) (id::au)
     |none=>none)
    |_=>none)
   |.sb id ver lo _ v=>(match fO s.heap id with
    |some (.ar u w ver')=>(match fF (.sl t) (.sl u) m with
     |some m=>bif ver'==ver then k (.x (.i .i64) ((min m.l.length v.l.length:Nat):Int)) (c8 s id (some (.ar u (w.to (Jr w.l lo v.l.length m.l)) (ver+1)))) (id::au)else none
     |none=>none)
    |_=>none)
   |_=>none)else none
  |none=>none)
 |.clear zz,[a]=>(match a with
  |.sb id ver lo _ v=>(match fO s.heap id with
   |some (.ar u w ver')=>bif(ver'==ver)&&t8 (ng u) zz&&zi u then(Hc w lo v.l.length (mE u)).bind fun w=>k (.tp .ni) (c8 s id (some (.ar u w (ver+1)))) [id]else none
   |_=>none)
  |_=>none)
 |.makeMap ka va,[]=>(match o.t with
  |.mp kt vt=>bif(li kt==ka)&&(li vt==va)&&jW vt&&(zj kt).isSome then k (.om s.next) (gq s (.mp kt vt Mp.none)) []else none
  |_=>none)
 |.mapEntry ka ks va z,[.om id,kv]=>(match fO s.heap id with
  |some (.mp kt vt m)=>(match rx kt kv with
   |some q=>bif(li kt==ka)&&(li vt==va)&&decide (zj kt=some ks)&&t8 (ng vt) z&&jW vt&&(va||bG vt==1)then
     k (.tp (.co (.x vt (sP m (mE vt) q).2.1) (.co (.x (.i .i64) (sP m (mE vt) q).2.2) .ni))) (c8 s id (some (.mp kt vt (sP m (mE vt) q).1))) [id]else none
   |none=>none)
  |_=>none)
 |.entryStore va n,[.om id,.x (.i _) st,w]=>(match fO s.heap id with
  |some (.mp kt vt m)=>(match rx vt w with
   |some y=>bif(li vt==va)&&(bG vt==n)&&jW vt then(Fs m st y).bind fun m=>k (.tp .ni) (c8 s id (some (.mp kt vt m))) [id]else none
   |none=>none)
  |_=>none)
 |.sQ ka ks va n,[.om id,kv,w]=>(match fO s.heap id with
  |some (.mp kt vt m)=>(match rx kt kv with
   |some q=>(match rx vt w with
    |some y=>bif(li kt==ka)&&(li vt==va)&&decide (zj kt=some ks)&&(bG vt==n)&&jW vt then k (.tp .ni) (c8 s id (some (.mp kt vt (si m q y)))) [id]else none
    |none=>none)
   |none=>none)
  |_=>none)
 |.sR ka ks,[.om id,kv]=>(match fO s.heap id with
  |some (.mp kt vt m)=>(match rx kt kv with
   |some q=>bif(li kt==ka)&&decide (zj kt=some ks)then k (.tp .ni) (c8 s id (some (.mp kt vt (vr m q)))) [id]else none
   |none=>none)
  |_=>none)
 |_,_=>none
@[reducible] def qG:List Ty->Type
 |[]=>Unit
 |a::r=>Dn a r
where Dn:Ty->List Ty->Type
 |a,[]=>El a
 |a,c::r=>El a×Dn c r
def up(u:Ty):V->Option (El u)
 |.x t v=>fF t u v
 |_=>none
def FY{α β:Type}:Option α->Option β->Option (α×β)
 |some x,some y=>some (x,y)
 |_,_=>none
def Dv:(a:Ty)->(r:List Ty)->List V->Option (qG.Dn a r)
 |a,[],l=>(match l with|[v]=>up a v|_=>none)
 |a,c::r,l=>(match l with|v::l=>FY (up a v) (Dv c r l)|[]=>none)
def vR:(cs:List Ty)->List V->Option (qG cs)
 |[],[]=>some ()
 |a::r,l=>Dv a r l
 |_,_=>none
def Kf:(a:Ty)->(r:List Ty)->qG.Dn a r->List V
 |a,[],v=>[.x a v]
 |a,c::r,v=>.x a v.1::Kf c r v.2
def gU:(cs:List Ty)->qG cs->List V
 |[],_=>[]
 |a::r,v=>Kf a r v
inductive Sh where
 | x (t : Ty)            -- data
 | pt (t : Ty)           -- a pointer to data
 | os (t : Ty)           -- a slice of its bi
 | rw (t : Ty)           -- a eU of rows of its bi
 | mp (k v : Ty)         -- a map of its bi
 | pb (t : Ty) (c : Sh)  -- a pointer to a box of its bi
 |st (c:Sh)
 |pr (a c:Sh)
 |nl (k:Nat)
 |fn (f:Nat) (l:Sh)
 |ni
 |gn
 deriving Inhabited,DecidableEq
def Lt:Sh->List Ty
 |.x t|.pt t=>[t]
 |.os t=>[.sl t]
 |.rw t=>[.sl (.sl t)]
 |.mp k v=>[.mp k v]
 |.pb _ c|.st c|.fn _ c=>Lt c
 |.pr a c=>Lt a++Lt c
 |_=>[]
def eO:List Sh->List Ty
 |[]=>[]
 |a::r=>Lt a++eO r
abbrev Wy:=List (List Sh×List Sh)
@[reducible] def vH:Wy->Type
 |[]=>Empty
 |(r,o)::w=>ET r o w
where ET:List Sh->List Sh->Wy->Type
 |r,o,[]=>qG (eO r++eO o)
 |r,o,(r',o')::w=>qG (eO r++eO o)⊕ET r' o' w
def Mq{β:Type}(k:List Sh->List Sh->List V->Option β):(r o:List Sh)->(w:Wy)->vH.ET r o w->Option β
 |r,o,[],z=>k r o (gU (eO r++eO o) z)
 |r,o,(r',o')::w,z=>match z with|.inl z=>k r o (gU (eO r++eO o) z)|.inr z=>Mq k r' o' w z
def Oh{β:Type}(k:List Sh->List Sh->List V->Option β):(w:Wy)->vH w->Option β
 |[],z=>nomatch z
 |(r,o)::w,z=>Mq k r o w z
structure fZ where
 ps:List (Bool×Sh)
 al:Wy
 ro:Bool
 jT:List Bool
 fn:qG (eO (ps.map (·.2)))->Option (vH al)
abbrev Dj:=List (Nat×fZ)
def oI(h:H2):Sh->V->Option (List V×List Nat)
 |.x t,v=>match jb h v with|some (w,l)=>(match rx t w with|some y=>some ([.x t y],l)|none=>none)|none=>none
 |.pt t,.pt u v=>match fF u t v with|some y=>some ([.x t y],[])|none=>none
 |.pt t,.op id u []=>(match fO h id with
  |some (.bx w c)=>bif decide (w=u)&&ig h c then(match jb h c with|some (c,l)=>(match rx t c with|some y=>some ([.x t y],id::l)|none=>none)|none=>none)else none
  |some (.ib w v)=>bif decide (w=u)then(match fF w t v with|some y=>some ([.x t y],[id])|none=>none)else none
  |_=>none)
 |.pt t,.ep id n u []=>(match fO h id with
  |some (.ar w s _)|some (.im w s _)=>bif decide (w=u)then(match fF w t (gt s.l n)with|some y=>some ([.x t y],[id])|none=>none)else none
  |_=>none)
 |.nl k,.nl k'=>bif k==k' then some ([],[])else none
 |.fn f c,.fn _ f' l=>bif f==f' then oI h c l else none
 |.pr a c,.co x r=>match oI h a x,oI h c r with|some (l,i),some (m,j)=>some (l++m,i++j)|_,_=>none
 |.ni,.ni=>some ([],[])
 |_,_=>none
def M0(t:Ty){u:Ty}(v:El (.sl u)):Option (List V×List Nat):=match(v:Sl (El u))with|.nil=>some ([.x (.sl t) Sl.nil],[])|.mk _=>none
def Rr(h:H2)(t:Ty)(id ver:Nat){u:Ty}(r:Sl (El u)):Option (List V×List Nat):=match fO h id with|some (.ar _ _ v)=>bif v==ver then(match fF (.sl u) (.sl t) r with|some s=>some ([.x (.sl t) s],[id])|none=>none)else none|_=>none
def dQ(h:H2):Sh->Bool->V->Option (List V×List Nat)
 |.os t,false,.so id=>(match fO h id with|some (.ar u s _)=>(match fF (.sl u) (.sl t) s with|some s=>some ([.x (.sl t) s],[id])|none=>none)|_=>none)
 |.os t,false,.nl 0=>some ([.x (.sl t) Sl.nil],[])
 |.rw t,false,.sr id=>(match fO h id with|some (.rw u s none)=>(match fF (.sl (.sl u)) (.sl (.sl t)) s with|some s=>some ([.x (.sl (.sl t)) s],[id])|none=>none)|_=>none)
 |.rw t,false,.nl 0=>some ([.x (.sl (.sl t)) Sl.nil],[])
 |.mp k v,false,.om id=>(match fO h id with|some (.mp k' v' m)=>(match fF (.mp k' v') (.mp k v) m with|some m=>some ([.x (.mp k v) m],[id])|none=>none)|_=>none)
 |.pb t c,false,.op id u []=>(match fO h id with|some (.bx w v)=>bif decide (w=u)&&decide (u=t)then(match dQ h c false v with|some (l,i)=>some (l,id::i)|none=>none)else none|_=>none)
 |.nl k,false,.nl k'=>bif k==k' then some ([],[])else none
 |.x t,false,v=>match rx t v with|some y=>some ([.x t y],[])|none=>none
 |.st c,false,.rc l=>dQ h c true l
 |.st c,false,.x (.st u) v=>dQ h c true (F0 u v)
 |.pr a c,true,.co x r=>match(match a,x with|.os t,.x (.sl _) v=>M0 t v|.os t,.sb id ver _ _ r=>Rr h t id ver r|_,_=>dQ h a false x),dQ h c true r with|some (l,i),some (m,j)=>some (l++m,i++j)|_,_=>none
 |.ni,true,.ni=>some ([],[])
 |_,_,_=>none
def qb:Sh->Bool->List V->S2->Option (V×List V×S2)
 |.x t,false,.x u v::l,s=>bif decide (u=t)&&jW t then some (.x u v,l,{s with next:=s.next+bG t})else none
 |.os t,false,.x (.sl u) v::l,s=>bif decide (u=t)&&zi t then some (.so s.next,l,gq s (.ar u v 0))else none
 |.rw t,false,.x (.sl (.sl u)) v::l,s=>bif decide (u=t)&&zi t then some (.sr s.next,l,gq s (.rw u v none))else none
 |.mp k v,false,.x (.mp k' v') m::l,s=>bif decide (k'=k)&&decide (v'=v)&&jW v&&(zj k).isSome then some (.om s.next,l,gq s (.mp k' v' m))else none
 |.pb t c,false,l,s=>
  match qb c false l {s with next:=s.next+1}with
  |some (w,l,s')=>bif eH w false t then some (.op s.next t [],l,c8 s' s.next (some (.bx t w)))else none
  |none=>none
 |.nl k,false,l,s=>some (.nl k,l,{s with next:=s.next+1})
 |.st c,false,l,s=>match qb c true l s with|some (w,l,s)=>some (.rc w,l,s)|none=>none
 |.pr a c,true,l,s=>match qb a false l s with|some (x,l,s)=>(match qb c true l s with|some (r,l,s)=>some (.co x r,l,s)|none=>none)|none=>none
 |.ni,true,l,s=>some (.ni,l,s)
 |_,_,_,_=>none
def Gz:List Sh->List V->S2->Option (List V×List V×S2)
 |[],l,s=>some ([],l,s)
 |a::r,l,s=>match qb a false l s with|some (x,l,s)=>(match Gz r l s with|some (xs,l,s)=>some (x::xs,l,s)|none=>none)|none=>none
def uT(h:H2):List (Bool×Sh)->List V->Option (List V×List Nat×List (V×List Nat))
 |[],[]=>some ([],[],[])
 |(b,c)::r,v::vs=>
  match uT h r vs with
  |some (m,j,q)=>
   bif b then(match dQ h c false v with|some (l,i)=>some (l++m,j,(v,i)::q)|none=>none)
   else(match oI h c v with|some (l,i)=>some (l++m,i++j,q)|none=>none)
  |none=>none
 |_,_=>none
def Ag(h:H2)(f:Nat)(vs:List V):Dj->Option (fZ×List V×List Nat×List (V×List Nat))
 |[]=>none
 |(g,sp)::r=>bif g==f then(match uT h sp.ps vs with|some (l,i,q)=>some (sp,l,i,q)|none=>Ag h f vs r)else Ag h f vs r
def iT:List Nat->S2->S2
 |[],s=>s
 |id::r,s=>c8 (iT r s) id none
def eB{β:Type}:List Sh->List (V×List Nat)->List V->S2->(S2->Option β)->Option β
 |[],[],[],s,k=>k s
 |.nl _::r,(_,[])::q,l,s,k=>eB r q l s k
 |.gn::r,(_,i)::q,l,s,k=>eB r q l (iT i s) k
 |.os t::r,(.nl 0,[])::q,.x (.sl u) v::l,s,k=>(match fF (.sl u) (.sl t) v with|some v=>(GG v (Sl.nil:Sl (El t))).bind fun _=>eB r q l s k|none=>none)
 |.os t::r,(.so id,_)::q,.x (.sl u) v::l,s,k=>(match fO s.heap id,fF (.sl u) (.sl t) v with
  |some (.ar w old ver),some v=>(match fF (.sl t) (.sl w) v with
   |some v=>(GG v old).bind fun _=>eB r q l (c8 s id (some (.ar w v (ver+1)))) k
   |none=>none)
  |_,_=>none)
 |.rw t::r,(.nl 0,[])::q,.x (.sl (.sl u)) v::l,s,k=>(match fF (.sl (.sl u)) (.sl (.sl t)) v with|some v=>(GG (v:Sl (Sl (El t))) (Sl.nil:Sl (Sl (El t)))).bind fun _=>eB r q l s k|none=>none)
 |.rw t::r,(.sr id,_)::q,.x (.sl (.sl u)) v::l,s,k=>(match fO s.heap id,fF (.sl (.sl u)) (.sl (.sl t)) v with
  |some (.rw w old _),some v=>(match fF (.sl (.sl t)) (.sl (.sl w)) v with
   |some v=>(GG (v:Sl (Sl (El w))) old).bind fun _=>eB r q l (c8 s id (some (.rw w v none))) k
   |none=>none)
  |_,_=>none)
 |.pb t c::r,(.op id u [],i)::q,l,s,k=>(match fO s.heap id with
  |some _=>(match qb c false l s with
   |some (w,l,s)=>bif eH w false t&&decide (u=t)then eB r q l (c8 (iT i s) id (some (.bx t w))) k else none
   |none=>none)
  |none=>none)
 |_,_,_,_,_=>none
def MD:List V->V
 |[v]=>v
 |l=>.tp (eU l)
def yn:List Nat->Bool
 |[]=>true
 |a::r=>!r.contains a&&yn r
def vL:V->Option (List V)
 |.ni=>some []
 |.co a r=>bif(xO a==1)&&!tw a then(match vL r with|some l=>some (a::l)|none=>none)else none
 |_=>none
def xz{β:Type}(tb:Dj)(ro:Bool)(jT:List Bool)(f:V)(vs:List V)(s:S2)(k:V->S2->List Nat->Option β):Option β:=
 match f with
 |.fn _ fid caps=>
  match(match vL caps with|some cs=>Ag s.heap fid (vs++cs) tb|none=>none)with
  |some (sp,pay,au,q)=>
   bif(!ro||sp.ro)&&decide (sp.jT=jT)&&yn (q.flatMap (·.2))&&(q.flatMap (·.2)).all (fun i=>!au.contains i)then
    match vR (eO (sp.ps.map (·.2))) pay with
    |some p=>(sp.fn p).bind fun z=>Oh (fun rs os l=>
     match(bif ro then some s else qA s.heap au s)with
     |some s0=>eB os q (l.drop (eO rs).length) s0 fun s1=>
      (match Gz rs (l.take (eO rs).length) s1 with
      |some (xs,_,s2)=>k (MD xs) s2 (au++q.flatMap (·.2))
      |none=>none)
     |none=>none) sp.al z
    |none=>none
   else none
  |none=>none
 |_=>none
structure Rg where
 kn:List (Nat×Bool)
 cd:List (Nat×Nat×Bool×V)
def M9(kn:List (Nat×Bool))(g:Nat):Option Bool:=bQ kn g
def Hv(s:S2)(q:Rg)(gc:Option (Nat×Bool)):Operand->Option V
 |.tmp t=>match bQ q.cd t with|some (g,b,v)=>bif decide (gc=some (g,b))||decide (M9 q.kn g=some b)then(bif ig s.heap v then some v else none)else none|none=>Hu s.cR s.heap (.tmp t)
 |o=>Hu s.cR s.heap o
def DZ(s:S2)(q:Rg)(gc:Option (Nat×Bool)):List Operand->Option (List V)
 |[]=>some []
 |a::r=>match Hv s q gc a,DZ s q gc r with|some x,some y=>some (x::y)|_,_=>none
inductive GV where
 |run
 |skip
 |N9 (g:Nat) (b:Bool) (c:Bool)
def SN(e:List (Nat×V))(kn:List (Nat×Bool)):Option (Nat×Bool)->Option GV
 |none=>some .run
 |some (g,b)=>
  match M9 kn g with
  |some c=>some (bif c==b then .run else .skip)
  |none=>(match bQ e g with
   |some (.kb c)=>some (bif c==b then .run else .skip)
   |some (.x .b c)=>some (.N9 g b c)
   |some .no=>some .skip
   |_=>none)
def H6(s:S2)(q:Rg)(gc:Option (Nat×Bool)):List Operand->Option V
 |[.tmp g,a,b]=>match M9 q.kn g,bQ s.cR g with|some c,_=>Hv s q gc (bif c then a else b)|none,some (.kb c)=>Hv s q gc (bif c then a else b)|none,some (.x .b c)=>(match Hv s q (some (g,true)) a,Hv s q (some (g,false)) b with|some x,some y=>SI c x y|_,_=>none)|_,_=>none
 |[.const (.bool c),a,b]=>Hv s q gc (bif c then a else b)
 |_=>none
def Eh:K->Bool
 |.pick=>true
 |_=>false
def Kg(o:OP)(s:S2)(q:Rg)(gc:Option (Nat×Bool)):Option (V×List Nat):=
 bif Eh o.o.k then(match H6 s q gc o.o.args with|some v=>some (v,[])|none=>none)
 else(match DZ s q gc o.o.args with|some vs=>Mw o vs s.heap|none=>none)
def ua(s:S2)(d:Option Nat)(v:V):S2:=match d with|some d=>{s with cR:=(d,v)::s.cR}|none=>s
def Lw(q:Rg)(d:Option Nat):Option Rg:=match d with|none=>some q|some d=>bif q.cd.any (fun e=>e.2.1==d)||q.kn.any (fun e=>e.1==d)then none else some ⟨q.kn,q.cd.filter (fun e=>!(e.1==d))⟩
abbrev Hx:=List (List Nat×List Nat)
def PS{β:Type}(tb:Dj)(o:OP)(s:S2)(q:Rg)(gc:Option (Nat×Bool))(k:V->S2->List Nat->Option β):Option β:=
 match Kg o s q gc with
 |some (v,l)=>k v s l
 |none=>
  match DZ s q gc o.o.args with
  |some vs=>
   (match o.o.k,vs with
   |.call ro jT,f::vs=>xz tb ro jT f vs s k
   |_,vs=>part o vs s k)
  |none=>none
def J3(dr:Option Nat)(i:Nat)(s:S2):S2:=match dr with|some b=>{s with next:=b+eL*i}|none=>s
def GL(dr:Option Nat)(i:Nat)(s:S2):Bool:=match dr with|some b=>gZ s.next (b+eL*(i+1))|none=>true
def Oi(d:Option Nat)(r:List OP):Bool:=
 match d with
 |some d=>r.any fun o=>match o.o.guard with|some (g,_)=>l7 g d|none=>false
 |none=>false
def mT{β:Type}(tb:Dj)(dr:Option Nat):List OP->Nat->S2->Rg->Hx->(S2->Hx->Option β)->Option β
 |[],_,s,_,tr,k=>k s tr
 |o::r,i,s0,q,tr,k=>
  let s:=J3 dr i s0
  let go:Rg->Option β:=fun q=>PS tb o s q o.o.guard fun v s1 l=>
   bif GL dr i s1 then(match Lw q o.o.dst with
    |some q=>mT tb dr r (i+1) (ua s1 o.o.dst v) q (tr++[(l,s1.wo.take (s1.wo.length-s.wo.length))]) k
    |none=>none)else none
  let no:Rg->Option β:=fun q=>match Lw q o.o.dst with|some q=>mT tb dr r (i+1) (ua s o.o.dst .no) q (tr++[([],[])]) k|none=>none
  match SN s.cR q.kn o.o.guard with
  |none=>none
  |some .run=>go q
  |some .skip=>no q
  |some (.N9 g b c)=>
   match(bif Oi o.o.dst r then none else Kg o s q (some (g,b)))with
   |some (v,l)=>
    (match Lw q o.o.dst,o.o.dst with
    |some q,some d=>bif l7 g d then none else mT tb dr r (i+1) (ua s (some d) .gn) ⟨q.kn,(d,g,b,v)::q.cd⟩ (tr++[(l,[])]) k
    |_,_=>none)
   |none=>(match b with
    |true=>bif c then go ⟨(g,true)::q.kn,q.cd⟩else no ⟨(g,false)::q.kn,q.cd⟩
    |false=>bif c then no ⟨(g,true)::q.kn,q.cd⟩else go ⟨(g,false)::q.kn,q.cd⟩)
inductive JV where
 |x (t:Ty)
 |pt (t:Ty)
 |so (j:Nat)
 |sr (j:Nat)
 |om (j:Nat)
 |op (j:Nat) (t:Ty) (p:List Nat)
 |nl (k:Nat)
 |fn (z:Bool) (f:Nat) (l:JV)
 |rc (l:JV)
 |ni
 |co (a r:JV)
 |sm
 |gn
 deriving Inhabited
inductive JO where
 |ar (t:Ty)
 |bx (t:Ty) (c:JV)
 |mp (k v:Ty)
 |rw(t:Ty)
 deriving Inhabited
structure J where
 vs:List (Nat×JV):=[]
 gs:JV:=.sm
 os:List JO:=[]
 kl:List Nat:=[]
 deriving Inhabited
def Ha:JV->List Ty
 |.x t|.pt t=>[t]
 |.fn _ _ l|.rc l=>Ha l
 |.co a r=>Ha a++Ha r
 |_=>[]
def Mg:List (Nat×JV)->List Ty
 |[]=>[]
 |(_,a)::r=>Ha a++Mg r
def S4:JO->List Ty
 |.ar t=>[.sl t]
 |.bx _ c=>Ha c
 |.mp k v=>[.mp k v]
 |.rw t=>[.sl (.sl t)]
def Mh:List JO->List Ty
 |[]=>[]
 |a::r=>S4 a++Mh r
def pQ(j:J):List Ty:=Mg j.vs++(Ha j.gs++Mh j.os)
structure Bd where
 j:Nat
 id:Option Nat
def JH:List Bd->Nat->Option Bd
 |[],_=>none
 |b::r,j=>bif b.j==j then some b else JH r j
def uq(m:List Bd)(b:Bd):Option (List Bd):=
 match JH m b.j with
 |none=>bif(match b.id with|some i=>m.all (fun c=>match c.id with|some i'=>!(i'==i)|none=>true)|none=>true)then some (b::m)else none
 |some c=>(match b.id,c.id with
  |some i,some i'=>bif i==i' then some m else none
  |_,_=>none)
def B2:pS->Option (List Nat)
 |[]=>some []
 |.fd i::p=>match B2 p with|some l=>some (i::l)|none=>none
 |.ix _::_=>none
def di:JV->Bool->V->List Bd->Option (List V×List Bd)
 |.x t,false,v,m=>match rx t v with|some y=>some ([.x t y],m)|none=>none
 |.pt t,false,.pt u v,m=>match fF u t v with|some y=>some ([.x t y],m)|none=>none
 |.so j,false,.so id,m=>match uq m ⟨j,some id⟩with|some m=>some ([],m)|none=>none
 |.so j,false,.nl 0,m=>match uq m ⟨j,none⟩with|some m=>some ([],m)|none=>none
 |.so j,false,.x (.sl _) v,m=>bif Sl.eS v then(match uq m ⟨j,none⟩with|some m=>some ([],m)|none=>none)else none
 |.sr j,false,.sr id,m=>match uq m ⟨j,some id⟩with|some m=>some ([],m)|none=>none
 |.sr j,false,.nl 0,m=>match uq m ⟨j,none⟩with|some m=>some ([],m)|none=>none
 |.om j,false,.om id,m=>match uq m ⟨j,some id⟩with|some m=>some ([],m)|none=>none
 |.op j t p,false,.op id u q,m=>bif decide (u=t)&&decide (B2 q=some p)then(match uq m ⟨j,some id⟩with|some m=>some ([],m)|none=>none)else none
 |.nl k,false,.nl k',m=>bif k==k' then some ([],m)else none
 |.fn z f l,false,.fn z' f' l',m=>bif(z==z')&&(f==f')then di l true l' m else none
 |.rc l,false,.rc l',m=>di l true l' m
 |.rc l,false,.x (.st t) v,m=>di l true (F0 t v) m
 |.ni,true,.ni,m=>some ([],m)
 |.co a r,true,.co x y,m=>match di a false x m with|some (l,m)=>(match di r true y m with|some (l',m)=>some (l++l',m)|none=>none)|none=>none
 |_,_,_,_=>none
def Ap(s:S2):List (Nat×JV)->List Bd->Option (List V×List Bd)
 |[],m=>some ([],m)
 |(t,a)::r,m=>match Hu s.cR s.heap (.tmp t)with|some v=>(match di a false v m with|some (l,m)=>(match Ap s r m with|some (l',m)=>some (l++l',m)|none=>none)|none=>none)|none=>none
def JA(h:H2)(j:Nat)(o:JO)(m:List Bd):Option (List V×List Bd):=
 match JH m j with
 |some b=>(match o,b.id with
  |.ar t,none=>bif zi t then some ([.x (.sl t) Sl.nil],m)else none
  |.ar t,some id=>(match fO h id with|some (.ar u s _)=>(match fF (.sl u) (.sl t) s with|some s=>some ([.x (.sl t) s],m)|none=>none)|_=>none)
  |.rw t,none=>bif zi t then some ([.x (.sl (.sl t)) Sl.nil],m)else none
  |.rw t,some id=>(match fO h id with|some (.rw u s none)=>(match fF (.sl (.sl u)) (.sl (.sl t)) s with|some s=>some ([.x (.sl (.sl t)) s],m)|none=>none)|_=>none)
  |.bx t c,some id=>(match fO h id with|some (.bx u v)=>bif decide (u=t)then di c false v m else none|_=>none)
  |.mp k v,some id=>(match fO h id with|some (.mp k' v' y)=>(match fF (.mp k' v') (.mp k v) y with|some y=>some ([.x (.mp k v) y],m)|none=>none)|_=>none)
  |_,_=>none)
 |none=>none
def Aq(h:H2):List JO->Nat->List Bd->Option (List V×List Bd)
 |[],_,m=>some ([],m)
 |o::r,j,m=>match JA h j o m with|some (l,m)=>(match Aq h r (j+1) m with|some (l',m)=>some (l++l',m)|none=>none)|none=>none
def sh:V->V->Bool
 |.so i,.so j=>i==j
 |.sr i,.sr j=>i==j
 |.op i t [],.op j u []=>(i==j)&&decide (t=u)
 |.nl k,.nl l=>k==l
 |.gn,.gn=>true
 |_,_=>false
def xW:V->V->Bool
 |.ni,.ni=>true
 |.co a r,.co x y=>sh a x&&xW r y
 |_,_=>false
def pR(h:H2):JV->V->V->List Bd->Option (List V×List Bd)
 |.sm,g0,g,m=>bif xW g0 g then some ([],m)else none
 |.ni,.ni,.ni,m=>some ([],m)
 |.co a r,.co x0 y0,.co x y,m=>match a with|.sm=>bif sh x0 x then pR h r y0 y m else none|.gn=>pR h r y0 y m|a=>bif ig h x then(match di a false x m with|some (l,m)=>(match pR h r y0 y m with|some (l',m)=>some (l++l',m)|none=>none)|none=>none)else none
 |_,_,_,_=>none
def zD:List (Nat×JV)->S2->S2
 |[],s=>s
 |(t,.so _)::r,s=>(match bQ s.cR t with
  |some (.sb id ver _ u x)=>(match fO s.heap id with
   |some (.ar _ _ v)=>bif jW u&&v==ver then zD r ⟨(t,.so s.next)::s.cR,(s.next,some (.ar u x 0))::(id,none)::s.heap,s.next+1,s.next::id::s.wo,s.gh⟩else zD r s
   |_=>zD r s)
  |_=>zD r s)
 |_::r,s=>zD r s
def As(j:J)(s0:S2)(s:S2):Option (List V):=
 match Ap s j.vs []with
 |some (l1,m)=>match pR s.heap j.gs s0.gh s.gh m with
  |some (l2,m)=>(match Aq s.heap j.os 0 m with
   |some (l3,m)=>bif s.wo.all (fun i=>gZ s0.next i||j.kl.contains i)&&m.all (fun b=>Nat.blt b.j j.os.length&&(match b.id with|some i=>gZ s0.next i||j.kl.contains i|none=>true))then some (l1++(l2++l3))else none
   |none=>none)
  |none=>none
 |none=>none
def xg(j:J)(s0:S2)(s:S2):Option (List V):=match zD j.vs s with|⟨e,h,n,w,g⟩=>As j s0 ⟨e,h,n,w,g⟩
def iL(b:Nat):JV->Bool->List V->V->Option (V×List V)
 |.x t,false,.x u v::l,_=>bif decide (u=t)&&jW u then some (.x u v,l)else none
 |.pt t,false,.x u v::l,_=>bif decide (u=t)&&jW u then some (.pt u v,l)else none
 |.so j,false,l,_=>some (.so (b+j),l)
 |.sr j,false,l,_=>some (.sr (b+j),l)
 |.om j,false,l,_=>some (.om (b+j),l)
 |.op j t p,false,l,_=>some (.op (b+j) t (p.map .fd),l)
 |.nl k,false,l,_=>some (.nl k,l)
 |.fn z f c,false,l,_=>match iL b c true l .ni with|some (w,l)=>some (.fn z f w,l)|none=>none
 |.rc c,false,l,_=>match iL b c true l .ni with|some (w,l)=>some (.rc w,l)|none=>none
 |.ni,true,l,_=>some (.ni,l)
 |.co a r,true,l,.co x y=>match iL b a false l x with|some (v,l)=>(match iL b r true l y with|some (w,l)=>some (.co v w,l)|none=>none)|none=>none
 |.co a r,true,l,_=>match iL b a false l .gn with|some (v,l)=>(match iL b r true l .ni with|some (w,l)=>some (.co v w,l)|none=>none)|none=>none
 |.sm,_,l,v=>some (v,l)
 |.gn,false,l,_=>some (.gn,l)
 |_,_,_,_=>none
def E_(b:Nat):List (Nat×JV)->List V->Option (List (Nat×V)×List V)
 |[],l=>some ([],l)
 |(t,a)::r,l=>match iL b a false l .gn with|some (v,l)=>(match E_ b r l with|some (e,l)=>some ((t,v)::e,l)|none=>none)|none=>none
def BW(b:Nat):JO->List V->Option (O×List V)
 |.ar t,.x (.sl u) v::l=>bif decide (u=t)then some (.ar u v 0,l)else none
 |.rw t,.x (.sl (.sl u)) v::l=>bif decide (u=t)&&zi t then some (.rw u v none,l)else none
 |.bx t c,l=>match iL b c false l .gn with|some (w,l)=>bif eH w false t then some (.bx t w,l)else none|none=>none
 |.mp k v,.x (.mp k' v') m::l=>bif decide (k'=k)&&decide (v'=v)then some (.mp k' v' m,l)else none
 |_,_=>none
def BV(b:Nat):List JO->Nat->List V->Option (H2×List V)
 |[],_,l=>some ([],l)
 |o::r,j,l=>match BW b o l with|some (o,l)=>(match BV b r (j+1) l with|some (h,l)=>some ((b+j,some o)::h,l)|none=>none)|none=>none
def uI(j:J)(ds:List Nat)(s0:S2)(l:List V):Option S2:=
 match E_ s0.next j.vs l with
 |some (e,l)=>(match iL s0.next j.gs true l s0.gh with
  |some (g,l)=>(match BV s0.next j.os 0 l with
   |some (h,_)=>some ⟨e++ds.map (fun t=>(t,V.gn))++s0.cR,h++j.kl.map (fun i=>(i,none))++s0.heap,s0.next+j.os.length,h.map (·.1)++j.kl++s0.wo,g⟩
   |none=>none)
  |none=>none)
 |none=>none
abbrev Ex:=List (ql×J)
@[reducible] def Dk:Ex->Type
 |[]=>Empty
 |(_,j)::r=>JW j r
where JW:J->Ex->Type
 |j,[]=>qG (pQ j)
 |j,(_,j')::r=>qG (pQ j)⊕JW j' r
def I0(s0:S2)(o:ql)(s:S2):(o':ql)->(j:J)->(r:Ex)->Option (Dk.JW j r)
 |o',j,[]=>bif decide (o=o')then(match xg j s0 s with|some l=>vR (pQ j) l|none=>none)else none
 |o',j,(o2,j2)::r=>bif decide (o=o')then(match xg j s0 s with|some l=>(match vR (pQ j) l with|some p=>some (.inl p)|none=>none)|none=>none)
  else(match I0 s0 o s o2 j2 r with|some x=>some (.inr x)|none=>none)
def GK(s0:S2)(o:ql)(s:S2):(e:Ex)->Option (Dk e)
 |[]=>none
 |(o',j)::r=>I0 s0 o s o' j r
def MJ{β:Type}(ds:List Nat)(s0:S2)(k:ql->S2->Option β):(o:ql)->(j:J)->(r:Ex)->Dk.JW j r->Option β
 |o,j,[],p=>match uI j ds s0 (gU (pQ j) p)with|some s=>k o s|none=>none
 |o,j,(o2,j2)::r,x=>match x with|.inl p=>(match uI j ds s0 (gU (pQ j) p)with|some s=>k o s|none=>none)|.inr y=>MJ ds s0 k o2 j2 r y
def H7{β:Type}(ds:List Nat)(s0:S2)(k:ql->S2->Option β):(e:Ex)->Dk e->Option β
 |[],x=>nomatch x
 |(o,j)::r,x=>MJ ds s0 k o j r x
inductive C2 where
 |skip
 |Kz (ops:List OP) (dr:Option (List (Nat×Nat))) (jn:Option J)
 |seq (a b:C2) (e:Ex)
 |cond (c:Operand) (a b:C2)
 |block (id:Nat) (a:C2)
 |loop (j:J) (e:Ex) (a:C2)
 |exit (id:Nat)
 |ret
 |fG
 deriving Inhabited
def mH:C2->List Nat
 |.Kz ops _ _=>ops.filterMap (·.o.dst)
 |.seq a b _|.cond _ a b=>mH a++mH b
 |.block _ a|.loop _ _ a=>mH a
 |_=>[]
def IT:K->Bool
 |.lookup _ _ _ _ _=>true
 |_=>false
def L1(ops:List OP)(tr:Hx)(i j:Nat):Bool:=
 match ops[i]?,tr[i]?with
 |some o,some ([id],[])=>IT o.o.k&&((tr.take j).drop (i+1)).all (fun x=>!x.2.contains id)
 |_,_=>false
def Nz(ops:List OP)(tr:Hx)(dyn:List (Nat×Nat)):Bool:=
 dyn.all fun p=>bif gZ 1000 p.2 then(match tr[p.1]?,tr[p.2-1000]?with|some a,some b=>lT a b||L1 ops tr p.1 (p.2-1000)|_,_=>true)
  else(match tr[p.1]?,tr[p.2]?with|some a,some b=>lT a b|_,_=>true)
def N0(s:S2)(id:Nat):Option S2:=
 match fO s.heap id with
 |some (.rw t v (some (m,id2)))=>(match fO s.heap id2 with
  |some (.ar u r _)=>(match fF (.sl u) (.sl t) r with
   |some r=>some (c8 (c8 s id2 none) id (some (.rw t (.mk (v.l.set m r)) none)))
   |none=>none)
  |_=>none)
 |_=>some s
def Bs:List Nat->S2->Option S2
 |[],s=>some s
 |id::r,s=>match N0 s id with|some s=>Bs r s|none=>none
def N1(s s':S2):Option S2:=Bs (s'.wo.take (s'.wo.length-s.wo.length)) s'
def FF{β:Type}(tb:Dj)(ops:List OP)(dr:Option (List (Nat×Nat)))(s:S2)(k:S2->Option β):Option β:=match dr with|none=>mT tb none ops 0 s ⟨[],[]⟩ [] fun s' _=>(N1 s s').bind k|some dyn=>mT tb (some s.next) ops 0 s ⟨[],[]⟩ [] fun s' tr=>bif Nz ops tr dyn then(N1 s {s' with next:=s.next+eL*ops.length}).bind k else none
def xe{β:Type}(tb:Dj):C2->S2->(ql->S2->Option β)->Option β
 |.skip,s,k=>k .normal s
 |.Kz ops dr none,s,k=>FF tb ops dr s fun s=>k .normal s
 |.Kz ops dr (some j),s,k=>(FF tb ops dr {s with wo:=[]} fun s'=>match xg j s s' with|some l=>vR (pQ j) l|none=>none).bind fun p=>match uI j (ops.filterMap (·.o.dst)) s (gU (pQ j) p)with|some s=>k .normal s|none=>none
 |.seq a b [],s,k=>xe tb a s fun o s=>match o with|.normal=>xe tb b s k|o=>k o s
 |.seq a b (e::r),s,k=>(xe tb a {s with wo:=[]} fun o s'=>GK s o s' (e::r)).bind fun x=>H7 (mH a) s (fun o s=>match o with|.normal=>xe tb b s k|o=>k o s) (e::r) x
 |.cond c a b,s,k=>(match Hu s.cR s.heap c with
  |some (.kb t)=>bif t then xe tb a s k else xe tb b s k
  |some (.x .b t)=>bif t then xe tb a s k else xe tb b s k
  |_=>none)
 |.block id a,s,k=>xe tb a s fun o s=>match o with|.exit i=>k (bif i==id then .normal else .exit i) s|o=>k o s
 |.loop j e a,s,k=>
  bif e.all (fun x=>j.kl.all fun i=>x.2.kl.contains i)then(match xg j s {s with wo:=[]}with
  |some l=>(match vR (pQ j) l with
   |some p0=>(gz (fun p=>match uI j (mH a) s (gU (pQ j) p)with
     |some s1=>xe tb a {s1 with wo:=[]} fun o s'=>(match o with
      |.normal=>(match xg j s s' with|some l=>(match vR (pQ j) l with|some q=>some (Sum.inl q)|none=>none)|none=>none)
      |o=>(match GK s o s' e with|some x=>some (Sum.inr x)|none=>none))
     |none=>none) p0).bind fun x=>H7 (mH a) s k e x
   |none=>none)
  |none=>none)else none
 |.exit id,s,k=>k (.exit id) s
 |.ret,s,k=>k .ret s
 |.fG,_,_=>none
def eP(P:Program):Nat->TypeId->Ty
 |0,_=>.o 9
 |n+1,t=>match P.underlying t with|some (.int k)=>.i k|some .bool=>.b|some .string=>.s|some (.float k)=>.f k|some (.slice e)=>.sl (eP P n e)|some (.map k v)=>.mp (eP P n k) (eP P n v)|some (.struct fs)=>.st (PJ (fs.toList.map fun f=>eP P n f.type))|some (.array m e)=>.ar m (eP P n e)|some (.pointer _)=>.o 1|some (.func ..)=>.o 2|_=>.o 4
where PJ:List Ty->Ty
 |[]=>.un
 |[t]=>t
 |t::r=>.pr t (PJ r)
def G4:Nat:=12
def Nw(P:Program)(t:TypeId):Ty:=match P.underlying t with|some (.slice e)=>eP P G4 e|some (.array _ e)=>eP P G4 e|_=>.o 9
def Mb(P:Program):Op->Ty×List Nat
 |.alloc e=>(eP P G4 e,[])
 |.box t _=>(eP P G4 t,[])
 |.build t parts=>(eP P G4 t,parts.toList.map (·.1))
 |.buildSlice t _ parts=>(Nw P t,parts.toList.map (·.1))
 |.fieldAddr _ _ f=>(.o 9,[f])
 |.field _ _ f=>(.o 9,[f])
 |.makeSlice t _ _=>(Nw P t,[])
 |.makeMap t _=>(eP P G4 t,[])
 |.call c=>(match c.callee,c.argTypes.toList with|.builtin _,t::_=>Nw P t|_,_=>.o 9,[])
 |_=>(.o 9,[])
def MS(P:Program)(bq:uX)(nt:Nat)(all:Array Oper)(o:Oper):OP:=⟨gf P bq nt all o,(Mb P o.op).1,(Mb P o.op).2⟩
structure An where
 j:Option J:=none
 e:Ex:=[]
 deriving Inhabited
def pJ(P:Program)(bq:uX)(nt:Nat)(an:List (Nat×An)):Code->Nat->C2×Nat
 |.skip,n=>(.skip,n)
 |.region _ ops draw,n=>
  (if draw then(if yj (JR ops.toList []) ops.toList 0&&xV (JR ops.toList []) (ops.toList.map (gf P bq nt ops)) 0&&decide (ops.toList.length<=1000)
   then .Kz (ops.toList.map (MS P bq nt ops)) (some (sX (JR ops.toList []) (ops.toList.map (gf P bq nt ops)) 0)) ((bQ an n).bind (·.j))else .fG)
   else .Kz (ops.toList.map (MS P bq nt ops)) none ((bQ an n).bind (·.j)),n+1)
 |.seq a b,n=>
  let x:=pJ P bq nt an a (n+1);let y:=pJ P bq nt an b x.2
  (.seq x.1 y.1 (match bQ an n with|some w=>w.e|none=>[]),y.2)
 |.cond c a b,n=>let x:=pJ P bq nt an a n;let y:=pJ P bq nt an b x.2;(.cond c x.1 y.1,y.2)
 |.block id a,n=>let x:=pJ P bq nt an a n;(.block id x.1,x.2)
 |.loop a,n=>
  let x:=pJ P bq nt an a (n+1)
  (match bQ an n with|some ⟨some j,e⟩=>.loop j e x.1|_=>.fG,x.2)
 |.scope a,n=>pJ P bq nt an a n
 |.label _,n=>(.skip,n)
 |.exit id,n=>(.exit id,n)
 |.ret,n=>(.ret,n)
 |_,n=>(.fG,n)
structure F2 where
 np:Nat
 ki:List RV
 body:C2
def Ao(P:Program)(bq:uX)(f np:Nat)(an:List (Nat×An)):Option F2:=
 match P.funcs[f]?with
 |none=>none
 |some g=>
  match g.body with
  |none=>none
  |some code=>
   if(g.name== "runtime.NumGoroutine")=false/\np<=g.ntmps/\g.ntmps<1000000000 then
    match zU P g.results.toList with|some ki=>some ⟨np,ki,(pJ P bq g.ntmps an code 0).1⟩|none=>none
   else none
def BG:Sh->List V->Option (V×List V)
 |.ni,l=>some (.ni,l)
 |.pr (.pt t) c,.x u v::l=>bif decide (u=t)&&jW t then(match BG c l with|some (w,l)=>some (.co (.pt u v) w,l)|none=>none)else none
 |_,_=>none
def sW:List (Bool×Sh)->Nat->List V->S2->Option (List (Nat×V)×S2)
 |[],_,[],s=>some ([],s)
 |(false,.x t)::r,i,.x u v::l,s=>bif decide (u=t)&&jW t then(match sW r (i+1) l s with|some (e,s)=>some ((i,.x u v)::e,s)|none=>none)else none
 |(false,.pt t)::r,i,.x u v::l,s=>bif decide (u=t)&&jW t then(match sW r (i+1) l s with|some (e,s)=>some ((i,.pt u v)::e,s)|none=>none)else none
 |(false,.nl k)::r,i,l,s=>(match sW r (i+1) l s with|some (e,s)=>some ((i,.nl k)::e,s)|none=>none)
 |(false,.fn f c)::r,i,l,s=>(match BG c l with|some (w,l)=>(match sW r (i+1) l s with|some (e,s)=>some ((i,.fn true f w)::e,s)|none=>none)|none=>none)
 |(true,c)::r,i,l,s=>(match qb c false l s with
  |some (w,l,s)=>(match sW r (i+1) l s with|some (e,s)=>some ((i,w)::e,{s with gh:=.co w s.gh})|none=>none)
  |none=>none)
 |_,_,_,_=>none
def Nv(ps:List (Bool×Sh))(l:List V):Option S2:=
 match sW ps 0 l ⟨[],[],0,[],.ni⟩with
 |some (e,s)=>some {s with cR:=e}
 |none=>none
def Kw(s:S2):RV->Option V
 |.tmp t=>Hu s.cR s.heap (.tmp t)
 |.cell t g n=>match Hu s.cR s.heap (.tmp t)with|some p=>(match yu s.heap p with|some (w,_)=>bif EF s.heap g n w then some w else none|none=>none)|none=>none
def Kx(h:H2):Sh->V->Option (List V×List Nat)
 |.x t,v=>match jb h v with|some (w,l)=>(match rx t w with|some y=>some ([.x t y],l)|none=>none)|none=>none
 |.os t,.sb id _ _ u r=>(match fO h id with|some (.ar _ _ _)=>(match fF (.sl u) (.sl t) r with|some s=>some ([.x (.sl t) s],[id])|none=>none)|_=>none)
 |c,v=>dQ h c false v
def Rs(h:H2):Sh->V->Option (List V×List Nat)
 |.gn,_=>some ([],[])
 |c,v=>bif ig h v then dQ h c false v else none
def zY(h:H2):List Sh->List V->Option (List V×List Nat)
 |[],[]=>some ([],[])
 |c::r,v::vs=>match Kx h c v,zY h r vs with|some (l,i),some (m,j)=>some (l++m,i++j)|_,_=>none
 |_,_=>none
def zX(h:H2):List Sh->List V->Option (List V×List Nat)
 |[],[]=>some ([],[])
 |c::r,v::vs=>match Rs h c v,zX h r vs with|some (l,i),some (m,j)=>some (l++m,i++j)|_,_=>none
 |_,_=>none
def KZ{α β:Type}(f:α->Option β):List α->Option (List β)
 |[]=>some []
 |a::r=>match f a,KZ f r with|some x,some y=>some (x::y)|_,_=>none
def GT(ki:List RV)(rs os:List Sh)(s:S2):Option (List V):=
 match KZ (Kw s) ki with
 |some vs=>match zY s.heap rs vs,zX s.heap os (zM s.gh)with|some (l,i),some (m,j)=>bif yn (i++j)then some (l++m)else none|_,_=>none
 |none=>none
def GU(ki:List RV)(s:S2):(r o:List Sh)->(w:Wy)->Option (vH.ET r o w)
 |r,o,[]=>match GT ki r o s with|some l=>vR (eO r++eO o) l|none=>none
 |r,o,(r',o')::w=>match GT ki r o s with|some l=>(match vR (eO r++eO o) l with|some z=>some (.inl z)|none=>none)|none=>(match GU ki s r' o' w with|some z=>some (.inr z)|none=>none)
def Ld(ki:List RV)(s:S2):(w:Wy)->Option (vH w)
 |[]=>none
 |(r,o)::w=>GU ki s r o w
def Pw(tb:Dj)(F:Option F2)(ps:List (Bool×Sh))(al:Wy)(p:qG (eO (ps.map (·.2)))):Option (vH al):=
 match F with
 |some F=>
  match Nv ps (gU _ p)with
  |some s=>xe tb F.body s fun o s=>match o with|.exit _=>none|_=>Ld F.ki s al
  |none=>none
 |none=>none
theorem CN{α β:Type}{f:α->List β}{n:Nat}(h:∀a,(f a).length=n)(l:List α):(l.flatMap f).length=l.length*n:=by induction l with|nil=>simp|cons a l ih=>simp[br,h,ih,bK];omega
theorem bH:∀(t:Ty)(v:El t),(aP t v).length=bG t:=by intro t;induction t with|pr a c iha ihc=>intro v;simp[aP,bG,iha,ihc]|st t ih=>intro v;simp[aP,bG,ih]|ar n t ih=>intro v;rw[aP,CN ih,v.2];rfl|_=>intro v;rfl
theorem yF{α β:Type}[Inhabited α]{f:α->List β}{n:Nat}(h:∀a,(f a).length=n):∀(l:List α)(k:Nat),k<l.length->((l.flatMap f).drop (k*n)).take n=f (gt l k):=by
 intro l;induction l with
 |nil=>intro k hk;simp at hk
 |cons a l ih=>
  intro k hk;cases k with
  |zero=>simp[gt,h]
  |succ k=>
   have e:(k+1)*n=(f a).length+k*n:=by rw[h,bK];omega
   rw[br,e,<-dU,dq (am _),lC,bB,ih k (by simpa using hk)];rfl
theorem Ja{α β:Type}{f:α->List β}{n:Nat}(h:∀a,(f a).length=n):∀(l:List α)(k:Nat)(x:α),k<l.length->(l.set k x).flatMap f=aU (l.flatMap f) (k*n) (f x):=by
 intro l;induction l with
 |nil=>intro k x hk;simp at hk
 |cons a l ih=>
  intro k x hk;cases k with
  |zero=>
   simp only[List.set_cons_zero,br,aU,Nat.zero_mul,List.take_zero,bB,Nat.zero_add,h];have:(f a++l.flatMap f).drop n=l.flatMap f:=by rw[<-h a,dq (am _),lC,bB]
   rw[this]
  |succ k=>
   have e:(k+1)*n=(f a).length+k*n:=by rw[h,bK];omega
   simp only[List.set_cons_succ,br,aU,e,List.take_length_add_append,cS];rw[<-dU,dq (am _),lC,bB,ih k x (by simpa using hk)];simp[aU]
theorem cE{t u:Ty}{v:El t}{y:El u}(h:fF t u v=some y):∃e:t=u,y=e▸v:=by
 unfold fF at h;split at h
 .rename_i e;exact⟨e,(aa h).symm⟩
 .simp at h
theorem wx{t u:Ty}{v:El t}{y:El u}(h:fF t u v=some y):aP u y=aP t v/\t=u:=by obtain⟨rfl,rfl⟩:=cE h;exact⟨rfl,rfl⟩
theorem ra:∀(t:Ty)(v:El t)(i:Nat)(w:V),zA t v i=some w->∃u y,w=.x u y/\BA t i=some u/\oN t i+bG u<=bG t/\((aP t v).drop (oN t i)).take (bG u)=aP u y:=by
 intro t;induction t with
 |pr a c iha ihc=>intro v i w h;cases i with|zero=>obtain rfl:=aa h;refine⟨a,v.1,rfl,rfl,by simp[oN,bG],?_⟩;simp[oN,aP,bH]|succ i=>obtain⟨u,y,rfl,h1,h2,h3⟩:=ihc v.2 i w h;refine⟨u,y,rfl,h1,by simp only[oN,bG];omega,?_⟩;simp only[oN,aP];rw[<-dU,<-bH a v.1,dq (am _),lC,bB,h3]
 |_=>intro v i w h;cases i with|zero=>obtain rfl:=aa h;exact⟨_,v,rfl,rfl,by simp[oN],by simp[oN,bZ,bH]⟩|succ i=>simp[zA]at h
theorem Nj:∀(t:Ty)(i:Nat)(u:Ty),BA t i=some u->oN t i+bG u<=bG t:=by
 intro t;induction t with
 |pr a c iha ihc=>intro i u h;cases i with|zero=>obtain rfl:=aa h;simp[oN,bG]|succ i=>have:=ihc i u h;simp only[oN,bG];omega
 |_=>intro i u h;cases i with|zero=>obtain rfl:=aa h;simp[oN]|succ i=>simp[BA]at h
theorem tJ{α:Type}{a b p:List α}{off:Nat}:aU (a++b) (a.length+off) p=a++aU b off p:=by simp only[aU,List.take_length_add_append,cS,aS];rw[<-dU,dq (am _),lC,bB]
theorem tH{α:Type}{a b p:List α}{off:Nat}(h:off+p.length<=a.length):aU (a++b) off p=aU a off p++b:=by simp only[aU,aS];rw[List.take_append_of_le_length (by omega),dq h]
theorem mr{α:Type}{b p:List α}(h:p.length=b.length):aU b 0 p=p:=by simp[aU,h]
theorem uD{α:Type}{b p:List α}{off:Nat}(h:off+p.length<=b.length):(aU b off p).length=b.length:=by simp only[aU,bm,List.length_take,List.length_drop];omega
theorem uC{α β:Type}{f:α->β}{b p:List α}{off:Nat}:(aU b off p).map f=aU (b.map f) off (p.map f):=by simp[aU]
theorem qt{α:Type}{b c p:List α}{o1 o2 n:Nat}(hc:(b.drop o1).take n=c)(h1:o1+n<=b.length)(h2:o2+p.length<=n):aU b o1 (aU c o2 p)=aU b (o1+o2) p:=by
 have hcl:c.length=n:=by rw[<-hc];simp;omega
 have e:b=b.take o1++(c++b.drop (o1+n)):=by rw[<-hc,<-dU,List.take_append_drop,List.take_append_drop]
 have hl:(b.take o1).length=o1:=by simp;omega
 have hs:(aU c o2 p).length=n:=by rw[uD (by omega),hcl]
 have r2:aU b (o1+o2) p=b.take o1++(aU c o2 p++b.drop (o1+n)):=by
  conv=>lhs;rw[e]
  have:=tJ (a:=b.take o1) (b:=c++b.drop (o1+n)) (p:=p) (off:=o2);rw[hl]at this;rw[this,tH (by omega)]
 rw[r2];show b.take o1++aU c o2 p++b.drop (o1+(aU c o2 p).length)=_;rw[hs,aS]
theorem G8:∀(t:Ty)(l r:List Value)(x:El t),uO t l=some (x,r)->l.all eR=true->∃p,l=p++r/\(aP t x)=p.map D.lit:=by
 intro t;induction t with
 |pr a c iha ihc=>
  intro l r x h hp;simp only[uO]at h;split at h
  .rename_i y l1 h1;split at h
   .rename_i z l2 h2;obtain⟨rfl,rfl⟩:=ad (aa h);obtain⟨p,rfl,e1⟩:=iha _ _ _ h1 hp;obtain⟨q,rfl,e2⟩:=ihc _ _ _ h2 (by rw[List.all_append,ah]at hp;exact hp.2);exact⟨p++q,by simp,by simp[aP,e1,e2]⟩
   .simp at h
  .simp at h
 |st t ih=>intro l r x h hp;exact ih l r x h hp
 |ar n t ih=>
  intro l r x h hp;simp only[uO]at h
  have key:∀(m:Nat)(l r:List Value)(x:Arr m (El t)),Lo (uO t) m l=some (x,r)->l.all eR=true->∃p,l=p++r/\x.1.flatMap (aP t)=p.map D.lit:=by
   intro m;induction m with
   |zero=>intro l r x h hp;obtain⟨rfl,rfl⟩:=ad (aa h);exact⟨[],rfl,rfl⟩
   |succ m ihn=>
    intro l r x h hp;simp only[Lo]at h;split at h
    .rename_i y l1 h1;split at h
     .rename_i v l2 h2;obtain⟨rfl,rfl⟩:=ad (aa h);obtain⟨p,rfl,e1⟩:=ih _ _ _ h1 hp;obtain⟨q,rfl,e2⟩:=ihn _ _ _ h2 (by rw[List.all_append,ah]at hp;exact hp.2);exact⟨p++q,by simp,by simp[br,e1,e2]⟩
     .simp at h
    .simp at h
  exact key n l r x h hp
 |i k=>
  intro l r x h hp;simp only[uO]at h;unfold PE at h;split at h
  .split at h
   .rename_i e;subst e;obtain⟨rfl,rfl⟩:=ad (aa h);exact⟨[_],rfl,rfl⟩
   .simp at h
  .simp at h
 |b=>
  intro l r x h hp;simp only[uO]at h;unfold PF at h;split at h
  .obtain ⟨rfl,rfl⟩:=ad (aa h);exact⟨[_],rfl,rfl⟩
  .simp at h
 |s=>
  intro l r x h hp;simp only[uO]at h;unfold PC at h;split at h
  .obtain ⟨rfl,rfl⟩:=ad (aa h);exact⟨[_],rfl,rfl⟩
  .simp at h
 |f k=>
  intro l r x h hp;simp only[uO]at h;unfold Md at h;split at h
  .split at h
   .rename_i e;subst e;obtain⟨rfl,rfl⟩:=ad (aa h);exact⟨[_],rfl,rfl⟩
   .simp at h
  .simp at h
 |sl t ih=>
  intro l r x h hp;simp only[uO]at h;unfold PD at h;split at h
  .obtain ⟨rfl,rfl⟩:=ad (aa h);exact⟨[_],rfl,rfl⟩
  .simp at h
 |_=>intro l r x h hp;simp[uO]at h
def za(h:H2)(id ver:Nat):Bool:=match fO h id with|some (.ar _ _ v)|some (.im _ _ v)=>v==ver|_=>false
def Nd(id:Nat)(c:C):Prop:=∀i∈eN c,i=id
def eY(h:H2):V->List C->Prop
 |.x t v,cs=>jW t=true/\cs=(aP t v).map .d
 |.kb c,cs=>cs=[.d (.lit (.bool c))]
 |.nl k,cs=>cs=[z7 k]
 |.so id,cs=>∃c,cs=[c]/\(∀c',zQ id (fO h id)=some c'->c=c')/\Nd id c
 |.sr id,cs=>∃c,cs=[c]/\(∀c',zg id (fO h id)=some c'->c=c')/\Nd id c
 |.sb id ver lo t r,cs=>∃c,cs=[c]/\(za h id ver=true->c=xp id lo t r)/\Nd id c
 |.op id t p,cs=>cs=[.op id (mJ t p)]
 |.ep id n t p,cs=>cs=[.ep id n (mJ t p)]
 |.pt t v,cs=>jW t=true/\cs=[.d (.pt (aP t v))]
 |.fn true f l,cs=>∃ds,qD l=some ds/\cs=[.d (.fn f ds)]
 |.fn false f l,cs=>∃xs,eY h l xs/\cs=[.oL f xs]
 |.om id,cs=>cs=[.om id]
 |.rc l,cs=>eY h l cs
 |.fl l,cs=>l.all eR=true/\cs=eQ l
 |.ni,cs=>cs=[]
 |.co a r,cs=>∃x y,cs=x++y/\eY h a x/\eY h r y
 |.tp _,_|.no,_|.gn,_=>False
def sF(h:H2)(v:V)(x:TV):Prop:=∃cs,eY h v cs/\(tw v=true->x=.agg cs)/\(tw v=false->∃c,cs=[c]/\x=.c c)
def AF(h:H2):V->List TV->Prop
 |.ni,xs=>xs=[]
 |.co a r,xs=>∃x ys,xs=x::ys/\sF h a x/\AF h r ys
 |_,_=>False
def ft(h:H2):V->TV->Prop
 |.tp l,x=>∃xs,x=.gB xs/\AF h l xs
 |.no,x=>x=.gB []
 |.gn,_=>False
 |v,x=>sF h v x
def SY(t u:Ty)(s:Sl (El t))(lo:Nat)(r:Sl (El u)):Prop:=bG t=bG u/\match s,r with|.nil,.nil=>True|.mk l,.mk m=>lo+m.length<=l.length/\((l.map (aP t)).drop lo).take m.length=m.map (aP u)|_,_=>False
def eW(n:Nat)(h:H2):V->Prop
 |.so id|.sr id|.om id=>id<n
 |.sb id ver lo t r=>id<n/\∀u s v,(fO h id=some (.ar u s v)\/fO h id=some (.im u s v))->ver<=v/\(v=ver->SY u t s lo r)
 |.op id t p=>id<n/\Gr t p
 |.ep id m t p=>id<n/\Gr t p/\(∀u s v,(fO h id=some (.ar u s v)\/fO h id=some (.im u s v))->m<s.l.length)/\∀u s v,fO h id=some (.rw u s v)->m<s.l.length
 |.fn _ _ l|.rc l|.tp l=>eW n h l
 |.co a r=>eW n h a/\eW n h r
 |_=>True
def vp(h:H2):O->Option Ob->Prop
 |.ar t s _,b=>jW t=true/\0<bG t/\(∀l,s=.mk l->b=some (.aF (bG t) (l.map (aP t))))
 |.im t s _,b=>jW t=true/\0<bG t/\(∀l,s=.mk l->b=some (.pD (bG t) (l.map (aP t))))
 |.bx t c,b=>∃cs,b=some (.box cs)/\eY h c cs/\eH c false t=true
 |.ib t v,b=>jW t=true/\b=some (.nZ (aP t v))
 |.mp k v m,b=>jW v=true/\(∃ks,zj k=some ks)/\b=xu (li k) (li v) (fun x=>(aP k x).map fun|.lit y=>y|_=>.nilFunc) (aP v) m
 |.rw t s ln,b=>jW t=true/\0<bG t/\(∀l,(s:Sl (Sl (El t)))=.mk l->b=some (.nst (bG t) (dO t l ln)))
def By(n:Nat)(h:H2):O->Prop
 |.bx _ c=>eW n h c
 |.rw _ s (some (m,id))=>m<s.l.length/\id<n/\∀u r v,(fO h id=some (.ar u r v)\/fO h id=some (.im u r v))->r.eS=(gt s.l m).eS/\r.l.length=(gt s.l m).l.length
 |_=>True
structure HR(n:Nat)(h1:bh)(h2:H2):Prop where
 ob:∀id o,fO h2 id=some o->id<n/\vp h2 o (ao h1 id)/\By n h2 o
abbrev J4(t:Ty)(s:Sl (El t)):(t:Ty)×Sl (El t):=⟨t,s⟩
abbrev To(t:Ty)(s:El t):(t:Ty)×El t:=⟨t,s⟩
def LX(t u:Ty)(s:Sl (El t))(s':Sl (El u))(v v':Nat):Prop:=v<=v'/\t=u/\s.eS=s'.eS/\s.l.length=s'.l.length/\(v=v'->J4 t s=J4 u s')
def sf:O->O->Prop
 |.ar t s v,.ar u s' v'|.ar t s v,.im u s' v'=>LX t u s s' v v'
 |.im t s v,.im u s' v'=>v=v'/\J4 t s=J4 u s'
 |.bx t _,.bx u _=>t=u
 |.bx _ _,.ib _ _=>True
 |.ib t v,.ib u w=>To t v=To u w
 |.mp _ _ _,.mp _ _ _=>True
 |.rw t s _,.rw u s' _=>t=u/\s.eS=s'.eS/\s.l.length=s'.l.length
 |_,_=>False
def K3:O->Bool
 |.bx _ _|.ib _ _=>true
 |_=>false
structure jq(n:Nat)(h h':H2):Prop where
 ob:∀id o',id<n->fO h' id=some o'->(∃o,fO h id=some o/\sf o o')\/K3 o'=true
theorem LX.trans{t u w:Ty}{s:Sl (El t)}{s':Sl (El u)}{s2:Sl (El w)}{a b c:Nat}(h1:LX t u s s' a b)(h2:LX u w s' s2 b c):LX t w s s2 a c:=by obtain⟨a1,rfl,a3,a4,a5⟩:=h1;obtain⟨b1,rfl,b3,b4,b5⟩:=h2;refine⟨Nat.le_trans a1 b1,rfl,a3.trans b3,a4.trans b4,fun e=>?_⟩;have e1:a=b:=Nat.le_antisymm a1 (e▸b1);exact(a5 e1).trans (b5 (e1▸e))
theorem LX.Pn{t u:Ty}{s:Sl (El t)}{s':Sl (El u)}{a b:Nat}(h:a=b)(e:J4 t s=J4 u s'):LX t u s s' a b:=by subst h;obtain⟨rfl,e⟩:=jr e;cases e;exact⟨am _,rfl,rfl,rfl,fun _=>rfl⟩
theorem sf.refl(o:O):sf o o:=by cases o<;>simp[sf,LX]
theorem sf.trans{a b c:O}(h1:sf a b)(h2:sf b c):sf a c:=by
 cases a<;>cases b<;>simp only[sf]at h1<;>first|exact h1.elim|skip
 all_goals(cases c<;>simp only[sf]at h2|-<;>first|exact h2.elim|skip)
 .exact h1.trans h2
 .exact h1.trans h2
 .exact h1.trans (LX.Pn h2.1 h2.2)
 .exact ⟨h1.1.trans h2.1,h1.2.trans h2.2⟩
 .exact h1.trans h2
 .exact h1.trans h2
 .exact ⟨h1.1.trans h2.1,h1.2.1.trans h2.2.1,h1.2.2.trans h2.2.2⟩
theorem jq.refl(n:Nat)(h:H2):jq n h h:=⟨fun _ o _ h=>.inl ⟨o,h,sf.refl o⟩⟩
theorem jq.trans{n n':Nat}{a b c:H2}(hn:n<=n')(h1:jq n a b)(h2:jq n' b c):jq n a c:=
 ⟨fun id o' hi ho=>by
  rcases h2.ob id o' (by omega) ho with⟨o1,h3,h4⟩|q
  .rcases h1.ob id o1 hi h3 with⟨o2,h5,h6⟩|q
   .exact .inl ⟨o2,h5,h6.trans h4⟩
   .exact .inr (by cases o1<;>simp[K3]at q<;>cases o'<;>simp[sf]at h4<;>rfl)
  .exact .inr q⟩
theorem xU{sz id:Nat}{α:Type}{e:α->List D}{s:Sl α}:Nd id (kr sz e id s):=by intro i hi;cases s with|nil=>simp[kr,eN]at hi|mk l=>simpa[kr,eN]using hi
theorem HT{id lo:Nat}{t:Ty}{s:Sl (El t)}:Nd id (xp id lo t s):=by intro i hi;cases s with|nil=>simp[xp,eN]at hi|mk l=>simpa[xp,eN]using hi
section
variable{n n':Nat}{h h':H2}
theorem DD{t:Ty}{s s':Sl (El t)}{id:Nat}(h1:s.eS=s'.eS)(h2:s.l.length=s'.l.length):kr (bG t) (aP t) id s=kr (bG t) (aP t) id s':=by cases s<;>cases s'<;>simp_all[Sl.eS,kr]
theorem HM(hs:jq n h h'){id:Nat}(hi:id<n){c:C}(hc:zQ id (fO h' id)=some c):zQ id (fO h id)=some c:=by
 cases ho:fO h' id with
 |none=>rw[ho]at hc;simp[zQ]at hc
 |some o'=>
  rw[ho]at hc;obtain⟨o,h1,h2⟩:=(hs.ob id o' hi ho).resolve_right fun e=>by cases o'<;>simp[K3]at e<;>simp[zQ]at hc
  rw[h1];cases o'<;>simp only[zQ]at hc<;>first|cases hc;done|skip
  all_goals(cases o<;>simp only[sf]at h2<;>first|exact h2.elim|skip)
  .obtain ⟨_,rfl,h3,h4,_⟩:=h2;rw[<-hc];simp only[zQ];rw[DD h3 h4]
  .obtain ⟨_,rfl,h3,h4,_⟩:=h2;rw[<-hc];simp only[zQ];rw[DD h3 h4]
  .obtain ⟨_,h3⟩:=h2;obtain⟨rfl,h3⟩:=jr h3;cases h3;rw[<-hc];rfl
  all_goals simp at hc
theorem HL(hs:jq n h h'){id:Nat}(hi:id<n){c:C}(hc:zg id (fO h' id)=some c):zg id (fO h id)=some c:=by
 cases ho:fO h' id with
 |none=>rw[ho]at hc;simp[zg]at hc
 |some o'=>
  rw[ho]at hc;obtain⟨o,h1,h2⟩:=(hs.ob id o' hi ho).resolve_right fun e=>by cases o'<;>simp[K3]at e<;>simp[zg]at hc
  rw[h1];cases o'<;>simp only[zg]at hc<;>first|cases hc;done|skip
  all_goals(cases o<;>simp only[sf]at h2<;>first|exact h2.elim|skip)
  .obtain ⟨rfl,h3,h4⟩:=h2;rw[<-hc];simp only[zg];exact congrArg some (DD (t:=.sl _) h3 h4)
  all_goals simp at hc
theorem E7(hs:jq n h h'){id:Nat}(hi:id<n){u:Ty}{s:Sl (Sl (El u))}{ln:Option (Nat×Nat)}(ho:fO h' id=some (.rw u s ln)):∃s0 ln0,fO h id=some (.rw u s0 ln0)/\s0.eS=s.eS/\s0.l.length=s.l.length:=by
 obtain⟨o,h1,h2⟩:=(hs.ob id _ hi ho).resolve_right fun e=>by simp[K3]at e
 cases o<;>simp only[sf]at h2<;>first|exact h2.elim|skip
 obtain⟨rfl,h3,h4⟩:=h2;exact⟨_,_,h1,h3,h4⟩
theorem HO(hs:jq n h h'){id:Nat}(hi:id<n){u:Ty}{s:Sl (El u)}{v:Nat}(ho:fO h' id=some (.ar u s v)\/fO h' id=some (.im u s v)):
  ∃s0 v0,(fO h id=some (.ar u s0 v0)\/fO h id=some (.im u s0 v0))/\s0.eS=s.eS/\s0.l.length=s.l.length:=by
 rcases ho with ho|ho
 all_goals
  obtain⟨o,h1,h2⟩:=(hs.ob id _ hi ho).resolve_right fun e=>by simp[K3]at e
  cases o<;>simp only[sf]at h2<;>first|exact h2.elim|skip
 .obtain ⟨_,rfl,h3,h4,_⟩:=h2;exact⟨_,_,.inl h1,h3,h4⟩
 .obtain ⟨_,rfl,h3,h4,_⟩:=h2;exact⟨_,_,.inl h1,h3,h4⟩
 .obtain ⟨rfl,h3⟩:=h2;obtain⟨rfl,h3⟩:=jr h3;cases h3;exact⟨_,_,.inr h1,rfl,rfl⟩
theorem tK(hs:jq n h h'){id:Nat}(hi:id<n){u:Ty}{s:Sl (El u)}{v:Nat}(ho:fO h' id=some (.ar u s v)\/fO h' id=some (.im u s v)):
  ∃s0 v0,(fO h id=some (.ar u s0 v0)\/fO h id=some (.im u s0 v0))/\v0<=v/\s0.l.length=s.l.length/\(v0=v->s0=s):=by
 rcases ho with ho|ho
 all_goals
  obtain⟨o,h1,h2⟩:=(hs.ob id _ hi ho).resolve_right fun e=>by simp[K3]at e
  cases o<;>simp only[sf]at h2<;>first|exact h2.elim|skip
 .obtain ⟨h3,rfl,_,h4,h5⟩:=h2;exact⟨_,_,.inl h1,h3,h4,fun e=>by have:=h5 e;simpa using this⟩
 .obtain ⟨h3,rfl,_,h4,h5⟩:=h2;exact⟨_,_,.inl h1,h3,h4,fun e=>by have:=h5 e;simpa using this⟩
 .obtain ⟨rfl,h3⟩:=h2;obtain⟨rfl,h3⟩:=jr h3;cases h3;exact⟨_,_,.inr h1,am _,rfl,fun _=>rfl⟩
theorem lu{id ver:Nat}(ha:za h id ver=true):∃u s,fO h id=some (.ar u s ver)\/fO h id=some (.im u s ver):=by
 unfold za at ha;split at ha
 .rename_i u s v ho;obtain rfl:v=ver:=by simpa using ha
  exact⟨u,s,.inl ho⟩
 .rename_i u s v ho;obtain rfl:v=ver:=by simpa using ha
  exact⟨u,s,.inr ho⟩
 .simp at ha
theorem gy(hn:n<=n')(hs:jq n h h'):∀{v:V},eW n h v->eW n' h' v:=by
 intro v;induction v with
 |so id=>intro hv;simp only[eW]at hv|-;omega
 |sr id=>intro hv;simp only[eW]at hv|-;omega
 |om id=>intro hv;simp only[eW]at hv|-;omega
 |sb id ver lo t r=>
  rintro⟨h1,h2⟩;refine⟨by omega,fun u s v ho=>?_⟩;obtain⟨s0,v0,h3,h4,h5,h6⟩:=tK hs h1 ho;obtain⟨h7,h8⟩:=h2 u s0 v0 h3;refine⟨by omega,fun e=>?_⟩;have e2:v0=ver:=by omega
  have:=h6 (by omega);subst this;exact h8 e2
 |op id t p=>rintro⟨h1,h2⟩;exact⟨by omega,h2⟩
 |ep id m t p=>
  rintro⟨h1,h2,h3,h6⟩;refine⟨by omega,h2,fun u s v ho=>?_,fun u s v ho=>?_⟩
  .obtain ⟨s0,v0,h4,_,h5,_⟩:=tK hs h1 ho;have:=h3 u s0 v0 h4;omega
  .obtain ⟨s0,v0,h4,_,h5⟩:=E7 hs h1 ho;have:=h6 u s0 v0 h4;omega
 |fn z f l ih=>intro hv;exact ih hv
 |rc l ih=>intro hv;exact ih hv
 |tp l ih=>intro hv;exact ih hv
 |co a r iha ihr=>rintro⟨h1,h2⟩;exact⟨iha h1,ihr h2⟩
 |_=>intro _;trivial
theorem lq(hs:jq n h h'):∀{v:V}{cs:List C},eW n h v->eY h v cs->eY h' v cs:=by
 intro v;induction v with
 |so id=>rintro cs hi ⟨c,rfl,hc,hid⟩;exact⟨c,rfl,fun c' hc'=>hc c' (HM hs hi hc'),hid⟩
 |sr id=>rintro cs hi ⟨c,rfl,hc,hid⟩;exact⟨c,rfl,fun c' hc'=>hc c' (HL hs hi hc'),hid⟩
 |sb id ver lo t r=>
  rintro cs ⟨hi,h2⟩ ⟨c,rfl,hc,hid⟩;refine⟨c,rfl,fun ha=>hc ?_,hid⟩;obtain⟨u,s,ho⟩:=lu ha;obtain⟨s0,v0,h3,h4,_,_⟩:=tK hs hi ho;obtain⟨h7,_⟩:=h2 u s0 v0 h3;have:v0=ver:=by omega
  subst this;unfold za;rcases h3 with h3|h3<;>rw[h3]<;>simp
 |fn z f l ih=>intro cs hv hc;cases z with|true=>exact hc|false=>obtain⟨xs,h1,h2⟩:=hc;exact⟨xs,ih hv h1,h2⟩
 |rc l ih=>intro cs hv hc;exact ih hv hc
 |co a r iha ihr=>rintro cs ⟨h1,h2⟩ ⟨x,y,rfl,h3,h4⟩;exact⟨x,y,rfl,iha h1 h3,ihr h2 h4⟩
 |_=>intro cs _ hc;exact hc
theorem vQ(hs:jq n h h'){v:V}{x:TV}(hv:eW n h v)(hx:sF h v x):sF h' v x:=by obtain⟨cs,h1,h2⟩:=hx;exact⟨cs,lq hs hv h1,h2⟩
theorem FX(hs:jq n h h'):∀{v:V}{xs:List TV},eW n h v->AF h v xs->AF h' v xs:=by intro v;induction v with|co a r iha ihr=>rintro xs ⟨h1,h2⟩ ⟨x,ys,rfl,h3,h4⟩;exact⟨x,ys,rfl,vQ hs h1 h3,ihr h2 h4⟩|ni=>intro xs _ h;exact h|_=>intro xs _ h;exact h.elim
theorem u4(hs:jq n h h'){v:V}{x:TV}(hv:eW n h v)(hx:ft h v x):ft h' v x:=by cases v with|tp l=>obtain⟨xs,h1,h2⟩:=hx;exact⟨xs,h1,FX hs hv h2⟩|no=>exact hx|gn=>exact hx|_=>exact vQ hs hv hx
theorem pw(hs:jq n h h'){o:O}{b:Option Ob}(ho:By n h o)(hb:vp h o b):vp h' o b:=by cases o with|bx t c=>obtain⟨cs,h1,h2,h3⟩:=hb;exact⟨cs,h1,lq hs ho h2,h3⟩|_=>exact hb
theorem nW(hn:n<=n')(hs:jq n h h'){o:O}(ho:By n h o):By n' h' o:=by
 cases o with
 |bx t c=>exact gy hn hs ho
 |rw t s ln=>cases ln with|none=>trivial|some q=>obtain⟨m,id⟩:=q;obtain⟨h1,h2,h3⟩:=ho;refine⟨h1,Nat.lt_of_lt_of_le h2 hn,fun u r v hu=>?_⟩;obtain⟨s0,v0,h4,h5,h6⟩:=HO hs h2 hu;obtain⟨h7,h8⟩:=h3 u s0 v0 h4;exact⟨h5▸h7,h6▸h8⟩
 |_=>trivial
end
theorem ic{h:H2}:∀{v:V}{cs:List C},eY h v cs->cs.length=xO v:=by
 intro v;induction v with
 |x t v=>rintro cs ⟨_,rfl⟩;simp[xO,bH]
 |so id=>rintro cs ⟨c,rfl,_⟩;rfl
 |sr id=>rintro cs ⟨c,rfl,_⟩;rfl
 |sb id ver lo t r=>rintro cs ⟨c,rfl,_⟩;rfl
 |pt t v=>rintro cs ⟨_,rfl⟩;rfl
 |fn z f l ih=>intro cs hc;cases z with|true=>obtain⟨ds,_,rfl⟩:=hc;rfl|false=>obtain⟨ds,_,rfl⟩:=hc;rfl
 |rc l ih=>intro cs hc;exact ih hc
 |fl l=>rintro cs ⟨_,rfl⟩;simp[eQ,xO]
 |ni=>rintro cs rfl;rfl
 |co a r iha ihr=>rintro cs ⟨x,y,rfl,h1,h2⟩;simp[xO,iha h1,ihr h2]
 |tp l=>intro cs hc;exact hc.elim
 |no=>intro cs hc;exact hc.elim
 |gn=>intro cs hc;exact hc.elim
 |_=>rintro cs rfl;rfl
theorem gH:∀(v:V)(ln:Bool)(t:Ty),eH v ln t=true->xO v=bG t:=by
 intro v;induction v with
 |rc l ih=>
  intro ln t hf;cases ln with
  |true=>cases t<;>simp[eH]at hf
  |false=>cases t with|st t=>exact ih true t hf|_=>simp[eH]at hf
 |co a r iha ihr=>
  intro ln t hf;cases ln with
  |false=>simp[eH]at hf
  |true=>
   cases t with
   |pr t u=>simp only[eH,ah]at hf;simp[xO,bG,iha _ _ hf.1,ihr _ _ hf.2]
   |_=>cases r with|ni=>have hf':eH a false _=true:=hf;simp[xO,iha _ _ hf']|_=>simp[eH]at hf
 |x u v=>intro ln t hf;cases ln with|false=>simp only[eH,decide_eq_true_eq]at hf;subst hf;rfl|true=>cases t<;>simp[eH]at hf
 |nl k=>intro ln t hf;cases ln<;>cases t<;>first|rfl|(simp[eH]at hf;done)|skip
 |_=>intro ln t hf;cases ln<;>cases t<;>first|rfl|(simp[eH]at hf;done)
section
variable{h:H2}
theorem pK{v:V}{u:Ty}{y:El u}{cs:List C}(hc:gX u v=some y)(hv:eY h v cs):cs=(aP u y).map .d:=by
 cases v with
 |x t v=>obtain⟨rfl,rfl⟩:=cE hc;exact hv.2
 |kb c=>obtain⟨rfl,rfl⟩:=cE (t:=.b) hc;exact hv
 |nl k=>
  cases k with
  |zero=>
   cases u<;>simp only[gX]at hc<;>first|cases hc;done|skip
   obtain rfl:=aa hc;exact hv
  |succ k=>simp[gX]at hc
 |fl l=>
  obtain⟨h1,rfl⟩:=hv;simp only[gX]at hc;cases ha:li u
  .rw [ha]at hc;simp at hc
  rw[ha,cond_true]at hc;split at hc
  .rename_i x hx;obtain rfl:=aa hc;obtain⟨p,rfl,e⟩:=G8 u _ _ _ hx h1;rw[e];simp[eQ]
  .simp at hc
 |_=>simp[gX]at hc
theorem iN:∀(v:V)(ln:Bool)(u:Ty)(y:El u)(cs:List C),kH v ln u=some y->eY h v cs->cs=(aP u y).map .d:=by
 intro v;induction v with
 |rc l ih=>
  intro ln u y cs hc hv;cases ln with
  |true=>cases u<;>simp[kH]at hc
  |false=>cases u with|st u=>exact ih true u y cs hc hv|_=>simp[kH,gX]at hc
 |co a r iha ihr=>
  intro ln u y cs hc hv;obtain⟨x1,x2,rfl,h1,h2⟩:=hv;cases ln with
  |false=>cases u<;>simp[kH,gX]at hc
  |true=>
   cases u with
   |pr t u=>
    simp only[kH]at hc;split at hc
    .rename_i p q hp hq;obtain rfl:=aa hc;rw[iha _ _ _ _ hp h1,ihr _ _ _ _ hq h2];simp[aP]
    .simp at hc
   |_=>cases r with|ni=>have hc':kH a false _=some y:=hc;obtain rfl:x2=[]:=h2;rw[bo];exact iha _ _ _ _ hc' h1|_=>simp[kH]at hc
 |_=>
  intro ln u y cs hc hv;cases ln with
  |true=>cases u<;>simp[kH]at hc
  |false=>first|exact pK hc hv|(simp[kH]at hc)
theorem C9{v:V}{u:Ty}{y:El u}(hc:gX u v=some y):tw v=li u:=by
 cases v with
 |x t v=>obtain⟨rfl,_⟩:=cE hc;rfl
 |kb c=>obtain⟨rfl,_⟩:=cE (t:=.b) hc;rfl
 |nl k=>
  cases k with
  |zero=>cases u<;>simp only[gX]at hc<;>first|rfl|cases hc
  |succ k=>simp[gX]at hc
 |fl l=>
  simp only[gX]at hc;cases ha:li u
  .rw [ha]at hc;simp at hc
  .rfl
 |_=>simp[gX]at hc
theorem wv{v:V}{u:Ty}{y:El u}(hc:rx u v=some y):tw v=li u:=by
 cases v with
 |rc l=>cases u with|st u=>rfl|_=>simp[rx,kH,gX]at hc
 |co a r=>cases u<;>simp[rx,kH,gX]at hc
 |ni=>cases u<;>simp[rx,kH]at hc
 |_=>exact C9 hc
theorem z6:∀(l:V)(t:Ty)(i:Nat)(w:V)(cs:List C),eH l true t=true->eY h l cs->ss l i=some w->
  ∃u cw,BA t i=some u/\eH w false u=true/\eY h w cw/\oN t i+bG u<=cs.length/\(cs.drop (oN t i)).take (bG u)=cw:=by
 intro l;induction l with
 |co a r iha ihr=>
  intro t i w cs hf hv hw;obtain⟨x,y,rfl,h1,h2⟩:=hv;have one:∀t,eH a false t=true->r=.ni->BA t 0=some t->oN t 0=0->i=0->∃u cw,BA t i=some u/\eH w false u=true/\eY h w cw/\oN t i+bG u<=(x++y).length/\((x++y).drop (oN t i)).take (bG u)=cw:=by intro t hf hr h3 h4 hi;subst hi;obtain rfl:=aa hw;have hs:=gH _ _ _ hf;have hl:=ic h1;refine⟨t,x,h3,hf,h1,by rw[h4];simp;omega,?_⟩;rw[h4,cM,<-hs,<-hl,List.take_left]
  cases t with
  |pr t u=>simp only[eH,ah]at hf;have hs:=gH _ _ _ hf.1;have hl:=ic h1;cases i with|zero=>obtain rfl:=aa hw;refine⟨t,x,rfl,hf.1,h1,by simp[oN];omega,?_⟩;simp only[oN,cM];rw[<-hs,<-hl,List.take_left]|succ i=>obtain⟨u',cw,q1,q2,q3,q4,q5⟩:=ihr u i w y hf.2 h2 hw;refine⟨u',cw,q1,q2,q3,by simp only[oN,bm];omega,?_⟩;simp only[oN];rw[<-dU,<-hs,<-hl,List.drop_left,q5]
  |_=>
   cases r with
   |ni=>have hf':eH a false _=true:=hf;cases i with|zero=>exact one _ hf' rfl rfl rfl rfl|succ i=>simp[ss]at hw
   |_=>simp[eH]at hf
 |_=>intro t i w cs hf hv hw;simp[ss]at hw
theorem zZ:∀(l:V)(t:Ty)(i:Nat)(w:V)(cs cw:List C)(u:Ty),eH l true t=true->eY h l cs->BA t i=some u->eY h w cw->cw.length=bG u->(∃w0,ss l i=some w0)->eY h (H4 l i w) (aU cs (oN t i) cw):=by
 intro l;induction l with
 |co a r iha ihr=>
  intro t i w cs cw u hf hv hu hw hlen hn;obtain⟨x,y,rfl,h1,h2⟩:=hv;cases t with
  |pr t u'=>simp only[eH,ah]at hf;have hs:=gH _ _ _ hf.1;have hl:=ic h1;cases i with|zero=>obtain rfl:=aa hu;refine⟨cw,y,?_,hw,h2⟩;simp only[oN];rw[tH (by omega),mr (by omega)]|succ i=>have:=ihr u' i w y cw u hf.2 h2 hu hw hlen hn;refine⟨x,_,?_,h1,this⟩;simp only[oN];rw[<-hs,<-hl,tJ]
  |_=>
   cases r with
   |ni=>cases i with|zero=>obtain rfl:=aa hu;have hf':eH a false _=true:=hf;have hs:=gH _ _ _ hf';have hl:=ic h1;obtain rfl:y=[]:=h2;refine⟨cw,[],?_,hw,rfl⟩;simp only[oN,bo];rw[mr (by omega)]|succ i=>obtain⟨w0,hn⟩:=hn;simp[ss]at hn
   |_=>simp[eH]at hf
 |_=>intro t i w cs cw u hf hv hu hw hlen hn;obtain⟨w0,hn⟩:=hn;simp[ss]at hn
theorem AG:∀(t:Ty)(v:El t),jW t=true->eY h (F0 t v) ((aP t v).map .d):=by intro t;induction t with|pr a c iha ihc=>intro v hd;simp only[jW,ah]at hd;exact⟨(aP a v.1).map .d,(aP c v.2).map .d,by simp[aP],⟨hd.1,rfl⟩,ihc v.2 hd.2⟩|_=>intro v hd;exact⟨_,[],(bo _).symm,⟨hd,rfl⟩,rfl⟩
theorem Ki:∀(t:Ty)(v:El t),eH (F0 t v) true t=true:=by intro t;induction t with|pr a c iha ihc=>intro v;simp[F0,eH,ihc]|_=>intro v;simp[F0,eH]
theorem Kh:∀(t:Ty)(v:El t)(i:Nat)(w:V),zA t v i=some w->ss (F0 t v) i=some w:=by
 intro t;induction t with
 |pr a c iha ihc=>intro v i w hw;cases i with|zero=>exact hw|succ i=>exact ihc v.2 i w hw
 |_=>intro v i w hw;cases i with|zero=>exact hw|succ i=>simp[zA]at hw
theorem yM:∀(t:Ty)(i:Nat)(u:Ty),jW t=true->BA t i=some u->jW u=true:=by
 intro t;induction t with
 |pr a c iha ihc=>intro i u hd hu;simp only[jW,ah]at hd;cases i with|zero=>obtain rfl:=aa hu;exact hd.1|succ i=>exact ihc i u hd.2 hu
 |_=>intro i u hd hu;cases i with|zero=>obtain rfl:=aa hu;exact hd|succ i=>simp[BA]at hu
theorem v8:∀(p:pS)(t u:Ty),ru t p=some u->Gr t p->mJ t p+bG u<=bG t:=by
 intro p;induction p with
 |nil=>
  intro t u hu _;have e2:ru t []=some t:=by cases t<;>rfl
  have e:mJ t []=0:=by cases t<;>rfl
  obtain rfl:t=u:=by rw[e2]at hu;exact aa hu
  omega
 |cons q p ih=>
  intro t u hu hp;cases q with
  |fd i=>cases t with|st t=>obtain⟨a,ha,hp⟩:=hp;simp only[ru,ha]at hu;have:=ih a u hu hp;have:=Nj t i a ha;simp only[mJ,ha,bG];omega|_=>exact hp.elim
  |ix k=>cases t with|ar n t=>obtain⟨hk,hp⟩:=hp;have:=ih t u hu hp;have h2:(k+1)*bG t<=n*bG t:=aI _ hk;rw[bK]at h2;simp only[mJ,bG];omega|_=>exact hp.elim
theorem wm:∀(p:pS)(c:V)(t:Ty)(w:V)(cs:List C),eH c false t=true->eY h c cs->Gr t p->pF c p=some w->
  ∃u cw,ru t p=some u/\eH w false u=true/\eY h w cw/\mJ t p+bG u<=cs.length/\(cs.drop (mJ t p)).take (bG u)=cw:=by
 intro p;induction p with
 |nil=>
  intro c t w cs hf hv _ hw;obtain rfl:c=w:=by simpa[pF]using hw
  have hs:=gH _ _ _ hf;have hl:=ic hv;refine⟨t,cs,by cases t<;>rfl,hf,hv,?_,?_⟩
  .cases t<;>simp[mJ]<;>omega
  .have e:mJ t []=0:=by cases t<;>rfl
   rw[e,cM,bZ (by omega)]
 |cons q p ih=>
  intro c t w cs hf hv hp hw
  have sub:∀(o n:Nat)(c2:V)(u:Ty)(c3:List C),eH c2 false u=true->eY h c2 c3->(cs.drop o).take (bG u)=c3->o+bG u<=cs.length->Gr u p->pF c2 p=some w->ru t (q::p)=ru u p->mJ t (q::p)=o+mJ u p->
    ∃u cw,ru t (q::p)=some u/\eH w false u=true/\eY h w cw/\mJ t (q::p)+bG u<=cs.length/\(cs.drop (mJ t (q::p))).take (bG u)=cw:=by
   intro o n c2 u c3 hf2 hv2 h3 h4 h5 h6 h7 h8;obtain⟨u',cw,q1,q2,q3,q4,q5⟩:=ih c2 u w c3 hf2 hv2 h5 h6;have hl:=ic hv2;rw[gH _ _ _ hf2]at hl;refine⟨u',cw,h7.trans q1,q2,q3,by rw[h8];omega,?_⟩;rw[h8,<-q5,<-h3,<-dU];rw[List.drop_take,List.take_take];congr 1;omega
  cases q with
  |fd i=>
   cases t with
   |st t=>
    obtain⟨u,hu,hp⟩:=hp;have e7:ru (.st t) (.fd i::p)=ru u p:=by simp only[ru,hu]
    have e8:mJ (.st t) (.fd i::p)=oN t i+mJ u p:=by simp only[mJ,hu]
    cases c with
    |x t' v=>
     simp only[eH,decide_eq_true_eq]at hf;subst hf;obtain⟨hd,rfl⟩:=hv;simp only[pF]at hw;split at hw
     .rename_i y hy;obtain⟨u',y',rfl,h1,h2,h3⟩:=ra _ _ _ _ hy;obtain rfl:u=u':=by rw[hu]at h1;exact aa h1
      refine sub (oN t i) 0 (.x u y') u ((aP u y').map .d) (by simp[eH]) ⟨yM t _ _ hd hu,rfl⟩ ?_ ?_ hp hw e7 e8
      .rw [<-h3,f_,fI];rfl
      .simp [bH,bG];exact h2
     .simp at hw
    |rc l=>
     simp only[pF]at hw;split at hw
     .rename_i y hy;obtain⟨u',cw,q1,q2,q3,q4,q5⟩:=z6 l t i y cs hf hv hy;obtain rfl:u=u':=by rw[hu]at q1;exact aa q1
      exact sub (oN t i) 0 y u cw q2 q3 q5 q4 hp hw e7 e8
     .simp at hw
    |_=>simp[pF]at hw
   |_=>exact hp.elim
  |ix k=>
   cases t with
   |ar n t=>
    obtain⟨hk,hp⟩:=hp;cases c with
    |x t' v=>
     simp only[eH,decide_eq_true_eq]at hf;subst hf;obtain⟨hd,rfl⟩:=hv;simp only[pF]at hw;have hk':k<v.1.length:=by rw[v.2];exact hk
     have hg:=yF (bH t) v.1 k hk';refine sub (k*bG t) 0 (.x t (gt v.1 k)) t ((aP t (gt v.1 k)).map .d) (by simp[eH]) ⟨hd,rfl⟩ ?_ ?_ hp hw rfl rfl
     .rw [<-hg,f_,fI];rfl
     .simp only[aR,bH,bG];have:(k+1)*bG t<=n*bG t:=aI _ hk;rw[bK]at this;omega
    |_=>simp[pF]at hw
   |_=>exact hp.elim
theorem F5:∀(t:Ty)(v:El t)(i:Nat)(w:V)(v':El t),F6 t v i w=some v'->∃u z,BA t i=some u/\gX u w=some z/\aP t v'=aU (aP t v) (oN t i) (aP u z):=by
 intro t;induction t with
 |pr a c iha ihc=>
  intro v i w v' hs;cases i with
  |zero=>
   simp only[F6]at hs;split at hs
   .rename_i y hy;obtain rfl:=aa hs;refine⟨a,y,rfl,hy,?_⟩;simp only[aP,oN];rw[tH (by simp[bH]),mr (by simp[bH])]
   .simp at hs
  |succ i=>
   simp only[F6]at hs;split at hs
   .rename_i y hy;obtain rfl:=aa hs;obtain⟨u,z,h1,h2,h3⟩:=ihc _ _ _ _ hy;refine⟨u,z,h1,h2,?_⟩;simp only[aP,oN,h3];have:=tJ (a:=aP a v.1) (b:=aP c v.2) (off:=oN c i) (p:=aP u z);rw[bH]at this;rw[this]
   .simp at hs
 |_=>intro v i w v' hs;cases i with|zero=>have hs':gX _ w=some v':=hs;exact⟨_,v',rfl,hs',by simp only[oN];rw[mr (by simp[bH])]⟩|succ i=>simp[F6]at hs
theorem vV:∀(p:pS)(c:V)(t:Ty)(w c':V)(cs cw:List C)(u:Ty),eH c false t=true->eY h c cs->Gr t p->oz c p w=some c'->ru t p=some u->eY h w cw->cw.length=bG u->
  eY h c' (aU cs (mJ t p) cw):=by
 intro p;induction p with
 |nil=>
  intro c t w c' cs cw u hf hv _ hs hu hw hlen;obtain rfl:w=c':=by simpa[oz]using hs
  have e:mJ t []=0:=by cases t<;>rfl
  have e2:ru t []=some t:=by cases t<;>rfl
  obtain rfl:t=u:=by rw[e2]at hu;exact aa hu
  have:=ic hv;rw[gH _ _ _ hf]at this;rw[e,mr (by omega)];exact hw
 |cons q p ih=>
  intro c t w c' cs cw u hf hv hp hs hu hw hlen;cases q with
  |fd i=>
   cases t with
   |st t=>
    obtain⟨a,ha,hp⟩:=hp;have hu':ru a p=some u:=by simpa only[ru,ha]using hu
    have e8:mJ (.st t) (.fd i::p)=oN t i+mJ a p:=by simp only[mJ,ha]
    cases c with
    |x t' v=>
     simp only[eH,decide_eq_true_eq]at hf;subst hf;obtain⟨hd,rfl⟩:=hv;simp only[oz]at hs;split at hs
     .rename_i y hy;split at hs
      .rename_i y1 hy1;obtain⟨a',z,rfl,h1,h2,h3⟩:=ra _ _ _ _ hy;obtain rfl:a=a':=by rw[ha]at h1;exact aa h1
       have hz:eY h (.x a z) ((aP a z).map .d):=⟨yM t _ _ hd ha,rfl⟩
       have h4:=ih (.x a z) a w y1 ((aP a z).map .d) cw u (by simp[eH]) hz hp hy1 hu' hw hlen;have hle:mJ a p+cw.length<=bG a:=by have:=v8 p a u hu' hp;omega
       have h5:((aP (.st t) v).map C.d|>.drop (oN t i)).take (bG a)=(aP a z).map .d:=by rw[<-h3,f_,fI];rfl
       have h6:aU ((aP (.st t) v).map C.d) (oN t i+mJ a p) cw=aU ((aP (.st t) v).map C.d) (oN t i) (aU ((aP a z).map .d) (mJ a p) cw):=(qt h5 (by simp[bH,bG];exact h2) hle).symm;rw[e8,h6];split at hs
       .rename_i v' hv';obtain rfl:=aa hs;obtain⟨a2,z2,k1,k2,k3⟩:=F5 _ _ _ _ _ hv';obtain rfl:a=a2:=by rw[ha]at k1;exact aa k1
        refine⟨hd,?_⟩;have:=pK k2 h4;rw[this];show _=(aP t v').map C.d;rw[k3,uC];rfl
       .obtain rfl:=aa hs;refine zZ (F0 t v) t i y1 _ _ a (Ki t v) (AG t v hd) ha h4 ?_ ⟨_,Kh t v i _ hy⟩;rw[uD (by simp[bH];exact hle)];simp[bH]
      .simp at hs
     .simp at hs
    |rc l=>
     simp only[oz]at hs;split at hs
     .rename_i y hy;split at hs
      .rename_i y1 hy1;obtain rfl:=aa hs;obtain⟨a',cw2,q1,q2,q3,q4,q5⟩:=z6 l t i y cs hf hv hy;obtain rfl:a=a':=by rw[ha]at q1;exact aa q1
       have h4:=ih y a w y1 cw2 cw u q2 q3 hp hy1 hu' hw hlen;have hl:=ic q3;rw[gH _ _ _ q2]at hl;have hle:mJ a p+cw.length<=bG a:=by have:=v8 p a u hu' hp;omega
       rw[e8,<-qt q5 q4 hle];exact zZ l t i y1 cs _ a hf hv ha h4 (by rw[uD (by omega),hl]) ⟨_,hy⟩
      .simp at hs
     .simp at hs
    |_=>simp[oz]at hs
   |_=>exact hp.elim
  |ix k=>
   cases t with
   |ar n t=>
    obtain⟨hk,hp⟩:=hp;have hu':ru t p=some u:=hu;cases c with
    |x t' v=>
     simp only[eH,decide_eq_true_eq]at hf;subst hf;obtain⟨hd,rfl⟩:=hv;simp only[oz]at hs;split at hs
     .rename_i y1 hy1;split at hs
      .rename_i z hz;obtain rfl:=aa hs;have hk':k<v.1.length:=by rw[v.2];exact hk
       have hg:=yF (bH t) v.1 k hk';have h4:=ih (.x t (gt v.1 k)) t w y1 ((aP t (gt v.1 k)).map .d) cw u (by simp[eH]) ⟨hd,rfl⟩ hp hy1 hu' hw hlen;have h7:=pK hz h4;have hle:mJ t p+cw.length<=bG t:=by have:=v8 p t u hu' hp;omega
       have h5:((aP (.ar n t) v).map C.d|>.drop (k*bG t)).take (bG t)=(aP t (gt v.1 k)).map .d:=by rw[<-hg,f_,fI];rfl
       have h8:k*bG t+bG t<=((aP (.ar n t) v).map C.d).length:=by simp only[aR,bH,bG];have:(k+1)*bG t<=n*bG t:=aI _ hk;rw[bK]at this;omega
       refine⟨hd,?_⟩;show aU _ (k*bG t+mJ t p) cw=_;rw[<-qt h5 h8 hle,h7,<-uC];show _=((v.1.set k z).flatMap (aP t)).map C.d;rw[Ja (bH t) v.1 k z hk'];rfl
      .simp at hs
     .simp at hs
    |_=>simp[oz]at hs
   |_=>exact hp.elim
theorem xr{n:Nat}:∀(l:V)(i:Nat)(w:V),eW n h l->ss l i=some w->eW n h w:=by
 intro l;induction l with
 |co a r iha ihr=>intro i w hk hw;cases i with|zero=>obtain rfl:=aa hw;exact hk.1|succ i=>exact ihr i w hk.2 hw
 |_=>intro i w hk hw;simp[ss]at hw
theorem Fb{n:Nat}:∀(l:V)(i:Nat)(w:V),eW n h l->eW n h w->eW n h (H4 l i w):=by
 intro l;induction l with
 |co a r iha ihr=>intro i w hk hw;cases i with|zero=>exact⟨hw,hk.2⟩|succ i=>exact⟨hk.1,ihr i w hk.2 hw⟩
 |_=>intro i w hk hw;exact hk
theorem FE{n:Nat}{t:Ty}{v:El t}{i:Nat}{w:V}(hw:zA t v i=some w):eW n h w:=by obtain⟨u,y,rfl,_⟩:=ra _ _ _ _ hw;trivial
theorem Dw{n:Nat}:∀(t:Ty)(v:El t),eW n h (F0 t v):=by intro t;induction t with|pr a c iha ihc=>intro v;exact⟨trivial,ihc v.2⟩|_=>intro v;exact⟨trivial,trivial⟩
theorem A6{n:Nat}:∀(p:pS)(c w:V),eW n h c->pF c p=some w->eW n h w:=by
 intro p;induction p with
 |nil=>intro c w hk hw;obtain rfl:c=w:=by simpa[pF]using hw
       exact hk
 |cons q p ih=>
  intro c w hk hw;cases q with
  |fd i=>
   cases c with
   |x t v=>
    cases t with
    |st t=>
     simp only[pF]at hw;split at hw
     .rename_i y hy;exact ih y w (FE hy) hw
     .simp at hw
    |_=>simp[pF]at hw
   |rc l=>
    simp only[pF]at hw;split at hw
    .rename_i y hy;exact ih y w (xr l _ _ hk hy) hw
    .simp at hw
   |_=>simp[pF]at hw
  |ix k=>
   cases c with
   |x t v=>cases t with|ar m t=>exact ih (.x t (gt v.1 k)) w trivial hw|_=>simp[pF]at hw
   |_=>simp[pF]at hw
theorem E6{n:Nat}:∀(p:pS)(c w c':V),eW n h c->eW n h w->oz c p w=some c'->eW n h c':=by
 intro p;induction p with
 |nil=>intro c w c' _ hw hs;obtain rfl:w=c':=by simpa[oz]using hs
       exact hw
 |cons q p ih=>
  intro c w c' hk hw hs;cases q with
  |fd i=>
   cases c with
   |x t v=>
    cases t with
    |st t=>
     simp only[oz]at hs;split at hs
     .rename_i y hy;split at hs
      .rename_i y1 hy1;split at hs
       .obtain rfl:=aa hs;trivial
       .obtain rfl:=aa hs;exact Fb _ _ _ (Dw t v) (ih y w y1 (FE hy) hw hy1)
      .simp at hs
     .simp at hs
    |_=>simp[oz]at hs
   |rc l=>
    simp only[oz]at hs;split at hs
    .rename_i y hy;split at hs
     .rename_i y1 hy1;obtain rfl:=aa hs;exact Fb l _ _ hk (ih y w y1 (xr l _ _ hk hy) hw hy1)
     .simp at hs
    .simp at hs
   |_=>simp[oz]at hs
  |ix k=>
   cases c with
   |x t v=>
    cases t with
    |ar m t=>
     simp only[oz]at hs;split at hs
     .split at hs
      .obtain rfl:=aa hs;trivial
      .simp at hs
     .simp at hs
    |_=>simp[oz]at hs
   |_=>simp[oz]at hs
end
section
variable{h:H2}{n:Nat}{h1:bh}
theorem dM{v:V}{c:C}(ha:tw v=false)(hc:eY h v [c]):sF h v (.c c):=⟨[c],hc,fun e=>(by rw[ha]at e;cases e),fun _=>⟨c,rfl,rfl⟩⟩
theorem xI{v:V}{cs:List C}(ha:tw v=true)(hc:eY h v cs):sF h v (.agg cs):=⟨cs,hc,fun _=>rfl,fun e=>(by rw[ha]at e;cases e)⟩
theorem iS{v:V}{x:TV}(hx:sF h v x)(ha:tw v=false):∃c,x=.c c/\eY h v [c]:=by obtain⟨cs,h1,_,h2⟩:=hx;obtain⟨c,rfl,rfl⟩:=h2 ha;exact⟨c,rfl,h1⟩
theorem qP{v:V}{x:TV}(hx:sF h v x):∃cs,eY h v cs/\cellsOf x=some cs:=by obtain⟨cs,h1,h2,h3⟩:=hx;refine⟨cs,h1,?_⟩;cases ha:tw v with|true=>rw[h2 ha];rfl|false=>obtain⟨c,rfl,rfl⟩:=h3 ha;rfl
theorem jU{k:IntKind}{a:Int}{x:TV}(hx:ft h (.x (.i k) a) x):x=tI k a:=by obtain⟨c,rfl,_,hc⟩:=iS (v:=.x (.i k) a) hx rfl;obtain rfl:=(cf hc).1;rfl
theorem E2{a:Bool}{x:TV}(hx:ft h (.x .b a) x):x=tB a:=by obtain⟨c,rfl,_,hc⟩:=iS (v:=.x .b a) hx rfl;obtain rfl:=(cf hc).1;rfl
theorem wI{a:ByteArray}{x:TV}(hx:ft h (.x .s a) x):x=.c (.d (dS a)):=by obtain⟨c,rfl,_,hc⟩:=iS (v:=.x .s a) hx rfl;obtain rfl:=(cf hc).1;rfl
theorem xF{t:Ty}{s:Sl (El t)}{x:TV}(hx:ft h (.x (.sl t) s) x):x=.c (.d (vU (bG t) (aP t) s)):=by obtain⟨c,rfl,_,hc⟩:=iS (v:=.x (.sl t) s) hx rfl;obtain rfl:=(cf hc).1;rfl
theorem vP{a:Bool}{x:TV}(hx:ft h (.kb a) x):x=tB a:=by obtain⟨c,rfl,hc⟩:=iS (v:=.kb a) hx rfl;obtain rfl:=(cf hc).1;rfl
theorem uA{k:Nat}{x:TV}(hx:ft h (.nl k) x):x=.c (z7 k):=by obtain⟨c,rfl,hc⟩:=iS (v:=.nl k) hx rfl;obtain rfl:=(cf hc).1;rfl
theorem xG{t:Ty}{a:El t}{x:TV}(hx:ft h (.pt t a) x):jW t=true/\x=.c (.d (.pt (aP t a))):=by obtain⟨c,rfl,hd,hc⟩:=iS (v:=.pt t a) hx rfl;obtain rfl:=(cf hc).1;exact⟨hd,rfl⟩
theorem vO{id:Nat}{t:Ty}{p:pS}{x:TV}(hx:ft h (.op id t p) x):x=.c (.op id (mJ t p)):=by obtain⟨c,rfl,hc⟩:=iS (v:=.op id t p) hx rfl;obtain rfl:=(cf hc).1;rfl
theorem sE{id m:Nat}{t:Ty}{p:pS}{x:TV}(hx:ft h (.ep id m t p) x):x=.c (.ep id m (mJ t p)):=by obtain⟨c,rfl,hc⟩:=iS (v:=.ep id m t p) hx rfl;obtain rfl:=(cf hc).1;rfl
theorem xH{id:Nat}{x:TV}(hx:ft h (.om id) x):x=.c (.om id):=by obtain⟨c,rfl,hc⟩:=iS (v:=.om id) hx rfl;obtain rfl:=(cf hc).1;rfl
theorem rB{id:Nat}{c:C}{x:TV}(hx:ft h (.so id) x)(hc:zQ id (fO h id)=some c):x=.c c:=by obtain⟨c',rfl,c2,h2,h3⟩:=iS (v:=.so id) hx rfl;obtain rfl:=(cf h2).1;rw[h3.1 c hc]
theorem AE{id:Nat}{c:C}{x:TV}(hx:ft h (.sr id) x)(hc:zg id (fO h id)=some c):x=.c c:=by obtain⟨c',rfl,c2,h2,h3⟩:=iS (v:=.sr id) hx rfl;obtain rfl:=(cf h2).1;rw[h3.1 c hc]
theorem sI{id:Nat}{t:Ty}{s:Sl (Sl (El t))}{ln:Option (Nat×Nat)}(ho:fO h id=some (.rw t s ln)):zg id (fO h id)=some (kr 1 (aP (.sl t)) id s):=by rw[ho];rfl
theorem qo{id ver lo:Nat}{t:Ty}{r:Sl (El t)}{x:TV}(hx:ft h (.sb id ver lo t r) x)(ha:ig h (.sb id ver lo t r)=true):x=.c (xp id lo t r):=by obtain⟨c',rfl,c2,h2,h3⟩:=iS (v:=.sb id ver lo t r) hx rfl;obtain rfl:=(cf h2).1;rw[h3.1 (Bool.and_eq_true_iff.1 ha).2]
theorem Du{z:Bool}{f:Nat}{l:V}{x:TV}(hx:ft h (.fn z f l) x):(z=true/\∃ds,qD l=some ds/\x=.c (.d (.fn f ds)))\/(z=false/\∃cs,eY h l cs/\x=.c (.oL f cs)):=by obtain⟨c',rfl,hc⟩:=iS (v:=.fn z f l) hx rfl;cases z with|true=>obtain⟨ds,h2,h3⟩:=hc;exact .inl ⟨rfl,ds,h2,by rw[(cf h3).1]⟩|false=>obtain⟨ds,h2,h3⟩:=hc;exact .inr ⟨rfl,ds,h2,by rw[(cf h3).1]⟩
theorem Mv{l:V}{x:TV}(hx:ft h (.tp l) x):∃xs,x=.gB xs/\AF h l xs:=hx
def KE:V->Prop
 |.tp _|.no|.gn=>False
 |_=>True
theorem oK{v:V}{x:TV}(hv:KE v)(hx:ft h v x):sF h v x:=by cases v<;>first|exact hx|exact hv.elim
theorem bU{v:V}{x:TV}(hx:sF h v x):ft h v x:=by cases v<;>first|exact hx|(obtain⟨cs,hc,_⟩:=hx;exact hc.elim)
theorem Mf{v:V}{u:Ty}{y:El u}(hc:rx u v=some y):KE v:=by cases v<;>first|trivial|(simp[rx,kH,gX]at hc)
theorem tZ{v:V}{u:Ty}{y:El u}{x:TV}(hx:ft h v x)(hc:rx u v=some y):(li u=true->x=.agg ((aP u y).map .d))/\(li u=false->∃d,aP u y=[d]/\x=.c (.d d)):=by
 obtain⟨cs,h2,h3,h4⟩:=oK (Mf hc) hx;have h5:=iN v false u y cs hc h2;have ha:=wv hc;constructor
 .intro hu;rw[h3 (ha.trans hu),h5]
 .intro hu;obtain⟨c,rfl,rfl⟩:=h4 (ha.trans hu);cases he:aP u y with
  |nil=>rw[he]at h5;simp at h5
  |cons d ds=>
   rw[he]at h5;simp only[List.map_cons,List.cons.injEq]at h5;obtain⟨rfl,h6⟩:=h5;have:ds=[]:=by simpa using h6.symm
   subst this;exact⟨d,rfl,rfl⟩
theorem Me{v:V}{x:TV}{a:Bool}(hx:ft h v x)(hc:rx .b v=some a):x=tB a:=by obtain⟨d,h1,rfl⟩:=(tZ hx hc).2 rfl;obtain rfl:=(cf h1).1;rfl
def l9(h:H2):List V->List TV->Prop
 |[],[]=>True
 |v::vs,x::xs=>ft h v x/\l9 h vs xs
 |_,_=>False
theorem kR{xs:List TV}(hx:l9 h [] xs):xs=[]:=by cases xs<;>first|rfl|exact hx.elim
theorem fT{v:V}{vs:List V}{xs:List TV}(hx:l9 h (v::vs) xs):∃x ys,xs=x::ys/\ft h v x/\l9 h vs ys:=by cases xs with|nil=>exact hx.elim|cons x ys=>exact⟨x,ys,rfl,hx.1,hx.2⟩
theorem gS{v:V}{xs:List TV}(hx:l9 h [v] xs):∃x,xs=[x]/\ft h v x:=by obtain⟨x,ys,rfl,h1,h2⟩:=fT hx;obtain rfl:=kR h2;exact⟨x,rfl,h1⟩
theorem hC{v w:V}{xs:List TV}(hx:l9 h [v,w] xs):∃x y,xs=[x,y]/\ft h v x/\ft h w y:=by obtain⟨x,ys,rfl,h1,h2⟩:=fT hx;obtain⟨y,rfl,h3⟩:=gS h2;exact⟨x,y,rfl,h1,h3⟩
theorem HG{v w z:V}{xs:List TV}(hx:l9 h [v,w,z] xs):∃x y u,xs=[x,y,u]/\ft h v x/\ft h w y/\ft h z u:=by obtain⟨x,ys,rfl,h1,h2⟩:=fT hx;obtain⟨y,u,rfl,h3⟩:=hC h2;exact⟨x,y,u,rfl,h1,h3⟩
theorem HF:∀{vs:List V}{xs:List TV},l9 h vs xs->(∀v∈vs,KE v/\tw v=false)->∃cs,eY h (eU vs) cs/\xs=cs.map TV.c:=by intro vs;induction vs with|nil=>intro xs hx _;obtain rfl:=kR hx;exact⟨[],rfl,rfl⟩|cons v vs ih=>intro xs hx hv;obtain⟨x,ys,rfl,h1,h2⟩:=fT hx;obtain⟨hp,ha⟩:=hv v (by simp);obtain⟨c,rfl,h3⟩:=iS (oK hp h1) ha;obtain⟨cs,h4,rfl⟩:=ih h2 fun w hw=>hv w (by simp[hw]);exact⟨c::cs,⟨[c],cs,rfl,h3,h4⟩,rfl⟩
theorem uF{id:Nat}{q:(t:Ty)×Sl (El t)×List Nat}(hs:t9 h (.so id)=some q):∃ver,(fO h id=some (.ar q.1 q.2.1 ver)\/fO h id=some (.im q.1 q.2.1 ver))/\q.2.2=[id]:=by
 simp only[t9]at hs;split at hs
 .rename_i t s v ho;obtain rfl:=aa hs;exact⟨v,.inl ho,rfl⟩
 .rename_i t s v ho;obtain rfl:=aa hs;exact⟨v,.inr ho,rfl⟩
 .simp at hs
theorem lF{id ver:Nat}{t:Ty}{s:Sl (El t)}(ho:fO h id=some (.ar t s ver)\/fO h id=some (.im t s ver)):zQ id (fO h id)=some (kr (bG t) (aP t) id s):=by rcases ho with ho|ho<;>rw[ho]<;>rfl
theorem M7{id lo nx:Nat}{t:Ty}{r:Sl (El t)}{c:Call}{H:bh}:bX c (.len false) [some (.c (xp id lo t r))] H nx=some (tI .i64 r.l.length,[],[],nx):=by cases r with|nil=>rfl|mk l=>simp[bX,uo,xp,Sl.l,lv]
theorem M5{v:V}{x:TV}{q:(t:Ty)×Sl (El t)×List Nat}{c:Call}{H:bh}{nx:Nat}(hx:ft h v x)(ha:ig h v=true)(hs:t9 h v=some q):
  bX c (.len false) [some x] H nx=some (tI .i64 q.2.1.l.length,[],[],nx):=by
 cases v with
 |x t s=>cases t with|sl t=>obtain rfl:=aa hs;rw[xF hx];exact M6|_=>simp[t9]at hs
 |so id=>obtain⟨ver,ho,_⟩:=uF hs;rw[rB hx (lF ho)];exact L9
 |sb id ver lo t r=>obtain rfl:=aa hs;rw[qo hx ha];exact M7
 |_=>simp[t9]at hs
theorem IR{id lo nx:Nat}{t:Ty}{r:Sl (El t)}{c:Call}{H:bh}{neg:Bool}:bX c (.rg 0 neg) [some (.c (xp id lo t r))] H nx=some (tB (if neg then !r.eS else r.eS),[],[],nx):=by cases r<;>rfl
theorem MY{v:V}{x:TV}{q:(t:Ty)×Sl (El t)×List Nat}{c:Call}{H:bh}{nx:Nat}{neg:Bool}(hx:ft h v x)(ha:ig h v=true)(hs:t9 h v=some q):
  bX c (.rg 0 neg) [some x] H nx=some (tB (if neg then !q.2.1.eS else q.2.1.eS),[],[],nx):=by
 cases v with
 |x t s=>cases t with|sl t=>obtain rfl:=aa hs;rw[xF hx];exact MZ|_=>simp[t9]at hs
 |so id=>obtain⟨ver,ho,_⟩:=uF hs;rw[rB hx (lF ho)];exact Po
 |sb id ver lo t r=>obtain rfl:=aa hs;rw[qo hx ha];exact IR
 |_=>simp[t9]at hs
theorem od{g:Bool}{m:Nat}{w:V}(hc:EF h g m w=true):tw w=g/\xO w=m/\(g=false->m=1)/\ig h w=true:=by
 simp only[EF,ah,beq_iff_eq,Bool.or_eq_true]at hc;obtain⟨⟨⟨h1,h2⟩,h3⟩,h4⟩:=hc;refine⟨h1,h2,fun e=>?_,h4⟩;rcases h3 with h3|h3
 .rw [e]at h3;cases h3
 .exact h3
theorem pB{g:Bool}{m off:Nat}{cs cw:List C}{w:V}(hc:EF h g m w=true)(hw:eY h w cw)(hle:off+m<=cs.length)(he:(cs.drop off).take m=cw):∃x,Cu g m (cs.drop off)=some x/\ft h w x:=by
 obtain⟨ha,hs,hm,_⟩:=od hc;cases g with
 |true=>refine⟨.agg cw,?_,bU (xI ha hw)⟩;simp only[Cu,if_true];rw[if_pos (by simp;omega),he]
 |false=>obtain rfl:=hm rfl;cases hd:cs.drop off with|nil=>have:=congrArg List.length hd;simp at this;omega|cons c r=>rw[hd]at he;subst he;exact⟨.c c,rfl,bU (dM ha hw)⟩
theorem A0{g:Bool}{m:Nat}{ds:List D}:L_ g m ds=Cu g m (ds.map .d):=by
 unfold L_ Cu;cases g
 .cases ds<;>simp
 .simp
theorem we{p w:V}{l:List Nat}{g:Bool}{m nx:Nat}{c:Call}{x:TV}(hr:HR n h1 h)(hl:yu h p=some (w,l))(hc:EF h g m w=true)(hx:ft h p x)(hok:eW n h p):
  ∃y,bX c (.load g m) [some x] h1 nx=some (y,[],l,nx)/\ft h w y/\eW n h w:=by
 cases p with
 |pt t v=>obtain⟨rfl,rfl⟩:=ad (aa hl);obtain⟨hd,rfl⟩:=xG hx;obtain⟨_,hs,_,_⟩:=od hc;have hs':bG t=m:=hs;obtain⟨y,h2,h3⟩:=pB (cs:=(aP t v).map .d) (off:=0) hc (show eY h (.x t v) ((aP t v).map .d)from⟨hd,rfl⟩) (by simp[bH];omega) (by rw[cM,bZ (by simp[bH];omega)]);refine⟨y,?_,h3,trivial⟩;rw[cM,<-A0]at h2;simp only[bX,gT,h2]
 |op id t p=>
  obtain rfl:=vO hx;simp only[yu]at hl;split at hl
  .rename_i u cc ho;obtain⟨_,hb,hko⟩:=hr.ob id _ ho;obtain⟨cs,h2,h3,h4⟩:=hb;by_cases hu:u=t
   .subst hu;simp only[decide_true,cond_true]at hl;split at hl
    .rename_i w' hw;obtain⟨rfl,rfl⟩:=ad (aa hl);obtain⟨a,cw,q1,q2,q3,q4,q5⟩:=wm p cc u w' cs h4 h3 hok.2 hw;obtain⟨_,hs,_,_⟩:=od hc;rw[gH _ _ _ q2]at hs;subst hs;obtain⟨y,h5,h6⟩:=pB hc q3 q4 q5;refine⟨y,?_,h6,A6 p cc w' hko hw⟩;simp only[bX,gT,h2,h5]
    .simp at hl
   .simp [hu]at hl
  .rename_i u v ho;obtain⟨_,hb,hko⟩:=hr.ob id _ ho;obtain⟨hd,h2⟩:=hb;by_cases hu:u=t
   .subst hu;simp only[decide_true,cond_true]at hl;split at hl
    .rename_i w' hw;obtain⟨rfl,rfl⟩:=ad (aa hl);obtain⟨a,cw,q1,q2,q3,q4,q5⟩:=wm (h:=h) p (.x u v) u w' ((aP u v).map .d) (by simp[eH]) ⟨hd,rfl⟩ hok.2 hw;obtain⟨_,hs,_,_⟩:=od hc;rw[gH _ _ _ q2]at hs;subst hs;obtain⟨y,h5,h6⟩:=pB hc q3 q4 q5;refine⟨y,?_,h6,A6 p (.x u v) w' trivial hw⟩;rw[<-fI,<-A0]at h5;simp only[bX,gT,h2,h5]
    .simp at hl
   .simp [hu]at hl
  .simp at hl
 |ep id k t p=>
  obtain rfl:=sE hx;obtain⟨_,hp,hk,_⟩:=hok
  have main:∀(u:Ty)(s:Sl (El u))(ver:Nat),(fO h id=some (.ar u s ver)\/fO h id=some (.im u s ver))->(bif decide (u=t)then(match pF (.x u (gt s.l k)) p with|some w=>some (w,[id])|none=>none)else none)=some (w,l)->
    ∃y,bX c (.load g m) [some (.c (.ep id k (mJ t p)))] h1 nx=some (y,[],l,nx)/\ft h w y/\eW n h w:=by
   intro u s ver ho hl;have hlt:=hk u s ver ho;by_cases hu:u=t
   .subst hu;simp only[decide_true,cond_true]at hl;split at hl
    .rename_i w' hw;obtain⟨rfl,rfl⟩:=ad (aa hl);cases s with
     |nil=>simp[Sl.l]at hlt
     |mk ls=>
     have hrow:(ls.map (aP u))[k]?=some (aP u (gt ls k)):=A3 hlt;have hd:jW u=true:=by rcases ho with ho|ho<;>exact(hr.ob id _ ho).2.1.1
     obtain⟨a,cw,q1,q2,q3,q4,q5⟩:=wm (h:=h) p (.x u (gt ls k)) u w' ((aP u (gt ls k)).map .d) (by simp[eH]) ⟨hd,rfl⟩ hp hw;obtain⟨_,hs,_,_⟩:=od hc;rw[gH _ _ _ q2]at hs;subst hs;obtain⟨y,h5,h6⟩:=pB hc q3 q4 q5;refine⟨y,?_,h6,A6 p (.x u (gt ls k)) w' trivial hw⟩;rw[<-fI,<-A0]at h5;rcases ho with ho|ho
     .have h2:=(hr.ob id _ ho).2.1.2.2 ls rfl;simp only[bX,gT,h2,hrow,h5]
     .have h2:=(hr.ob id _ ho).2.1.2.2 ls rfl;simp only[bX,gT,h2,hrow,h5]
    .simp at hl
   .simp [hu]at hl
  simp only[yu]at hl;split at hl
  .rename_i u s ver ho;exact main u s ver (.inl ho) hl
  .rename_i u s ver ho;exact main u s ver (.inr ho) hl
  .simp at hl
 |_=>simp[yu]at hl
end
end Go.Ev
