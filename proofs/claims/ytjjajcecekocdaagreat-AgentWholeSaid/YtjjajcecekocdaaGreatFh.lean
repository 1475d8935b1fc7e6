/- Typed data by codes: the types, the values that a frame holds, its objects, and how they are laid into the abstract machine's. Conditions: none, these are definitions. -/
import Derived.Test.YtjjajcecekocdaaGreatEvY
open Bool renaming and_eq_true->ak
open List renaming append_assoc->aR,append_nil->bv,drop_append_of_le_length->dX,drop_drop->dM,drop_length->jo,drop_zero->cL,flatMap_cons->bg,length_append->bi,length_map->aM,length_replicate->dT,map_drop->gm,map_take->gH,nil_append->bE,replicate->aA,take_append_drop->jy,take_of_length_le->bX
open List.cons renaming inj->cu
open Nat renaming add_assoc->dz,add_mul->b_,beq->mP,ble->g_,le_refl->am,mul_le_mul_right->aL
open Option.some renaming inj->aa
open Prod.mk renaming inj->af
open Sigma.mk renaming inj->jP
noncomputable section
namespace Go.Ev
inductive Ty where
 |i (k:IntKind)
 |b
 |s
 |f (k:FloatKind)
 |sl (t:Ty)
 |mp (k v:Ty)
 |un
 |pr (a c:Ty)
 |st (t:Ty)
 |ar (n:Nat) (t:Ty)
 |o (k:Nat)
 deriving Inhabited,DecidableEq
def Arr(n:Nat)(α:Type):Type:={l:List α//l.length=n}
def Arr.set{n:Nat}{α:Type}(v:Arr n α)(k:Nat)(x:α):Arr n α:=⟨v.1.set k x,by rw[List.length_set];exact v.2⟩
instance{n:Nat}{α:Type}[Inhabited α]:Inhabited (Arr n α):=⟨⟨aA n default,dT⟩⟩
instance{n:Nat}{α:Type}[DecidableEq α]:DecidableEq (Arr n α):=inferInstanceAs (DecidableEq {l:List α//l.length=n})
@[reducible] def El:Ty->Type
 |.i _=>Int
 |.b=>Bool
 |.s=>ByteArray
 |.f _=>Nat
 |.sl t=>Sl (El t)
 |.mp k v=>Mp (El k) (El v)
 |.un=>Unit
 |.pr a c=>El a×El c
 |.st t=>El t
 |.ar n t=>Arr n (El t)
 |.o _=>Unit
instance H3:(t:Ty)->Inhabited (El t)
 |.i _=>⟨(0:Int)⟩
 |.b=>⟨false⟩
 |.s=>⟨(default:ByteArray)⟩
 |.f _=>⟨(0:Nat)⟩
 |.sl _=>⟨Sl.nil⟩
 |.mp _ _=>⟨Mp.none⟩
 |.un=>⟨()⟩
 |.pr a c=>⟨((H3 a).default,(H3 c).default)⟩
 |.st t=>H3 t
 |.ar n t=>⟨⟨aA n (H3 t).default,dT⟩⟩
 |.o _=>⟨()⟩
def mx:(t:Ty)->El t
 |.i _=>(0:Int)
 |.b=>false
 |.s=>(ByteArray.empty)
 |.f _=>(0:Nat)
 |.sl _=>Sl.nil
 |.mp _ _=>Mp.none
 |.un=>()
 |.pr a c=>(mx a,mx c)
 |.st t=>mx t
 |.ar n t=>⟨aA n (mx t),dT⟩
 |.o _=>()
def gC(t u:Ty)(v:El t):Option (El u):=if h:t=u then some (h▸v)else none
def ce:Ty->Nat
 |.un=>0
 |.pr a c=>ce a+ce c
 |.st t=>ce t
 |.ar n t=>n*ce t
 |_=>1
def kQ:Ty->Bool
 |.o _|.mp _ _=>false
 |.pr a c=>kQ a&&kQ c
 |.st t|.ar _ t|.sl t=>kQ t
 |_=>true
def lQ:Ty->Bool
 |.st _|.ar _ _=>true
 |_=>false
def aS:(t:Ty)->El t->List D
 |.i k,x=>[.lit (.int k x)]
 |.b,x=>[.lit (.bool x)]
 |.s,x=>[.lit (.string x)]
 |.f k,x=>[.lit (.float k x)]
 |.sl t,x=>[wL (ce t) (aS t) x]
 |.mp _ _,_=>[.lit .nilFunc]
 |.un,_=>[]
 |.pr a c,x=>aS a x.1++aS c x.2
 |.st t,x=>aS t x
 |.ar _ t,x=>x.1.flatMap (aS t)
 |.o _,_=>[.lit .nilFunc]
inductive Pe where
 |fd (i:Nat)
 |ix (n:Nat)
abbrev qo:=List Pe
inductive V where
 |x (t:Ty) (v:El t)
 |kb (c:Bool)
 |nl (k:Nat)
 |so (id:Nat)
 |sr (id:Nat)
 |sb (id ver lo:Nat) (t:Ty) (r:Sl (El t))
 |op (id:Nat) (t:Ty) (p:qo)
 |ep (id n:Nat) (t:Ty) (p:qo)
 |pt (t:Ty) (v:El t)
 |fn (z:Bool) (f:Nat) (caps:V)
 |om (id:Nat)
 |rc (l:V)
 |tp (l:V)
 |ni
 |co (a r:V)
 |fl (l:List Value)
 |no
 |gn
inductive O where
 |ar (t:Ty) (s:Sl (El t)) (ver:Nat)
 |im (t:Ty) (s:Sl (El t)) (ver:Nat)
 |bx (t:Ty) (c:V)
 |ib (t:Ty) (v:El t)
 |mp (k v:Ty) (m:Mp (El k) (El v))
 |rw(t:Ty) (s:Sl (Sl (El t))) (ln:Option (Nat×Nat))
abbrev H2:=List (Nat×Option O)
def fO(h:H2)(id:Nat):Option O:=(cm h id).join
def AC:(t:Ty)->El t->Nat->Option V
 |.pr a _,v,0=>some (.x a v.1)
 |.pr _ c,v,n+1=>AC c v.2 n
 |t,v,0=>some (.x t v)
 |_,_,_=>none
def C1:Ty->Nat->Option Ty
 |.pr a _,0=>some a
 |.pr _ c,n+1=>C1 c n
 |t,0=>some t
 |_,_=>none
def pq:Ty->Nat->Nat
 |.pr _ _,0=>0
 |.pr a c,n+1=>ce a+pq c n
 |_,_=>0
def Ip:(t:Ty)->El t->V
 |.pr a c,v=>.co (.x a v.1) (Ip c v.2)
 |t,v=>.co (.x t v) .ni
def VK(k:IntKind):List Value->Option (Int×List Value)
 |.int k' n::r=>if k'=k then some (n,r)else none
 |_=>none
def VL:List Value->Option (Bool×List Value)
 |.bool c::r=>some (c,r)
 |_=>none
def VI:List Value->Option (ByteArray×List Value)
 |.string c::r=>some (c,r)
 |_=>none
def Qv(k:FloatKind):List Value->Option (Nat×List Value)
 |.float k' n::r=>if k'=k then some (n,r)else none
 |_=>none
def VJ{α:Type}:List Value->Option (Sl α×List Value)
 |.slice none 0 0::r=>some (Sl.nil,r)
 |_=>none
def Ps{α:Type}(f:List Value->Option (α×List Value)):(m:Nat)->List Value->Option (Arr m α×List Value)
 |0,l=>some (⟨[],rfl⟩,l)
 |m+1,l=>match f l with|some (x,l)=>(match Ps f m l with|some (v,l)=>some (⟨x::v.1,by rw[List.length_cons,v.2]⟩,l)|none=>none)|none=>none
def vB:(t:Ty)->List Value->Option (El t×List Value)
 |.i k=>VK k
 |.b=>VL
 |.s=>VI
 |.f k=>Qv k
 |.sl _=>VJ
 |.pr a c=>fun l=>match vB a l with|some (x,l)=>(match vB c l with|some (y,l)=>some ((x,y),l)|none=>none)|none=>none
 |.st t=>vB t
 |.ar n t=>Ps (vB t) n
 |.mp _ _|.un|.o _=>fun _=>none
def iE(u:Ty):V->Option (El u)
 |.x t v=>gC t u v
 |.kb c=>gC .b u c
 |.nl 0=>(match u with|.sl _=>some Sl.nil|_=>none)
 |.fl l=>bif lQ u then(match vB u l with|some (x,[])=>some x|_=>none)else none
 |_=>none
def Iz:(t:Ty)->El t->Nat->V->Option (El t)
 |.pr a _,v,0,w=>match iE a w with|some y=>some (y,v.2)|none=>none
 |.pr _ c,v,n+1,w=>match Iz c v.2 n w with|some y=>some (v.1,y)|none=>none
 |t,_,0,w=>iE t w
 |_,_,_,_=>none
def sZ:V->Nat->Option V
 |.co a _,0=>some a
 |.co _ r,n+1=>sZ r n
 |_,_=>none
def KW:V->Nat->V->V
 |.co _ r,0,w=>.co w r
 |.co a r,n+1,w=>.co a (KW r n w)
 |l,_,_=>l
def qa:V->qo->Option V
 |v,[]=>some v
 |.x (.st t) v,.fd i::p=>match AC t v i with|some w=>qa w p|none=>none
 |.x (.ar _ t) v,.ix k::p=>qa (.x t (gt v.1 k)) p
 |.rc l,.fd i::p=>match sZ l i with|some w=>qa w p|none=>none
 |_,_=>none
def o5:V->qo->V->Option V
 |_,[],w=>some w
 |.x (.st t) v,.fd i::p,w=>
  match AC t v i with
  |some y=>match o5 y p w with|some y'=>(match Iz t v i y' with|some v'=>some (.x (.st t) v')|none=>some (.rc (KW (Ip t v) i y')))|none=>none
  |none=>none
 |.x (.ar n t) v,.ix k::p,w=>match o5 (.x t (gt v.1 k)) p w with|some y=>(match iE t y with|some y'=>some (.x (.ar n t) (v.set k y'))|none=>none)|none=>none
 |.rc l,.fd i::p,w=>match sZ l i with|some y=>(match o5 y p w with|some y'=>some (.rc (KW l i y'))|none=>none)|none=>none
 |_,_,_=>none
def r_:Ty->qo->Option Ty
 |t,[]=>some t
 |.st t,.fd i::p=>match C1 t i with|some u=>r_ u p|none=>none
 |.ar _ t,.ix _::p=>r_ t p
 |_,_=>none
def nw:Ty->qo->Nat
 |.st t,.fd i::p=>pq t i+(match C1 t i with|some u=>nw u p|none=>0)
 |.ar _ t,.ix k::p=>k*ce t+nw t p
 |_,_=>0
def I1:Ty->qo->Prop
 |.st t,.fd i::p=>∃u,C1 t i=some u/\I1 u p
 |.ar n t,.ix k::p=>k<n/\I1 t p
 |_,[]=>True
 |_,_=>False
def BF:Ty->V×V
 |.pr a c=>(.no,.co (BF a).1 (BF c).2)
 |.st t=>(bif kQ t then .x (.st t) (mx t)else .rc (BF t).2,.co (bif kQ t then .x (.st t) (mx t)else .rc (BF t).2) .ni)
 |.o k=>(.nl k,.co (.nl k) .ni)
 |.mp _ _=>(.nl 3,.co (.nl 3) .ni)
 |.sl t=>(bif kQ t then .x (.sl t) Sl.nil else .nl 0,.co (bif kQ t then .x (.sl t) Sl.nil else .nl 0) .ni)
 |.ar n t=>(bif kQ t then .x (.ar n t) (mx (.ar n t))else .no,.co (bif kQ t then .x (.ar n t) (mx (.ar n t))else .no) .ni)
 |.un=>(.x .un (),.co (.x .un ()) .ni)
 |.i k=>(.x (.i k) (0:Int),.co (.x (.i k) (0:Int)) .ni)
 |.b=>(.x .b false,.co (.x .b false) .ni)
 |.s=>(.x .s ByteArray.empty,.co (.x .s ByteArray.empty) .ni)
 |.f k=>(.x (.f k) (0:Nat),.co (.x (.f k) (0:Nat)) .ni)
abbrev P7(t:Ty):V:=(BF t).1
def DZ(k:Nat):C:=.d (.lit (match k with|0=>.slice none 0 0|1=>.pointer none|2=>.nilFunc|3=>.map none|_=>.nilIface))
def AU(id:Nat):Option O->Option C
 |some (.ar t s _)=>some (mT (ce t) (aS t) id s)
 |some (.im t s _)=>some (mT (ce t) (aS t) id s)
 |_=>none
def po(t:Ty):Sl (El t)->ly
 |.nil=>.nil
 |.mk l=>.bD (l.map (aS t))
def IQ{α:Type}(id:Nat):Sl α->ly
 |.nil=>.nil
 |.mk l=>.oA id l.length
def fx(t:Ty)(l:List (Sl (El t))):Option (Nat×Nat)->List ly
 |none=>l.map (po t)
 |some (m,id)=>(l.map (po t)).set m (IQ id (gt l m))
def Fb(id:Nat):Option O->Option C
 |some (.rw t s _)=>some (mT 1 (aS (.sl t)) id (s:Sl (Sl (El t))))
 |_=>none
def yi(id lo:Nat)(t:Ty):Sl (El t)->C
 |.nil=>.d (.lit (.slice none 0 0))
 |.mk l=>.cE (ce t) id lo (l.map (aS t)).length
def rn:V->Option (List D)
 |.pt t v=>if kQ t then some [.pt (aS t v)]else none
 |.ni=>some []
 |.co a r=>match rn a,rn r with|some x,some y=>some (x++y)|_,_=>none
 |_=>none
def uf:V->Bool
 |.x t _=>lQ t
 |.rc _|.fl _=>true
 |_=>false
deriving instance DecidableEq for Mp
instance zL:(t:Ty)->DecidableEq (El t)
 |.i _=>inferInstanceAs (DecidableEq Int)
 |.b=>inferInstanceAs (DecidableEq Bool)
 |.s=>inferInstanceAs (DecidableEq ByteArray)
 |.f _=>inferInstanceAs (DecidableEq Nat)
 |.sl t=>@instDecidableEqSl (El t) (zL t)
 |.mp k v=>@instDecidableEqMp (El k) (El v) (zL k) (zL v)
 |.un=>inferInstanceAs (DecidableEq Unit)
 |.pr a c=>@instDecidableEqProd (El a) (El c) (zL a) (zL c)
 |.st t=>zL t
 |.ar n t=>@instDecidableEqArr n (El t) (zL t)
 |.o _=>inferInstanceAs (DecidableEq Unit)
structure S2 where
 dE:List (Nat×V)
 heap:H2
 next:Nat
 wo:List Nat
 gh:V
structure OP where
 o:mO
 t:Ty
 fi:List Nat
def CM:V->Bool
 |.pt t _=>kQ t
 |.ni=>true
 |.co a r=>CM a&&CM r
 |_=>false
def iU(h:H2):V->Bool
 |.x t _=>kQ t
 |.pt t _=>kQ t
 |.kb _|.nl _=>true
 |.op id _ _|.ep id _ _ _|.om id=>(match fO h id with|some _=>true|none=>false)
 |.so id=>(match fO h id with|some (.ar _ _ _)|some (.im _ _ _)=>true|_=>false)
 |.sr id=>(match fO h id with|some (.rw _ _ _)=>true|_=>false)
 |.sb id ver _ t _=>kQ t&&(match fO h id with|some (.ar _ _ v)|some (.im _ _ v)=>v==ver|_=>false)
 |.fn true _ l=>CM l
 |.fn false _ l=>iU h l
 |.rc l|.tp l=>iU h l
 |.fl l=>l.all ft
 |.ni=>true
 |.co a r=>iU h a&&iU h r
 |.no|.gn=>false
def V3:Value->Option V
 |.bool c=>some (.kb c)
 |.int k n=>some (.x (.i k) n)
 |.float k n=>some (.x (.f k) n)
 |.string s=>some (.x .s s)
 |.pointer none=>some (.nl 1)
 |.slice none 0 0=>some (.nl 0)
 |.nilFunc=>some (.nl 2)
 |.map none=>some (.nl 3)
 |.nilIface=>some (.nl 4)
 |.agg cs=>if cs.toList.all ft then some (.fl cs.toList)else none
 |_=>none
def R6:Nat->Option V:=fun _ => none
def Ke(e:List (Nat×V))(h:H2):Operand->Option V
 |.tmp t=>match cm e t with|some v=>bif iU h v then some v else none|none=>none
 |.const c=>V3 c
 |.global g=>R6 g
 |.func f=>some (.fn true f .ni)
def yL:V->Nat
 |.x t _=>ce t
 |.rc l=>yL l
 |.co a r=>yL a+yL r
 |.ni=>0
 |.fl l=>l.length
 |_=>1
def O4:V->Nat->Nat
 |.co a r,n+1=>yL a+O4 r n
 |_,_=>0
def fy:List V->V
 |[]=>.ni
 |v::r=>.co v (fy r)
def AQ:V->List V
 |.co a r=>a::AQ r
 |_=>[]
def ll:V->Bool->(u:Ty)->Option (El u)
 |.rc l,false,.st u=>ll l true u
 |.co a r,true,.pr t u=>match ll a false t,ll r true u with|some x,some y=>some (x,y)|_,_=>none
 |.co a .ni,true,u=>ll a false u
 |.ni,_,_=>none
 |v,false,u=>iE u v
 |_,_,_=>none
abbrev sd(u:Ty)(v:V):Option (El u):=ll v false u
def eZ:V->Bool->Ty->Bool
 |.x u _,false,t=>decide (u=t)
 |.rc l,false,.st t=>eZ l true t
 |.co a r,true,.pr t u=>eZ a false t&&eZ r true u
 |.co a .ni,true,t=>eZ a false t
 |.kb _,false,.b=>true
 |.nl 0,false,.sl _|.so _,false,.sl _|.sr _,false,.sl _|.sb _ _ _ _ _,false,.sl _=>true
 |.nl 3,false,.mp _ _|.om _,false,.mp _ _=>true
 |.nl _,false,.o _|.op _ _ _,false,.o _|.ep _ _ _ _,false,.o _|.pt _ _,false,.o _|.fn _ _ _,false,.o _=>true
 |_,_,_=>false
def Nu(t:Ty)(v:V):Option V:=match(bif kQ t then iE t v else none)with|some y=>some (.x t y)|none=>bif eZ v false t then some v else none
def uN(h:H2):V->Option ((t:Ty)×Sl (El t)×List Nat)
 |.x (.sl t) s=>some ⟨t,s,[]⟩
 |.so id=>(match fO h id with|some (.ar t s _)|some (.im t s _)=>some ⟨t,s,[id]⟩|_=>none)
 |.sb id _ _ t r=>some ⟨t,r,[id]⟩
 |_=>none
def KF(t:Ty)(h:H2):V->Option ((t:Ty)×Sl (El t)×List Nat)
 |.nl 0=>some ⟨t,Sl.nil,[]⟩
 |v=>uN h v
def jA(h:H2):V->Option (V×List Nat)
 |.so id=>match uN h (.so id)with|some ⟨t,s,l⟩=>some (.x (.sl t) s,l)|none=>none
 |.sr id=>match fO h id with|some (.rw t s none)=>some (.x (.sl (.sl t)) s,[id])|_=>none
 |.sb id ver lo t r=>match uN h (.sb id ver lo t r)with|some ⟨t,s,l⟩=>some (.x (.sl t) s,l)|none=>none
 |.rc l=>match jA h l with|some (w,l)=>some (.rc w,l)|none=>none
 |.co a r=>match jA h a,jA h r with|some (x,l),some (y,m)=>some (.co x y,l++m)|_,_=>none
 |.x t v=>some (.x t v,[])
 |.kb c=>some (.kb c,[])
 |.nl k=>some (.nl k,[])
 |.fl l=>some (.fl l,[])
 |.ni=>some (.ni,[])
 |.fn true f l=>some (.fn true f l,[])
 |.pt t v=>some (.pt t v,[])
 |_=>none
def YA(c:Bool):V->V->Option V
 |.kb a,.kb b=>some (.x .b (bif c then a else b))
 |.x t a,w=>match sd t w with|some b=>some (.x t (bif c then a else b))|none=>none
 |w,.x t b=>match sd t w with|some a=>some (.x t (bif c then a else b))|none=>none
 |_,_=>none
def V7:Value->Value->Bool
 |.bool a,.bool b=>a==b
 |.int k a,.int k' b=>decide (k=k')&&a==b
 |.float k a,.float k' b=>decide (k=k')&&a==b
 |.string a,.string b=>decide (a=b)
 |.pointer none,.pointer none|.slice none 0 0,.slice none 0 0|.nilFunc,.nilFunc|.map none,.map none|.nilIface,.nilIface=>true
 |_,_=>false
def uM:List Value->List Value->Bool
 |[],[]=>true
 |a::r,b::s=>V7 a b&&uM r s
 |_,_=>false
def oc:Ty->List Value
 |.i k=>[.int k 0]
 |.b=>[.bool false]
 |.s=>[.string ByteArray.empty]
 |.f k=>[.float k 0]
 |.sl _=>[.slice none 0 0]
 |.mp _ _=>[.map none]
 |.un=>[]
 |.pr a c=>oc a++oc c
 |.st t=>oc t
 |.ar n t=>(aA n (oc t)).flatten
 |.o k=>[match k with|0=>.slice none 0 0|1=>.pointer none|2=>.nilFunc|3=>.map none|_=>.nilIface]
def Aj:Ty->Option (List Kd)
 |.i k=>some [.i k]
 |.b=>some [.b]
 |.s=>some [.s]
 |.pr a c=>match Aj a,Aj c with|some x,some y=>some (x++y)|_,_=>none
 |.st t=>Aj t
 |.ar n t=>match Aj t with|some x=>some ((aA n x).flatten)|none=>none
 |_=>none
def SN(z:Bool)(op:BinOp)(k k':IntKind)(a b:Int):Option V:=
 match op with
 |.shl=>bif z then some (.x (.i k) (SR k a b))else none
 |.shr=>bif z then some (.x (.i k) (M9 k a b))else none
 |op=>bif decide (k=k')then(match op with
  |.add=>some (.x (.i k) (wr k (a+b)))
  |.sub=>some (.x (.i k) (wr k (a-b)))
  |.mul=>some (.x (.i k) (wr k (a*b)))
  |.quo=>bif z then some (.x (.i k) (wr k (a.tdiv b)))else none
  |.rem=>bif z then some (.x (.i k) (a.tmod b))else none
  |.and=>some (.x (.i k) (oe k a b))
  |.or=>some (.x (.i k) (H_ k a b))
  |.xor=>some (.x (.i k) (CI k a b))
  |.andNot=>some (.x (.i k) (qT k a b))
  |.eql=>some (.x .b (a==b))
  |.neq=>some (.x .b (a !=b))
  |.lss=>some (.x .b (decide (a<b)))
  |.leq=>some (.x .b (decide (a<=b)))
  |.gtr=>some (.x .b (decide (a>b)))
  |.geq=>some (.x .b (decide (a>=b)))
  |_=>none)else none
def YL(k:FloatKind)(a b:Nat):Nat:=(k.format.add a b).getD (uO k)
def YI(k:FloatKind)(a b:Nat):Nat:=(k.format.sub a b).getD (uO k)
def YJ(k:FloatKind)(a b:Nat):Nat:=(k.format.mul a b).getD (uO k)
def YK(k:FloatKind)(a b:Nat):Nat:=(k.format.div a b).getD (uO k)
def V1(k:FloatKind)(a b:Nat):Bool:=k.format.order a b==some .eq
def Zg(k:FloatKind)(a b:Nat):Bool:=k.format.order a b==some .lt
def Zh(k:FloatKind)(a b:Nat):Bool:=k.format.order a b==some .gt
def Sa(k:FloatKind)(a b:Nat):Nat:=match k.format.order a b with|none=>uO k|some .lt=>a|some .gt=>b|some .eq=>if(k.decode a).neg then a else b
def Sb(k:FloatKind)(a b:Nat):Nat:=match k.format.order a b with|none=>uO k|some .lt=>b|some .gt=>a|some .eq=>if(k.decode a).neg then b else a
def M3(op:BinOp)(k k':FloatKind)(a b:Nat):Option V:=
 bif decide (k=k')then(match op with
  |.add=>some (.x (.f k) (YL k a b))
  |.sub=>some (.x (.f k) (YI k a b))
  |.mul=>some (.x (.f k) (YJ k a b))
  |.quo=>some (.x (.f k) (YK k a b))
  |.eql=>some (.x .b (V1 k a b))
  |.neq=>some (.x .b (!(V1 k a b)))
  |.lss=>some (.x .b (Zg k a b))
  |.leq=>some (.x .b (Zg k a b||V1 k a b))
  |.gtr=>some (.x .b (Zh k a b))
  |.geq=>some (.x .b (Zh k a b||V1 k a b))
  |_=>none)else none
def SM(op:BinOp)(x y:ByteArray):Option V:=match op with|.eql=>some (.x .b (x.toList==y.toList))|.neq=>some (.x .b (!(x.toList==y.toList)))|.lss=>some (.x .b (Op.bytesLess x.toList y.toList))|.leq=>some (.x .b (Op.bytesLess x.toList y.toList||x.toList==y.toList))|.gtr=>some (.x .b (!(Op.bytesLess x.toList y.toList||x.toList==y.toList)))|.geq=>some (.x .b (!(Op.bytesLess x.toList y.toList)))|_=>none
def Oj:List Operand->Bool
 |[_,.const (.int _ n)]=>decide (n>0)
 |_=>false
def Th(m:Bool)(k:IntKind):Int->List V->Option Int
 |x,[]=>some x
 |x,.x (.i k') y::r=>bif decide (k'=k)then Th m k (bif m then(if y>x then y else x)else(if y<x then y else x)) r else none
 |_,_=>none
def I9(m:Bool)(k:FloatKind):Nat->List V->Option Nat
 |x,[]=>some x
 |x,.x (.f k') y::r=>bif decide (k'=k)then I9 m k (bif m then Sb k x y else Sa k x y) r else none
 |_,_=>none
def zy(h:H2):V->Option (V×List Nat)
 |.pt t v=>some (.x t v,[])
 |.op id t p=>(match fO h id with
  |some (.bx u c)=>bif decide (u=t)then(match qa c p with|some w=>some (w,[id])|none=>none)else none
  |some (.ib u v)=>bif decide (u=t)then(match qa (.x u v) p with|some w=>some (w,[id])|none=>none)else none
  |_=>none)
 |.ep id n t p=>(match fO h id with
  |some (.ar u s _)|some (.im u s _)=>bif decide (u=t)then(match qa (.x u (gt s.l n)) p with|some w=>some (w,[id])|none=>none)else none
  |_=>none)
 |_=>none
def zq(h:H2)(kind:Nat):V->Option V
 |.nl k=>bif(k==kind)&&Nat.blt k 3 then some (.kb true)else none
 |.pt _ _|.op _ _ _|.ep _ _ _ _=>bif kind==1 then some (.kb false)else none
 |.fn _ _ _=>bif kind==2 then some (.kb false)else none
 |v=>bif kind==0 then(match uN h v with|some ⟨_,s,_⟩=>some (.x .b s.fF)|none=>none)else none
def Ln:V->V
 |.kb c=>.kb (!c)
 |.x .b c=>.x .b (!c)
 |v=>v
def Gr(off n:Nat)(i:Nat):V->Option V
 |.op id t p=>(match r_ t p with
  |some (.st u)=>(match C1 u i with|some w=>bif(pq u i==off)&&(ce w==n)then some (.op id t (p++[.fd i]))else none|none=>none)
  |_=>none)
 |.ep id m t p=>(match r_ t p with
  |some (.st u)=>(match C1 u i with|some w=>bif(pq u i==off)&&(ce w==n)then some (.ep id m t (p++[.fd i]))else none|none=>none)
  |_=>none)
 |.pt (.st u) v=>(match AC u v i with|some (.x w y)=>bif(pq u i==off)&&(ce w==n)then some (.pt w y)else none|_=>none)
 |_=>none
def GG(h:H2)(g:Bool)(n:Nat)(w:V):Bool:=(uf w==g)&&(yL w==n)&&(g||n==1)&&iU h w
def OM(h:H2):V->Option ((k:Ty)×(v:Ty)×Mp (El k) (El v)×List Nat)
 |.om id=>(match fO h id with|some (.mp k v m)=>some ⟨k,v,m,[id]⟩|_=>none)
 |_=>none
def xZ(t:Ty):List Nat->List (Nat×Nat)->List V->V->Option V
 |[],[],[],c=>some c
 |i::is,(off,n)::ps,w::ws,c=>
  match t with
  |.st u=>(match C1 u i with
   |some a=>bif(pq u i==off)&&(ce a==n)then(match Nu a w with|some w=>(match o5 c [.fd i] w with|some c=>bif eZ c false t then xZ t is ps ws c else none|none=>none)|none=>none)else none
   |none=>none)
  |.ar m u=>bif(i*ce u==off)&&(ce u==n)&&decide (i<m)then(match Nu u w with|some w=>(match o5 c [.ix i] w with|some c=>bif eZ c false t then xZ t is ps ws c else none|none=>none)|none=>none)else none
  |_=>none
 |_,_,_,_=>none
def PM:V->Bool
 |.tp _|.no|.gn|.ni|.co _ _=>false
 |v=>!uf v
def P_(o:OP)(vs:List V)(h:H2):Option (V×List Nat):=
 match o.o.k,vs with
 |.mv,[v]=>some (v,[])
 |.nilCheck,[v]=>(match v with|.pt _ _|.fn _ _ _|.ep _ _ _ _|.op _ _ _=>some (v,[])|_=>none)
 |.th op,[.x (.i k) a,.x (.i k') b]=>(match SN (Oj o.o.args) op k k' a b with|some v=>some (v,[])|none=>none)
 |.th op,[.x (.f k) a,.x (.f k') b]=>(match M3 op k k' a b with|some v=>some (v,[])|none=>none)
 |.th op,[.x .s a,.x .s b]=>(match SM op a b with|some v=>some (v,[])|none=>none)
 |.vz neg,[x,y]=>(match sd .b x,sd .b y with|some a,some b=>some (.x .b (bif neg then !(a==b)else a==b),[])|_,_=>none)
 |.rS kind neg,[x]=>(match zq h kind x with|some v=>some (bif neg then Ln v else v,[])|none=>none)
 |.zJ neg ks,[.x t a,y]=>(match sd t y with|some b=>bif lQ t&&decide (Aj t=some ks)then some (.x .b (bif neg then !(decide (a=b))else decide (a=b)),[])else none|none=>none)
 |.un .not,[.kb c]=>some (.kb (!c),[])
 |.un .not,[.x .b c]=>some (.x .b (!c),[])
 |.un .neg,[.x (.i k) n]=>some (.x (.i k) (wr k (0-n)),[])
 |.un .neg,[.x (.f k) n]=>some (.x (.f k) (Op.negFloat k n),[])
 |.un .xor,[.x (.i k) n]=>some (.x (.i k) (YU k n),[])
 |.wl k,[.x (.i _) n]=>some (.x (.i k) (wr k n),[])
 |.EL k,[.x (.i _) n]=>some (.x (.f k) (k.nearest n),[])
 |.t8,[.x .s s]=>some (.x .s s,[])
 |.Jb f,vs=>bif vs.all PM then some (.fn false f (fy vs),[])else none
 |.load g n,[p]=>(match zy h p with|some (w,l)=>bif GG h g n w then some (w,l)else none|none=>none)
 |.uY,[p]=>(match zy h p with|some (w,l)=>bif GG h false 1 w then some (w,l)else none|none=>none)
 |.fieldAddr off n,[p]=>(match o.fi with|[i]=>(match Gr off n i p with|some w=>some (w,[])|none=>none)|_=>none)
 |.field g off n,[.x (.st u) v]=>(match o.fi with|[i]=>(match AC u v i with|some w=>bif(pq u i==off)&&GG h g n w then some (w,[])else none|none=>none)|_=>none)
 |.field g off n,[.rc l]=>(match o.fi with|[i]=>(match sZ l i with|some w=>bif(O4 l i==off)&&GG h g n w then some (w,[])else none|none=>none)|_=>none)
 |.extract i,[.tp l]=>(match sZ l i with|some w=>some (w,[])|none=>none)
 |.len true,[.x .s s]=>some (.x (.i .i64) (s.size:Int),[])
 |.len false,[.nl 0]=>some (.x (.i .i64) (0:Int),[])
 |.len false,[.sr id]=>(match fO h id with|some (.rw _ s _)=>some (.x (.i .i64) (s.l.length:Int),[])|_=>none)
 |.len false,[v]=>(match uN h v with|some ⟨_,s,_⟩=>some (.x (.i .i64) (s.l.length:Int),[])|none=>none)
 |.sC m,.x (.i k) x::r=>(match Th m k x r with|some y=>some (.x (.i k) y,[])|none=>none)
 |.sC m,.x (.f k) x::r=>(match I9 m k x r with|some y=>some (.x (.f k) y,[])|none=>none)
 |.build z ps,vs=>bif uM (oc o.t) z&&lQ o.t&&eZ (P7 o.t) false o.t then(match xZ o.t o.fi ps vs (P7 o.t)with|some v=>some (v,[])|none=>none)else none
 |.lookup ka ks va z ok,[m,kv]=>(match OM h m with
  |some ⟨kt,vt,mp,l⟩=>(match sd kt kv with
   |some k=>bif(lQ kt==ka)&&(lQ vt==va)&&decide (Aj kt=some ks)&&uM (oc vt) z&&kQ vt&&(va||ce vt==1)then
     some (bif ok then .tp (.co (.x vt (rH mp (mx vt) k)) (.co (.x .b (tQ mp k)) .ni))else .x vt (rH mp (mx vt) k),l)else none
   |none=>none)
  |none=>none)
 |_,_=>none
def sP{α:Type}(s:Sl α)(x r:List α):Sl α:=match x with|[]=>(match s with|.nil=>.nil|.mk _=>.mk r)|_::_=>.mk r
def Jh{α:Type}:Sl α->Sl α->Option Unit
 |.nil,.nil=>some ()
 |.mk a,.mk b=>RL a b
 |_,_=>none
def jE(s:S2)(o:O):S2:=⟨s.dE,(s.next,some o)::s.heap,s.next+1,s.next::s.wo,s.gh⟩
def eN(s:S2)(id:Nat)(o:Option O):S2:=⟨s.dE,(id,o)::s.heap,s.next,id::s.wo,s.gh⟩
def Cm(h:H2)(id:Nat):Option O:=match fO h id with|some (.ar t s v)|some (.im t s v)=>some (.im t s v)|some (.ib t v)=>some (.ib t v)|some (.bx t c)=>bif kQ t&&Nat.blt (ce t) 300 then(match jA h c with|some (_,[])=>(match sd t c with|some v=>some (.ib t v)|none=>none)|_=>none)else none|_=>none
def rk(h:H2):List Nat->S2->Option S2
 |[],s=>some s
 |id::r,s=>match fO h id with|some (.rw _ _ none)=>(match rk h r s with|some s=>some (eN s id none)|none=>none)|_=>(match Cm h id,rk h r s with|some o,some s=>some (eN s id (some o))|_,_=>none)
def CY(t:Ty):Bool:=kQ t&&Nat.blt 0 (ce t)
def yY(h:H2)(t:Ty)(len:Nat):Nat->List Nat->List V->Option (List (El t)×List Nat)
 |m,[],[]=>some (aA (len-m) (mx t),[])
 |m,i::is,v::vs=>
  match jA h v with
  |some (w,a)=>(match sd t w with
   |some y=>bif g_ m i&&Nat.blt i len then(match yY h t len (i+1) is vs with|some (l,b)=>some (aA (i-m) (mx t)++y::l,a++b)|none=>none)else none
   |none=>none)
  |none=>none
 |_,_,_=>none
def w8:List V->Option (List Int)
 |[]=>some []
 |.x (.i _) n::r=>match w8 r with|some l=>some (n::l)|none=>none
 |_=>none
def Gg(h:H2):V->Option Int
 |.nl 0=>some 0
 |v=>match uN h v with|some ⟨_,v,_⟩=>some (v.l.length:Int)|none=>none
def JU{α:Type}(w:Sl α)(lo n:Nat)(z:α):Option (Sl α):=match w with|.nil=>none|.mk l=>some (.mk (GA l lo n (aA n z)))
def uR{β:Type}(sz:Nat)(h:H2)(x:V)(l u:Int)(k:V->Option β):Option β:=
 match x with
 |.x (.sl t) v=>bif ce t==sz then(oX v.l l u).bind fun y=>k (.x (.sl t) (v.to y))else none
 |.so id=>(match fO h id with
  |some (.ar t v ver)=>bif ce t==sz then(oX v.l l u).bind fun y=>k (.sb id ver l.toNat t (v.to y))else none
  |some (.im t v ver)=>bif ce t==sz then(oX v.l l u).bind fun y=>k (.sb id ver l.toNat t (v.to y))else none
  |_=>none)
 |.sb id ver lo t v=>bif ce t==sz then(oX v.l l u).bind fun y=>k (.sb id ver (lo+l.toNat) t (v.to y))else none
 |.nl 0=>(oX ([]:List Unit) l u).bind fun _=>k (.nl 0)
 |_=>none
def SK{β:Type}(t:Ty)(sz len:Nat)(z:List Value)(pl:List Nat)(vs:List V)(s:S2)(k:V->S2->List Nat->Option β):Option β:=
 bif(ce t==sz)&&uM ((aA len (oc t)).flatten) z&&CY t then
  (match yY s.heap t len 0 pl vs with
  |some (l,a)=>(match rk s.heap a s with|some s'=>k (.so s.next) (jE s' (.ar t (.mk l) 0)) a|none=>none)
  |none=>none)else none
def Hc(ln:Option (Nat×Nat))(m:Nat):Bool:=match ln with|none=>true|some (m',_)=>mP m' m
def Fz{β:Type}(id m:Nat)(t:Ty)(p:qo)(w:V)(s:S2)(k:S2->List Nat->Option β):Option β:=
 match fO s.heap id with
 |some (.rw u v ln)=>(match p,w with
  |[],.so id2=>(match fO s.heap id2 with
   |some (.ar u2 r _)=>(match gC (.sl u2) (.sl u) r with
    |some r=>bif decide (t=.sl u)&&!(id2==id)&&Hc ln m then k (eN (eN s id2 none) id (some (.rw u (.mk (v.l.set m r)) none))) [id,id2]else none
    |none=>none)
   |_=>none)
  |_,_=>none)
 |some (.ar u l ver)=>(match jA s.heap w with
  |some (w,a)=>bif decide (u=t)then(match r_ u p with
   |some q=>(match sd q w with
    |some y=>(match o5 (.x u (gt l.l m)) p (.x q y)with
     |some c=>(match iE u c with
      |some y=>(match rk s.heap a s with|some s=>bif !a.contains id then k (eN s id (some (.ar u (.mk (l.l.set m y)) (ver+1)))) (id::a)else none|none=>none)
      |none=>none)
     |none=>none)
    |none=>none)
   |none=>none)else none
  |none=>none)
 |_=>none
def part{β:Type}(o:OP)(vs:List V)(s:S2)(k:V->S2->List Nat->Option β):Option β:=
 match o.o.k,vs with
 |.th .quo,[.x (.i q) a,.x (.i q') b]=>bif decide (q=q')then(Su q a b).bind fun x=>k (.x (.i q) x) s []else none
 |.th .rem,[.x (.i q) a,.x (.i q') b]=>bif decide (q=q')then(Q6 q a b).bind fun x=>k (.x (.i q) x) s []else none
 |.th .shl,[.x (.i q) a,.x (.i _) b]=>(NZ q a b).bind fun x=>k (.x (.i q) x) s []
 |.th .shr,[.x (.i q) a,.x (.i _) b]=>(Ix q a b).bind fun x=>k (.x (.i q) x) s []
 |.th .add,[.x .s a,.x .s b]=>(SH a b).bind fun x=>k (.x .s x) s []
 |.alloc z,[]=>bif uM (oc o.t) z&&eZ (P7 o.t) false o.t then k (.op s.next o.t []) (jE s (.bx o.t (P7 o.t))) []else none
 |.box,[v]=>(match Nu o.t v with|some w=>k (.op s.next o.t []) (jE s (.bx o.t w)) []|none=>none)
 |.buildSlice sz len z pl,vs=>SK o.t sz len z pl vs s k
 |.store n,[.op id t p,w]=>bif(yL w==n)then(match fO s.heap id with
  |some (.bx u c)=>bif decide (u=t)then(match r_ t p with
   |some a=>(match Nu a w with
    |some w=>(match o5 c p w with|some c=>bif eZ c false t then k (.tp .ni) (eN s id (some (.bx t c))) [id]else none|none=>none)
    |none=>none)
   |none=>none)else none
  |_=>none)else none
 |.uY,[.ep id m u []]=>(match fO s.heap id with
  |some (.rw t v none)=>bif decide (u=.sl t)then k (.so s.next) (jE (eN s id (some (.rw t v (some (m,s.next))))) (.ar t (gt v.l m) 0)) [id]else none
  |_=>none)
 |.A9 szi,[.x (.i _) l,.x (.i _) c]=>(match o.t with
  |.sl t=>bif(ce t==szi)&&CY t then(OL (Sl.nil:Sl (El t)) l c).bind fun r=>k (.sr s.next) (jE s (.rw t (.mk r) none)) []else none
  |_=>none)
 |.store n,[.ep id m t p,w]=>bif(yL w==n)then Fz id m t p w s (fun s l=>k (.tp .ni) s l)else none
 |.makeSlice z,[.x (.i _) l,.x (.i _) c]=>bif uM (oc o.t) z&&CY o.t then(OL (mx o.t) l c).bind fun r=>k (.so s.next) (jE s (.ar o.t (.mk r) 0)) []else none
 |.slice true _ lo hi,.x .s x::r=>(match lo,hi,w8 r with
  |false,false,some []=>(Ap x 0 x.size).bind fun y=>k (.x .s y) s []
  |true,false,some [l]=>(Ap x l x.size).bind fun y=>k (.x .s y) s []
  |false,true,some [u]=>(Ap x 0 u).bind fun y=>k (.x .s y) s []
  |true,true,some [l,u]=>(Ap x l u).bind fun y=>k (.x .s y) s []
  |_,_,_=>none)
 |.slice false sz lo hi,x::r=>
  (match lo,hi,w8 r,Gg s.heap x with
  |false,false,some [],some n=>uR sz s.heap x 0 n fun v=>k v s []
  |true,false,some [l],some n=>uR sz s.heap x l n fun v=>k v s []
  |false,true,some [u],some _=>uR sz s.heap x 0 u fun v=>k v s []
  |true,true,some [l,u],some _=>uR sz s.heap x l u fun v=>k v s []
  |_,_,_,_=>none)
 |.indexAddr none sz,[x,.x (.i _) i]=>(match x with
  |.x (.sl t) v=>bif ce t==sz then(eX i v.l.length).bind fun m=>k (.pt t (gt v.l m)) s []else none
  |.so id=>(match uN s.heap (.so id)with|some ⟨t,v,_⟩=>bif ce t==sz then(eX i v.l.length).bind fun m=>k (.ep id m t []) s []else none|none=>none)
  |.sb id _ lo t v=>bif ce t==sz then(eX i v.l.length).bind fun m=>k (.ep id (lo+m) t []) s []else none
  |.sr id=>(match fO s.heap id with|some (.rw t v _)=>bif 1==sz then(eX i v.l.length).bind fun m=>k (.ep id m (.sl t) []) s []else none|_=>none)
  |_=>none)
 |.indexAddr (some n) sz,[x,.x (.i _) i]=>(match x with
  |.op id t p=>(match r_ t p with|some (.ar n' u)=>bif(n'==n)&&(ce u==sz)then(eX i n).bind fun m=>k (.op id t (p++[.ix m])) s []else none|_=>none)
  |.ep id q t p=>(match r_ t p with|some (.ar n' u)=>bif(n'==n)&&(ce u==sz)then(eX i n).bind fun m=>k (.ep id q t (p++[.ix m])) s []else none|_=>none)
  |.pt (.ar n' u) v=>bif(n'==n)&&(ce u==sz)then(eX i n).bind fun m=>k (.pt u (gt v.1 m)) s []else none
  |_=>none)
 |.p9,[.x .s x,.x (.i _) i]=>(YV x i).bind fun c=>k (.x (.i .u8) c) s []
 |.index g n sz,[.x (.ar n' u) v,.x (.i _) i]=>bif(n'==n)&&(ce u==sz)&&(lQ u==g)&&kQ u&&(g||sz==1)then(eX i n).bind fun m=>k (.x u (gt v.1 m)) s []else none
 |.append sz,[a,x]=>
  (match KF o.t s.heap x with
  |some ⟨t,m,az⟩=>bif(ce t==sz)&&CY t then(match a with
   |.nl 0=>(ld ([]++m.l)).bind fun r=>k (.so s.next) (jE s (.ar t (sP Sl.nil m.l r) 0)) az
   |.x (.sl _) v=>bif Sl.fF v then((ld ([]++m.l)).bind fun r=>k (.so s.next) (jE s (.ar t (sP Sl.nil m.l r) 0)) az)else none
   |.so id=>(match fO s.heap id with
    |some (.ar u v _)=>(match gC (.sl t) (.sl u) m with
     |some m=>(ld (v.l++m.l)).bind fun r=>k (.so s.next) (jE (eN s id none) (.ar u (sP v m.l r) 0)) (id::az)
     |none=>none)
    |_=>none)
   |.sb id _ lo u v=>(match fO s.heap id,gC (.sl t) (.sl u) m with
    |some (.ar _ s0 _),some m=>bif g_ s0.l.length (lo+(v.l.length+m.l.length))then((ld (v.l++m.l)).bind fun r=>k (.so s.next) (jE (eN s id none) (.ar u (sP v m.l r) 0)) (id::az))else none
    |_,_=>none)
   |_=>none)else none
  |none=>none)
 |.copy sz,[a,x]=>
  (match KF o.t s.heap x with
  |some ⟨t,m,az⟩=>bif ce t==sz then(match a with
   |.nl 0=>k (.x (.i .i64) (0:Int)) s az
   |.so id=>(match fO s.heap id with
    |some (.ar u v ver)=>(match gC (.sl t) (.sl u) m with
     |some m=>k (.x (.i .i64) ((min m.l.length v.l.length:Nat):Int)) (eN s id (some (.ar u (v.to (GA v.l 0 v.l.length m.l)) (ver+1)))) (id::az)
     |none=>none)
    |_=>none)
   |.sb id ver lo _ v=>(match fO s.heap id with
    |some (.ar u w ver')=>(match gC (.sl t) (.sl u) m with
     |some m=>bif ver'==ver then k (.x (.i .i64) ((min m.l.length v.l.length:Nat):Int)) (eN s id (some (.ar u (w.to (GA w.l lo v.l.length m.l)) (ver+1)))) (id::az)else none
     |none=>none)
    |_=>none)
   |_=>none)else none
  |none=>none)
 |.clear zz,[a]=>(match a with
  |.sb id ver lo _ v=>(match fO s.heap id with
   |some (.ar u w ver')=>bif(ver'==ver)&&uM (oc u) zz&&CY u then(JU w lo v.l.length (mx u)).bind fun w=>k (.tp .ni) (eN s id (some (.ar u w (ver+1)))) [id]else none
   |_=>none)
  |_=>none)
 |.makeMap ka va,[]=>(match o.t with
  |.mp kt vt=>bif(lQ kt==ka)&&(lQ vt==va)&&kQ vt&&(Aj kt).isSome then k (.om s.next) (jE s (.mp kt vt Mp.none)) []else none
  |_=>none)
 |.mapEntry ka ks va z,[.om id,kv]=>(match fO s.heap id with
  |some (.mp kt vt m)=>(match sd kt kv with
   |some q=>bif(lQ kt==ka)&&(lQ vt==va)&&decide (Aj kt=some ks)&&uM (oc vt) z&&kQ vt&&(va||ce vt==1)then
     k (.tp (.co (.x vt (tR m (mx vt) q).2.1) (.co (.x (.i .i64) (tR m (mx vt) q).2.2) .ni))) (eN s id (some (.mp kt vt (tR m (mx vt) q).1))) [id]else none
   |none=>none)
  |_=>none)
 |.entryStore va n,[.om id,.x (.i _) st,w]=>(match fO s.heap id with
  |some (.mp kt vt m)=>(match sd vt w with
   |some y=>bif(lQ vt==va)&&(ce vt==n)&&kQ vt then(HD m st y).bind fun m=>k (.tp .ni) (eN s id (some (.mp kt vt m))) [id]else none
   |none=>none)
  |_=>none)
 |.tT ka ks va n,[.om id,kv,w]=>(match fO s.heap id with
  |some (.mp kt vt m)=>(match sd kt kv with
   |some q=>(match sd vt w with
    |some y=>bif(lQ kt==ka)&&(lQ vt==va)&&decide (Aj kt=some ks)&&(ce vt==n)&&kQ vt then k (.tp .ni) (eN s id (some (.mp kt vt (gW m q y)))) [id]else none
    |none=>none)
   |none=>none)
  |_=>none)
 |.tU ka ks,[.om id,kv]=>(match fO s.heap id with
  |some (.mp kt vt m)=>(match sd kt kv with
   |some q=>bif(lQ kt==ka)&&decide (Aj kt=some ks)then k (.tp .ni) (eN s id (some (.mp kt vt (jF m q)))) [id]else none
   |none=>none)
  |_=>none)
 |_,_=>none
@[reducible] def rp:List Ty->Type
 |[]=>Unit
 |a::r=>E_ a r
where E_:Ty->List Ty->Type
 |a,[]=>El a
 |a,c::r=>El a×E_ c r
def u6(u:Ty):V->Option (El u)
 |.x t v=>gC t u v
 |_=>none
def Im{α β:Type}:Option α->Option β->Option (α×β)
 |some x,some y=>some (x,y)
 |_,_=>none
def Fu:(a:Ty)->(r:List Ty)->List V->Option (rp.E_ a r)
 |a,[],l=>(match l with|[v]=>u6 a v|_=>none)
 |a,c::r,l=>(match l with|v::l=>Im (u6 a v) (Fu c r l)|[]=>none)
def wI:(cs:List Ty)->List V->Option (rp cs)
 |[],[]=>some ()
 |a::r,l=>Fu a r l
 |_,_=>none
def NL:(a:Ty)->(r:List Ty)->rp.E_ a r->List V
 |a,[],v=>[.x a v]
 |a,c::r,v=>.x a v.1::NL c r v.2
def iB:(cs:List Ty)->rp cs->List V
 |[],_=>[]
 |a::r,v=>NL a r v
inductive Sh where
 | x (t : Ty)            -- data
 | pt (t : Ty)           -- a pointer to data
 | os (t : Ty)           -- a slice of its bD
 | rw (t : Ty)           -- a fy of rows of its bD
 | mp (k v : Ty)         -- a map of its bD
 | pb (t : Ty) (c : Sh)  -- a pointer to a box of its bD
 |st (c:Sh)
 |pr (a c:Sh)
 |nl (k:Nat)
 |fn (f:Nat) (l:Sh)
 |ni
 |gn
 deriving Inhabited,DecidableEq
def Px:Sh->List Ty
 |.x t|.pt t=>[t]
 |.os t=>[.sl t]
 |.rw t=>[.sl (.sl t)]
 |.mp k v=>[.mp k v]
 |.pb _ c|.st c|.fn _ c=>Px c
 |.pr a c=>Px a++Px c
 |_=>[]
def ff:List Sh->List Ty
 |[]=>[]
 |a::r=>Px a++ff r
abbrev Wy:=List (List Sh×List Sh)
@[reducible] def wv:Wy->Type
 |[]=>Empty
 |(r,o)::w=>GU r o w
where GU:List Sh->List Sh->Wy->Type
 |r,o,[]=>rp (ff r++ff o)
 |r,o,(r',o')::w=>rp (ff r++ff o)⊕GU r' o' w
def QN{β:Type}(k:List Sh->List Sh->List V->Option β):(r o:List Sh)->(w:Wy)->wv.GU r o w->Option β
 |r,o,[],z=>k r o (iB (ff r++ff o) z)
 |r,o,(r',o')::w,z=>match z with|.inl z=>k r o (iB (ff r++ff o) z)|.inr z=>QN k r' o' w z
def Tm{β:Type}(k:List Sh->List Sh->List V->Option β):(w:Wy)->wv w->Option β
 |[],z=>nomatch z
 |(r,o)::w,z=>QN k r o w z
structure fJ where
 ps:List (Bool×Sh)
 al:Wy
 ro:Bool
 kG:List Bool
 fn:rp (ff (ps.map (·.2)))->Option (wv al)
abbrev E6:=List (Nat×fJ)
def pg(h:H2):Sh->V->Option (List V×List Nat)
 |.x t,v=>match jA h v with|some (w,l)=>(match sd t w with|some y=>some ([.x t y],l)|none=>none)|none=>none
 |.pt t,.pt u v=>match gC u t v with|some y=>some ([.x t y],[])|none=>none
 |.pt t,.op id u []=>(match fO h id with
  |some (.bx w c)=>bif decide (w=u)&&iU h c then(match jA h c with|some (c,l)=>(match sd t c with|some y=>some ([.x t y],id::l)|none=>none)|none=>none)else none
  |some (.ib w v)=>bif decide (w=u)then(match gC w t v with|some y=>some ([.x t y],[id])|none=>none)else none
  |_=>none)
 |.pt t,.ep id n u []=>(match fO h id with
  |some (.ar w s _)|some (.im w s _)=>bif decide (w=u)then(match gC w t (gt s.l n)with|some y=>some ([.x t y],[id])|none=>none)else none
  |_=>none)
 |.nl k,.nl k'=>bif k==k' then some ([],[])else none
 |.fn f c,.fn _ f' l=>bif f==f' then pg h c l else none
 |.pr a c,.co x r=>match pg h a x,pg h c r with|some (l,i),some (m,j)=>some (l++m,i++j)|_,_=>none
 |.ni,.ni=>some ([],[])
 |_,_=>none
def Ry(t:Ty){u:Ty}(v:El (.sl u)):Option (List V×List Nat):=match(v:Sl (El u))with|.nil=>some ([.x (.sl t) Sl.nil],[])|.mk _=>none
def XB(h:H2)(t:Ty)(id ver:Nat){u:Ty}(r:Sl (El u)):Option (List V×List Nat):=match fO h id with|some (.ar _ _ v)=>bif v==ver then(match gC (.sl u) (.sl t) r with|some s=>some ([.x (.sl t) s],[id])|none=>none)else none|_=>none
def eA(h:H2):Sh->Bool->V->Option (List V×List Nat)
 |.os t,false,.so id=>(match fO h id with|some (.ar u s _)=>(match gC (.sl u) (.sl t) s with|some s=>some ([.x (.sl t) s],[id])|none=>none)|_=>none)
 |.os t,false,.nl 0=>some ([.x (.sl t) Sl.nil],[])
 |.rw t,false,.sr id=>(match fO h id with|some (.rw u s none)=>(match gC (.sl (.sl u)) (.sl (.sl t)) s with|some s=>some ([.x (.sl (.sl t)) s],[id])|none=>none)|_=>none)
 |.rw t,false,.nl 0=>some ([.x (.sl (.sl t)) Sl.nil],[])
 |.mp k v,false,.om id=>(match fO h id with|some (.mp k' v' m)=>(match gC (.mp k' v') (.mp k v) m with|some m=>some ([.x (.mp k v) m],[id])|none=>none)|_=>none)
 |.pb t c,false,.op id u []=>(match fO h id with|some (.bx w v)=>bif decide (w=u)&&decide (u=t)then(match eA h c false v with|some (l,i)=>some (l,id::i)|none=>none)else none|_=>none)
 |.nl k,false,.nl k'=>bif k==k' then some ([],[])else none
 |.x t,false,v=>match sd t v with|some y=>some ([.x t y],[])|none=>none
 |.st c,false,.rc l=>eA h c true l
 |.st c,false,.x (.st u) v=>eA h c true (Ip u v)
 |.pr a c,true,.co x r=>match(match a,x with|.os t,.x (.sl _) v=>Ry t v|.os t,.sb id ver _ _ r=>XB h t id ver r|_,_=>eA h a false x),eA h c true r with|some (l,i),some (m,j)=>some (l++m,i++j)|_,_=>none
 |.ni,true,.ni=>some ([],[])
 |_,_,_=>none
def qK:Sh->Bool->List V->S2->Option (V×List V×S2)
 |.x t,false,.x u v::l,s=>bif decide (u=t)&&kQ t then some (.x u v,l,{s with next:=s.next+ce t})else none
 |.os t,false,.x (.sl u) v::l,s=>bif decide (u=t)&&CY t then some (.so s.next,l,jE s (.ar u v 0))else none
 |.rw t,false,.x (.sl (.sl u)) v::l,s=>bif decide (u=t)&&CY t then some (.sr s.next,l,jE s (.rw u v none))else none
 |.mp k v,false,.x (.mp k' v') m::l,s=>bif decide (k'=k)&&decide (v'=v)&&kQ v&&(Aj k).isSome then some (.om s.next,l,jE s (.mp k' v' m))else none
 |.pb t c,false,l,s=>
  match qK c false l {s with next:=s.next+1}with
  |some (w,l,s')=>bif eZ w false t then some (.op s.next t [],l,eN s' s.next (some (.bx t w)))else none
  |none=>none
 |.nl k,false,l,s=>some (.nl k,l,{s with next:=s.next+1})
 |.st c,false,l,s=>match qK c true l s with|some (w,l,s)=>some (.rc w,l,s)|none=>none
 |.pr a c,true,l,s=>match qK a false l s with|some (x,l,s)=>(match qK c true l s with|some (r,l,s)=>some (.co x r,l,s)|none=>none)|none=>none
 |.ni,true,l,s=>some (.ni,l,s)
 |_,_,_,_=>none
def Ja:List Sh->List V->S2->Option (List V×List V×S2)
 |[],l,s=>some ([],l,s)
 |a::r,l,s=>match qK a false l s with|some (x,l,s)=>(match Ja r l s with|some (xs,l,s)=>some (x::xs,l,s)|none=>none)|none=>none
def vF(h:H2):List (Bool×Sh)->List V->Option (List V×List Nat×List (V×List Nat))
 |[],[]=>some ([],[],[])
 |(b,c)::r,v::vs=>
  match vF h r vs with
  |some (m,j,q)=>
   bif b then(match eA h c false v with|some (l,i)=>some (l++m,j,(v,i)::q)|none=>none)
   else(match pg h c v with|some (l,i)=>some (l++m,i++j,q)|none=>none)
  |none=>none
 |_,_=>none
def Bg(h:H2)(f:Nat)(vs:List V):E6->Option (fJ×List V×List Nat×List (V×List Nat))
 |[]=>none
 |(g,sp)::r=>bif g==f then(match vF h sp.ps vs with|some (l,i,q)=>some (sp,l,i,q)|none=>Bg h f vs r)else Bg h f vs r
def jx:List Nat->S2->S2
 |[],s=>s
 |id::r,s=>eN (jx r s) id none
def eV{β:Type}:List Sh->List (V×List Nat)->List V->S2->(S2->Option β)->Option β
 |[],[],[],s,k=>k s
 |.nl _::r,(_,[])::q,l,s,k=>eV r q l s k
 |.gn::r,(_,i)::q,l,s,k=>eV r q l (jx i s) k
 |.os t::r,(.nl 0,[])::q,.x (.sl u) v::l,s,k=>(match gC (.sl u) (.sl t) v with|some v=>(Jh v (Sl.nil:Sl (El t))).bind fun _=>eV r q l s k|none=>none)
 |.os t::r,(.so id,_)::q,.x (.sl u) v::l,s,k=>(match fO s.heap id,gC (.sl u) (.sl t) v with
  |some (.ar w old ver),some v=>(match gC (.sl t) (.sl w) v with
   |some v=>(Jh v old).bind fun _=>eV r q l (eN s id (some (.ar w v (ver+1)))) k
   |none=>none)
  |_,_=>none)
 |.rw t::r,(.nl 0,[])::q,.x (.sl (.sl u)) v::l,s,k=>(match gC (.sl (.sl u)) (.sl (.sl t)) v with|some v=>(Jh (v:Sl (Sl (El t))) (Sl.nil:Sl (Sl (El t)))).bind fun _=>eV r q l s k|none=>none)
 |.rw t::r,(.sr id,_)::q,.x (.sl (.sl u)) v::l,s,k=>(match fO s.heap id,gC (.sl (.sl u)) (.sl (.sl t)) v with
  |some (.rw w old _),some v=>(match gC (.sl (.sl t)) (.sl (.sl w)) v with
   |some v=>(Jh (v:Sl (Sl (El w))) old).bind fun _=>eV r q l (eN s id (some (.rw w v none))) k
   |none=>none)
  |_,_=>none)
 |.pb t c::r,(.op id u [],i)::q,l,s,k=>(match fO s.heap id with
  |some _=>(match qK c false l s with
   |some (w,l,s)=>bif eZ w false t&&decide (u=t)then eV r q l (eN (jx i s) id (some (.bx t w))) k else none
   |none=>none)
  |none=>none)
 |_,_,_,_,_=>none
def Q5:List V->V
 |[v]=>v
 |l=>.tp (fy l)
def zo:List Nat->Bool
 |[]=>true
 |a::r=>!r.contains a&&zo r
def wB:V->Option (List V)
 |.ni=>some []
 |.co a r=>bif(yL a==1)&&!uf a then(match wB r with|some l=>some (a::l)|none=>none)else none
 |_=>none
def yt{β:Type}(tb:E6)(ro:Bool)(kG:List Bool)(f:V)(vs:List V)(s:S2)(k:V->S2->List Nat->Option β):Option β:=
 match f with
 |.fn _ fid caps=>
  match(match wB caps with|some cs=>Bg s.heap fid (vs++cs) tb|none=>none)with
  |some (sp,pay,az,q)=>
   bif(!ro||sp.ro)&&decide (sp.kG=kG)&&zo (q.flatMap (·.2))&&(q.flatMap (·.2)).all (fun i=>!az.contains i)then
    match wI (ff (sp.ps.map (·.2))) pay with
    |some p=>(sp.fn p).bind fun z=>Tm (fun rs os l=>
     match(bif ro then some s else rk s.heap az s)with
     |some s0=>eV os q (l.drop (ff rs).length) s0 fun s1=>
      (match Ja rs (l.take (ff rs).length) s1 with
      |some (xs,_,s2)=>k (Q5 xs) s2 (az++q.flatMap (·.2))
      |none=>none)
     |none=>none) sp.al z
    |none=>none
   else none
  |none=>none
 |_=>none
structure Rg where
 kn:List (Nat×Bool)
 cd:List (Nat×Nat×Bool×V)
def RQ(kn:List (Nat×Bool))(g:Nat):Option Bool:=cm kn g
def Kf(s:S2)(q:Rg)(gc:Option (Nat×Bool)):Operand->Option V
 |.tmp t=>match cm q.cd t with|some (g,b,v)=>bif decide (gc=some (g,b))||decide (RQ q.kn g=some b)then(bif iU s.heap v then some v else none)else none|none=>Ke s.dE s.heap (.tmp t)
 |o=>Ke s.dE s.heap o
def F0(s:S2)(q:Rg)(gc:Option (Nat×Bool)):List Operand->Option (List V)
 |[]=>some []
 |a::r=>match Kf s q gc a,F0 s q gc r with|some x,some y=>some (x::y)|_,_=>none
inductive GV where
 |run
 |skip
 |Tf (g:Nat) (b:Bool) (c:Bool)
def YG(e:List (Nat×V))(kn:List (Nat×Bool)):Option (Nat×Bool)->Option GV
 |none=>some .run
 |some (g,b)=>
  match RQ kn g with
  |some c=>some (bif c==b then .run else .skip)
  |none=>(match cm e g with
   |some (.kb c)=>some (bif c==b then .run else .skip)
   |some (.x .b c)=>some (.Tf g b c)
   |some .no=>some .skip
   |_=>none)
def K1(s:S2)(q:Rg)(gc:Option (Nat×Bool)):List Operand->Option V
 |[.tmp g,a,b]=>match RQ q.kn g,cm s.dE g with|some c,_=>Kf s q gc (bif c then a else b)|none,some (.kb c)=>Kf s q gc (bif c then a else b)|none,some (.x .b c)=>(match Kf s q (some (g,true)) a,Kf s q (some (g,false)) b with|some x,some y=>YA c x y|_,_=>none)|_,_=>none
 |[.const (.bool c),a,b]=>Kf s q gc (bif c then a else b)
 |_=>none
def Gk:K->Bool
 |.pick=>true
 |_=>false
def NN(o:OP)(s:S2)(q:Rg)(gc:Option (Nat×Bool)):Option (V×List Nat):=
 bif Gk o.o.k then(match K1 s q gc o.o.args with|some v=>some (v,[])|none=>none)
 else(match F0 s q gc o.o.args with|some vs=>P_ o vs s.heap|none=>none)
def uP(s:S2)(d:Option Nat)(v:V):S2:=match d with|some d=>{s with dE:=(d,v)::s.dE}|none=>s
def PA(q:Rg)(d:Option Nat):Option Rg:=match d with|none=>some q|some d=>bif q.cd.any (fun e=>e.2.1==d)||q.kn.any (fun e=>e.1==d)then none else some ⟨q.kn,q.cd.filter (fun e=>!(e.1==d))⟩
abbrev Kh:=List (List Nat×List Nat)
def V2{β:Type}(tb:E6)(o:OP)(s:S2)(q:Rg)(gc:Option (Nat×Bool))(k:V->S2->List Nat->Option β):Option β:=
 match NN o s q gc with
 |some (v,l)=>k v s l
 |none=>
  match F0 s q gc o.o.args with
  |some vs=>
   (match o.o.k,vs with
   |.call ro kG,f::vs=>yt tb ro kG f vs s k
   |_,vs=>part o vs s k)
  |none=>none
def Nw(dr:Option Nat)(i:Nat)(s:S2):S2:=match dr with|some b=>{s with next:=b+aD*i}|none=>s
def Jm(dr:Option Nat)(i:Nat)(s:S2):Bool:=match dr with|some b=>g_ s.next (b+aD*(i+1))|none=>true
def Tn(d:Option Nat)(r:List OP):Bool:=
 match d with
 |some d=>r.any fun o=>match o.o.guard with|some (g,_)=>mP g d|none=>false
 |none=>false
def nM{β:Type}(tb:E6)(dr:Option Nat):List OP->Nat->S2->Rg->Kh->(S2->Kh->Option β)->Option β
 |[],_,s,_,tr,k=>k s tr
 |o::r,i,s0,q,tr,k=>
  let s:=Nw dr i s0
  let go:Rg->Option β:=fun q=>V2 tb o s q o.o.guard fun v s1 l=>
   bif Jm dr i s1 then(match PA q o.o.dst with
    |some q=>nM tb dr r (i+1) (uP s1 o.o.dst v) q (tr++[(l,s1.wo.take (s1.wo.length-s.wo.length))]) k
    |none=>none)else none
  let no:Rg->Option β:=fun q=>match PA q o.o.dst with|some q=>nM tb dr r (i+1) (uP s o.o.dst .no) q (tr++[([],[])]) k|none=>none
  match YG s.dE q.kn o.o.guard with
  |none=>none
  |some .run=>go q
  |some .skip=>no q
  |some (.Tf g b c)=>
   match(bif Tn o.o.dst r then none else NN o s q (some (g,b)))with
   |some (v,l)=>
    (match PA q o.o.dst,o.o.dst with
    |some q,some d=>bif mP g d then none else nM tb dr r (i+1) (uP s (some d) .gn) ⟨q.kn,(d,g,b,v)::q.cd⟩ (tr++[(l,[])]) k
    |_,_=>none)
   |none=>(match b with
    |true=>bif c then go ⟨(g,true)::q.kn,q.cd⟩else no ⟨(g,false)::q.kn,q.cd⟩
    |false=>bif c then no ⟨(g,true)::q.kn,q.cd⟩else go ⟨(g,false)::q.kn,q.cd⟩)
inductive JV where
 |x (t:Ty)
 |pt (t:Ty)
 |so (j:Nat)
 |sr (j:Nat)
 |om (j:Nat)
 |op (j:Nat) (t:Ty) (p:List Nat)
 |nl (k:Nat)
 |fn (z:Bool) (f:Nat) (l:JV)
 |rc (l:JV)
 |ni
 |co (a r:JV)
 |sm
 |gn
 deriving Inhabited
inductive JO where
 |ar (t:Ty)
 |bx (t:Ty) (c:JV)
 |mp (k v:Ty)
 |rw(t:Ty)
 deriving Inhabited
structure J where
 vs:List (Nat×JV):=[]
 gs:JV:=.sm
 os:List JO:=[]
 kl:List Nat:=[]
 deriving Inhabited
def JS:JV->List Ty
 |.x t|.pt t=>[t]
 |.fn _ _ l|.rc l=>JS l
 |.co a r=>JS a++JS r
 |_=>[]
def Qz:List (Nat×JV)->List Ty
 |[]=>[]
 |(_,a)::r=>JS a++Qz r
def YT:JO->List Ty
 |.ar t=>[.sl t]
 |.bx _ c=>JS c
 |.mp k v=>[.mp k v]
 |.rw t=>[.sl (.sl t)]
def QA:List JO->List Ty
 |[]=>[]
 |a::r=>YT a++QA r
def ql(j:J):List Ty:=Qz j.vs++(JS j.gs++QA j.os)
structure Bd where
 j:Nat
 id:Option Nat
def M7:List Bd->Nat->Option Bd
 |[],_=>none
 |b::r,j=>bif b.j==j then some b else M7 r j
def wm(m:List Bd)(b:Bd):Option (List Bd):=
 match M7 m b.j with
 |none=>bif(match b.id with|some i=>m.all (fun c=>match c.id with|some i'=>!(i'==i)|none=>true)|none=>true)then some (b::m)else none
 |some c=>(match b.id,c.id with
  |some i,some i'=>bif i==i' then some m else none
  |_,_=>none)
def DD:qo->Option (List Nat)
 |[]=>some []
 |.fd i::p=>match DD p with|some l=>some (i::l)|none=>none
 |.ix _::_=>none
def dP:JV->Bool->V->List Bd->Option (List V×List Bd)
 |.x t,false,v,m=>match sd t v with|some y=>some ([.x t y],m)|none=>none
 |.pt t,false,.pt u v,m=>match gC u t v with|some y=>some ([.x t y],m)|none=>none
 |.so j,false,.so id,m=>match wm m ⟨j,some id⟩with|some m=>some ([],m)|none=>none
 |.so j,false,.nl 0,m=>match wm m ⟨j,none⟩with|some m=>some ([],m)|none=>none
 |.so j,false,.x (.sl _) v,m=>bif Sl.fF v then(match wm m ⟨j,none⟩with|some m=>some ([],m)|none=>none)else none
 |.sr j,false,.sr id,m=>match wm m ⟨j,some id⟩with|some m=>some ([],m)|none=>none
 |.om j,false,.om id,m=>match wm m ⟨j,some id⟩with|some m=>some ([],m)|none=>none
 |.op j t p,false,.op id u q,m=>bif decide (u=t)&&decide (DD q=some p)then(match wm m ⟨j,some id⟩with|some m=>some ([],m)|none=>none)else none
 |.nl k,false,.nl k',m=>bif k==k' then some ([],m)else none
 |.fn z f l,false,.fn z' f' l',m=>bif(z==z')&&(f==f')then dP l true l' m else none
 |.rc l,false,.rc l',m=>dP l true l' m
 |.rc l,false,.x (.st t) v,m=>dP l true (Ip t v) m
 |.ni,true,.ni,m=>some ([],m)
 |.co a r,true,.co x y,m=>match dP a false x m with|some (l,m)=>(match dP r true y m with|some (l',m)=>some (l++l',m)|none=>none)|none=>none
 |_,_,_,_=>none
def Bt(s:S2):List (Nat×JV)->List Bd->Option (List V×List Bd)
 |[],m=>some ([],m)
 |(t,a)::r,m=>match Ke s.dE s.heap (.tmp t)with|some v=>(match dP a false v m with|some (l,m)=>(match Bt s r m with|some (l',m)=>some (l++l',m)|none=>none)|none=>none)|none=>none
def MY(h:H2)(j:Nat)(o:JO)(m:List Bd):Option (List V×List Bd):=
 match M7 m j with
 |some b=>(match o,b.id with
  |.ar t,none=>bif CY t then some ([.x (.sl t) Sl.nil],m)else none
  |.ar t,some id=>(match fO h id with|some (.ar u s _)=>(match gC (.sl u) (.sl t) s with|some s=>some ([.x (.sl t) s],m)|none=>none)|_=>none)
  |.rw t,some id=>(match fO h id with|some (.rw u s none)=>(match gC (.sl (.sl u)) (.sl (.sl t)) s with|some s=>some ([.x (.sl (.sl t)) s],m)|none=>none)|_=>none)
  |.bx t c,some id=>(match fO h id with|some (.bx u v)=>bif decide (u=t)then dP c false v m else none|_=>none)
  |.mp k v,some id=>(match fO h id with|some (.mp k' v' y)=>(match gC (.mp k' v') (.mp k v) y with|some y=>some ([.x (.mp k v) y],m)|none=>none)|_=>none)
  |_,_=>none)
 |none=>none
def Bu(h:H2):List JO->Nat->List Bd->Option (List V×List Bd)
 |[],_,m=>some ([],m)
 |o::r,j,m=>match MY h j o m with|some (l,m)=>(match Bu h r (j+1) m with|some (l',m)=>some (l++l',m)|none=>none)|none=>none
def sT:V->V->Bool
 |.so i,.so j=>i==j
 |.sr i,.sr j=>i==j
 |.op i t [],.op j u []=>(i==j)&&decide (t=u)
 |.nl k,.nl l=>k==l
 |.gn,.gn=>true
 |_,_=>false
def yS:V->V->Bool
 |.ni,.ni=>true
 |.co a r,.co x y=>sT a x&&yS r y
 |_,_=>false
def qm(h:H2):JV->V->V->List Bd->Option (List V×List Bd)
 |.sm,g0,g,m=>bif yS g0 g then some ([],m)else none
 |.ni,.ni,.ni,m=>some ([],m)
 |.co a r,.co x0 y0,.co x y,m=>match a with|.sm=>bif sT x0 x then qm h r y0 y m else none|.gn=>qm h r y0 y m|a=>bif iU h x then(match dP a false x m with|some (l,m)=>(match qm h r y0 y m with|some (l',m)=>some (l++l',m)|none=>none)|none=>none)else none
 |_,_,_,_=>none
def AH:List (Nat×JV)->S2->S2
 |[],s=>s
 |(t,.so _)::r,s=>(match cm s.dE t with
  |some (.sb id ver _ u x)=>(match fO s.heap id with
   |some (.ar _ _ v)=>bif kQ u&&v==ver then AH r ⟨(t,.so s.next)::s.dE,(s.next,some (.ar u x 0))::(id,none)::s.heap,s.next+1,s.next::id::s.wo,s.gh⟩else AH r s
   |_=>AH r s)
  |_=>AH r s)
 |_::r,s=>AH r s
def Bw(j:J)(s0:S2)(s:S2):Option (List V):=
 match Bt s j.vs []with
 |some (l1,m)=>match qm s.heap j.gs s0.gh s.gh m with
  |some (l2,m)=>(match Bu s.heap j.os 0 m with
   |some (l3,m)=>bif s.wo.all (fun i=>g_ s0.next i||j.kl.contains i)&&m.all (fun b=>Nat.blt b.j j.os.length&&(match b.id with|some i=>g_ s0.next i||j.kl.contains i|none=>true))then some (l1++(l2++l3))else none
   |none=>none)
  |none=>none
 |none=>none
def xX(j:J)(s0:S2)(s:S2):Option (List V):=match AH j.vs s with|⟨e,h,n,w,g⟩=>Bw j s0 ⟨e,h,n,w,g⟩
def jq(b:Nat):JV->Bool->List V->V->Option (V×List V)
 |.x t,false,.x u v::l,_=>bif decide (u=t)&&kQ u then some (.x u v,l)else none
 |.pt t,false,.x u v::l,_=>bif decide (u=t)&&kQ u then some (.pt u v,l)else none
 |.so j,false,l,_=>some (.so (b+j),l)
 |.sr j,false,l,_=>some (.sr (b+j),l)
 |.om j,false,l,_=>some (.om (b+j),l)
 |.op j t p,false,l,_=>some (.op (b+j) t (p.map .fd),l)
 |.nl k,false,l,_=>some (.nl k,l)
 |.fn z f c,false,l,_=>match jq b c true l .ni with|some (w,l)=>some (.fn z f w,l)|none=>none
 |.rc c,false,l,_=>match jq b c true l .ni with|some (w,l)=>some (.rc w,l)|none=>none
 |.ni,true,l,_=>some (.ni,l)
 |.co a r,true,l,.co x y=>match jq b a false l x with|some (v,l)=>(match jq b r true l y with|some (w,l)=>some (.co v w,l)|none=>none)|none=>none
 |.co a r,true,l,_=>match jq b a false l .gn with|some (v,l)=>(match jq b r true l .ni with|some (w,l)=>some (.co v w,l)|none=>none)|none=>none
 |.sm,_,l,v=>some (v,l)
 |.gn,false,l,_=>some (.gn,l)
 |_,_,_,_=>none
def Hl(b:Nat):List (Nat×JV)->List V->Option (List (Nat×V)×List V)
 |[],l=>some ([],l)
 |(t,a)::r,l=>match jq b a false l .gn with|some (v,l)=>(match Hl b r l with|some (e,l)=>some ((t,v)::e,l)|none=>none)|none=>none
def FL(b:Nat):JO->List V->Option (O×List V)
 |.ar t,.x (.sl u) v::l=>bif decide (u=t)then some (.ar u v 0,l)else none
 |.rw t,.x (.sl (.sl u)) v::l=>bif decide (u=t)&&CY t then some (.rw u v none,l)else none
 |.bx t c,l=>match jq b c false l .gn with|some (w,l)=>bif eZ w false t then some (.bx t w,l)else none|none=>none
 |.mp k v,.x (.mp k' v') m::l=>bif decide (k'=k)&&decide (v'=v)then some (.mp k' v' m,l)else none
 |_,_=>none
def Ds(b:Nat):List JO->Nat->List V->Option (H2×List V)
 |[],_,l=>some ([],l)
 |o::r,j,l=>match FL b o l with|some (o,l)=>(match Ds b r (j+1) l with|some (h,l)=>some ((b+j,some o)::h,l)|none=>none)|none=>none
def vp(j:J)(ds:List Nat)(s0:S2)(l:List V):Option S2:=
 match Hl s0.next j.vs l with
 |some (e,l)=>(match jq s0.next j.gs true l s0.gh with
  |some (g,l)=>(match Ds s0.next j.os 0 l with
   |some (h,_)=>some ⟨e++ds.map (fun t=>(t,V.gn))++s0.dE,h++j.kl.map (fun i=>(i,none))++s0.heap,s0.next+j.os.length,h.map (·.1)++j.kl++s0.wo,g⟩
   |none=>none)
  |none=>none)
 |none=>none
abbrev Ex:=List (qX×J)
@[reducible] def E7:Ex->Type
 |[]=>Empty
 |(_,j)::r=>Nm j r
where Nm:J->Ex->Type
 |j,[]=>rp (ql j)
 |j,(_,j')::r=>rp (ql j)⊕Nm j' r
def L3(s0:S2)(o:qX)(s:S2):(o':qX)->(j:J)->(r:Ex)->Option (E7.Nm j r)
 |o',j,[]=>bif decide (o=o')then(match xX j s0 s with|some l=>wI (ql j) l|none=>none)else none
 |o',j,(o2,j2)::r=>bif decide (o=o')then(match xX j s0 s with|some l=>(match wI (ql j) l with|some p=>some (.inl p)|none=>none)|none=>none)
  else(match L3 s0 o s o2 j2 r with|some x=>some (.inr x)|none=>none)
def Jl(s0:S2)(o:qX)(s:S2):(e:Ex)->Option (E7 e)
 |[]=>none
 |(o',j)::r=>L3 s0 o s o' j r
def Ra{β:Type}(ds:List Nat)(s0:S2)(k:qX->S2->Option β):(o:qX)->(j:J)->(r:Ex)->E7.Nm j r->Option β
 |o,j,[],p=>match vp j ds s0 (iB (ql j) p)with|some s=>k o s|none=>none
 |o,j,(o2,j2)::r,x=>match x with|.inl p=>(match vp j ds s0 (iB (ql j) p)with|some s=>k o s|none=>none)|.inr y=>Ra ds s0 k o2 j2 r y
def K6{β:Type}(ds:List Nat)(s0:S2)(k:qX->S2->Option β):(e:Ex)->E7 e->Option β
 |[],x=>nomatch x
 |(o,j)::r,x=>Ra ds s0 k o j r x
inductive C2 where
 |skip
 |Oe (ops:List OP) (dr:Option (List (Nat×Nat))) (jn:Option J)
 |seq (a b:C2) (e:Ex)
 |cond (c:Operand) (a b:C2)
 |block (id:Nat) (a:C2)
 |loop (j:J) (e:Ex) (a:C2)
 |exit (id:Nat)
 |ret
 |gk
 deriving Inhabited
def nv:C2->List Nat
 |.Oe ops _ _=>ops.filterMap (·.o.dst)
 |.seq a b _|.cond _ a b=>nv a++nv b
 |.block _ a|.loop _ _ a=>nv a
 |_=>[]
def LS:K->Bool
 |.lookup _ _ _ _ _=>true
 |_=>false
def Qb(ops:List OP)(tr:Kh)(i j:Nat):Bool:=
 match ops[i]?,tr[i]?with
 |some o,some ([id],[])=>LS o.o.k&&((tr.take j).drop (i+1)).all (fun x=>!x.2.contains id)
 |_,_=>false
def Sq(ops:List OP)(tr:Kh)(dyn:List (Nat×Nat)):Bool:=
 dyn.all fun p=>bif g_ 1000 p.2 then(match tr[p.1]?,tr[p.2-1000]?with|some a,some b=>mH a b||Qb ops tr p.1 (p.2-1000)|_,_=>true)
  else(match tr[p.1]?,tr[p.2]?with|some a,some b=>mH a b|_,_=>true)
def S5(s:S2)(id:Nat):Option S2:=
 match fO s.heap id with
 |some (.rw t v (some (m,id2)))=>(match fO s.heap id2 with
  |some (.ar u r _)=>(match gC (.sl u) (.sl t) r with
   |some r=>some (eN (eN s id2 none) id (some (.rw t (.mk (v.l.set m r)) none)))
   |none=>none)
  |_=>none)
 |_=>some s
def CP:List Nat->S2->Option S2
 |[],s=>some s
 |id::r,s=>match S5 s id with|some s=>CP r s|none=>none
def S6(s s':S2):Option S2:=CP (s'.wo.take (s'.wo.length-s.wo.length)) s'
def HZ{β:Type}(tb:E6)(ops:List OP)(dr:Option (List (Nat×Nat)))(s:S2)(k:S2->Option β):Option β:=match dr with|none=>nM tb none ops 0 s ⟨[],[]⟩ [] fun s' _=>(S6 s s').bind k|some dyn=>nM tb (some s.next) ops 0 s ⟨[],[]⟩ [] fun s' tr=>bif Sq ops tr dyn then(S6 s {s' with next:=s.next+aD*ops.length}).bind k else none
def xW{β:Type}(tb:E6):C2->S2->(qX->S2->Option β)->Option β
 |.skip,s,k=>k .normal s
 |.Oe ops dr none,s,k=>HZ tb ops dr s fun s=>k .normal s
 |.Oe ops dr (some j),s,k=>(HZ tb ops dr {s with wo:=[]} fun s'=>match xX j s s' with|some l=>wI (ql j) l|none=>none).bind fun p=>match vp j (ops.filterMap (·.o.dst)) s (iB (ql j) p)with|some s=>k .normal s|none=>none
 |.seq a b [],s,k=>xW tb a s fun o s=>match o with|.normal=>xW tb b s k|o=>k o s
 |.seq a b (e::r),s,k=>(xW tb a {s with wo:=[]} fun o s'=>Jl s o s' (e::r)).bind fun x=>K6 (nv a) s (fun o s=>match o with|.normal=>xW tb b s k|o=>k o s) (e::r) x
 |.cond c a b,s,k=>(match Ke s.dE s.heap c with
  |some (.kb t)=>bif t then xW tb a s k else xW tb b s k
  |some (.x .b t)=>bif t then xW tb a s k else xW tb b s k
  |_=>none)
 |.block id a,s,k=>xW tb a s fun o s=>match o with|.exit i=>k (bif i==id then .normal else .exit i) s|o=>k o s
 |.loop j e a,s,k=>
  bif e.all (fun x=>j.kl.all fun i=>x.2.kl.contains i)then(match xX j s {s with wo:=[]}with
  |some l=>(match wI (ql j) l with
   |some p0=>(bw (fun p=>match vp j (nv a) s (iB (ql j) p)with
     |some s1=>xW tb a {s1 with wo:=[]} fun o s'=>(match o with
      |.normal=>(match xX j s s' with|some l=>(match wI (ql j) l with|some q=>some (Sum.inl q)|none=>none)|none=>none)
      |o=>(match Jl s o s' e with|some x=>some (Sum.inr x)|none=>none))
     |none=>none) p0).bind fun x=>K6 (nv a) s k e x
   |none=>none)
  |none=>none)else none
 |.exit id,s,k=>k (.exit id) s
 |.ret,s,k=>k .ret s
 |.gk,_,_=>none
def fk(P:Program):Nat->TypeId->Ty
 |0,_=>.o 9
 |n+1,t=>match P.underlying t with|some (.int k)=>.i k|some .bool=>.b|some .string=>.s|some (.float k)=>.f k|some (.slice e)=>.sl (fk P n e)|some (.map k v)=>.mp (fk P n k) (fk P n v)|some (.struct fs)=>.st (VQ (fs.toList.map fun f=>fk P n f.type))|some (.array m e)=>.ar m (fk P n e)|some (.pointer _)=>.o 1|some (.func ..)=>.o 2|_=>.o 4
where VQ:List Ty->Ty
 |[]=>.un
 |[t]=>t
 |t::r=>.pr t (VQ r)
def JK:Nat:=12
def Sn(P:Program)(t:TypeId):Ty:=match P.underlying t with|some (.slice e)=>fk P JK e|some (.array _ e)=>fk P JK e|_=>.o 9
def Qr(P:Program):Op->Ty×List Nat
 |.alloc e=>(fk P JK e,[])
 |.box t _=>(fk P JK t,[])
 |.build t parts=>(fk P JK t,parts.toList.map (·.1))
 |.buildSlice t _ parts=>(Sn P t,parts.toList.map (·.1))
 |.fieldAddr _ _ f=>(.o 9,[f])
 |.field _ _ f=>(.o 9,[f])
 |.makeSlice t _ _=>(Sn P t,[])
 |.makeMap t _=>(fk P JK t,[])
 |.call c=>(match c.callee,c.argTypes.toList with|.builtin _,t::_=>Sn P t|_,_=>.o 9,[])
 |_=>(.o 9,[])
def Ro(P:Program)(bz:ww)(nt:Nat)(all:Array Oper)(o:Oper):OP:=⟨gK P bz nt all o,(Qr P o.op).1,(Qr P o.op).2⟩
structure An where
 j:Option J:=none
 e:Ex:=[]
 deriving Inhabited
def qf(P:Program)(bz:ww)(nt:Nat)(an:List (Nat×An)):Code->Nat->C2×Nat
 |.skip,n=>(.skip,n)
 |.region _ ops draw,n=>
  (if draw then(if zk (Nh ops.toList []) ops.toList 0&&yR (Nh ops.toList []) (ops.toList.map (gK P bz nt ops)) 0&&decide (ops.toList.length<=1000)
   then .Oe (ops.toList.map (Ro P bz nt ops)) (some (t7 (Nh ops.toList []) (ops.toList.map (gK P bz nt ops)) 0)) ((cm an n).bind (·.j))else .gk)
   else .Oe (ops.toList.map (Ro P bz nt ops)) none ((cm an n).bind (·.j)),n+1)
 |.seq a b,n=>
  let x:=qf P bz nt an a (n+1);let y:=qf P bz nt an b x.2
  (.seq x.1 y.1 (match cm an n with|some w=>w.e|none=>[]),y.2)
 |.cond c a b,n=>let x:=qf P bz nt an a n;let y:=qf P bz nt an b x.2;(.cond c x.1 y.1,y.2)
 |.block id a,n=>let x:=qf P bz nt an a n;(.block id x.1,x.2)
 |.loop a,n=>
  let x:=qf P bz nt an a (n+1)
  (match cm an n with|some ⟨some j,e⟩=>.loop j e x.1|_=>.gk,x.2)
 |.scope a,n=>qf P bz nt an a n
 |.label _,n=>(.skip,n)
 |.exit id,n=>(.exit id,n)
 |.ret,n=>(.ret,n)
 |_,n=>(.gk,n)
structure F2 where
 np:Nat
 kW:List RV
 body:C2
def Br(P:Program)(bz:ww)(f np:Nat)(an:List (Nat×An)):Option F2:=
 match P.funcs[f]?with
 |none=>none
 |some g=>
  match g.body with
  |none=>none
  |some code=>
   if(g.name== "runtime.NumGoroutine")=false/\np<=g.ntmps/\g.ntmps<1000000000 then
    match AY P g.results.toList with|some kW=>some ⟨np,kW,(qf P bz g.ntmps an code 0).1⟩|none=>none
   else none
def C9:Sh->List V->Option (V×List V)
 |.ni,l=>some (.ni,l)
 |.pr (.pt t) c,.x u v::l=>bif decide (u=t)&&kQ t then(match C9 c l with|some (w,l)=>some (.co (.pt u v) w,l)|none=>none)else none
 |_,_=>none
def t6:List (Bool×Sh)->Nat->List V->S2->Option (List (Nat×V)×S2)
 |[],_,[],s=>some ([],s)
 |(false,.x t)::r,i,.x u v::l,s=>bif decide (u=t)&&kQ t then(match t6 r (i+1) l s with|some (e,s)=>some ((i,.x u v)::e,s)|none=>none)else none
 |(false,.pt t)::r,i,.x u v::l,s=>bif decide (u=t)&&kQ t then(match t6 r (i+1) l s with|some (e,s)=>some ((i,.pt u v)::e,s)|none=>none)else none
 |(false,.nl k)::r,i,l,s=>(match t6 r (i+1) l s with|some (e,s)=>some ((i,.nl k)::e,s)|none=>none)
 |(false,.fn f c)::r,i,l,s=>(match C9 c l with|some (w,l)=>(match t6 r (i+1) l s with|some (e,s)=>some ((i,.fn true f w)::e,s)|none=>none)|none=>none)
 |(true,c)::r,i,l,s=>(match qK c false l s with
  |some (w,l,s)=>(match t6 r (i+1) l s with|some (e,s)=>some ((i,w)::e,{s with gh:=.co w s.gh})|none=>none)
  |none=>none)
 |_,_,_,_=>none
def Sm(ps:List (Bool×Sh))(l:List V):Option S2:=
 match t6 ps 0 l ⟨[],[],0,[],.ni⟩with
 |some (e,s)=>some {s with dE:=e}
 |none=>none
def Oa(s:S2):RV->Option V
 |.tmp t=>Ke s.dE s.heap (.tmp t)
 |.cell t g n=>match Ke s.dE s.heap (.tmp t)with|some p=>(match zy s.heap p with|some (w,_)=>bif GG s.heap g n w then some w else none|none=>none)|none=>none
def Oc(h:H2):Sh->V->Option (List V×List Nat)
 |.x t,v=>match jA h v with|some (w,l)=>(match sd t w with|some y=>some ([.x t y],l)|none=>none)|none=>none
 |.os t,.sb id _ _ u r=>(match fO h id with|some (.ar _ _ _)=>(match gC (.sl u) (.sl t) r with|some s=>some ([.x (.sl t) s],[id])|none=>none)|_=>none)
 |c,v=>eA h c false v
def XC(h:H2):Sh->V->Option (List V×List Nat)
 |.gn,_=>some ([],[])
 |c,v=>bif iU h v then eA h c false v else none
def A1(h:H2):List Sh->List V->Option (List V×List Nat)
 |[],[]=>some ([],[])
 |c::r,v::vs=>match Oc h c v,A1 h r vs with|some (l,i),some (m,j)=>some (l++m,i++j)|_,_=>none
 |_,_=>none
def A0(h:H2):List Sh->List V->Option (List V×List Nat)
 |[],[]=>some ([],[])
 |c::r,v::vs=>match XC h c v,A0 h r vs with|some (l,i),some (m,j)=>some (l++m,i++j)|_,_=>none
 |_,_=>none
def ON{α β:Type}(f:α->Option β):List α->Option (List β)
 |[]=>some []
 |a::r=>match f a,ON f r with|some x,some y=>some (x::y)|_,_=>none
def Ju(kW:List RV)(rs os:List Sh)(s:S2):Option (List V):=
 match ON (Oa s) kW with
 |some vs=>match A1 s.heap rs vs,A0 s.heap os (AQ s.gh)with|some (l,i),some (m,j)=>bif zo (i++j)then some (l++m)else none|_,_=>none
 |none=>none
def Jv(kW:List RV)(s:S2):(r o:List Sh)->(w:Wy)->Option (wv.GU r o w)
 |r,o,[]=>match Ju kW r o s with|some l=>wI (ff r++ff o) l|none=>none
 |r,o,(r',o')::w=>match Ju kW r o s with|some l=>(match wI (ff r++ff o) l with|some z=>some (.inl z)|none=>none)|none=>(match Jv kW s r' o' w with|some z=>some (.inr z)|none=>none)
def O8(kW:List RV)(s:S2):(w:Wy)->Option (wv w)
 |[]=>none
 |(r,o)::w=>Jv kW s r o w
def Vz(tb:E6)(F:Option F2)(ps:List (Bool×Sh))(al:Wy)(p:rp (ff (ps.map (·.2)))):Option (wv al):=
 match F with
 |some F=>
  match Sm ps (iB _ p)with
  |some s=>xW tb F.body s fun o s=>match o with|.exit _=>none|_=>O8 F.kW s al
  |none=>none
 |none=>none
theorem Er{α β:Type}{f:α->List β}{n:Nat}(h:∀a,(f a).length=n)(l:List α):(l.flatMap f).length=l.length*n:=by induction l with|nil=>simp|cons a l ih=>simp[bg,h,ih,b_];omega
theorem bW:∀(t:Ty)(v:El t),(aS t v).length=ce t:=by intro t;induction t with|pr a c iha ihc=>intro v;simp[aS,ce,iha,ihc]|st t ih=>intro v;simp[aS,ce,ih]|ar n t ih=>intro v;rw[aS,Er ih,v.2];rfl|_=>intro v;rfl
theorem zI{α β:Type}[Inhabited α]{f:α->List β}{n:Nat}(h:∀a,(f a).length=n):∀(l:List α)(k:Nat),k<l.length->((l.flatMap f).drop (k*n)).take n=f (gt l k):=by
 intro l;induction l with
 |nil=>intro k hk;simp at hk
 |cons a l ih=>
  intro k hk;cases k with
  |zero=>simp[gt,h]
  |succ k=>
   have e:(k+1)*n=(f a).length+k*n:=by rw[h,b_];omega
   rw[bg,e,<-dM,dX (am _),jo,bE,ih k (by simpa using hk)];rfl
theorem Mj{α β:Type}{f:α->List β}{n:Nat}(h:∀a,(f a).length=n):∀(l:List α)(k:Nat)(x:α),k<l.length->(l.set k x).flatMap f=aX (l.flatMap f) (k*n) (f x):=by
 intro l;induction l with
 |nil=>intro k x hk;simp at hk
 |cons a l ih=>
  intro k x hk;cases k with
  |zero=>
   simp only[List.set_cons_zero,bg,aX,Nat.zero_mul,List.take_zero,bE,Nat.zero_add,h];have:(f a++l.flatMap f).drop n=l.flatMap f:=by rw[<-h a,dX (am _),jo,bE]
   rw[this]
  |succ k=>
   have e:(k+1)*n=(f a).length+k*n:=by rw[h,b_];omega
   simp only[List.set_cons_succ,bg,aX,e,List.take_length_add_append,dz];rw[<-dM,dX (am _),jo,bE,ih k x (by simpa using hk)];simp[aX]
theorem dl{t u:Ty}{v:El t}{y:El u}(h:gC t u v=some y):∃e:t=u,y=e▸v:=by
 unfold gC at h;split at h
 .rename_i e;exact⟨e,(aa h).symm⟩
 .simp at h
theorem xm{t u:Ty}{v:El t}{y:El u}(h:gC t u v=some y):aS u y=aS t v/\t=u:=by obtain⟨rfl,rfl⟩:=dl h;exact⟨rfl,rfl⟩
theorem rN:∀(t:Ty)(v:El t)(i:Nat)(w:V),AC t v i=some w->∃u y,w=.x u y/\C1 t i=some u/\pq t i+ce u<=ce t/\((aS t v).drop (pq t i)).take (ce u)=aS u y:=by
 intro t;induction t with
 |pr a c iha ihc=>intro v i w h;cases i with|zero=>obtain rfl:=aa h;refine⟨a,v.1,rfl,rfl,by simp[pq,ce],?_⟩;simp[pq,aS,bW]|succ i=>obtain⟨u,y,rfl,h1,h2,h3⟩:=ihc v.2 i w h;refine⟨u,y,rfl,h1,by simp only[pq,ce];omega,?_⟩;simp only[pq,aS];rw[<-dM,<-bW a v.1,dX (am _),jo,bE,h3]
 |_=>intro v i w h;cases i with|zero=>obtain rfl:=aa h;exact⟨_,v,rfl,rfl,by simp[pq],by simp[pq,bX,bW]⟩|succ i=>simp[AC]at h
theorem R8:∀(t:Ty)(i:Nat)(u:Ty),C1 t i=some u->pq t i+ce u<=ce t:=by
 intro t;induction t with
 |pr a c iha ihc=>intro i u h;cases i with|zero=>obtain rfl:=aa h;simp[pq,ce]|succ i=>have:=ihc i u h;simp only[pq,ce];omega
 |_=>intro i u h;cases i with|zero=>obtain rfl:=aa h;simp[pq]|succ i=>simp[C1]at h
theorem um{α:Type}{a b p:List α}{off:Nat}:aX (a++b) (a.length+off) p=a++aX b off p:=by simp only[aX,List.take_length_add_append,dz,aR];rw[<-dM,dX (am _),jo,bE]
theorem ul{α:Type}{a b p:List α}{off:Nat}(h:off+p.length<=a.length):aX (a++b) off p=aX a off p++b:=by simp only[aX,aR];rw[List.take_append_of_le_length (by omega),dX h]
theorem m_{α:Type}{b p:List α}(h:p.length=b.length):aX b 0 p=p:=by simp[aX,h]
theorem vi{α:Type}{b p:List α}{off:Nat}(h:off+p.length<=b.length):(aX b off p).length=b.length:=by simp only[aX,bi,List.length_take,List.length_drop];omega
theorem vh{α β:Type}{f:α->β}{b p:List α}{off:Nat}:(aX b off p).map f=aX (b.map f) off (p.map f):=by simp[aX]
theorem ra{α:Type}{b c p:List α}{o1 o2 n:Nat}(hc:(b.drop o1).take n=c)(h1:o1+n<=b.length)(h2:o2+p.length<=n):aX b o1 (aX c o2 p)=aX b (o1+o2) p:=by
 have hcl:c.length=n:=by rw[<-hc];simp;omega
 have e:b=b.take o1++(c++b.drop (o1+n)):=by rw[<-hc,<-dM,jy,jy]
 have hl:(b.take o1).length=o1:=by simp;omega
 have hs:(aX c o2 p).length=n:=by rw[vi (by omega),hcl]
 have r2:aX b (o1+o2) p=b.take o1++(aX c o2 p++b.drop (o1+n)):=by
  conv=>lhs;rw[e]
  have:=um (a:=b.take o1) (b:=c++b.drop (o1+n)) (p:=p) (off:=o2);rw[hl]at this;rw[this,ul (by omega)]
 rw[r2];show b.take o1++aX c o2 p++b.drop (o1+(aX c o2 p).length)=_;rw[hs,aR]
theorem JN:∀(t:Ty)(l r:List Value)(x:El t),vB t l=some (x,r)->l.all ft=true->∃p,l=p++r/\(aS t x)=p.map D.lit:=by
 intro t;induction t with
 |pr a c iha ihc=>
  intro l r x h hp;simp only[vB]at h;split at h
  .rename_i y l1 h1;split at h
   .rename_i z l2 h2;obtain⟨rfl,rfl⟩:=af (aa h);obtain⟨p,rfl,e1⟩:=iha _ _ _ h1 hp;obtain⟨q,rfl,e2⟩:=ihc _ _ _ h2 (by rw[List.all_append,ak]at hp;exact hp.2);exact⟨p++q,by simp,by simp[aS,e1,e2]⟩
   .simp at h
  .simp at h
 |st t ih=>intro l r x h hp;exact ih l r x h hp
 |ar n t ih=>
  intro l r x h hp;simp only[vB]at h
  have key:∀(m:Nat)(l r:List Value)(x:Arr m (El t)),Ps (vB t) m l=some (x,r)->l.all ft=true->∃p,l=p++r/\x.1.flatMap (aS t)=p.map D.lit:=by
   intro m;induction m with
   |zero=>intro l r x h hp;obtain⟨rfl,rfl⟩:=af (aa h);exact⟨[],rfl,rfl⟩
   |succ m ihn=>
    intro l r x h hp;simp only[Ps]at h;split at h
    .rename_i y l1 h1;split at h
     .rename_i v l2 h2;obtain⟨rfl,rfl⟩:=af (aa h);obtain⟨p,rfl,e1⟩:=ih _ _ _ h1 hp;obtain⟨q,rfl,e2⟩:=ihn _ _ _ h2 (by rw[List.all_append,ak]at hp;exact hp.2);exact⟨p++q,by simp,by simp[bg,e1,e2]⟩
     .simp at h
    .simp at h
  exact key n l r x h hp
 |i k=>
  intro l r x h hp;simp only[vB]at h;unfold VK at h;split at h
  .split at h
   .rename_i e;subst e;obtain⟨rfl,rfl⟩:=af (aa h);exact⟨[_],rfl,rfl⟩
   .simp at h
  .simp at h
 |b=>
  intro l r x h hp;simp only[vB]at h;unfold VL at h;split at h
  .obtain ⟨rfl,rfl⟩:=af (aa h);exact⟨[_],rfl,rfl⟩
  .simp at h
 |s=>
  intro l r x h hp;simp only[vB]at h;unfold VI at h;split at h
  .obtain ⟨rfl,rfl⟩:=af (aa h);exact⟨[_],rfl,rfl⟩
  .simp at h
 |f k=>
  intro l r x h hp;simp only[vB]at h;unfold Qv at h;split at h
  .split at h
   .rename_i e;subst e;obtain⟨rfl,rfl⟩:=af (aa h);exact⟨[_],rfl,rfl⟩
   .simp at h
  .simp at h
 |sl t ih=>
  intro l r x h hp;simp only[vB]at h;unfold VJ at h;split at h
  .obtain ⟨rfl,rfl⟩:=af (aa h);exact⟨[_],rfl,rfl⟩
  .simp at h
 |_=>intro l r x h hp;simp[vB]at h
def Aa(h:H2)(id ver:Nat):Bool:=match fO h id with|some (.ar _ _ v)|some (.im _ _ v)=>v==ver|_=>false
def R0(id:Nat)(c:C):Prop:=∀i∈fo c,i=id
def fG(h:H2):V->List C->Prop
 |.x t v,cs=>kQ t=true/\cs=(aS t v).map .d
 |.kb c,cs=>cs=[.d (.lit (.bool c))]
 |.nl k,cs=>cs=[DZ k]
 |.so id,cs=>∃c,cs=[c]/\(∀c',AU id (fO h id)=some c'->c=c')/\R0 id c
 |.sr id,cs=>∃c,cs=[c]/\(∀c',Fb id (fO h id)=some c'->c=c')/\R0 id c
 |.sb id ver lo t r,cs=>∃c,cs=[c]/\(Aa h id ver=true->c=yi id lo t r)/\R0 id c
 |.op id t p,cs=>cs=[.op id (nw t p)]
 |.ep id n t p,cs=>cs=[.ep id n (nw t p)]
 |.pt t v,cs=>kQ t=true/\cs=[.d (.pt (aS t v))]
 |.fn true f l,cs=>∃ds,rn l=some ds/\cs=[.d (.fn f ds)]
 |.fn false f l,cs=>∃xs,fG h l xs/\cs=[.pp f xs]
 |.om id,cs=>cs=[.om id]
 |.rc l,cs=>fG h l cs
 |.fl l,cs=>l.all ft=true/\cs=fm l
 |.ni,cs=>cs=[]
 |.co a r,cs=>∃x y,cs=x++y/\fG h a x/\fG h r y
 |.tp _,_|.no,_|.gn,_=>False
def tD(h:H2)(v:V)(x:TV):Prop:=∃cs,fG h v cs/\(uf v=true->x=.agg cs)/\(uf v=false->∃c,cs=[c]/\x=.c c)
def BJ(h:H2):V->List TV->Prop
 |.ni,xs=>xs=[]
 |.co a r,xs=>∃x ys,xs=x::ys/\tD h a x/\BJ h r ys
 |_,_=>False
def fZ(h:H2):V->TV->Prop
 |.tp l,x=>∃xs,x=.ia xs/\BJ h l xs
 |.no,x=>x=.ia []
 |.gn,_=>False
 |v,x=>tD h v x
def YR(t u:Ty)(s:Sl (El t))(lo:Nat)(r:Sl (El u)):Prop:=ce t=ce u/\match s,r with|.nil,.nil=>True|.mk l,.mk m=>lo+m.length<=l.length/\((l.map (aS t)).drop lo).take m.length=m.map (aS u)|_,_=>False
def fD(n:Nat)(h:H2):V->Prop
 |.so id|.sr id|.om id=>id<n
 |.sb id ver lo t r=>id<n/\∀u s v,(fO h id=some (.ar u s v)\/fO h id=some (.im u s v))->ver<=v/\(v=ver->YR u t s lo r)
 |.op id t p=>id<n/\I1 t p
 |.ep id m t p=>id<n/\I1 t p/\(∀u s v,(fO h id=some (.ar u s v)\/fO h id=some (.im u s v))->m<s.l.length)/\∀u s v,fO h id=some (.rw u s v)->m<s.l.length
 |.fn _ _ l|.rc l|.tp l=>fD n h l
 |.co a r=>fD n h a/\fD n h r
 |_=>True
def v7(h:H2):O->Option Ob->Prop
 |.ar t s _,b=>kQ t=true/\0<ce t/\(∀l,s=.mk l->b=some (.aK (ce t) (l.map (aS t))))
 |.im t s _,b=>kQ t=true/\0<ce t/\(∀l,s=.mk l->b=some (.p_ (ce t) (l.map (aS t))))
 |.bx t c,b=>∃cs,b=some (.box cs)/\fG h c cs/\eZ c false t=true
 |.ib t v,b=>kQ t=true/\b=some (.oW (aS t v))
 |.mp k v m,b=>kQ v=true/\(∃ks,Aj k=some ks)/\b=ym (lQ k) (lQ v) (fun x=>(aS k x).map fun|.lit y=>y|_=>.nilFunc) (aS v) m
 |.rw t s ln,b=>kQ t=true/\0<ce t/\(∀l,(s:Sl (Sl (El t)))=.mk l->b=some (.nst (ce t) (fx t l ln)))
def CZ(n:Nat)(h:H2):O->Prop
 |.bx _ c=>fD n h c
 |.rw _ s (some (m,id))=>m<s.l.length/\id<n/\∀u r v,(fO h id=some (.ar u r v)\/fO h id=some (.im u r v))->r.fF=(gt s.l m).fF/\r.l.length=(gt s.l m).l.length
 |_=>True
structure HR(n:Nat)(h1:bC)(h2:H2):Prop where
 ob:∀id o,fO h2 id=some o->id<n/\v7 h2 o (aw h1 id)/\CZ n h2 o
abbrev Nx(t:Ty)(s:Sl (El t)):(t:Ty)×Sl (El t):=⟨t,s⟩
abbrev Zn(t:Ty)(s:El t):(t:Ty)×El t:=⟨t,s⟩
def P4(t u:Ty)(s:Sl (El t))(s':Sl (El u))(v v':Nat):Prop:=v<=v'/\t=u/\s.fF=s'.fF/\s.l.length=s'.l.length/\(v=v'->Nx t s=Nx u s')
def sX:O->O->Prop
 |.ar t s v,.ar u s' v'|.ar t s v,.im u s' v'=>P4 t u s s' v v'
 |.im t s v,.im u s' v'=>v=v'/\Nx t s=Nx u s'
 |.bx t _,.bx u _=>t=u
 |.bx _ _,.ib _ _=>True
 |.ib t v,.ib u w=>Zn t v=Zn u w
 |.mp _ _ _,.mp _ _ _=>True
 |.rw t s _,.rw u s' _=>t=u/\s.fF=s'.fF/\s.l.length=s'.l.length
 |_,_=>False
def OR:O->Bool
 |.bx _ _|.ib _ _=>true
 |_=>false
structure jO(n:Nat)(h h':H2):Prop where
 ob:∀id o',id<n->fO h' id=some o'->(∃o,fO h id=some o/\sX o o')\/OR o'=true
theorem P4.trans{t u w:Ty}{s:Sl (El t)}{s':Sl (El u)}{s2:Sl (El w)}{a b c:Nat}(h1:P4 t u s s' a b)(h2:P4 u w s' s2 b c):P4 t w s s2 a c:=by obtain⟨a1,rfl,a3,a4,a5⟩:=h1;obtain⟨b1,rfl,b3,b4,b5⟩:=h2;refine⟨Nat.le_trans a1 b1,rfl,a3.trans b3,a4.trans b4,fun e=>?_⟩;have e1:a=b:=Nat.le_antisymm a1 (e▸b1);exact(a5 e1).trans (b5 (e1▸e))
theorem P4.of_eq{t u:Ty}{s:Sl (El t)}{s':Sl (El u)}{a b:Nat}(h:a=b)(e:Nx t s=Nx u s'):P4 t u s s' a b:=by subst h;obtain⟨rfl,e⟩:=jP e;cases e;exact⟨am _,rfl,rfl,rfl,fun _=>rfl⟩
theorem sX.refl(o:O):sX o o:=by cases o<;>simp[sX,P4]
theorem sX.trans{a b c:O}(h1:sX a b)(h2:sX b c):sX a c:=by
 cases a<;>cases b<;>simp only[sX]at h1<;>first|exact h1.elim|skip
 all_goals(cases c<;>simp only[sX]at h2|-<;>first|exact h2.elim|skip)
 .exact h1.trans h2
 .exact h1.trans h2
 .exact h1.trans (P4.of_eq h2.1 h2.2)
 .exact ⟨h1.1.trans h2.1,h1.2.trans h2.2⟩
 .exact h1.trans h2
 .exact h1.trans h2
 .exact ⟨h1.1.trans h2.1,h1.2.1.trans h2.2.1,h1.2.2.trans h2.2.2⟩
theorem jO.refl(n:Nat)(h:H2):jO n h h:=⟨fun _ o _ h=>.inl ⟨o,h,sX.refl o⟩⟩
theorem jO.trans{n n':Nat}{a b c:H2}(hn:n<=n')(h1:jO n a b)(h2:jO n' b c):jO n a c:=
 ⟨fun id o' hi ho=>by
  rcases h2.ob id o' (by omega) ho with⟨o1,h3,h4⟩|q
  .rcases h1.ob id o1 hi h3 with⟨o2,h5,h6⟩|q
   .exact .inl ⟨o2,h5,h6.trans h4⟩
   .exact .inr (by cases o1<;>simp[OR]at q<;>cases o'<;>simp[sX]at h4<;>rfl)
  .exact .inr q⟩
theorem BO{sz id:Nat}{α:Type}{e:α->List D}{s:Sl α}:R0 id (mT sz e id s):=by intro i hi;cases s with|nil=>simp[mT,fo]at hi|mk l=>simpa[mT,fo]using hi
theorem KI{id lo:Nat}{t:Ty}{s:Sl (El t)}:R0 id (yi id lo t s):=by intro i hi;cases s with|nil=>simp[yi,fo]at hi|mk l=>simpa[yi,fo]using hi
section
variable{n n':Nat}{h h':H2}
theorem FD{t:Ty}{s s':Sl (El t)}{id:Nat}(h1:s.fF=s'.fF)(h2:s.l.length=s'.l.length):mT (ce t) (aS t) id s=mT (ce t) (aS t) id s':=by cases s<;>cases s'<;>simp_all[Sl.fF,mT]
theorem KC(hs:jO n h h'){id:Nat}(hi:id<n){c:C}(hc:AU id (fO h' id)=some c):AU id (fO h id)=some c:=by
 cases ho:fO h' id with
 |none=>rw[ho]at hc;simp[AU]at hc
 |some o'=>
  rw[ho]at hc;obtain⟨o,h1,h2⟩:=(hs.ob id o' hi ho).resolve_right fun e=>by cases o'<;>simp[OR]at e<;>simp[AU]at hc
  rw[h1];cases o'<;>simp only[AU]at hc<;>first|cases hc;done|skip
  all_goals(cases o<;>simp only[sX]at h2<;>first|exact h2.elim|skip)
  .obtain ⟨_,rfl,h3,h4,_⟩:=h2;rw[<-hc];simp only[AU];rw[FD h3 h4]
  .obtain ⟨_,rfl,h3,h4,_⟩:=h2;rw[<-hc];simp only[AU];rw[FD h3 h4]
  .obtain ⟨_,h3⟩:=h2;obtain⟨rfl,h3⟩:=jP h3;cases h3;rw[<-hc];rfl
  all_goals simp at hc
theorem KB(hs:jO n h h'){id:Nat}(hi:id<n){c:C}(hc:Fb id (fO h' id)=some c):Fb id (fO h id)=some c:=by
 cases ho:fO h' id with
 |none=>rw[ho]at hc;simp[Fb]at hc
 |some o'=>
  rw[ho]at hc;obtain⟨o,h1,h2⟩:=(hs.ob id o' hi ho).resolve_right fun e=>by cases o'<;>simp[OR]at e<;>simp[Fb]at hc
  rw[h1];cases o'<;>simp only[Fb]at hc<;>first|cases hc;done|skip
  all_goals(cases o<;>simp only[sX]at h2<;>first|exact h2.elim|skip)
  .obtain ⟨rfl,h3,h4⟩:=h2;rw[<-hc];simp only[Fb];exact congrArg some (FD (t:=.sl _) h3 h4)
  all_goals simp at hc
theorem Hi(hs:jO n h h'){id:Nat}(hi:id<n){u:Ty}{s:Sl (Sl (El u))}{ln:Option (Nat×Nat)}(ho:fO h' id=some (.rw u s ln)):∃s0 ln0,fO h id=some (.rw u s0 ln0)/\s0.fF=s.fF/\s0.l.length=s.l.length:=by
 obtain⟨o,h1,h2⟩:=(hs.ob id _ hi ho).resolve_right fun e=>by simp[OR]at e
 cases o<;>simp only[sX]at h2<;>first|exact h2.elim|skip
 obtain⟨rfl,h3,h4⟩:=h2;exact⟨_,_,h1,h3,h4⟩
theorem KE(hs:jO n h h'){id:Nat}(hi:id<n){u:Ty}{s:Sl (El u)}{v:Nat}(ho:fO h' id=some (.ar u s v)\/fO h' id=some (.im u s v)):
  ∃s0 v0,(fO h id=some (.ar u s0 v0)\/fO h id=some (.im u s0 v0))/\s0.fF=s.fF/\s0.l.length=s.l.length:=by
 rcases ho with ho|ho
 all_goals
  obtain⟨o,h1,h2⟩:=(hs.ob id _ hi ho).resolve_right fun e=>by simp[OR]at e
  cases o<;>simp only[sX]at h2<;>first|exact h2.elim|skip
 .obtain ⟨_,rfl,h3,h4,_⟩:=h2;exact⟨_,_,.inl h1,h3,h4⟩
 .obtain ⟨_,rfl,h3,h4,_⟩:=h2;exact⟨_,_,.inl h1,h3,h4⟩
 .obtain ⟨rfl,h3⟩:=h2;obtain⟨rfl,h3⟩:=jP h3;cases h3;exact⟨_,_,.inr h1,rfl,rfl⟩
theorem uo(hs:jO n h h'){id:Nat}(hi:id<n){u:Ty}{s:Sl (El u)}{v:Nat}(ho:fO h' id=some (.ar u s v)\/fO h' id=some (.im u s v)):
  ∃s0 v0,(fO h id=some (.ar u s0 v0)\/fO h id=some (.im u s0 v0))/\v0<=v/\s0.l.length=s.l.length/\(v0=v->s0=s):=by
 rcases ho with ho|ho
 all_goals
  obtain⟨o,h1,h2⟩:=(hs.ob id _ hi ho).resolve_right fun e=>by simp[OR]at e
  cases o<;>simp only[sX]at h2<;>first|exact h2.elim|skip
 .obtain ⟨h3,rfl,_,h4,h5⟩:=h2;exact⟨_,_,.inl h1,h3,h4,fun e=>by have:=h5 e;simpa using this⟩
 .obtain ⟨h3,rfl,_,h4,h5⟩:=h2;exact⟨_,_,.inl h1,h3,h4,fun e=>by have:=h5 e;simpa using this⟩
 .obtain ⟨rfl,h3⟩:=h2;obtain⟨rfl,h3⟩:=jP h3;cases h3;exact⟨_,_,.inr h1,am _,rfl,fun _=>rfl⟩
theorem l9{id ver:Nat}(ha:Aa h id ver=true):∃u s,fO h id=some (.ar u s ver)\/fO h id=some (.im u s ver):=by
 unfold Aa at ha;split at ha
 .rename_i u s v ho;obtain rfl:v=ver:=by simpa using ha
  exact⟨u,s,.inl ho⟩
 .rename_i u s v ho;obtain rfl:v=ver:=by simpa using ha
  exact⟨u,s,.inr ho⟩
 .simp at ha
theorem hO(hn:n<=n')(hs:jO n h h'):∀{v:V},fD n h v->fD n' h' v:=by
 intro v;induction v with
 |so id=>intro hv;simp only[fD]at hv|-;omega
 |sr id=>intro hv;simp only[fD]at hv|-;omega
 |om id=>intro hv;simp only[fD]at hv|-;omega
 |sb id ver lo t r=>
  rintro⟨h1,h2⟩;refine⟨by omega,fun u s v ho=>?_⟩;obtain⟨s0,v0,h3,h4,h5,h6⟩:=uo hs h1 ho;obtain⟨h7,h8⟩:=h2 u s0 v0 h3;refine⟨by omega,fun e=>?_⟩;have e2:v0=ver:=by omega
  have:=h6 (by omega);subst this;exact h8 e2
 |op id t p=>rintro⟨h1,h2⟩;exact⟨by omega,h2⟩
 |ep id m t p=>
  rintro⟨h1,h2,h3,h6⟩;refine⟨by omega,h2,fun u s v ho=>?_,fun u s v ho=>?_⟩
  .obtain ⟨s0,v0,h4,_,h5,_⟩:=uo hs h1 ho;have:=h3 u s0 v0 h4;omega
  .obtain ⟨s0,v0,h4,_,h5⟩:=Hi hs h1 ho;have:=h6 u s0 v0 h4;omega
 |fn z f l ih=>intro hv;exact ih hv
 |rc l ih=>intro hv;exact ih hv
 |tp l ih=>intro hv;exact ih hv
 |co a r iha ihr=>rintro⟨h1,h2⟩;exact⟨iha h1,ihr h2⟩
 |_=>intro _;trivial
theorem lZ(hs:jO n h h'):∀{v:V}{cs:List C},fD n h v->fG h v cs->fG h' v cs:=by
 intro v;induction v with
 |so id=>rintro cs hi ⟨c,rfl,hc,hid⟩;exact⟨c,rfl,fun c' hc'=>hc c' (KC hs hi hc'),hid⟩
 |sr id=>rintro cs hi ⟨c,rfl,hc,hid⟩;exact⟨c,rfl,fun c' hc'=>hc c' (KB hs hi hc'),hid⟩
 |sb id ver lo t r=>
  rintro cs ⟨hi,h2⟩ ⟨c,rfl,hc,hid⟩;refine⟨c,rfl,fun ha=>hc ?_,hid⟩;obtain⟨u,s,ho⟩:=l9 ha;obtain⟨s0,v0,h3,h4,_,_⟩:=uo hs hi ho;obtain⟨h7,_⟩:=h2 u s0 v0 h3;have:v0=ver:=by omega
  subst this;unfold Aa;rcases h3 with h3|h3<;>rw[h3]<;>simp
 |fn z f l ih=>intro cs hv hc;cases z with|true=>exact hc|false=>obtain⟨xs,h1,h2⟩:=hc;exact⟨xs,ih hv h1,h2⟩
 |rc l ih=>intro cs hv hc;exact ih hv hc
 |co a r iha ihr=>rintro cs ⟨h1,h2⟩ ⟨x,y,rfl,h3,h4⟩;exact⟨x,y,rfl,iha h1 h3,ihr h2 h4⟩
 |_=>intro cs _ hc;exact hc
theorem wH(hs:jO n h h'){v:V}{x:TV}(hv:fD n h v)(hx:tD h v x):tD h' v x:=by obtain⟨cs,h1,h2⟩:=hx;exact⟨cs,lZ hs hv h1,h2⟩
theorem Il(hs:jO n h h'):∀{v:V}{xs:List TV},fD n h v->BJ h v xs->BJ h' v xs:=by intro v;induction v with|co a r iha ihr=>rintro xs ⟨h1,h2⟩ ⟨x,ys,rfl,h3,h4⟩;exact⟨x,ys,rfl,wH hs h1 h3,ihr h2 h4⟩|ni=>intro xs _ h;exact h|_=>intro xs _ h;exact h.elim
theorem vM(hs:jO n h h'){v:V}{x:TV}(hv:fD n h v)(hx:fZ h v x):fZ h' v x:=by cases v with|tp l=>obtain⟨xs,h1,h2⟩:=hx;exact⟨xs,h1,Il hs hv h2⟩|no=>exact hx|gn=>exact hx|_=>exact wH hs hv hx
theorem pW(hs:jO n h h'){o:O}{b:Option Ob}(ho:CZ n h o)(hb:v7 h o b):v7 h' o b:=by cases o with|bx t c=>obtain⟨cs,h1,h2,h3⟩:=hb;exact⟨cs,h1,lZ hs ho h2,h3⟩|_=>exact hb
theorem oR(hn:n<=n')(hs:jO n h h'){o:O}(ho:CZ n h o):CZ n' h' o:=by
 cases o with
 |bx t c=>exact hO hn hs ho
 |rw t s ln=>cases ln with|none=>trivial|some q=>obtain⟨m,id⟩:=q;obtain⟨h1,h2,h3⟩:=ho;refine⟨h1,Nat.lt_of_lt_of_le h2 hn,fun u r v hu=>?_⟩;obtain⟨s0,v0,h4,h5,h6⟩:=KE hs h2 hu;obtain⟨h7,h8⟩:=h3 u s0 v0 h4;exact⟨h5▸h7,h6▸h8⟩
 |_=>trivial
end
theorem iS{h:H2}:∀{v:V}{cs:List C},fG h v cs->cs.length=yL v:=by
 intro v;induction v with
 |x t v=>rintro cs ⟨_,rfl⟩;simp[yL,bW]
 |so id=>rintro cs ⟨c,rfl,_⟩;rfl
 |sr id=>rintro cs ⟨c,rfl,_⟩;rfl
 |sb id ver lo t r=>rintro cs ⟨c,rfl,_⟩;rfl
 |pt t v=>rintro cs ⟨_,rfl⟩;rfl
 |fn z f l ih=>intro cs hc;cases z with|true=>obtain⟨ds,_,rfl⟩:=hc;rfl|false=>obtain⟨ds,_,rfl⟩:=hc;rfl
 |rc l ih=>intro cs hc;exact ih hc
 |fl l=>rintro cs ⟨_,rfl⟩;simp[fm,yL]
 |ni=>rintro cs rfl;rfl
 |co a r iha ihr=>rintro cs ⟨x,y,rfl,h1,h2⟩;simp[yL,iha h1,ihr h2]
 |tp l=>intro cs hc;exact hc.elim
 |no=>intro cs hc;exact hc.elim
 |gn=>intro cs hc;exact hc.elim
 |_=>rintro cs rfl;rfl
theorem ie:∀(v:V)(ln:Bool)(t:Ty),eZ v ln t=true->yL v=ce t:=by
 intro v;induction v with
 |rc l ih=>
  intro ln t hf;cases ln with
  |true=>cases t<;>simp[eZ]at hf
  |false=>cases t with|st t=>exact ih true t hf|_=>simp[eZ]at hf
 |co a r iha ihr=>
  intro ln t hf;cases ln with
  |false=>simp[eZ]at hf
  |true=>
   cases t with
   |pr t u=>simp only[eZ,ak]at hf;simp[yL,ce,iha _ _ hf.1,ihr _ _ hf.2]
   |_=>cases r with|ni=>have hf':eZ a false _=true:=hf;simp[yL,iha _ _ hf']|_=>simp[eZ]at hf
 |x u v=>intro ln t hf;cases ln with|false=>simp only[eZ,decide_eq_true_eq]at hf;subst hf;rfl|true=>cases t<;>simp[eZ]at hf
 |nl k=>intro ln t hf;cases ln<;>cases t<;>first|rfl|(simp[eZ]at hf;done)|skip
 |_=>intro ln t hf;cases ln<;>cases t<;>first|rfl|(simp[eZ]at hf;done)
section
variable{h:H2}
theorem qg{v:V}{u:Ty}{y:El u}{cs:List C}(hc:iE u v=some y)(hv:fG h v cs):cs=(aS u y).map .d:=by
 cases v with
 |x t v=>obtain⟨rfl,rfl⟩:=dl hc;exact hv.2
 |kb c=>obtain⟨rfl,rfl⟩:=dl (t:=.b) hc;exact hv
 |nl k=>
  cases k with
  |zero=>
   cases u<;>simp only[iE]at hc<;>first|cases hc;done|skip
   obtain rfl:=aa hc;exact hv
  |succ k=>simp[iE]at hc
 |fl l=>
  obtain⟨h1,rfl⟩:=hv;simp only[iE]at hc;cases ha:lQ u
  .rw [ha]at hc;simp at hc
  rw[ha,cond_true]at hc;split at hc
  .rename_i x hx;obtain rfl:=aa hc;obtain⟨p,rfl,e⟩:=JN u _ _ _ hx h1;rw[e];simp[fm]
  .simp at hc
 |_=>simp[iE]at hc
theorem js:∀(v:V)(ln:Bool)(u:Ty)(y:El u)(cs:List C),ll v ln u=some y->fG h v cs->cs=(aS u y).map .d:=by
 intro v;induction v with
 |rc l ih=>
  intro ln u y cs hc hv;cases ln with
  |true=>cases u<;>simp[ll]at hc
  |false=>cases u with|st u=>exact ih true u y cs hc hv|_=>simp[ll,iE]at hc
 |co a r iha ihr=>
  intro ln u y cs hc hv;obtain⟨x1,x2,rfl,h1,h2⟩:=hv;cases ln with
  |false=>cases u<;>simp[ll,iE]at hc
  |true=>
   cases u with
   |pr t u=>
    simp only[ll]at hc;split at hc
    .rename_i p q hp hq;obtain rfl:=aa hc;rw[iha _ _ _ _ hp h1,ihr _ _ _ _ hq h2];simp[aS]
    .simp at hc
   |_=>cases r with|ni=>have hc':ll a false _=some y:=hc;obtain rfl:x2=[]:=h2;rw[bv];exact iha _ _ _ _ hc' h1|_=>simp[ll]at hc
 |_=>
  intro ln u y cs hc hv;cases ln with
  |true=>cases u<;>simp[ll]at hc
  |false=>first|exact qg hc hv|(simp[ll]at hc)
theorem ET{v:V}{u:Ty}{y:El u}(hc:iE u v=some y):uf v=lQ u:=by
 cases v with
 |x t v=>obtain⟨rfl,_⟩:=dl hc;rfl
 |kb c=>obtain⟨rfl,_⟩:=dl (t:=.b) hc;rfl
 |nl k=>
  cases k with
  |zero=>cases u<;>simp only[iE]at hc<;>first|rfl|cases hc
  |succ k=>simp[iE]at hc
 |fl l=>
  simp only[iE]at hc;cases ha:lQ u
  .rw [ha]at hc;simp at hc
  .rfl
 |_=>simp[iE]at hc
theorem xj{v:V}{u:Ty}{y:El u}(hc:sd u v=some y):uf v=lQ u:=by
 cases v with
 |rc l=>cases u with|st u=>rfl|_=>simp[sd,ll,iE]at hc
 |co a r=>cases u<;>simp[sd,ll,iE]at hc
 |ni=>cases u<;>simp[sd,ll]at hc
 |_=>exact ET hc
theorem A6:∀(l:V)(t:Ty)(i:Nat)(w:V)(cs:List C),eZ l true t=true->fG h l cs->sZ l i=some w->
  ∃u cw,C1 t i=some u/\eZ w false u=true/\fG h w cw/\pq t i+ce u<=cs.length/\(cs.drop (pq t i)).take (ce u)=cw:=by
 intro l;induction l with
 |co a r iha ihr=>
  intro t i w cs hf hv hw;obtain⟨x,y,rfl,h1,h2⟩:=hv;have one:∀t,eZ a false t=true->r=.ni->C1 t 0=some t->pq t 0=0->i=0->∃u cw,C1 t i=some u/\eZ w false u=true/\fG h w cw/\pq t i+ce u<=(x++y).length/\((x++y).drop (pq t i)).take (ce u)=cw:=by intro t hf hr h3 h4 hi;subst hi;obtain rfl:=aa hw;have hs:=ie _ _ _ hf;have hl:=iS h1;refine⟨t,x,h3,hf,h1,by rw[h4];simp;omega,?_⟩;rw[h4,cL,<-hs,<-hl,List.take_left]
  cases t with
  |pr t u=>simp only[eZ,ak]at hf;have hs:=ie _ _ _ hf.1;have hl:=iS h1;cases i with|zero=>obtain rfl:=aa hw;refine⟨t,x,rfl,hf.1,h1,by simp[pq];omega,?_⟩;simp only[pq,cL];rw[<-hs,<-hl,List.take_left]|succ i=>obtain⟨u',cw,q1,q2,q3,q4,q5⟩:=ihr u i w y hf.2 h2 hw;refine⟨u',cw,q1,q2,q3,by simp only[pq,bi];omega,?_⟩;simp only[pq];rw[<-dM,<-hs,<-hl,List.drop_left,q5]
  |_=>
   cases r with
   |ni=>have hf':eZ a false _=true:=hf;cases i with|zero=>exact one _ hf' rfl rfl rfl rfl|succ i=>simp[sZ]at hw
   |_=>simp[eZ]at hf
 |_=>intro t i w cs hf hv hw;simp[sZ]at hw
theorem A2:∀(l:V)(t:Ty)(i:Nat)(w:V)(cs cw:List C)(u:Ty),eZ l true t=true->fG h l cs->C1 t i=some u->fG h w cw->cw.length=ce u->(∃w0,sZ l i=some w0)->fG h (KW l i w) (aX cs (pq t i) cw):=by
 intro l;induction l with
 |co a r iha ihr=>
  intro t i w cs cw u hf hv hu hw hlen hn;obtain⟨x,y,rfl,h1,h2⟩:=hv;cases t with
  |pr t u'=>simp only[eZ,ak]at hf;have hs:=ie _ _ _ hf.1;have hl:=iS h1;cases i with|zero=>obtain rfl:=aa hu;refine⟨cw,y,?_,hw,h2⟩;simp only[pq];rw[ul (by omega),m_ (by omega)]|succ i=>have:=ihr u' i w y cw u hf.2 h2 hu hw hlen hn;refine⟨x,_,?_,h1,this⟩;simp only[pq];rw[<-hs,<-hl,um]
  |_=>
   cases r with
   |ni=>cases i with|zero=>obtain rfl:=aa hu;have hf':eZ a false _=true:=hf;have hs:=ie _ _ _ hf';have hl:=iS h1;obtain rfl:y=[]:=h2;refine⟨cw,[],?_,hw,rfl⟩;simp only[pq,bv];rw[m_ (by omega)]|succ i=>obtain⟨w0,hn⟩:=hn;simp[sZ]at hn
   |_=>simp[eZ]at hf
 |_=>intro t i w cs cw u hf hv hu hw hlen hn;obtain⟨w0,hn⟩:=hn;simp[sZ]at hn
theorem BK:∀(t:Ty)(v:El t),kQ t=true->fG h (Ip t v) ((aS t v).map .d):=by intro t;induction t with|pr a c iha ihc=>intro v hd;simp only[kQ,ak]at hd;exact⟨(aS a v.1).map .d,(aS c v.2).map .d,by simp[aS],⟨hd.1,rfl⟩,ihc v.2 hd.2⟩|_=>intro v hd;exact⟨_,[],(bv _).symm,⟨hd,rfl⟩,rfl⟩
theorem NQ:∀(t:Ty)(v:El t),eZ (Ip t v) true t=true:=by intro t;induction t with|pr a c iha ihc=>intro v;simp[Ip,eZ,ihc]|_=>intro v;simp[Ip,eZ]
theorem NP:∀(t:Ty)(v:El t)(i:Nat)(w:V),AC t v i=some w->sZ (Ip t v) i=some w:=by
 intro t;induction t with
 |pr a c iha ihc=>intro v i w hw;cases i with|zero=>exact hw|succ i=>exact ihc v.2 i w hw
 |_=>intro v i w hw;cases i with|zero=>exact hw|succ i=>simp[AC]at hw
theorem zP:∀(t:Ty)(i:Nat)(u:Ty),kQ t=true->C1 t i=some u->kQ u=true:=by
 intro t;induction t with
 |pr a c iha ihc=>intro i u hd hu;simp only[kQ,ak]at hd;cases i with|zero=>obtain rfl:=aa hu;exact hd.1|succ i=>exact ihc i u hd.2 hu
 |_=>intro i u hd hu;cases i with|zero=>obtain rfl:=aa hu;exact hd|succ i=>simp[C1]at hu
theorem wU:∀(p:qo)(t u:Ty),r_ t p=some u->I1 t p->nw t p+ce u<=ce t:=by
 intro p;induction p with
 |nil=>
  intro t u hu _;have e2:r_ t []=some t:=by cases t<;>rfl
  have e:nw t []=0:=by cases t<;>rfl
  obtain rfl:t=u:=by rw[e2]at hu;exact aa hu
  omega
 |cons q p ih=>
  intro t u hu hp;cases q with
  |fd i=>cases t with|st t=>obtain⟨a,ha,hp⟩:=hp;simp only[r_,ha]at hu;have:=ih a u hu hp;have:=R8 t i a ha;simp only[nw,ha,ce];omega|_=>exact hp.elim
  |ix k=>cases t with|ar n t=>obtain⟨hk,hp⟩:=hp;have:=ih t u hu hp;have h2:(k+1)*ce t<=n*ce t:=aL _ hk;rw[b_]at h2;simp only[nw,ce];omega|_=>exact hp.elim
theorem w_:∀(p:qo)(c:V)(t:Ty)(w:V)(cs:List C),eZ c false t=true->fG h c cs->I1 t p->qa c p=some w->
  ∃u cw,r_ t p=some u/\eZ w false u=true/\fG h w cw/\nw t p+ce u<=cs.length/\(cs.drop (nw t p)).take (ce u)=cw:=by
 intro p;induction p with
 |nil=>
  intro c t w cs hf hv _ hw;obtain rfl:c=w:=by simpa[qa]using hw
  have hs:=ie _ _ _ hf;have hl:=iS hv;refine⟨t,cs,by cases t<;>rfl,hf,hv,?_,?_⟩
  .cases t<;>simp[nw]<;>omega
  .have e:nw t []=0:=by cases t<;>rfl
   rw[e,cL,bX (by omega)]
 |cons q p ih=>
  intro c t w cs hf hv hp hw
  have sub:∀(o n:Nat)(c2:V)(u:Ty)(c3:List C),eZ c2 false u=true->fG h c2 c3->(cs.drop o).take (ce u)=c3->o+ce u<=cs.length->I1 u p->qa c2 p=some w->r_ t (q::p)=r_ u p->nw t (q::p)=o+nw u p->
    ∃u cw,r_ t (q::p)=some u/\eZ w false u=true/\fG h w cw/\nw t (q::p)+ce u<=cs.length/\(cs.drop (nw t (q::p))).take (ce u)=cw:=by
   intro o n c2 u c3 hf2 hv2 h3 h4 h5 h6 h7 h8;obtain⟨u',cw,q1,q2,q3,q4,q5⟩:=ih c2 u w c3 hf2 hv2 h5 h6;have hl:=iS hv2;rw[ie _ _ _ hf2]at hl;refine⟨u',cw,h7.trans q1,q2,q3,by rw[h8];omega,?_⟩;rw[h8,<-q5,<-h3,<-dM];rw[List.drop_take,List.take_take];congr 1;omega
  cases q with
  |fd i=>
   cases t with
   |st t=>
    obtain⟨u,hu,hp⟩:=hp;have e7:r_ (.st t) (.fd i::p)=r_ u p:=by simp only[r_,hu]
    have e8:nw (.st t) (.fd i::p)=pq t i+nw u p:=by simp only[nw,hu]
    cases c with
    |x t' v=>
     simp only[eZ,decide_eq_true_eq]at hf;subst hf;obtain⟨hd,rfl⟩:=hv;simp only[qa]at hw;split at hw
     .rename_i y hy;obtain⟨u',y',rfl,h1,h2,h3⟩:=rN _ _ _ _ hy;obtain rfl:u=u':=by rw[hu]at h1;exact aa h1
      refine sub (pq t i) 0 (.x u y') u ((aS u y').map .d) (by simp[eZ]) ⟨zP t _ _ hd hu,rfl⟩ ?_ ?_ hp hw e7 e8
      .rw [<-h3,gH,gm];rfl
      .simp [bW,ce];exact h2
     .simp at hw
    |rc l=>
     simp only[qa]at hw;split at hw
     .rename_i y hy;obtain⟨u',cw,q1,q2,q3,q4,q5⟩:=A6 l t i y cs hf hv hy;obtain rfl:u=u':=by rw[hu]at q1;exact aa q1
      exact sub (pq t i) 0 y u cw q2 q3 q5 q4 hp hw e7 e8
     .simp at hw
    |_=>simp[qa]at hw
   |_=>exact hp.elim
  |ix k=>
   cases t with
   |ar n t=>
    obtain⟨hk,hp⟩:=hp;cases c with
    |x t' v=>
     simp only[eZ,decide_eq_true_eq]at hf;subst hf;obtain⟨hd,rfl⟩:=hv;simp only[qa]at hw;have hk':k<v.1.length:=by rw[v.2];exact hk
     have hg:=zI (bW t) v.1 k hk';refine sub (k*ce t) 0 (.x t (gt v.1 k)) t ((aS t (gt v.1 k)).map .d) (by simp[eZ]) ⟨hd,rfl⟩ ?_ ?_ hp hw rfl rfl
     .rw [<-hg,gH,gm];rfl
     .simp only[aM,bW,ce];have:(k+1)*ce t<=n*ce t:=aL _ hk;rw[b_]at this;omega
    |_=>simp[qa]at hw
   |_=>exact hp.elim
theorem Iy:∀(t:Ty)(v:El t)(i:Nat)(w:V)(v':El t),Iz t v i w=some v'->∃u z,C1 t i=some u/\iE u w=some z/\aS t v'=aX (aS t v) (pq t i) (aS u z):=by
 intro t;induction t with
 |pr a c iha ihc=>
  intro v i w v' hs;cases i with
  |zero=>
   simp only[Iz]at hs;split at hs
   .rename_i y hy;obtain rfl:=aa hs;refine⟨a,y,rfl,hy,?_⟩;simp only[aS,pq];rw[ul (by simp[bW]),m_ (by simp[bW])]
   .simp at hs
  |succ i=>
   simp only[Iz]at hs;split at hs
   .rename_i y hy;obtain rfl:=aa hs;obtain⟨u,z,h1,h2,h3⟩:=ihc _ _ _ _ hy;refine⟨u,z,h1,h2,?_⟩;simp only[aS,pq,h3];have:=um (a:=aS a v.1) (b:=aS c v.2) (off:=pq c i) (p:=aS u z);rw[bW]at this;rw[this]
   .simp at hs
 |_=>intro v i w v' hs;cases i with|zero=>have hs':iE _ w=some v':=hs;exact⟨_,v',rfl,hs',by simp only[pq];rw[m_ (by simp[bW])]⟩|succ i=>simp[Iz]at hs
theorem wM:∀(p:qo)(c:V)(t:Ty)(w c':V)(cs cw:List C)(u:Ty),eZ c false t=true->fG h c cs->I1 t p->o5 c p w=some c'->r_ t p=some u->fG h w cw->cw.length=ce u->
  fG h c' (aX cs (nw t p) cw):=by
 intro p;induction p with
 |nil=>
  intro c t w c' cs cw u hf hv _ hs hu hw hlen;obtain rfl:w=c':=by simpa[o5]using hs
  have e:nw t []=0:=by cases t<;>rfl
  have e2:r_ t []=some t:=by cases t<;>rfl
  obtain rfl:t=u:=by rw[e2]at hu;exact aa hu
  have:=iS hv;rw[ie _ _ _ hf]at this;rw[e,m_ (by omega)];exact hw
 |cons q p ih=>
  intro c t w c' cs cw u hf hv hp hs hu hw hlen;cases q with
  |fd i=>
   cases t with
   |st t=>
    obtain⟨a,ha,hp⟩:=hp;have hu':r_ a p=some u:=by simpa only[r_,ha]using hu
    have e8:nw (.st t) (.fd i::p)=pq t i+nw a p:=by simp only[nw,ha]
    cases c with
    |x t' v=>
     simp only[eZ,decide_eq_true_eq]at hf;subst hf;obtain⟨hd,rfl⟩:=hv;simp only[o5]at hs;split at hs
     .rename_i y hy;split at hs
      .rename_i y1 hy1;obtain⟨a',z,rfl,h1,h2,h3⟩:=rN _ _ _ _ hy;obtain rfl:a=a':=by rw[ha]at h1;exact aa h1
       have hz:fG h (.x a z) ((aS a z).map .d):=⟨zP t _ _ hd ha,rfl⟩
       have h4:=ih (.x a z) a w y1 ((aS a z).map .d) cw u (by simp[eZ]) hz hp hy1 hu' hw hlen;have hle:nw a p+cw.length<=ce a:=by have:=wU p a u hu' hp;omega
       have h5:((aS (.st t) v).map C.d|>.drop (pq t i)).take (ce a)=(aS a z).map .d:=by rw[<-h3,gH,gm];rfl
       have h6:aX ((aS (.st t) v).map C.d) (pq t i+nw a p) cw=aX ((aS (.st t) v).map C.d) (pq t i) (aX ((aS a z).map .d) (nw a p) cw):=(ra h5 (by simp[bW,ce];exact h2) hle).symm;rw[e8,h6];split at hs
       .rename_i v' hv';obtain rfl:=aa hs;obtain⟨a2,z2,k1,k2,k3⟩:=Iy _ _ _ _ _ hv';obtain rfl:a=a2:=by rw[ha]at k1;exact aa k1
        refine⟨hd,?_⟩;have:=qg k2 h4;rw[this];show _=(aS t v').map C.d;rw[k3,vh];rfl
       .obtain rfl:=aa hs;refine A2 (Ip t v) t i y1 _ _ a (NQ t v) (BK t v hd) ha h4 ?_ ⟨_,NP t v i _ hy⟩;rw[vi (by simp[bW];exact hle)];simp[bW]
      .simp at hs
     .simp at hs
    |rc l=>
     simp only[o5]at hs;split at hs
     .rename_i y hy;split at hs
      .rename_i y1 hy1;obtain rfl:=aa hs;obtain⟨a',cw2,q1,q2,q3,q4,q5⟩:=A6 l t i y cs hf hv hy;obtain rfl:a=a':=by rw[ha]at q1;exact aa q1
       have h4:=ih y a w y1 cw2 cw u q2 q3 hp hy1 hu' hw hlen;have hl:=iS q3;rw[ie _ _ _ q2]at hl;have hle:nw a p+cw.length<=ce a:=by have:=wU p a u hu' hp;omega
       rw[e8,<-ra q5 q4 hle];exact A2 l t i y1 cs _ a hf hv ha h4 (by rw[vi (by omega),hl]) ⟨_,hy⟩
      .simp at hs
     .simp at hs
    |_=>simp[o5]at hs
   |_=>exact hp.elim
  |ix k=>
   cases t with
   |ar n t=>
    obtain⟨hk,hp⟩:=hp;have hu':r_ t p=some u:=hu;cases c with
    |x t' v=>
     simp only[eZ,decide_eq_true_eq]at hf;subst hf;obtain⟨hd,rfl⟩:=hv;simp only[o5]at hs;split at hs
     .rename_i y1 hy1;split at hs
      .rename_i z hz;obtain rfl:=aa hs;have hk':k<v.1.length:=by rw[v.2];exact hk
       have hg:=zI (bW t) v.1 k hk';have h4:=ih (.x t (gt v.1 k)) t w y1 ((aS t (gt v.1 k)).map .d) cw u (by simp[eZ]) ⟨hd,rfl⟩ hp hy1 hu' hw hlen;have h7:=qg hz h4;have hle:nw t p+cw.length<=ce t:=by have:=wU p t u hu' hp;omega
       have h5:((aS (.ar n t) v).map C.d|>.drop (k*ce t)).take (ce t)=(aS t (gt v.1 k)).map .d:=by rw[<-hg,gH,gm];rfl
       have h8:k*ce t+ce t<=((aS (.ar n t) v).map C.d).length:=by simp only[aM,bW,ce];have:(k+1)*ce t<=n*ce t:=aL _ hk;rw[b_]at this;omega
       refine⟨hd,?_⟩;show aX _ (k*ce t+nw t p) cw=_;rw[<-ra h5 h8 hle,h7,<-vh];show _=((v.1.set k z).flatMap (aS t)).map C.d;rw[Mj (bW t) v.1 k z hk'];rfl
      .simp at hs
     .simp at hs
    |_=>simp[o5]at hs
   |_=>exact hp.elim
theorem yl{n:Nat}:∀(l:V)(i:Nat)(w:V),fD n h l->sZ l i=some w->fD n h w:=by
 intro l;induction l with
 |co a r iha ihr=>intro i w hk hw;cases i with|zero=>obtain rfl:=aa hw;exact hk.1|succ i=>exact ihr i w hk.2 hw
 |_=>intro i w hk hw;simp[sZ]at hw
theorem Hn{n:Nat}:∀(l:V)(i:Nat)(w:V),fD n h l->fD n h w->fD n h (KW l i w):=by
 intro l;induction l with
 |co a r iha ihr=>intro i w hk hw;cases i with|zero=>exact⟨hw,hk.2⟩|succ i=>exact⟨hk.1,ihr i w hk.2 hw⟩
 |_=>intro i w hk hw;exact hk
theorem HW{n:Nat}{t:Ty}{v:El t}{i:Nat}{w:V}(hw:AC t v i=some w):fD n h w:=by obtain⟨u,y,rfl,_⟩:=rN _ _ _ _ hw;trivial
theorem Fw{n:Nat}:∀(t:Ty)(v:El t),fD n h (Ip t v):=by intro t;induction t with|pr a c iha ihc=>intro v;exact⟨trivial,ihc v.2⟩|_=>intro v;exact⟨trivial,trivial⟩
theorem Ck{n:Nat}:∀(p:qo)(c w:V),fD n h c->qa c p=some w->fD n h w:=by
 intro p;induction p with
 |nil=>intro c w hk hw;obtain rfl:c=w:=by simpa[qa]using hw
       exact hk
 |cons q p ih=>
  intro c w hk hw;cases q with
  |fd i=>
   cases c with
   |x t v=>
    cases t with
    |st t=>
     simp only[qa]at hw;split at hw
     .rename_i y hy;exact ih y w (HW hy) hw
     .simp at hw
    |_=>simp[qa]at hw
   |rc l=>
    simp only[qa]at hw;split at hw
    .rename_i y hy;exact ih y w (yl l _ _ hk hy) hw
    .simp at hw
   |_=>simp[qa]at hw
  |ix k=>
   cases c with
   |x t v=>cases t with|ar m t=>exact ih (.x t (gt v.1 k)) w trivial hw|_=>simp[qa]at hw
   |_=>simp[qa]at hw
theorem He{n:Nat}:∀(p:qo)(c w c':V),fD n h c->fD n h w->o5 c p w=some c'->fD n h c':=by
 intro p;induction p with
 |nil=>intro c w c' _ hw hs;obtain rfl:w=c':=by simpa[o5]using hs
       exact hw
 |cons q p ih=>
  intro c w c' hk hw hs;cases q with
  |fd i=>
   cases c with
   |x t v=>
    cases t with
    |st t=>
     simp only[o5]at hs;split at hs
     .rename_i y hy;split at hs
      .rename_i y1 hy1;split at hs
       .obtain rfl:=aa hs;trivial
       .obtain rfl:=aa hs;exact Hn _ _ _ (Fw t v) (ih y w y1 (HW hy) hw hy1)
      .simp at hs
     .simp at hs
    |_=>simp[o5]at hs
   |rc l=>
    simp only[o5]at hs;split at hs
    .rename_i y hy;split at hs
     .rename_i y1 hy1;obtain rfl:=aa hs;exact Hn l _ _ hk (ih y w y1 (yl l _ _ hk hy) hw hy1)
     .simp at hs
    .simp at hs
   |_=>simp[o5]at hs
  |ix k=>
   cases c with
   |x t v=>
    cases t with
    |ar m t=>
     simp only[o5]at hs;split at hs
     .split at hs
      .obtain rfl:=aa hs;trivial
      .simp at hs
     .simp at hs
    |_=>simp[o5]at hs
   |_=>simp[o5]at hs
end
section
variable{h:H2}{n:Nat}{h1:bC}
theorem eD{v:V}{c:C}(ha:uf v=false)(hc:fG h v [c]):tD h v (.c c):=⟨[c],hc,fun e=>(by rw[ha]at e;cases e),fun _=>⟨c,rfl,rfl⟩⟩
theorem yF{v:V}{cs:List C}(ha:uf v=true)(hc:fG h v cs):tD h v (.agg cs):=⟨cs,hc,fun _=>rfl,fun e=>(by rw[ha]at e;cases e)⟩
theorem ju{v:V}{x:TV}(hx:tD h v x)(ha:uf v=false):∃c,x=.c c/\fG h v [c]:=by
 obtain⟨cs,h1,_,h2⟩:=hx
 grind
theorem ry{v:V}{x:TV}(hx:tD h v x):∃cs,fG h v cs/\cellsOf x=some cs:=by obtain⟨cs,h1,h2,h3⟩:=hx;refine⟨cs,h1,?_⟩;cases ha:uf v with|true=>rw[h2 ha];rfl|false=>obtain⟨c,rfl,rfl⟩:=h3 ha;rfl
theorem kI{k:IntKind}{a:Int}{x:TV}(hx:fZ h (.x (.i k) a) x):x=tI k a:=by obtain⟨c,rfl,_,hc⟩:=ju hx rfl;obtain rfl:=(cu hc).1;rfl
theorem G7{a:Bool}{x:TV}(hx:fZ h (.x .b a) x):x=tB a:=by obtain⟨c,rfl,_,hc⟩:=ju hx rfl;obtain rfl:=(cu hc).1;rfl
theorem xy{a:ByteArray}{x:TV}(hx:fZ h (.x .s a) x):x=.c (.d (dS a)):=by obtain⟨c,rfl,_,hc⟩:=ju hx rfl;obtain rfl:=(cu hc).1;rfl
theorem yC{t:Ty}{s:Sl (El t)}{x:TV}(hx:fZ h (.x (.sl t) s) x):x=.c (.d (wL (ce t) (aS t) s)):=by obtain⟨c,rfl,_,hc⟩:=ju hx rfl;obtain rfl:=(cu hc).1;rfl
theorem wG{a:Bool}{x:TV}(hx:fZ h (.kb a) x):x=tB a:=by obtain⟨c,rfl,hc⟩:=ju hx rfl;obtain rfl:=(cu hc).1;rfl
theorem wF{k:Nat}{x:TV}(hx:fZ h (.nl k) x):x=.c (DZ k):=by obtain⟨c,rfl,hc⟩:=ju hx rfl;obtain rfl:=(cu hc).1;rfl
theorem yD{t:Ty}{a:El t}{x:TV}(hx:fZ h (.pt t a) x):kQ t=true/\x=.c (.d (.pt (aS t a))):=by obtain⟨c,rfl,hd,hc⟩:=ju hx rfl;simp_all
theorem wE{id:Nat}{t:Ty}{p:qo}{x:TV}(hx:fZ h (.op id t p) x):x=.c (.op id (nw t p)):=by obtain⟨c,rfl,hc⟩:=ju hx rfl;obtain rfl:=(cu hc).1;rfl
theorem tC{id m:Nat}{t:Ty}{p:qo}{x:TV}(hx:fZ h (.ep id m t p) x):x=.c (.ep id m (nw t p)):=by obtain⟨c,rfl,hc⟩:=ju hx rfl;obtain rfl:=(cu hc).1;rfl
theorem yE{id:Nat}{x:TV}(hx:fZ h (.om id) x):x=.c (.om id):=by obtain⟨c,rfl,hc⟩:=ju hx rfl;obtain rfl:=(cu hc).1;rfl
theorem tw{id:Nat}{c:C}{x:TV}(hx:fZ h (.so id) x)(hc:AU id (fO h id)=some c):x=.c c:=by obtain⟨c',rfl,c2,h2,h3⟩:=ju hx rfl;obtain rfl:=(cu h2).1;rw[h3.1 c hc]
theorem Kt{id:Nat}{c:C}{x:TV}(hx:fZ h (.sr id) x)(hc:Fb id (fO h id)=some c):x=.c c:=by obtain⟨c',rfl,c2,h2,h3⟩:=ju hx rfl;obtain rfl:=(cu h2).1;rw[h3.1 c hc]
theorem tH{id:Nat}{t:Ty}{s:Sl (Sl (El t))}{ln:Option (Nat×Nat)}(ho:fO h id=some (.rw t s ln)):Fb id (fO h id)=some (mT 1 (aS (.sl t)) id s):=by rw[ho];rfl
theorem q_{id ver lo:Nat}{t:Ty}{r:Sl (El t)}{x:TV}(hx:fZ h (.sb id ver lo t r) x)(ha:iU h (.sb id ver lo t r)=true):x=.c (yi id lo t r):=by obtain⟨c',rfl,c2,h2,h3⟩:=ju hx rfl;obtain rfl:=(cu h2).1;rw[h3.1 (Bool.and_eq_true_iff.1 ha).2]
theorem Z3{z:Bool}{f:Nat}{l:V}{x:TV}(hx:fZ h (.fn z f l) x):(z=true/\∃ds,rn l=some ds/\x=.c (.d (.fn f ds)))\/(z=false/\∃cs,fG h l cs/\x=.c (.pp f cs)):=by obtain⟨c',rfl,hc⟩:=ju hx rfl;cases z with|true=>obtain⟨ds,h2,h3⟩:=hc;simp_all|false=>obtain⟨ds,h2,h3⟩:=hc;simp_all
theorem QV{l:V}{x:TV}(hx:fZ h (.tp l) x):∃xs,x=.ia xs/\BJ h l xs:=hx
def Oo:V->Prop
 |.tp _|.no|.gn=>False
 |_=>True
theorem pn{v:V}{x:TV}(hv:Oo v)(hx:fZ h v x):tD h v x:=by cases v<;>first|exact hx|exact hv.elim
theorem cA{v:V}{x:TV}(hx:tD h v x):fZ h v x:=by cases v<;>first|exact hx|(obtain⟨cs,hc,_⟩:=hx;exact hc.elim)
theorem Qx{v:V}{u:Ty}{y:El u}(hc:sd u v=some y):Oo v:=by cases v<;>first|trivial|(simp at hc)
theorem uH{v:V}{u:Ty}{y:El u}{x:TV}(hx:fZ h v x)(hc:sd u v=some y):(lQ u=true->x=.agg ((aS u y).map .d))/\(lQ u=false->∃d,aS u y=[d]/\x=.c (.d d)):=by
 obtain⟨cs,h2,h3,h4⟩:=pn (Qx hc) hx;have h5:=js v false u y cs hc h2;have ha:=xj hc;constructor
 .intro hu;rw[h3 (ha.trans hu),h5]
 .intro hu;obtain⟨c,rfl,rfl⟩:=h4 (ha.trans hu);cases he:aS u y with|nil=>rw[he]at h5;simp at h5|cons d ds=>simp_all
theorem Qw{v:V}{x:TV}{a:Bool}(hx:fZ h v x)(hc:sd .b v=some a):x=tB a:=by obtain⟨d,h1,rfl⟩:=(uH hx hc).2 rfl;obtain rfl:=(cu h1).1;rfl
def mR(h:H2):List V->List TV->Prop
 |[],[]=>True
 |v::vs,x::xs=>fZ h v x/\mR h vs xs
 |_,_=>False
theorem lB{xs:List TV}(hx:mR h [] xs):xs=[]:=by cases xs<;>first|rfl|exact hx.elim
theorem gA{v:V}{vs:List V}{xs:List TV}(hx:mR h (v::vs) xs):∃x ys,xs=x::ys/\fZ h v x/\mR h vs ys:=by cases xs with|nil=>exact hx.elim|cons x ys=>exact⟨x,ys,rfl,hx.1,hx.2⟩
theorem iJ{v:V}{xs:List TV}(hx:mR h [v] xs):∃x,xs=[x]/\fZ h v x:=by obtain⟨x,ys,rfl,h1,h2⟩:=gA hx;obtain rfl:=lB h2;exact⟨x,rfl,h1⟩
theorem jb{v w:V}{xs:List TV}(hx:mR h [v,w] xs):∃x y,xs=[x,y]/\fZ h v x/\fZ h w y:=by obtain⟨x,ys,rfl,h1,h2⟩:=gA hx;obtain⟨y,rfl,h3⟩:=iJ h2;exact⟨x,y,rfl,h1,h3⟩
theorem Ks{v w z:V}{xs:List TV}(hx:mR h [v,w,z] xs):∃x y u,xs=[x,y,u]/\fZ h v x/\fZ h w y/\fZ h z u:=by obtain⟨x,ys,rfl,h1,h2⟩:=gA hx;obtain⟨y,u,rfl,h3⟩:=jb h2;exact⟨x,y,u,rfl,h1,h3⟩
theorem Kr:∀{vs:List V}{xs:List TV},mR h vs xs->(∀v∈vs,Oo v/\uf v=false)->∃cs,fG h (fy vs) cs/\xs=cs.map TV.c:=by intro vs;induction vs with|nil=>intro xs hx _;obtain rfl:=lB hx;exact⟨[],rfl,rfl⟩|cons v vs ih=>intro xs hx hv;obtain⟨x,ys,rfl,h1,h2⟩:=gA hx;obtain⟨hp,ha⟩:=hv v (by simp);obtain⟨c,rfl,h3⟩:=ju (pn hp h1) ha;obtain⟨cs,h4,rfl⟩:=ih h2 fun w hw=>hv w (by simp[hw]);exact⟨c::cs,⟨[c],cs,rfl,h3,h4⟩,rfl⟩
theorem vk{id:Nat}{q:(t:Ty)×Sl (El t)×List Nat}(hs:uN h (.so id)=some q):∃ver,(fO h id=some (.ar q.1 q.2.1 ver)\/fO h id=some (.im q.1 q.2.1 ver))/\q.2.2=[id]:=by
 simp[uN]at hs
 grind
theorem mS{id ver:Nat}{t:Ty}{s:Sl (El t)}(ho:fO h id=some (.ar t s ver)\/fO h id=some (.im t s ver)):AU id (fO h id)=some (mT (ce t) (aS t) id s):=by rcases ho with ho|ho<;>rw[ho]<;>rfl
theorem RK{id lo nx:Nat}{t:Ty}{r:Sl (El t)}{c:Call}{H:bC}:cC c (.len false) [some (.c (yi id lo t r))] H nx=some (tI .i64 r.l.length,[],[],nx):=by cases r with|nil=>rfl|mk l=>simp[cC,u5,yi,lv]
theorem RI{v:V}{x:TV}{q:(t:Ty)×Sl (El t)×List Nat}{c:Call}{H:bC}{nx:Nat}(hx:fZ h v x)(ha:iU h v=true)(hs:uN h v=some q):
  cC c (.len false) [some x] H nx=some (tI .i64 q.2.1.l.length,[],[],nx):=by
 cases v with
 |x t s=>cases t with|sl t=>obtain rfl:=aa hs;rw[yC hx];exact RJ|_=>simp[uN]at hs
 |so id=>obtain⟨ver,ho,_⟩:=vk hs;rw[tw hx (mS ho)];exact Qn
 |sb id ver lo t r=>obtain rfl:=aa hs;rw[q_ hx ha];exact RK
 |_=>simp[uN]at hs
theorem LQ{id lo nx:Nat}{t:Ty}{r:Sl (El t)}{c:Call}{H:bC}{neg:Bool}:cC c (.rS 0 neg) [some (.c (yi id lo t r))] H nx=some (tB (if neg then !r.fF else r.fF),[],[],nx):=by cases r<;>rfl
theorem Rw{v:V}{x:TV}{q:(t:Ty)×Sl (El t)×List Nat}{c:Call}{H:bC}{nx:Nat}{neg:Bool}(hx:fZ h v x)(ha:iU h v=true)(hs:uN h v=some q):
  cC c (.rS 0 neg) [some x] H nx=some (tB (if neg then !q.2.1.fF else q.2.1.fF),[],[],nx):=by
 cases v with
 |x t s=>cases t with|sl t=>obtain rfl:=aa hs;rw[yC hx];exact Rx|_=>simp[uN]at hs
 |so id=>obtain⟨ver,ho,_⟩:=vk hs;rw[tw hx (mS ho)];exact Vl
 |sb id ver lo t r=>obtain rfl:=aa hs;rw[q_ hx ha];exact LQ
 |_=>simp[uN]at hs
theorem oY{g:Bool}{m:Nat}{w:V}(hc:GG h g m w=true):uf w=g/\yL w=m/\(g=false->m=1)/\iU h w=true:=by
 simp[GG]at hc
 grind
theorem p8{g:Bool}{m off:Nat}{cs cw:List C}{w:V}(hc:GG h g m w=true)(hw:fG h w cw)(hle:off+m<=cs.length)(he:(cs.drop off).take m=cw):∃x,D8 g m (cs.drop off)=some x/\fZ h w x:=by
 obtain⟨ha,hs,hm,_⟩:=oY hc;cases g with
 |true=>refine⟨.agg cw,?_,cA (yF ha hw)⟩;simp only[D8,if_true];rw[if_pos (by simp;omega),he]
 |false=>obtain rfl:=hm rfl;cases hd:cs.drop off with|nil=>have:=congrArg List.length hd;simp at this;omega|cons c r=>rw[hd]at he;subst he;exact⟨.c c,rfl,cA (eD ha hw)⟩
theorem Cc{g:Bool}{m:Nat}{ds:List D}:Qo g m ds=D8 g m (ds.map .d):=by
 unfold Qo D8;cases g
 .cases ds<;>simp
 .simp
theorem wY{p w:V}{l:List Nat}{g:Bool}{m nx:Nat}{c:Call}{x:TV}(hr:HR n h1 h)(hl:zy h p=some (w,l))(hc:GG h g m w=true)(hx:fZ h p x)(mo:fD n h p):
  ∃y,cC c (.load g m) [some x] h1 nx=some (y,[],l,nx)/\fZ h w y/\fD n h w:=by
 cases p with
 |pt t v=>obtain⟨rfl,rfl⟩:=af (aa hl);obtain⟨hd,rfl⟩:=yD hx;obtain⟨_,hs,_,_⟩:=oY hc;have hs':ce t=m:=hs;obtain⟨y,h2,h3⟩:=p8 (cs:=(aS t v).map .d) (off:=0) hc (⟨hd,rfl⟩) (by simp[bW];omega) (by rw[cL,bX (by simp[bW];omega)]);refine⟨y,?_,h3,trivial⟩;rw[cL,<-Cc]at h2;simp only[cC,iv,h2]
 |op id t p=>
  obtain rfl:=wE hx;simp only[zy]at hl;split at hl
  .rename_i u cc ho;obtain⟨_,hb,hko⟩:=hr.ob id _ ho;obtain⟨cs,h2,h3,h4⟩:=hb;by_cases hu:u=t
   .subst hu;simp only[decide_true,cond_true]at hl;split at hl
    .rename_i w' hw;obtain⟨rfl,rfl⟩:=af (aa hl);obtain⟨a,cw,q1,q2,q3,q4,q5⟩:=w_ p cc u w' cs h4 h3 mo.2 hw;obtain⟨_,hs,_,_⟩:=oY hc;rw[ie _ _ _ q2]at hs;subst hs;obtain⟨y,h5,h6⟩:=p8 hc q3 q4 q5;refine⟨y,?_,h6,Ck p cc w' hko hw⟩;simp only[cC,iv,h2,h5]
    .simp at hl
   .simp [hu]at hl
  .rename_i u v ho;obtain⟨_,hb,hko⟩:=hr.ob id _ ho;obtain⟨hd,h2⟩:=hb;by_cases hu:u=t
   .subst hu;simp only[decide_true,cond_true]at hl;split at hl
    .rename_i w' hw;obtain⟨rfl,rfl⟩:=af (aa hl);obtain⟨a,cw,q1,q2,q3,q4,q5⟩:=w_ (h:=h) p (.x u v) u w' ((aS u v).map .d) (by simp[eZ]) ⟨hd,rfl⟩ mo.2 hw;obtain⟨_,hs,_,_⟩:=oY hc;rw[ie _ _ _ q2]at hs;subst hs;obtain⟨y,h5,h6⟩:=p8 hc q3 q4 q5;refine⟨y,?_,h6,Ck p (.x u v) w' trivial hw⟩;rw[<-gm,<-Cc]at h5;simp only[cC,iv,h2,h5]
    .simp at hl
   .simp [hu]at hl
  .simp at hl
 |ep id k t p=>
  obtain rfl:=tC hx;obtain⟨_,hp,hk,_⟩:=mo
  have main:∀(u:Ty)(s:Sl (El u))(ver:Nat),(fO h id=some (.ar u s ver)\/fO h id=some (.im u s ver))->(bif decide (u=t)then(match qa (.x u (gt s.l k)) p with|some w=>some (w,[id])|none=>none)else none)=some (w,l)->
    ∃y,cC c (.load g m) [some (.c (.ep id k (nw t p)))] h1 nx=some (y,[],l,nx)/\fZ h w y/\fD n h w:=by
   intro u s ver ho hl;have hlt:=hk u s ver ho;by_cases hu:u=t
   .subst hu;simp only[decide_true,cond_true]at hl;split at hl
    .rename_i w' hw;obtain⟨rfl,rfl⟩:=af (aa hl);cases s with
     |nil=>simp[Sl.l]at hlt
     |mk ls=>
     have hrow:(ls.map (aS u))[k]?=some (aS u (gt ls k)):=Ch hlt;have hd:kQ u=true:=by rcases ho with ho|ho<;>exact(hr.ob id _ ho).2.1.1
     obtain⟨a,cw,q1,q2,q3,q4,q5⟩:=w_ (h:=h) p (.x u (gt ls k)) u w' ((aS u (gt ls k)).map .d) (by simp[eZ]) ⟨hd,rfl⟩ hp hw;obtain⟨_,hs,_,_⟩:=oY hc;rw[ie _ _ _ q2]at hs;subst hs;obtain⟨y,h5,h6⟩:=p8 hc q3 q4 q5;refine⟨y,?_,h6,Ck p (.x u (gt ls k)) w' trivial hw⟩;rw[<-gm,<-Cc]at h5;rcases ho with ho|ho
     .have h2:=(hr.ob id _ ho).2.1.2.2 ls rfl;simp only[cC,iv,h2,hrow,h5]
     .have h2:=(hr.ob id _ ho).2.1.2.2 ls rfl;simp only[cC,iv,h2,hrow,h5]
    .simp at hl
   .simp [hu]at hl
  grind [zy]
 |_=>simp[zy]at hl
end
end Go.Ev
