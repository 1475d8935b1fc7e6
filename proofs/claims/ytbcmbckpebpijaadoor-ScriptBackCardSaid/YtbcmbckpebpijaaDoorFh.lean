/- Typed data by codes: the types, the values that a frame holds, its objects, and how they are laid into the abstract machine's. Conditions: none, these are definitions. -/
import Derived.Test.YtbcmbckpebpijaaDoorEvY
open Bool renaming and_eq_true->ae
open ByteArray renaming empty->fo
open List renaming append_assoc->aO,append_nil->aW,drop_append_of_le_length->db,drop_drop->cj,drop_length->gI,drop_zero->bW,flatMap_cons->bd,length_append->aZ,length_map->aK,length_replicate->cD,map_drop->ez,map_take->eX,nil_append->aY,replicate->aw,take_append_drop->ic,take_of_length_le->cO
open List.cons renaming inj->bK
open Nat renaming add_assoc->cg,add_mul->bv,beq->ji,ble->fZ,le_refl->ak,mul_le_mul_right->aF
open Option.some renaming inj->aa
open Prod.mk renaming inj->ad
open Sigma.mk renaming inj->gp
noncomputable section
namespace Go.Ev
inductive Ty where
 |i (k:IntKind)
 |b
 |s
 |f (k:FloatKind)
 |sl (t:Ty)
 |mp (k v:Ty)
 |un
 |pr (a c:Ty)
 |st (t:Ty)
 |ar (n:Nat) (t:Ty)
 |o (k:Nat)
 deriving Inhabited,DecidableEq
def Arr(n:Nat)(α:Type):Type:={l:List α//l.length=n}
def Arr.set{n:Nat}{α:Type}(v:Arr n α)(k:Nat)(x:α):Arr n α:=⟨v.1.set k x,by rw[List.length_set];exact v.2⟩
instance{n:Nat}{α:Type}[Inhabited α]:Inhabited (Arr n α):=⟨⟨aw n default,cD⟩⟩
instance{n:Nat}{α:Type}[DecidableEq α]:DecidableEq (Arr n α):=inferInstanceAs (DecidableEq {l:List α//l.length=n})
@[reducible] def El:Ty->Type
 |.i _=>Int
 |.b=>Bool
 |.s=>ByteArray
 |.f _=>Nat
 |.sl t=>Sl (El t)
 |.mp k v=>Mp (El k) (El v)
 |.un=>Unit
 |.pr a c=>El a×El c
 |.st t=>El t
 |.ar n t=>Arr n (El t)
 |.o _=>Unit
instance Ck:(t:Ty)->Inhabited (El t)
 |.i _=>⟨(0:Int)⟩
 |.b=>⟨false⟩
 |.s=>⟨(default:ByteArray)⟩
 |.f _=>⟨(0:Nat)⟩
 |.sl _=>⟨Sl.nil⟩
 |.mp _ _=>⟨Mp.none⟩
 |.un=>⟨()⟩
 |.pr a c=>⟨((Ck a).default,(Ck c).default)⟩
 |.st t=>Ck t
 |.ar n t=>⟨⟨aw n (Ck t).default,cD⟩⟩
 |.o _=>⟨()⟩
def nO:(t:Ty)->El t
 |.i _=>(0:Int)
 |.b=>false
 |.s=>(fo)
 |.f _=>(0:Nat)
 |.sl _=>Sl.nil
 |.mp _ _=>Mp.none
 |.un=>()
 |.pr a c=>(nO a,nO c)
 |.st t=>nO t
 |.ar n t=>⟨aw n (nO t),cD⟩
 |.o _=>()
def ew(t u:Ty)(v:El t):Option (El u):=if h:t=u then some (h▸v)else none
def bC:Ty->Nat
 |.un=>0
 |.pr a c=>bC a+bC c
 |.st t=>bC t
 |.ar n t=>n*bC t
 |_=>1
def gT:Ty->Bool
 |.o _|.mp _ _=>false
 |.pr a c=>gT a&&gT c
 |.st t|.ar _ t|.sl t=>gT t
 |_=>true
def iF:Ty->Bool
 |.st _|.ar _ _=>true
 |_=>false
def aN:(t:Ty)->El t->List D
 |.i k,x=>[.lit (.int k x)]
 |.b,x=>[.lit (.bool x)]
 |.s,x=>[.lit (.string x)]
 |.f k,x=>[.lit (.float k x)]
 |.sl t,x=>[pF (bC t) (aN t) x]
 |.mp _ _,_=>[.lit .nilFunc]
 |.un,_=>[]
 |.pr a c,x=>aN a x.1++aN c x.2
 |.st t,x=>aN t x
 |.ar _ t,x=>x.1.flatMap (aN t)
 |.o _,_=>[.lit .nilFunc]
inductive Pe where
 |fd (i:Nat)
 |ix (n:Nat)
abbrev lN:=List Pe
inductive V where
 |x (t:Ty) (v:El t)
 |kb (c:Bool)
 |nl (k:Nat)
 |so (id:Nat)
 |sr (id:Nat)
 |sb (id ver lo:Nat) (t:Ty) (r:Sl (El t))
 |op (id:Nat) (t:Ty) (p:lN)
 |ep (id n:Nat) (t:Ty) (p:lN)
 |pt (t:Ty) (v:El t)
 |fn (z:Bool) (f:Nat) (caps:V)
 |om (id:Nat)
 |rc (l:V)
 |tp (l:V)
 |ni
 |co (a r:V)
 |fl (l:List Value)
 |no
 |gn
inductive O where
 |ar (t:Ty) (s:Sl (El t)) (ver:Nat)
 |im (t:Ty) (s:Sl (El t)) (ver:Nat)
 |bx (t:Ty) (c:V)
 |ib (t:Ty) (v:El t)
 |mp (k v:Ty) (m:Mp (El k) (El v))
 |rw(t:Ty) (s:Sl (Sl (El t))) (ln:Option (Nat×Nat))
abbrev H2:=List (Nat×Option O)
def fO(h:H2)(id:Nat):Option O:=(bM h id).join
def uz:(t:Ty)->El t->Nat->Option V
 |.pr a _,v,0=>some (.x a v.1)
 |.pr _ c,v,n+1=>uz c v.2 n
 |t,v,0=>some (.x t v)
 |_,_,_=>none
def xn:Ty->Nat->Option Ty
 |.pr a _,0=>some a
 |.pr _ c,n+1=>xn c n
 |t,0=>some t
 |_,_=>none
def kS:Ty->Nat->Nat
 |.pr _ _,0=>0
 |.pr a c,n+1=>bC a+kS c n
 |_,_=>0
def CH:(t:Ty)->El t->V
 |.pr a c,v=>.co (.x a v.1) (CH c v.2)
 |t,v=>.co (.x t v) .ni
def L5(k:IntKind):List Value->Option (Int×List Value)
 |.int k' n::r=>if k'=k then some (n,r)else none
 |_=>none
def L6:List Value->Option (Bool×List Value)
 |.bool c::r=>some (c,r)
 |_=>none
def L3:List Value->Option (ByteArray×List Value)
 |.string c::r=>some (c,r)
 |_=>none
def Jd(k:FloatKind):List Value->Option (Nat×List Value)
 |.float k' n::r=>if k'=k then some (n,r)else none
 |_=>none
def L4{α:Type}:List Value->Option (Sl α×List Value)
 |.slice none 0 0::r=>some (Sl.nil,r)
 |_=>none
def It{α:Type}(f:List Value->Option (α×List Value)):(m:Nat)->List Value->Option (Arr m α×List Value)
 |0,l=>some (⟨[],rfl⟩,l)
 |m+1,l=>match f l with|some (x,l)=>(match It f m l with|some (v,l)=>some (⟨x::v.1,by rw[List.length_cons,v.2]⟩,l)|none=>none)|none=>none
def pP:(t:Ty)->List Value->Option (El t×List Value)
 |.i k=>L5 k
 |.b=>L6
 |.s=>L3
 |.f k=>Jd k
 |.sl _=>L4
 |.pr a c=>fun l=>match pP a l with|some (x,l)=>(match pP c l with|some (y,l)=>some ((x,y),l)|none=>none)|none=>none
 |.st t=>pP t
 |.ar n t=>It (pP t) n
 |.mp _ _|.un|.o _=>fun _=>none
def ff(u:Ty):V->Option (El u)
 |.x t v=>ew t u v
 |.kb c=>ew .b u c
 |.nl 0=>(match u with|.sl _=>some Sl.nil|_=>none)
 |.fl l=>bif iF u then(match pP u l with|some (x,[])=>some x|_=>none)else none
 |_=>none
def CS:(t:Ty)->El t->Nat->V->Option (El t)
 |.pr a _,v,0,w=>match ff a w with|some y=>some (y,v.2)|none=>none
 |.pr _ c,v,n+1,w=>match CS c v.2 n w with|some y=>some (v.1,y)|none=>none
 |t,_,0,w=>ff t w
 |_,_,_,_=>none
def nJ:V->Nat->Option V
 |.co a _,0=>some a
 |.co _ r,n+1=>nJ r n
 |_,_=>none
def EU:V->Nat->V->V
 |.co _ r,0,w=>.co w r
 |.co a r,n+1,w=>.co a (EU r n w)
 |l,_,_=>l
def lC:V->lN->Option V
 |v,[]=>some v
 |.x (.st t) v,.fd i::p=>match uz t v i with|some w=>lC w p|none=>none
 |.x (.ar _ t) v,.ix k::p=>lC (.x t (gt v.1 k)) p
 |.rc l,.fd i::p=>match nJ l i with|some w=>lC w p|none=>none
 |_,_=>none
def kG:V->lN->V->Option V
 |_,[],w=>some w
 |.x (.st t) v,.fd i::p,w=>
  match uz t v i with
  |some y=>match kG y p w with|some y'=>(match CS t v i y' with|some v'=>some (.x (.st t) v')|none=>some (.rc (EU (CH t v) i y')))|none=>none
  |none=>none
 |.x (.ar n t) v,.ix k::p,w=>match kG (.x t (gt v.1 k)) p w with|some y=>(match ff t y with|some y'=>some (.x (.ar n t) (v.set k y'))|none=>none)|none=>none
 |.rc l,.fd i::p,w=>match nJ l i with|some y=>(match kG y p w with|some y'=>some (.rc (EU l i y'))|none=>none)|none=>none
 |_,_,_=>none
def mU:Ty->lN->Option Ty
 |t,[]=>some t
 |.st t,.fd i::p=>match xn t i with|some u=>mU u p|none=>none
 |.ar _ t,.ix _::p=>mU t p
 |_,_=>none
def jM:Ty->lN->Nat
 |.st t,.fd i::p=>kS t i+(match xn t i with|some u=>jM u p|none=>0)
 |.ar _ t,.ix k::p=>k*bC t+jM t p
 |_,_=>0
def Df:Ty->lN->Prop
 |.st t,.fd i::p=>∃u,xn t i=some u/\Df u p
 |.ar n t,.ix k::p=>k<n/\Df t p
 |_,[]=>True
 |_,_=>False
def vO:Ty->V×V
 |.pr a c=>(.no,.co (vO a).1 (vO c).2)
 |.st t=>(bif gT t then .x (.st t) (nO t)else .rc (vO t).2,.co (bif gT t then .x (.st t) (nO t)else .rc (vO t).2) .ni)
 |.o k=>(.nl k,.co (.nl k) .ni)
 |.mp _ _=>(.nl 3,.co (.nl 3) .ni)
 |.sl t=>(bif gT t then .x (.sl t) Sl.nil else .nl 0,.co (bif gT t then .x (.sl t) Sl.nil else .nl 0) .ni)
 |.ar n t=>(bif gT t then .x (.ar n t) (nO (.ar n t))else .no,.co (bif gT t then .x (.ar n t) (nO (.ar n t))else .no) .ni)
 |.un=>(.x .un (),.co (.x .un ()) .ni)
 |.i k=>(.x (.i k) (0:Int),.co (.x (.i k) (0:Int)) .ni)
 |.b=>(.x .b false,.co (.x .b false) .ni)
 |.s=>(.x .s fo,.co (.x .s fo) .ni)
 |.f k=>(.x (.f k) (0:Nat),.co (.x (.f k) (0:Nat)) .ni)
abbrev IY(t:Ty):V:=(vO t).1
def yy(k:Nat):C:=.d (.lit (match k with|0=>.slice none 0 0|1=>.pointer none|2=>.nilFunc|3=>.map none|5=>.complex .f32 0 1|_=>.nilIface))
def uQ(id:Nat):Option O->Option C
 |some (.ar t s _)=>some (jm (bC t) (aN t) id s)
 |some (.im t s _)=>some (jm (bC t) (aN t) id s)
 |_=>none
def kQ(t:Ty):Sl (El t)->iq
 |.nil=>.nil
 |.mk l=>.bf (l.map (aN t))
def C5{α:Type}(id:Nat):Sl α->iq
 |.nil=>.nil
 |.mk l=>.out id l.length
def du(t:Ty)(l:List (Sl (El t))):Option (Nat×Nat)->List iq
 |none=>l.map (kQ t)
 |some (m,id)=>(l.map (kQ t)).set m (C5 id (gt l m))
def zJ(id:Nat):Option O->Option C
 |some (.rw t s _)=>some (jm 1 (aN (.sl t)) id (s:Sl (Sl (El t))))
 |_=>none
def rV(id lo:Nat)(t:Ty):Sl (El t)->C
 |.nil=>.d (.lit (.slice none 0 0))
 |.mk l=>.dq (bC t) id lo (l.map (aN t)).length
def mo:V->Option (List D)
 |.pt t v=>if gT t then some [.pt (aN t v)]else none
 |.ni=>some []
 |.co a r=>match mo a,mo r with|some x,some y=>some (x++y)|_,_=>none
 |_=>none
def oH:V->Bool
 |.x t _=>iF t
 |.rc _|.fl _=>true
 |_=>false
deriving instance DecidableEq for Mp
instance tR:(t:Ty)->DecidableEq (El t)
 |.i _=>inferInstanceAs (DecidableEq Int)
 |.b=>inferInstanceAs (DecidableEq Bool)
 |.s=>inferInstanceAs (DecidableEq ByteArray)
 |.f _=>inferInstanceAs (DecidableEq Nat)
 |.sl t=>@instDecidableEqSl (El t) (tR t)
 |.mp k v=>@instDecidableEqMp (El k) (El v) (tR k) (tR v)
 |.un=>inferInstanceAs (DecidableEq Unit)
 |.pr a c=>@instDecidableEqProd (El a) (El c) (tR a) (tR c)
 |.st t=>tR t
 |.ar n t=>@instDecidableEqArr n (El t) (tR t)
 |.o _=>inferInstanceAs (DecidableEq Unit)
structure S2 where
 cG:List (Nat×V)
 heap:H2
 next:Nat
 wo:List Nat
 gh:V
structure OP where
 o:km
 t:Ty
 fi:List Nat
def w_:V->Bool
 |.pt t _=>gT t
 |.ni=>true
 |.co a r=>w_ a&&w_ r
 |_=>false
def ft(h:H2):V->Bool
 |.x t _=>gT t
 |.pt t _=>gT t
 |.kb _|.nl _=>true
 |.op id _ _|.ep id _ _ _|.om id=>(match fO h id with|some _=>true|none=>false)
 |.so id=>(match fO h id with|some (.ar _ _ _)|some (.im _ _ _)=>true|_=>false)
 |.sr id=>(match fO h id with|some (.rw _ _ _)=>true|_=>false)
 |.sb id ver _ t _=>gT t&&(match fO h id with|some (.ar _ _ v)|some (.im _ _ v)=>v==ver|_=>false)
 |.fn true _ l=>w_ l
 |.fn false _ l=>ft h l
 |.rc l|.tp l=>ft h l
 |.fl l=>l.all ck
 |.ni=>true
 |.co a r=>ft h a&&ft h r
 |.no|.gn=>false
def Mq:Value->Option V
 |.bool c=>some (.kb c)
 |.int k n=>some (.x (.i k) n)
 |.float k n=>some (.x (.f k) n)
 |.string s=>some (.x .s s)
 |.pointer none=>some (.nl 1)
 |.slice none 0 0=>some (.nl 0)
 |.nilFunc=>some (.nl 2)
 |.map none=>some (.nl 3)
 |.nilIface=>some (.nl 4)
 |.agg cs=>if cs.toList.all ck then some (.fl cs.toList)else none
 |_=>none
def Kr:Nat->Option V:=fun _ => none
def D9(e:List (Nat×V))(h:H2):Operand->Option V
 |.tmp t=>match bM e t with|some v=>bif ft h v then some v else none|none=>none
 |.const c=>Mq c
 |.global g=>Kr g
 |.func f=>some (.fn true f .ni)
def sD:V->Nat
 |.x t _=>bC t
 |.rc l=>sD l
 |.co a r=>sD a+sD r
 |.ni=>0
 |.fl l=>l.length
 |_=>1
def Ij:V->Nat->Nat
 |.co a r,n+1=>sD a+Ij r n
 |_,_=>0
def dv:List V->V
 |[]=>.ni
 |v::r=>.co v (dv r)
def uK:V->List V
 |.co a r=>a::uK r
 |_=>[]
def ij:V->Bool->(u:Ty)->Option (El u)
 |.rc l,false,.st u=>ij l true u
 |.co a r,true,.pr t u=>match ij a false t,ij r true u with|some x,some y=>some (x,y)|_,_=>none
 |.co a .ni,true,u=>ij a false u
 |.ni,_,_=>none
 |v,false,u=>ff u v
 |_,_,_=>none
abbrev mV(u:Ty)(v:V):Option (El u):=ij v false u
def df:V->Bool->Ty->Bool
 |.x u _,false,t=>decide (u=t)
 |.rc l,false,.st t=>df l true t
 |.co a r,true,.pr t u=>df a false t&&df r true u
 |.co a .ni,true,t=>df a false t
 |.kb _,false,.b=>true
 |.nl 0,false,.sl _|.so _,false,.sl _|.sr _,false,.sl _|.sb _ _ _ _ _,false,.sl _=>true
 |.nl 3,false,.mp _ _|.om _,false,.mp _ _=>true
 |.nl _,false,.o _|.op _ _ _,false,.o _|.ep _ _ _ _,false,.o _|.pt _ _,false,.o _|.fn _ _ _,false,.o _=>true
 |_,_,_=>false
def GX(t:Ty)(v:V):Option V:=match(bif gT t then ff t v else none)with|some y=>some (.x t y)|none=>bif df v false t then some v else none
def o9(h:H2):V->Option ((t:Ty)×Sl (El t)×List Nat)
 |.x (.sl t) s=>some ⟨t,s,[]⟩
 |.so id=>(match fO h id with|some (.ar t s _)|some (.im t s _)=>some ⟨t,s,[id]⟩|_=>none)
 |.sb id _ _ t r=>some ⟨t,r,[id]⟩
 |_=>none
def EC(t:Ty)(h:H2):V->Option ((t:Ty)×Sl (El t)×List Nat)
 |.nl 0=>some ⟨t,Sl.nil,[]⟩
 |v=>o9 h v
def gb(h:H2):V->Option (V×List Nat)
 |.so id=>match o9 h (.so id)with|some ⟨t,s,l⟩=>some (.x (.sl t) s,l)|none=>none
 |.sr id=>match fO h id with|some (.rw t s none)=>some (.x (.sl (.sl t)) s,[id])|_=>none
 |.sb id ver lo t r=>match o9 h (.sb id ver lo t r)with|some ⟨t,s,l⟩=>some (.x (.sl t) s,l)|none=>none
 |.rc l=>match gb h l with|some (w,l)=>some (.rc w,l)|none=>none
 |.co a r=>match gb h a,gb h r with|some (x,l),some (y,m)=>some (.co x y,l++m)|_,_=>none
 |.x t v=>some (.x t v,[])
 |.kb c=>some (.kb c,[])
 |.nl k=>some (.nl k,[])
 |.fl l=>some (.fl l,[])
 |.ni=>some (.ni,[])
 |.fn true f l=>some (.fn true f l,[])
 |.pt t v=>some (.pt t v,[])
 |_=>none
def M8(c:Bool):V->V->Option V
 |.kb a,.kb b=>some (.x .b (bif c then a else b))
 |.x t a,w=>match mV t w with|some b=>some (.x t (bif c then a else b))|none=>none
 |w,.x t b=>match mV t w with|some a=>some (.x t (bif c then a else b))|none=>none
 |_,_=>none
def Mt:Value->Value->Bool
 |.bool a,.bool b=>a==b
 |.int k a,.int k' b=>decide (k=k')&&a==b
 |.float k a,.float k' b=>decide (k=k')&&a==b
 |.string a,.string b=>decide (a=b)
 |.pointer none,.pointer none|.slice none 0 0,.slice none 0 0|.nilFunc,.nilFunc|.map none,.map none|.nilIface,.nilIface=>true
 |_,_=>false
def o8:List Value->List Value->Bool
 |[],[]=>true
 |a::r,b::s=>Mt a b&&o8 r s
 |_,_=>false
def j_:Ty->List Value
 |.i k=>[.int k 0]
 |.b=>[.bool false]
 |.s=>[.string fo]
 |.f k=>[.float k 0]
 |.sl _=>[.slice none 0 0]
 |.mp _ _=>[.map none]
 |.un=>[]
 |.pr a c=>j_ a++j_ c
 |.st t=>j_ t
 |.ar n t=>(aw n (j_ t)).flatten
 |.o k=>[match k with|0=>.slice none 0 0|1=>.pointer none|2=>.nilFunc|3=>.map none|5=>.complex .f32 0 1|_=>.nilIface]
def uj:Ty->Option (List Kd)
 |.i k=>some [.i k]
 |.b=>some [.b]
 |.s=>some [.s]
 |.pr a c=>match uj a,uj c with|some x,some y=>some (x++y)|_,_=>none
 |.st t=>uj t
 |.ar n t=>match uj t with|some x=>some ((aw n x).flatten)|none=>none
 |_=>none
def KY(z:Bool)(op:BinOp)(k k':IntKind)(a b:Int):Option V:=
 match op with
 |.shl=>bif z then some (.x (.i k) (K3 k a b))else none
 |.shr=>bif z then some (.x (.i k) (K2 k a b))else none
 |op=>bif decide (k=k')then(match op with
  |.add=>some (.x (.i k) (wr k (a+b)))
  |.sub=>some (.x (.i k) (wr k (a-b)))
  |.mul=>some (.x (.i k) (wr k (a*b)))
  |.quo=>bif z then some (.x (.i k) (wr k (a.tdiv b)))else none
  |.rem=>bif z then some (.x (.i k) (a.tmod b))else none
  |.and=>some (.x (.i k) (K5 k a b))
  |.or=>some (.x (.i k) (No k a b))
  |.xor=>some (.x (.i k) (K1 k a b))
  |.andNot=>some (.x (.i k) (w6 k a b))
  |.eql=>some (.x .b (a==b))
  |.neq=>some (.x .b (a !=b))
  |.lss=>some (.x .b (decide (a<b)))
  |.leq=>some (.x .b (decide (a<=b)))
  |.gtr=>some (.x .b (decide (a>b)))
  |.geq=>some (.x .b (decide (a>=b)))
  |_=>none)else none
def Ni(k:FloatKind)(a b:Nat):Nat:=(k.format.add a b).getD (o_ k)
def Nf(k:FloatKind)(a b:Nat):Nat:=(k.format.sub a b).getD (o_ k)
def Ng(k:FloatKind)(a b:Nat):Nat:=(k.format.mul a b).getD (o_ k)
def Nh(k:FloatKind)(a b:Nat):Nat:=(k.format.div a b).getD (o_ k)
def Mn(k:FloatKind)(a b:Nat):Bool:=k.format.order a b==some .eq
def NA(k:FloatKind)(a b:Nat):Bool:=k.format.order a b==some .lt
def NB(k:FloatKind)(a b:Nat):Bool:=k.format.order a b==some .gt
def Kv(k:FloatKind)(a b:Nat):Nat:=match k.format.order a b with|none=>o_ k|some .lt=>a|some .gt=>b|some .eq=>if(k.decode a).neg then a else b
def Kw(k:FloatKind)(a b:Nat):Nat:=match k.format.order a b with|none=>o_ k|some .lt=>b|some .gt=>a|some .eq=>if(k.decode a).neg then b else a
def Gz(op:BinOp)(k k':FloatKind)(a b:Nat):Option V:=
 bif decide (k=k')then(match op with
  |.add=>some (.x (.f k) (Ni k a b))
  |.sub=>some (.x (.f k) (Nf k a b))
  |.mul=>some (.x (.f k) (Ng k a b))
  |.quo=>some (.x (.f k) (Nh k a b))
  |.eql=>some (.x .b (Mn k a b))
  |.neq=>some (.x .b (!(Mn k a b)))
  |.lss=>some (.x .b (NA k a b))
  |.leq=>some (.x .b (NA k a b||Mn k a b))
  |.gtr=>some (.x .b (NB k a b))
  |.geq=>some (.x .b (NB k a b||Mn k a b))
  |_=>none)else none
def KX(op:BinOp)(x y:ByteArray):Option V:=match op with|.eql=>some (.x .b (x.toList==y.toList))|.neq=>some (.x .b (!(x.toList==y.toList)))|.lss=>some (.x .b (Op.bytesLess x.toList y.toList))|.leq=>some (.x .b (Op.bytesLess x.toList y.toList||x.toList==y.toList))|.gtr=>some (.x .b (!(Op.bytesLess x.toList y.toList||x.toList==y.toList)))|.geq=>some (.x .b (!(Op.bytesLess x.toList y.toList)))|_=>none
def HA:List Operand->Bool
 |[_,.const (.int _ n)]=>decide (n>0)
 |_=>false
def Lm(m:Bool)(k:IntKind):Int->List V->Option Int
 |x,[]=>some x
 |x,.x (.i k') y::r=>bif decide (k'=k)then Lm m k (bif m then(if y>x then y else x)else(if y<x then y else x)) r else none
 |_,_=>none
def Dl(m:Bool)(k:FloatKind):Nat->List V->Option Nat
 |x,[]=>some x
 |x,.x (.f k') y::r=>bif decide (k'=k)then Dl m k (bif m then Kw k x y else Kv k x y) r else none
 |_,_=>none
def tq(h:H2):V->Option (V×List Nat)
 |.pt t v=>some (.x t v,[])
 |.op id t p=>(match fO h id with
  |some (.bx u c)=>bif decide (u=t)then(match lC c p with|some w=>some (w,[id])|none=>none)else none
  |some (.ib u v)=>bif decide (u=t)then(match lC (.x u v) p with|some w=>some (w,[id])|none=>none)else none
  |_=>none)
 |.ep id n t p=>(match fO h id with
  |some (.ar u s _)|some (.im u s _)=>bif decide (u=t)then(match lC (.x u (gt s.l n)) p with|some w=>some (w,[id])|none=>none)else none
  |_=>none)
 |_=>none
def tg(h:H2)(kind:Nat):V->Option V
 |.nl k=>bif(k==kind)&&Nat.blt k 3 then some (.kb true)else none
 |.pt _ _|.op _ _ _|.ep _ _ _ _=>bif kind==1 then some (.kb false)else none
 |.fn _ _ _=>bif kind==2 then some (.kb false)else none
 |v=>bif kind==0 then(match o9 h v with|some ⟨_,s,_⟩=>some (.x .b s.dZ)|none=>none)else none
def Fe:V->V
 |.kb c=>.kb (!c)
 |.x .b c=>.x .b (!c)
 |v=>v
def A0(off n:Nat)(i:Nat):V->Option V
 |.op id t p=>(match mU t p with
  |some (.st u)=>(match xn u i with|some w=>bif(kS u i==off)&&(bC w==n)then some (.op id t (p++[.fd i]))else none|none=>none)
  |_=>none)
 |.ep id m t p=>(match mU t p with
  |some (.st u)=>(match xn u i with|some w=>bif(kS u i==off)&&(bC w==n)then some (.ep id m t (p++[.fd i]))else none|none=>none)
  |_=>none)
 |.pt (.st u) v=>(match uz u v i with|some (.x w y)=>bif(kS u i==off)&&(bC w==n)then some (.pt w y)else none|_=>none)
 |_=>none
def Bf(h:H2)(g:Bool)(n:Nat)(w:V):Bool:=(oH w==g)&&(sD w==n)&&(g||n==1)&&ft h w
def H7(h:H2):V->Option ((k:Ty)×(v:Ty)×Mp (El k) (El v)×List Nat)
 |.om id=>(match fO h id with|some (.mp k v m)=>some ⟨k,v,m,[id]⟩|_=>none)
 |_=>none
def rN(t:Ty):List Nat->List (Nat×Nat)->List V->V->Option V
 |[],[],[],c=>some c
 |i::is,(off,n)::ps,w::ws,c=>
  match t with
  |.st u=>(match xn u i with
   |some a=>bif(kS u i==off)&&(bC a==n)then(match GX a w with|some w=>(match kG c [.fd i] w with|some c=>bif df c false t then rN t is ps ws c else none|none=>none)|none=>none)else none
   |none=>none)
  |.ar m u=>bif(i*bC u==off)&&(bC u==n)&&decide (i<m)then(match GX u w with|some w=>(match kG c [.ix i] w with|some c=>bif df c false t then rN t is ps ws c else none|none=>none)|none=>none)else none
  |_=>none
 |_,_,_,_=>none
def IC:V->Bool
 |.tp _|.no|.gn|.ni|.co _ _=>false
 |v=>!oH v
def Jz(o:OP)(vs:List V)(h:H2):Option (V×List Nat):=
 match o.o.k,vs with
 |.mv,[v]=>some (v,[])
 |.nilCheck,[v]=>(match v with|.pt _ _|.fn _ _ _|.ep _ _ _ _|.op _ _ _=>some (v,[])|_=>none)
 |.t8 op,[.x (.i k) a,.x (.i k') b]=>(match KY (HA o.o.args) op k k' a b with|some v=>some (v,[])|none=>none)
 |.t8 op,[.x (.f k) a,.x (.f k') b]=>(match Gz op k k' a b with|some v=>some (v,[])|none=>none)
 |.t8 op,[.x .s a,.x .s b]=>(match KX op a b with|some v=>some (v,[])|none=>none)
 |.pO neg,[x,y]=>(match mV .b x,mV .b y with|some a,some b=>some (.x .b (bif neg then !(a==b)else a==b),[])|_,_=>none)
 |.mK kind neg,[x]=>(match tg h kind x with|some v=>some (bif neg then Fe v else v,[])|none=>none)
 |.tP neg ks,[.x t a,y]=>(match mV t y with|some b=>bif iF t&&decide (uj t=some ks)then some (.x .b (bif neg then !(decide (a=b))else decide (a=b)),[])else none|none=>none)
 |.un .not,[.kb c]=>some (.kb (!c),[])
 |.un .not,[.x .b c]=>some (.x .b (!c),[])
 |.un .neg,[.x (.i k) n]=>some (.x (.i k) (wr k (0-n)),[])
 |.un .neg,[.x (.f k) n]=>some (.x (.f k) (Op.negFloat k n),[])
 |.un .xor,[.x (.i k) n]=>some (.x (.i k) (Np k n),[])
 |.qn k,[.x (.i _) n]=>some (.x (.i k) (wr k n),[])
 |.zk k,[.x (.i _) n]=>some (.x (.f k) (k.nearest n),[])
 |.oC,[.x .s s]=>some (.x .s s,[])
 |.Do f,vs=>bif vs.all IC then some (.fn false f (dv vs),[])else none
 |.load g n,[p]=>(match tq h p with|some (w,l)=>bif Bf h g n w then some (w,l)else none|none=>none)
 |.pk,[p]=>(match tq h p with|some (w,l)=>bif Bf h false 1 w then some (w,l)else none|none=>none)
 |.fieldAddr off n,[p]=>(match o.fi with|[i]=>(match A0 off n i p with|some w=>some (w,[])|none=>none)|_=>none)
 |.field g off n,[.x (.st u) v]=>(match o.fi with|[i]=>(match uz u v i with|some w=>bif(kS u i==off)&&Bf h g n w then some (w,[])else none|none=>none)|_=>none)
 |.field g off n,[.rc l]=>(match o.fi with|[i]=>(match nJ l i with|some w=>bif(Ij l i==off)&&Bf h g n w then some (w,[])else none|none=>none)|_=>none)
 |.extract i,[.tp l]=>(match nJ l i with|some w=>some (w,[])|none=>none)
 |.len true,[.x .s s]=>some (.x (.i .i64) (s.size:Int),[])
 |.len false,[.nl 0]=>some (.x (.i .i64) (0:Int),[])
 |.len false,[.sr id]=>(match fO h id with|some (.rw _ s _)=>some (.x (.i .i64) (s.l.length:Int),[])|_=>none)
 |.len false,[v]=>(match o9 h v with|some ⟨_,s,_⟩=>some (.x (.i .i64) (s.l.length:Int),[])|none=>none)
 |.ne m,.x (.i k) x::r=>(match Lm m k x r with|some y=>some (.x (.i k) y,[])|none=>none)
 |.ne m,.x (.f k) x::r=>(match Dl m k x r with|some y=>some (.x (.f k) y,[])|none=>none)
 |.build z ps,vs=>bif o8 (j_ o.t) z&&iF o.t&&df (IY o.t) false o.t then(match rN o.t o.fi ps vs (IY o.t)with|some v=>some (v,[])|none=>none)else none
 |.lookup ka ks va z ok,[m,kv]=>(match H7 h m with
  |some ⟨kt,vt,mp,l⟩=>(match mV kt kv with
   |some k=>bif(iF kt==ka)&&(iF vt==va)&&decide (uj kt=some ks)&&o8 (j_ vt) z&&gT vt&&(va||bC vt==1)then
     some (bif ok then .tp (.co (.x vt (vc mp (nO vt) k)) (.co (.x .b (Fh mp k)) .ni))else .x vt (vc mp (nO vt) k),l)else none
   |none=>none)
  |none=>none)
 |_,_=>none
def rO{α:Type}(s:Sl α)(x r:List α):Sl α:=match x with|[]=>(match s with|.nil=>.nil|.mk _=>.mk r)|_::_=>.mk r
def Ds{α:Type}:Sl α->Sl α->Option Unit
 |.nil,.nil=>some ()
 |.mk a,.mk b=>Kk a b
 |_,_=>none
def gk(s:S2)(o:O):S2:=⟨s.cG,(s.next,some o)::s.heap,s.next+1,s.next::s.wo,s.gh⟩
def cX(s:S2)(id:Nat)(o:Option O):S2:=⟨s.cG,(id,o)::s.heap,s.next,id::s.wo,s.gh⟩
def wG(h:H2)(id:Nat):Option O:=match fO h id with|some (.ar t s v)|some (.im t s v)=>some (.im t s v)|some (.ib t v)=>some (.ib t v)|some (.bx t c)=>bif gT t&&Nat.blt (bC t) 300 then(match gb h c with|some (_,[])=>(match mV t c with|some v=>some (.ib t v)|none=>none)|_=>none)else none|_=>none
def mm(h:H2):List Nat->S2->Option S2
 |[],s=>some s
 |id::r,s=>match fO h id with|some (.rw _ _ none)=>(match mm h r s with|some s=>some (cX s id none)|none=>none)|_=>(match wG h id,mm h r s with|some o,some s=>some (cX s id (some o))|_,_=>none)
def xl(t:Ty):Bool:=gT t&&Nat.blt 0 (bC t)
def sP(h:H2)(t:Ty)(len:Nat):Nat->List Nat->List V->Option (List (El t)×List Nat)
 |m,[],[]=>some (aw (len-m) (nO t),[])
 |m,i::is,v::vs=>
  match gb h v with
  |some (w,a)=>(match mV t w with
   |some y=>bif fZ m i&&Nat.blt i len then(match sP h t len (i+1) is vs with|some (l,b)=>some (aw (i-m) (nO t)++y::l,a++b)|none=>none)else none
   |none=>none)
  |none=>none
 |_,_,_=>none
def qT:List V->Option (List Int)
 |[]=>some []
 |.x (.i _) n::r=>match qT r with|some l=>some (n::l)|none=>none
 |_=>none
def AL(h:H2):V->Option Int
 |.nl 0=>some 0
 |v=>match o9 h v with|some ⟨_,v,_⟩=>some (v.l.length:Int)|none=>none
def Iz{α:Type}(w:Sl α)(lo n:Nat)(z:α):Option (Sl α):=match w with|.nil=>none|.mk l=>some (.mk (Gn l lo n (aw n z)))
def pg{β:Type}(sz:Nat)(h:H2)(x:V)(l u:Int)(k:V->Option β):Option β:=
 match x with
 |.x (.sl t) v=>bif bC t==sz then(q8 v.l l u).bind fun y=>k (.x (.sl t) (v.to y))else none
 |.so id=>(match fO h id with
  |some (.ar t v ver)=>bif bC t==sz then(q8 v.l l u).bind fun y=>k (.sb id ver l.toNat t (v.to y))else none
  |some (.im t v ver)=>bif bC t==sz then(q8 v.l l u).bind fun y=>k (.sb id ver l.toNat t (v.to y))else none
  |_=>none)
 |.sb id ver lo t v=>bif bC t==sz then(q8 v.l l u).bind fun y=>k (.sb id ver (lo+l.toNat) t (v.to y))else none
 |.nl 0=>(q8 ([]:List Unit) l u).bind fun _=>k (.nl 0)
 |_=>none
def KV{β:Type}(t:Ty)(sz len:Nat)(z:List Value)(pl:List Nat)(vs:List V)(s:S2)(k:V->S2->List Nat->Option β):Option β:=
 bif(bC t==sz)&&o8 ((aw len (j_ t)).flatten) z&&xl t then
  (match sP s.heap t len 0 pl vs with
  |some (l,a)=>(match mm s.heap a s with|some s'=>k (.so s.next) (gk s' (.ar t (.mk l) 0)) a|none=>none)
  |none=>none)else none
def BH(ln:Option (Nat×Nat))(m:Nat):Bool:=match ln with|none=>true|some (m',_)=>ji m' m
def zW{β:Type}(id m:Nat)(t:Ty)(p:lN)(w:V)(s:S2)(k:S2->List Nat->Option β):Option β:=
 match fO s.heap id with
 |some (.rw u v ln)=>(match p,w with
  |[],.so id2=>(match fO s.heap id2 with
   |some (.ar u2 r _)=>(match ew (.sl u2) (.sl u) r with
    |some r=>bif decide (t=.sl u)&&!(id2==id)&&BH ln m then k (cX (cX s id2 none) id (some (.rw u (.mk (v.l.set m r)) none))) [id,id2]else none
    |none=>none)
   |_=>none)
  |_,_=>none)
 |some (.ar u l ver)=>(match gb s.heap w with
  |some (w,a)=>bif decide (u=t)then(match mU u p with
   |some q=>(match mV q w with
    |some y=>(match kG (.x u (gt l.l m)) p (.x q y)with
     |some c=>(match ff u c with
      |some y=>(match mm s.heap a s with|some s=>bif !a.contains id then k (cX s id (some (.ar u (.mk (l.l.set m y)) (ver+1)))) (id::a)else none|none=>none)
      |none=>none)
     |none=>none)
    |none=>none)
   |none=>none)else none
  |none=>none)
 |_=>none
def part{β:Type}(o:OP)(vs:List V)(s:S2)(k:V->S2->List Nat->Option β):Option β:=
 match o.o.k,vs with
 |.t8 .quo,[.x (.i q) a,.x (.i q') b]=>bif decide (q=q')then(KI q a b).bind fun x=>k (.x (.i q) x) s []else none
 |.t8 .rem,[.x (.i q) a,.x (.i q') b]=>bif decide (q=q')then(JL q a b).bind fun x=>k (.x (.i q) x) s []else none
 |.t8 .shl,[.x (.i q) a,.x (.i _) b]=>(JH q a b).bind fun x=>k (.x (.i q) x) s []
 |.t8 .shr,[.x (.i q) a,.x (.i _) b]=>(JG q a b).bind fun x=>k (.x (.i q) x) s []
 |.t8 .add,[.x .s a,.x .s b]=>(lL a b).bind fun x=>k (.x .s x) s []
 |.alloc z,[]=>bif o8 (j_ o.t) z&&df (IY o.t) false o.t then k (.op s.next o.t []) (gk s (.bx o.t (IY o.t))) []else none
 |.box,[v]=>(match GX o.t v with|some w=>k (.op s.next o.t []) (gk s (.bx o.t w)) []|none=>none)
 |.buildSlice sz len z pl,vs=>KV o.t sz len z pl vs s k
 |.store n,[.op id t p,w]=>bif(sD w==n)then(match fO s.heap id with
  |some (.bx u c)=>bif decide (u=t)then(match mU t p with
   |some a=>(match GX a w with
    |some w=>(match kG c p w with|some c=>bif df c false t then k (.tp .ni) (cX s id (some (.bx t c))) [id]else none|none=>none)
    |none=>none)
   |none=>none)else none
  |_=>none)else none
 |.pk,[.ep id m u []]=>(match fO s.heap id with
  |some (.rw t v none)=>bif decide (u=.sl t)then k (.so s.next) (gk (cX s id (some (.rw t v (some (m,s.next))))) (.ar t (gt v.l m) 0)) [id]else none
  |_=>none)
 |.ve szi,[.x (.i _) l,.x (.i _) c]=>(match o.t with
  |.sl t=>bif(bC t==szi)&&xl t then(Ln (Sl.nil:Sl (El t)) l c).bind fun r=>k (.sr s.next) (gk s (.rw t (.mk r) none)) []else none
  |_=>none)
 |.store n,[.ep id m t p,w]=>bif(sD w==n)then zW id m t p w s (fun s l=>k (.tp .ni) s l)else none
 |.makeSlice z,[.x (.i _) l,.x (.i _) c]=>bif o8 (j_ o.t) z&&xl o.t then(Ln (nO o.t) l c).bind fun r=>k (.so s.next) (gk s (.ar o.t (.mk r) 0)) []else none
 |.slice true _ lo hi,.x .s x::r=>(match lo,hi,qT r with
  |false,false,some []=>(mY x 0 x.size).bind fun y=>k (.x .s y) s []
  |true,false,some [l]=>(mY x l x.size).bind fun y=>k (.x .s y) s []
  |false,true,some [u]=>(mY x 0 u).bind fun y=>k (.x .s y) s []
  |true,true,some [l,u]=>(mY x l u).bind fun y=>k (.x .s y) s []
  |_,_,_=>none)
 |.slice false sz lo hi,x::r=>
  (match lo,hi,qT r,AL s.heap x with
  |false,false,some [],some n=>pg sz s.heap x 0 n fun v=>k v s []
  |true,false,some [l],some n=>pg sz s.heap x l n fun v=>k v s []
  |false,true,some [u],some _=>pg sz s.heap x 0 u fun v=>k v s []
  |true,true,some [l,u],some _=>pg sz s.heap x l u fun v=>k v s []
  |_,_,_,_=>none)
 |.indexAddr none sz,[x,.x (.i _) i]=>(match x with
  |.x (.sl t) v=>bif bC t==sz then(nh i v.l.length).bind fun m=>k (.pt t (gt v.l m)) s []else none
  |.so id=>(match o9 s.heap (.so id)with|some ⟨t,v,_⟩=>bif bC t==sz then(nh i v.l.length).bind fun m=>k (.ep id m t []) s []else none|none=>none)
  |.sb id _ lo t v=>bif bC t==sz then(nh i v.l.length).bind fun m=>k (.ep id (lo+m) t []) s []else none
  |.sr id=>(match fO s.heap id with|some (.rw t v _)=>bif 1==sz then(nh i v.l.length).bind fun m=>k (.ep id m (.sl t) []) s []else none|_=>none)
  |_=>none)
 |.indexAddr (some n) sz,[x,.x (.i _) i]=>(match x with
  |.op id t p=>(match mU t p with|some (.ar n' u)=>bif(n'==n)&&(bC u==sz)then(nh i n).bind fun m=>k (.op id t (p++[.ix m])) s []else none|_=>none)
  |.ep id q t p=>(match mU t p with|some (.ar n' u)=>bif(n'==n)&&(bC u==sz)then(nh i n).bind fun m=>k (.ep id q t (p++[.ix m])) s []else none|_=>none)
  |.pt (.ar n' u) v=>bif(n'==n)&&(bC u==sz)then(nh i n).bind fun m=>k (.pt u (gt v.1 m)) s []else none
  |_=>none)
 |.lA,[.x .s x,.x (.i _) i]=>(zA x i).bind fun c=>k (.x (.i .u8) c) s []
 |.index g n sz,[.x (.ar n' u) v,.x (.i _) i]=>bif(n'==n)&&(bC u==sz)&&(iF u==g)&&gT u&&(g||sz==1)then(nh i n).bind fun m=>k (.x u (gt v.1 m)) s []else none
 |.append sz,[a,x]=>
  (match EC o.t s.heap x with
  |some ⟨t,m,ap⟩=>bif(bC t==sz)&&xl t then(match a with
   |.nl 0=>(nv ([]++m.l)).bind fun r=>k (.so s.next) (gk s (.ar t (rO Sl.nil m.l r) 0)) ap
   |.x (.sl _) v=>bif Sl.dZ v then((nv ([]++m.l)).bind fun r=>k (.so s.next) (gk s (.ar t (rO Sl.nil m.l r) 0)) ap)else none
   |.so id=>(match fO s.heap id with
    |some (.ar u v _)=>(match ew (.sl t) (.sl u) m with
     |some m=>(nv (v.l++m.l)).bind fun r=>k (.so s.next) (gk (cX s id none) (.ar u (rO v m.l r) 0)) (id::ap)
     |none=>none)
    |_=>none)
   |.sb id _ lo u v=>(match fO s.heap id,ew (.sl t) (.sl u) m with
    |some (.ar _ s0 _),some m=>bif fZ s0.l.length (lo+(v.l.length+m.l.length))then((nv (v.l++m.l)).bind fun r=>k (.so s.next) (gk (cX s id none) (.ar u (rO v m.l r) 0)) (id::ap))else none
    |_,_=>none)
   |_=>none)else none
  |none=>none)
 |.copy sz,[a,x]=>
  (match EC o.t s.heap x with
  |some ⟨t,m,ap⟩=>bif bC t==sz then(match a with
   |.nl 0=>k (.x (.i .i64) (0:Int)) s ap
   |.so id=>(match fO s.heap id with
    |some (.ar u v ver)=>(match ew (.sl t) (.sl u) m with
     |some m=>k (.x (.i .i64) ((min m.l.length v.l.length:Nat):Int)) (cX s id (some (.ar u (v.to (Gn v.l 0 v.l.length m.l)) (ver+1)))) (id::ap)
     |none=>none)
    |_=>none)
   |.sb id ver lo _ v=>(match fO s.heap id with
    |some (.ar u w ver')=>(match ew (.sl t) (.sl u) m with
     |some m=>bif ver'==ver then k (.x (.i .i64) ((min m.l.length v.l.length:Nat):Int)) (cX s id (some (.ar u (w.to (Gn w.l lo v.l.length m.l)) (ver+1)))) (id::ap)else none
     |none=>none)
    |_=>none)
   |_=>none)else none
  |none=>none)
 |.clear zz,[a]=>(match a with
  |.sb id ver lo _ v=>(match fO s.heap id with
   |some (.ar u w ver')=>bif(ver'==ver)&&o8 (j_ u) zz&&xl u then(Iz w lo v.l.length (nO u)).bind fun w=>k (.tp .ni) (cX s id (some (.ar u w (ver+1)))) [id]else none
   |_=>none)
  |_=>none)
 |.makeMap ka va,[]=>(match o.t with
  |.mp kt vt=>bif(iF kt==ka)&&(iF vt==va)&&gT vt&&(uj kt).isSome then k (.om s.next) (gk s (.mp kt vt Mp.none)) []else none
  |_=>none)
 |.mapEntry ka ks va z,[.om id,kv]=>(match fO s.heap id with
  |some (.mp kt vt m)=>(match mV kt kv with
   |some q=>bif(iF kt==ka)&&(iF vt==va)&&decide (uj kt=some ks)&&o8 (j_ vt) z&&gT vt&&(va||bC vt==1)then
     k (.tp (.co (.x vt (oe m (nO vt) q).2.1) (.co (.x (.i .i64) (oe m (nO vt) q).2.2) .ni))) (cX s id (some (.mp kt vt (oe m (nO vt) q).1))) [id]else none
   |none=>none)
  |_=>none)
 |.entryStore va n,[.om id,.x (.i _) st,w]=>(match fO s.heap id with
  |some (.mp kt vt m)=>(match mV vt w with
   |some y=>bif(iF vt==va)&&(bC vt==n)&&gT vt then(B4 m st y).bind fun m=>k (.tp .ni) (cX s id (some (.mp kt vt m))) [id]else none
   |none=>none)
  |_=>none)
 |.og ka ks va n,[.om id,kv,w]=>(match fO s.heap id with
  |some (.mp kt vt m)=>(match mV kt kv with
   |some q=>(match mV vt w with
    |some y=>bif(iF kt==ka)&&(iF vt==va)&&decide (uj kt=some ks)&&(bC vt==n)&&gT vt then k (.tp .ni) (cX s id (some (.mp kt vt (yA m q y)))) [id]else none
    |none=>none)
   |none=>none)
  |_=>none)
 |.oh ka ks,[.om id,kv]=>(match fO s.heap id with
  |some (.mp kt vt m)=>(match mV kt kv with
   |some q=>bif(iF kt==ka)&&decide (uj kt=some ks)then k (.tp .ni) (cX s id (some (.mp kt vt (yB m q)))) [id]else none
   |none=>none)
  |_=>none)
 |_,_=>none
@[reducible] def mq:List Ty->Type
 |[]=>Unit
 |a::r=>zI a r
where zI:Ty->List Ty->Type
 |a,[]=>El a
 |a,c::r=>El a×zI c r
def po(u:Ty):V->Option (El u)
 |.x t v=>ew t u v
 |_=>none
def CF{α β:Type}:Option α->Option β->Option (α×β)
 |some x,some y=>some (x,y)
 |_,_=>none
def zS:(a:Ty)->(r:List Ty)->List V->Option (mq.zI a r)
 |a,[],l=>(match l with|[v]=>po a v|_=>none)
 |a,c::r,l=>(match l with|v::l=>CF (po a v) (zS c r l)|[]=>none)
def qB:(cs:List Ty)->List V->Option (mq cs)
 |[],[]=>some ()
 |a::r,l=>zS a r l
 |_,_=>none
def G9:(a:Ty)->(r:List Ty)->mq.zI a r->List V
 |a,[],v=>[.x a v]
 |a,c::r,v=>.x a v.1::G9 c r v.2
def kW:(cs:List Ty)->mq cs->List V
 |[],_=>[]
 |a::r,v=>G9 a r v
inductive Sh where
 | x (t : Ty)            -- data
 | pt (t : Ty)           -- a pointer to data
 | os (t : Ty)           -- a slice of its bf
 | rw (t : Ty)           -- a dv of rows of its bf
 | mp (k v : Ty)         -- a map of its bf
 | pb (t : Ty) (c : Sh)  -- a pointer to a box of its bf
 |st (c:Sh)
 |pr (a c:Sh)
 |nl (k:Nat)
 |fn (f:Nat) (l:Sh)
 |ni
 |gn
 deriving Inhabited,DecidableEq
def Iw:Sh->List Ty
 |.x t|.pt t=>[t]
 |.os t=>[.sl t]
 |.rw t=>[.sl (.sl t)]
 |.mp k v=>[.mp k v]
 |.pb _ c|.st c|.fn _ c=>Iw c
 |.pr a c=>Iw a++Iw c
 |_=>[]
def fD:List Sh->List Ty
 |[]=>[]
 |a::r=>Iw a++fD r
abbrev Wy:=List (List Sh×List Sh)
@[reducible] def qr:Wy->Type
 |[]=>Empty
 |(r,o)::w=>Bt r o w
where Bt:List Sh->List Sh->Wy->Type
 |r,o,[]=>mq (fD r++fD o)
 |r,o,(r',o')::w=>mq (fD r++fD o)⊕Bt r' o' w
def Js{β:Type}(k:List Sh->List Sh->List V->Option β):(r o:List Sh)->(w:Wy)->qr.Bt r o w->Option β
 |r,o,[],z=>k r o (kW (fD r++fD o) z)
 |r,o,(r',o')::w,z=>match z with|.inl z=>k r o (kW (fD r++fD o) z)|.inr z=>Js k r' o' w z
def Ls{β:Type}(k:List Sh->List Sh->List V->Option β):(w:Wy)->qr w->Option β
 |[],z=>nomatch z
 |(r,o)::w,z=>Js k r o w z
structure mQ where
 ps:List (Bool×Sh)
 al:Wy
 ro:Bool
 gJ:List Bool
 fn:mq (fD (ps.map (·.2)))->Option (qr al)
abbrev zF:=List (Nat×mQ)
def kK(h:H2):Sh->V->Option (List V×List Nat)
 |.x t,v=>match gb h v with|some (w,l)=>(match mV t w with|some y=>some ([.x t y],l)|none=>none)|none=>none
 |.pt t,.pt u v=>match ew u t v with|some y=>some ([.x t y],[])|none=>none
 |.pt t,.op id u []=>(match fO h id with
  |some (.bx w c)=>bif decide (w=u)&&ft h c then(match gb h c with|some (c,l)=>(match mV t c with|some y=>some ([.x t y],id::l)|none=>none)|none=>none)else none
  |some (.ib w v)=>bif decide (w=u)then(match ew w t v with|some y=>some ([.x t y],[id])|none=>none)else none
  |_=>none)
 |.pt t,.ep id n u []=>(match fO h id with
  |some (.ar w s _)|some (.im w s _)=>bif decide (w=u)then(match ew w t (gt s.l n)with|some y=>some ([.x t y],[id])|none=>none)else none
  |_=>none)
 |.nl k,.nl k'=>bif k==k' then some ([],[])else none
 |.fn f c,.fn _ f' l=>bif f==f' then kK h c l else none
 |.pr a c,.co x r=>match kK h a x,kK h c r with|some (l,i),some (m,j)=>some (l++m,i++j)|_,_=>none
 |.ni,.ni=>some ([],[])
 |_,_=>none
def Ka(t:Ty){u:Ty}(v:El (.sl u)):Option (List V×List Nat):=match(v:Sl (El u))with|.nil=>some ([.x (.sl t) Sl.nil],[])|.mk _=>none
def MQ(h:H2)(t:Ty)(id ver:Nat){u:Ty}(r:Sl (El u)):Option (List V×List Nat):=match fO h id with|some (.ar _ _ v)=>bif v==ver then(match ew (.sl u) (.sl t) r with|some s=>some ([.x (.sl t) s],[id])|none=>none)else none|_=>none
def cL(h:H2):Sh->Bool->V->Option (List V×List Nat)
 |.os t,false,.so id=>(match fO h id with|some (.ar u s _)=>(match ew (.sl u) (.sl t) s with|some s=>some ([.x (.sl t) s],[id])|none=>none)|_=>none)
 |.os t,false,.nl 0=>some ([.x (.sl t) Sl.nil],[])
 |.rw t,false,.sr id=>(match fO h id with|some (.rw u s none)=>(match ew (.sl (.sl u)) (.sl (.sl t)) s with|some s=>some ([.x (.sl (.sl t)) s],[id])|none=>none)|_=>none)
 |.rw t,false,.nl 0=>some ([.x (.sl (.sl t)) Sl.nil],[])
 |.mp k v,false,.om id=>(match fO h id with|some (.mp k' v' m)=>(match ew (.mp k' v') (.mp k v) m with|some m=>some ([.x (.mp k v) m],[id])|none=>none)|_=>none)
 |.pb t c,false,.op id u []=>(match fO h id with|some (.bx w v)=>bif decide (w=u)&&decide (u=t)then(match cL h c false v with|some (l,i)=>some (l,id::i)|none=>none)else none|_=>none)
 |.nl k,false,.nl k'=>bif k==k' then some ([],[])else none
 |.x t,false,v=>match mV t v with|some y=>some ([.x t y],[])|none=>none
 |.st c,false,.rc l=>cL h c true l
 |.st c,false,.x (.st u) v=>cL h c true (CH u v)
 |.pr a c,true,.co x r=>match(match a,x with|.os t,.x (.sl _) v=>Ka t v|.os t,.sb id ver _ _ r=>MQ h t id ver r|_,_=>cL h a false x),cL h c true r with|some (l,i),some (m,j)=>some (l++m,i++j)|_,_=>none
 |.ni,true,.ni=>some ([],[])
 |_,_,_=>none
def lX:Sh->Bool->List V->S2->Option (V×List V×S2)
 |.x t,false,.x u v::l,s=>bif decide (u=t)&&gT t then some (.x u v,l,{s with next:=s.next+bC t})else none
 |.os t,false,.x (.sl u) v::l,s=>bif decide (u=t)&&xl t then some (.so s.next,l,gk s (.ar u v 0))else none
 |.rw t,false,.x (.sl (.sl u)) v::l,s=>bif decide (u=t)&&xl t then some (.sr s.next,l,gk s (.rw u v none))else none
 |.mp k v,false,.x (.mp k' v') m::l,s=>bif decide (k'=k)&&decide (v'=v)&&gT v&&(uj k).isSome then some (.om s.next,l,gk s (.mp k' v' m))else none
 |.pb t c,false,l,s=>
  match lX c false l {s with next:=s.next+1}with
  |some (w,l,s')=>bif df w false t then some (.op s.next t [],l,cX s' s.next (some (.bx t w)))else none
  |none=>none
 |.nl k,false,l,s=>some (.nl k,l,{s with next:=s.next+1})
 |.st c,false,l,s=>match lX c true l s with|some (w,l,s)=>some (.rc w,l,s)|none=>none
 |.pr a c,true,l,s=>match lX a false l s with|some (x,l,s)=>(match lX c true l s with|some (r,l,s)=>some (.co x r,l,s)|none=>none)|none=>none
 |.ni,true,l,s=>some (.ni,l,s)
 |_,_,_,_=>none
def Dn:List Sh->List V->S2->Option (List V×List V×S2)
 |[],l,s=>some ([],l,s)
 |a::r,l,s=>match lX a false l s with|some (x,l,s)=>(match Dn r l s with|some (xs,l,s)=>some (x::xs,l,s)|none=>none)|none=>none
def pS(h:H2):List (Bool×Sh)->List V->Option (List V×List Nat×List (V×List Nat))
 |[],[]=>some ([],[],[])
 |(b,c)::r,v::vs=>
  match pS h r vs with
  |some (m,j,q)=>
   bif b then(match cL h c false v with|some (l,i)=>some (l++m,j,(v,i)::q)|none=>none)
   else(match kK h c v with|some (l,i)=>some (l++m,i++j,q)|none=>none)
  |none=>none
 |_,_=>none
def vo(h:H2)(f:Nat)(vs:List V):zF->Option (mQ×List V×List Nat×List (V×List Nat))
 |[]=>none
 |(g,sp)::r=>bif g==f then(match pS h sp.ps vs with|some (l,i,q)=>some (sp,l,i,q)|none=>vo h f vs r)else vo h f vs r
def fX:List Nat->S2->S2
 |[],s=>s
 |id::r,s=>cX (fX r s) id none
def c_{β:Type}:List Sh->List (V×List Nat)->List V->S2->(S2->Option β)->Option β
 |[],[],[],s,k=>k s
 |.nl _::r,(_,[])::q,l,s,k=>c_ r q l s k
 |.gn::r,(_,i)::q,l,s,k=>c_ r q l (fX i s) k
 |.os t::r,(.nl 0,[])::q,.x (.sl u) v::l,s,k=>(match ew (.sl u) (.sl t) v with|some v=>(Ds v (Sl.nil:Sl (El t))).bind fun _=>c_ r q l s k|none=>none)
 |.os t::r,(.so id,_)::q,.x (.sl u) v::l,s,k=>(match fO s.heap id,ew (.sl u) (.sl t) v with
  |some (.ar w old ver),some v=>(match ew (.sl t) (.sl w) v with
   |some v=>(Ds v old).bind fun _=>c_ r q l (cX s id (some (.ar w v (ver+1)))) k
   |none=>none)
  |_,_=>none)
 |.rw t::r,(.nl 0,[])::q,.x (.sl (.sl u)) v::l,s,k=>(match ew (.sl (.sl u)) (.sl (.sl t)) v with|some v=>(Ds (v:Sl (Sl (El t))) (Sl.nil:Sl (Sl (El t)))).bind fun _=>c_ r q l s k|none=>none)
 |.rw t::r,(.sr id,_)::q,.x (.sl (.sl u)) v::l,s,k=>(match fO s.heap id,ew (.sl (.sl u)) (.sl (.sl t)) v with
  |some (.rw w old _),some v=>(match ew (.sl (.sl t)) (.sl (.sl w)) v with
   |some v=>(Ds (v:Sl (Sl (El w))) old).bind fun _=>c_ r q l (cX s id (some (.rw w v none))) k
   |none=>none)
  |_,_=>none)
 |.pb t c::r,(.op id u [],i)::q,l,s,k=>(match fO s.heap id with
  |some _=>(match lX c false l s with
   |some (w,l,s)=>bif df w false t&&decide (u=t)then c_ r q l (cX (fX i s) id (some (.bx t w))) k else none
   |none=>none)
  |none=>none)
 |_,_,_,_,_=>none
def JK:List V->V
 |[v]=>v
 |l=>.tp (dv l)
def s_:List Nat->Bool
 |[]=>true
 |a::r=>!r.contains a&&s_ r
def qu:V->Option (List V)
 |.ni=>some []
 |.co a r=>bif(sD a==1)&&!oH a then(match qu r with|some l=>some (a::l)|none=>none)else none
 |_=>none
def si{β:Type}(tb:zF)(ro:Bool)(gJ:List Bool)(f:V)(vs:List V)(s:S2)(k:V->S2->List Nat->Option β):Option β:=
 match f with
 |.fn _ fid caps=>
  match(match qu caps with|some cs=>vo s.heap fid (vs++cs) tb|none=>none)with
  |some (sp,pay,ap,q)=>
   bif(!ro||sp.ro)&&decide (sp.gJ=gJ)&&s_ (q.flatMap (·.2))&&(q.flatMap (·.2)).all (fun i=>!ap.contains i)then
    match qB (fD (sp.ps.map (·.2))) pay with
    |some p=>(sp.fn p).bind fun z=>Ls (fun rs os l=>
     match(bif ro then some s else mm s.heap ap s)with
     |some s0=>c_ os q (l.drop (fD rs).length) s0 fun s1=>
      (match Dn rs (l.take (fD rs).length) s1 with
      |some (xs,_,s2)=>k (JK xs) s2 (ap++q.flatMap (·.2))
      |none=>none)
     |none=>none) sp.al z
    |none=>none
   else none
  |none=>none
 |_=>none
structure Rg where
 kn:List (Nat×Bool)
 cd:List (Nat×Nat×Bool×V)
def Kl(kn:List (Nat×Bool))(g:Nat):Option Bool:=bM kn g
def D_(s:S2)(q:Rg)(gc:Option (Nat×Bool)):Operand->Option V
 |.tmp t=>match bM q.cd t with|some (g,b,v)=>bif decide (gc=some (g,b))||decide (Kl q.kn g=some b)then(bif ft s.heap v then some v else none)else none|none=>D9 s.cG s.heap (.tmp t)
 |o=>D9 s.cG s.heap o
def Au(s:S2)(q:Rg)(gc:Option (Nat×Bool)):List Operand->Option (List V)
 |[]=>some []
 |a::r=>match D_ s q gc a,Au s q gc r with|some x,some y=>some (x::y)|_,_=>none
inductive GV where
 |run
 |skip
 |Lk (g:Nat) (b:Bool) (c:Bool)
def Nc(e:List (Nat×V))(kn:List (Nat×Bool)):Option (Nat×Bool)->Option GV
 |none=>some .run
 |some (g,b)=>
  match Kl kn g with
  |some c=>some (bif c==b then .run else .skip)
  |none=>(match bM e g with
   |some (.kb c)=>some (bif c==b then .run else .skip)
   |some (.x .b c)=>some (.Lk g b c)
   |some .no=>some .skip
   |_=>none)
def EX(s:S2)(q:Rg)(gc:Option (Nat×Bool)):List Operand->Option V
 |[.tmp g,a,b]=>match Kl q.kn g,bM s.cG g with|some c,_=>D_ s q gc (bif c then a else b)|none,some (.kb c)=>D_ s q gc (bif c then a else b)|none,some (.x .b c)=>(match D_ s q (some (g,true)) a,D_ s q (some (g,false)) b with|some x,some y=>M8 c x y|_,_=>none)|_,_=>none
 |[.const (.bool c),a,b]=>D_ s q gc (bif c then a else b)
 |_=>none
def AS:K->Bool
 |.pick=>true
 |_=>false
def G_(o:OP)(s:S2)(q:Rg)(gc:Option (Nat×Bool)):Option (V×List Nat):=
 bif AS o.o.k then(match EX s q gc o.o.args with|some v=>some (v,[])|none=>none)
 else(match Au s q gc o.o.args with|some vs=>Jz o vs s.heap|none=>none)
def pd(s:S2)(d:Option Nat)(v:V):S2:=match d with|some d=>{s with cG:=(d,v)::s.cG}|none=>s
def IA(q:Rg)(d:Option Nat):Option Rg:=match d with|none=>some q|some d=>bif q.cd.any (fun e=>e.2.1==d)||q.kn.any (fun e=>e.1==d)then none else some ⟨q.kn,q.cd.filter (fun e=>!(e.1==d))⟩
abbrev Eb:=List (List Nat×List Nat)
def Mo{β:Type}(tb:zF)(o:OP)(s:S2)(q:Rg)(gc:Option (Nat×Bool))(k:V->S2->List Nat->Option β):Option β:=
 match G_ o s q gc with
 |some (v,l)=>k v s l
 |none=>
  match Au s q gc o.o.args with
  |some vs=>
   (match o.o.k,vs with
   |.call ro gJ,f::vs=>si tb ro gJ f vs s k
   |_,vs=>part o vs s k)
  |none=>none
def GY(dr:Option Nat)(i:Nat)(s:S2):S2:=match dr with|some b=>{s with next:=b+fS*i}|none=>s
def Dx(dr:Option Nat)(i:Nat)(s:S2):Bool:=match dr with|some b=>fZ s.next (b+fS*(i+1))|none=>true
def Lt(d:Option Nat)(r:List OP):Bool:=
 match d with
 |some d=>r.any fun o=>match o.o.guard with|some (g,_)=>ji g d|none=>false
 |none=>false
def jU{β:Type}(tb:zF)(dr:Option Nat):List OP->Nat->S2->Rg->Eb->(S2->Eb->Option β)->Option β
 |[],_,s,_,tr,k=>k s tr
 |o::r,i,s0,q,tr,k=>
  let s:=GY dr i s0
  let go:Rg->Option β:=fun q=>Mo tb o s q o.o.guard fun v s1 l=>
   bif Dx dr i s1 then(match IA q o.o.dst with
    |some q=>jU tb dr r (i+1) (pd s1 o.o.dst v) q (tr++[(l,s1.wo.take (s1.wo.length-s.wo.length))]) k
    |none=>none)else none
  let no:Rg->Option β:=fun q=>match IA q o.o.dst with|some q=>jU tb dr r (i+1) (pd s o.o.dst .no) q (tr++[([],[])]) k|none=>none
  match Nc s.cG q.kn o.o.guard with
  |none=>none
  |some .run=>go q
  |some .skip=>no q
  |some (.Lk g b c)=>
   match(bif Lt o.o.dst r then none else G_ o s q (some (g,b)))with
   |some (v,l)=>
    (match IA q o.o.dst,o.o.dst with
    |some q,some d=>bif ji g d then none else jU tb dr r (i+1) (pd s (some d) .gn) ⟨q.kn,(d,g,b,v)::q.cd⟩ (tr++[(l,[])]) k
    |_,_=>none)
   |none=>(match b with
    |true=>bif c then go ⟨(g,true)::q.kn,q.cd⟩else no ⟨(g,false)::q.kn,q.cd⟩
    |false=>bif c then no ⟨(g,true)::q.kn,q.cd⟩else go ⟨(g,false)::q.kn,q.cd⟩)
inductive JV where
 |x (t:Ty)
 |pt (t:Ty)
 |so (j:Nat)
 |sr (j:Nat)
 |om (j:Nat)
 |op (j:Nat) (t:Ty) (p:List Nat)
 |nl (k:Nat)
 |fn (z:Bool) (f:Nat) (l:JV)
 |rc (l:JV)
 |ni
 |co (a r:JV)
 |sm
 |gn
 deriving Inhabited
inductive JO where
 |ar (t:Ty)
 |bx (t:Ty) (c:JV)
 |mp (k v:Ty)
 |rw(t:Ty)
 deriving Inhabited
structure J where
 vs:List (Nat×JV):=[]
 gs:JV:=.sm
 os:List JO:=[]
 kl:List Nat:=[]
 deriving Inhabited
def DT:JV->List Ty
 |.x t|.pt t=>[t]
 |.fn _ _ l|.rc l=>DT l
 |.co a r=>DT a++DT r
 |_=>[]
def Jg:List (Nat×JV)->List Ty
 |[]=>[]
 |(_,a)::r=>DT a++Jg r
def Nn:JO->List Ty
 |.ar t=>[.sl t]
 |.bx _ c=>DT c
 |.mp k v=>[.mp k v]
 |.rw t=>[.sl (.sl t)]
def Jh:List JO->List Ty
 |[]=>[]
 |a::r=>Nn a++Jh r
def lK(j:J):List Ty:=Jg j.vs++(DT j.gs++Jh j.os)
structure Bd where
 j:Nat
 id:Option Nat
def GD:List Bd->Nat->Option Bd
 |[],_=>none
 |b::r,j=>bif b.j==j then some b else GD r j
def qo(m:List Bd)(b:Bd):Option (List Bd):=
 match GD m b.j with
 |none=>bif(match b.id with|some i=>m.all (fun c=>match c.id with|some i'=>!(i'==i)|none=>true)|none=>true)then some (b::m)else none
 |some c=>(match b.id,c.id with
  |some i,some i'=>bif i==i' then some m else none
  |_,_=>none)
def x7:lN->Option (List Nat)
 |[]=>some []
 |.fd i::p=>match x7 p with|some l=>some (i::l)|none=>none
 |.ix _::_=>none
def cB:JV->Bool->V->List Bd->Option (List V×List Bd)
 |.x t,false,v,m=>match mV t v with|some y=>some ([.x t y],m)|none=>none
 |.pt t,false,.pt u v,m=>match ew u t v with|some y=>some ([.x t y],m)|none=>none
 |.so j,false,.so id,m=>match qo m ⟨j,some id⟩with|some m=>some ([],m)|none=>none
 |.so j,false,.nl 0,m=>match qo m ⟨j,none⟩with|some m=>some ([],m)|none=>none
 |.so j,false,.x (.sl _) v,m=>bif Sl.dZ v then(match qo m ⟨j,none⟩with|some m=>some ([],m)|none=>none)else none
 |.sr j,false,.sr id,m=>match qo m ⟨j,some id⟩with|some m=>some ([],m)|none=>none
 |.om j,false,.om id,m=>match qo m ⟨j,some id⟩with|some m=>some ([],m)|none=>none
 |.op j t p,false,.op id u q,m=>bif decide (u=t)&&decide (x7 q=some p)then(match qo m ⟨j,some id⟩with|some m=>some ([],m)|none=>none)else none
 |.nl k,false,.nl k',m=>bif k==k' then some ([],m)else none
 |.fn z f l,false,.fn z' f' l',m=>bif(z==z')&&(f==f')then cB l true l' m else none
 |.rc l,false,.rc l',m=>cB l true l' m
 |.rc l,false,.x (.st t) v,m=>cB l true (CH t v) m
 |.ni,true,.ni,m=>some ([],m)
 |.co a r,true,.co x y,m=>match cB a false x m with|some (l,m)=>(match cB r true y m with|some (l',m)=>some (l++l',m)|none=>none)|none=>none
 |_,_,_,_=>none
def vC(s:S2):List (Nat×JV)->List Bd->Option (List V×List Bd)
 |[],m=>some ([],m)
 |(t,a)::r,m=>match D9 s.cG s.heap (.tmp t)with|some v=>(match cB a false v m with|some (l,m)=>(match vC s r m with|some (l',m)=>some (l++l',m)|none=>none)|none=>none)|none=>none
def Gv(h:H2)(j:Nat)(o:JO)(m:List Bd):Option (List V×List Bd):=
 match GD m j with
 |some b=>(match o,b.id with
  |.ar t,none=>bif xl t then some ([.x (.sl t) Sl.nil],m)else none
  |.ar t,some id=>(match fO h id with|some (.ar u s _)=>(match ew (.sl u) (.sl t) s with|some s=>some ([.x (.sl t) s],m)|none=>none)|_=>none)
  |.rw t,some id=>(match fO h id with|some (.rw u s none)=>(match ew (.sl (.sl u)) (.sl (.sl t)) s with|some s=>some ([.x (.sl (.sl t)) s],m)|none=>none)|_=>none)
  |.bx t c,some id=>(match fO h id with|some (.bx u v)=>bif decide (u=t)then cB c false v m else none|_=>none)
  |.mp k v,some id=>(match fO h id with|some (.mp k' v' y)=>(match ew (.mp k' v') (.mp k v) y with|some y=>some ([.x (.mp k v) y],m)|none=>none)|_=>none)
  |_,_=>none)
 |none=>none
def vD(h:H2):List JO->Nat->List Bd->Option (List V×List Bd)
 |[],_,m=>some ([],m)
 |o::r,j,m=>match Gv h j o m with|some (l,m)=>(match vD h r (j+1) m with|some (l',m)=>some (l++l',m)|none=>none)|none=>none
def nB:V->V->Bool
 |.so i,.so j=>i==j
 |.sr i,.sr j=>i==j
 |.op i t [],.op j u []=>(i==j)&&decide (t=u)
 |.nl k,.nl l=>k==l
 |.gn,.gn=>true
 |_,_=>false
def sK:V->V->Bool
 |.ni,.ni=>true
 |.co a r,.co x y=>nB a x&&sK r y
 |_,_=>false
def lM(h:H2):JV->V->V->List Bd->Option (List V×List Bd)
 |.sm,g0,g,m=>bif sK g0 g then some ([],m)else none
 |.ni,.ni,.ni,m=>some ([],m)
 |.co a r,.co x0 y0,.co x y,m=>match a with|.sm=>bif nB x0 x then lM h r y0 y m else none|.gn=>lM h r y0 y m|a=>bif ft h x then(match cB a false x m with|some (l,m)=>(match lM h r y0 y m with|some (l',m)=>some (l++l',m)|none=>none)|none=>none)else none
 |_,_,_,_=>none
def uC:List (Nat×JV)->S2->S2
 |[],s=>s
 |(t,.so _)::r,s=>(match bM s.cG t with
  |some (.sb id ver _ u x)=>(match fO s.heap id with
   |some (.ar _ _ v)=>bif gT u&&v==ver then uC r ⟨(t,.so s.next)::s.cG,(s.next,some (.ar u x 0))::(id,none)::s.heap,s.next+1,s.next::id::s.wo,s.gh⟩else uC r s
   |_=>uC r s)
  |_=>uC r s)
 |_::r,s=>uC r s
def vF(j:J)(s0:S2)(s:S2):Option (List V):=
 match vC s j.vs []with
 |some (l1,m)=>match lM s.heap j.gs s0.gh s.gh m with
  |some (l2,m)=>(match vD s.heap j.os 0 m with
   |some (l3,m)=>bif s.wo.all (fun i=>fZ s0.next i||j.kl.contains i)&&m.all (fun b=>Nat.blt b.j j.os.length&&(match b.id with|some i=>fZ s0.next i||j.kl.contains i|none=>true))then some (l1++(l2++l3))else none
   |none=>none)
  |none=>none
 |none=>none
def rL(j:J)(s0:S2)(s:S2):Option (List V):=match uC j.vs s with|⟨e,h,n,w,g⟩=>vF j s0 ⟨e,h,n,w,g⟩
def fR(b:Nat):JV->Bool->List V->V->Option (V×List V)
 |.x t,false,.x u v::l,_=>bif decide (u=t)&&gT u then some (.x u v,l)else none
 |.pt t,false,.x u v::l,_=>bif decide (u=t)&&gT u then some (.pt u v,l)else none
 |.so j,false,l,_=>some (.so (b+j),l)
 |.sr j,false,l,_=>some (.sr (b+j),l)
 |.om j,false,l,_=>some (.om (b+j),l)
 |.op j t p,false,l,_=>some (.op (b+j) t (p.map .fd),l)
 |.nl k,false,l,_=>some (.nl k,l)
 |.fn z f c,false,l,_=>match fR b c true l .ni with|some (w,l)=>some (.fn z f w,l)|none=>none
 |.rc c,false,l,_=>match fR b c true l .ni with|some (w,l)=>some (.rc w,l)|none=>none
 |.ni,true,l,_=>some (.ni,l)
 |.co a r,true,l,.co x y=>match fR b a false l x with|some (v,l)=>(match fR b r true l y with|some (w,l)=>some (.co v w,l)|none=>none)|none=>none
 |.co a r,true,l,_=>match fR b a false l .gn with|some (v,l)=>(match fR b r true l .ni with|some (w,l)=>some (.co v w,l)|none=>none)|none=>none
 |.sm,_,l,v=>some (v,l)
 |.gn,false,l,_=>some (.gn,l)
 |_,_,_,_=>none
def BM(b:Nat):List (Nat×JV)->List V->Option (List (Nat×V)×List V)
 |[],l=>some ([],l)
 |(t,a)::r,l=>match fR b a false l .gn with|some (v,l)=>(match BM b r l with|some (e,l)=>some ((t,v)::e,l)|none=>none)|none=>none
def Af(b:Nat):JO->List V->Option (O×List V)
 |.ar t,.x (.sl u) v::l=>bif decide (u=t)then some (.ar u v 0,l)else none
 |.rw t,.x (.sl (.sl u)) v::l=>bif decide (u=t)&&xl t then some (.rw u v none,l)else none
 |.bx t c,l=>match fR b c false l .gn with|some (w,l)=>bif df w false t then some (.bx t w,l)else none|none=>none
 |.mp k v,.x (.mp k' v') m::l=>bif decide (k'=k)&&decide (v'=v)then some (.mp k' v' m,l)else none
 |_,_=>none
def xP(b:Nat):List JO->Nat->List V->Option (H2×List V)
 |[],_,l=>some ([],l)
 |o::r,j,l=>match Af b o l with|some (o,l)=>(match xP b r (j+1) l with|some (h,l)=>some ((b+j,some o)::h,l)|none=>none)|none=>none
def pH(j:J)(ds:List Nat)(s0:S2)(l:List V):Option S2:=
 match BM s0.next j.vs l with
 |some (e,l)=>(match fR s0.next j.gs true l s0.gh with
  |some (g,l)=>(match xP s0.next j.os 0 l with
   |some (h,_)=>some ⟨e++ds.map (fun t=>(t,V.gn))++s0.cG,h++j.kl.map (fun i=>(i,none))++s0.heap,s0.next+j.os.length,h.map (·.1)++j.kl++s0.wo,g⟩
   |none=>none)
  |none=>none)
 |none=>none
abbrev Ex:=List (nL×J)
@[reducible] def zG:Ex->Type
 |[]=>Empty
 |(_,j)::r=>GP j r
where GP:J->Ex->Type
 |j,[]=>mq (lK j)
 |j,(_,j')::r=>mq (lK j)⊕GP j' r
def FQ(s0:S2)(o:nL)(s:S2):(o':nL)->(j:J)->(r:Ex)->Option (zG.GP j r)
 |o',j,[]=>bif decide (o=o')then(match rL j s0 s with|some l=>qB (lK j) l|none=>none)else none
 |o',j,(o2,j2)::r=>bif decide (o=o')then(match rL j s0 s with|some l=>(match qB (lK j) l with|some p=>some (.inl p)|none=>none)|none=>none)
  else(match FQ s0 o s o2 j2 r with|some x=>some (.inr x)|none=>none)
def Dw(s0:S2)(o:nL)(s:S2):(e:Ex)->Option (zG e)
 |[]=>none
 |(o',j)::r=>FQ s0 o s o' j r
def JT{β:Type}(ds:List Nat)(s0:S2)(k:nL->S2->Option β):(o:nL)->(j:J)->(r:Ex)->zG.GP j r->Option β
 |o,j,[],p=>match pH j ds s0 (kW (lK j) p)with|some s=>k o s|none=>none
 |o,j,(o2,j2)::r,x=>match x with|.inl p=>(match pH j ds s0 (kW (lK j) p)with|some s=>k o s|none=>none)|.inr y=>JT ds s0 k o2 j2 r y
def EY{β:Type}(ds:List Nat)(s0:S2)(k:nL->S2->Option β):(e:Ex)->zG e->Option β
 |[],x=>nomatch x
 |(o,j)::r,x=>JT ds s0 k o j r x
inductive C2 where
 |skip
 |Hv (ops:List OP) (dr:Option (List (Nat×Nat))) (jn:Option J)
 |seq (a b:C2) (e:Ex)
 |cond (c:Operand) (a b:C2)
 |block (id:Nat) (a:C2)
 |loop (j:J) (e:Ex) (a:C2)
 |exit (id:Nat)
 |ret
 |dM
 deriving Inhabited
def jJ:C2->List Nat
 |.Hv ops _ _=>ops.filterMap (·.o.dst)
 |.seq a b _|.cond _ a b=>jJ a++jJ b
 |.block _ a|.loop _ _ a=>jJ a
 |_=>[]
def FN:K->Bool
 |.lookup _ _ _ _ _=>true
 |_=>false
def I0(ops:List OP)(tr:Eb)(i j:Nat):Bool:=
 match ops[i]?,tr[i]?with
 |some o,some ([id],[])=>FN o.o.k&&((tr.take j).drop (i+1)).all (fun x=>!x.2.contains id)
 |_,_=>false
def KH(ops:List OP)(tr:Eb)(dyn:List (Nat×Nat)):Bool:=
 dyn.all fun p=>bif fZ 1000 p.2 then(match tr[p.1]?,tr[p.2-1000]?with|some a,some b=>jc a b||I0 ops tr p.1 (p.2-1000)|_,_=>true)
  else(match tr[p.1]?,tr[p.2]?with|some a,some b=>jc a b|_,_=>true)
def K_(s:S2)(id:Nat):Option S2:=
 match fO s.heap id with
 |some (.rw t v (some (m,id2)))=>(match fO s.heap id2 with
  |some (.ar u r _)=>(match ew (.sl u) (.sl t) r with
   |some r=>some (cX (cX s id2 none) id (some (.rw t (.mk (v.l.set m r)) none)))
   |none=>none)
  |_=>none)
 |_=>some s
def xa:List Nat->S2->Option S2
 |[],s=>some s
 |id::r,s=>match K_ s id with|some s=>xa r s|none=>none
def La(s s':S2):Option S2:=xa (s'.wo.take (s'.wo.length-s.wo.length)) s'
def Ci{β:Type}(tb:zF)(ops:List OP)(dr:Option (List (Nat×Nat)))(s:S2)(k:S2->Option β):Option β:=match dr with|none=>jU tb none ops 0 s ⟨[],[]⟩ [] fun s' _=>(La s s').bind k|some dyn=>jU tb (some s.next) ops 0 s ⟨[],[]⟩ [] fun s' tr=>bif KH ops tr dyn then(La s {s' with next:=s.next+fS*ops.length}).bind k else none
def rJ{β:Type}(tb:zF):C2->S2->(nL->S2->Option β)->Option β
 |.skip,s,k=>k .normal s
 |.Hv ops dr none,s,k=>Ci tb ops dr s fun s=>k .normal s
 |.Hv ops dr (some j),s,k=>(Ci tb ops dr {s with wo:=[]} fun s'=>match rL j s s' with|some l=>qB (lK j) l|none=>none).bind fun p=>match pH j (ops.filterMap (·.o.dst)) s (kW (lK j) p)with|some s=>k .normal s|none=>none
 |.seq a b [],s,k=>rJ tb a s fun o s=>match o with|.normal=>rJ tb b s k|o=>k o s
 |.seq a b (e::r),s,k=>(rJ tb a {s with wo:=[]} fun o s'=>Dw s o s' (e::r)).bind fun x=>EY (jJ a) s (fun o s=>match o with|.normal=>rJ tb b s k|o=>k o s) (e::r) x
 |.cond c a b,s,k=>(match D9 s.cG s.heap c with
  |some (.kb t)=>bif t then rJ tb a s k else rJ tb b s k
  |some (.x .b t)=>bif t then rJ tb a s k else rJ tb b s k
  |_=>none)
 |.block id a,s,k=>rJ tb a s fun o s=>match o with|.exit i=>k (bif i==id then .normal else .exit i) s|o=>k o s
 |.loop j e a,s,k=>
  bif e.all (fun x=>j.kl.all fun i=>x.2.kl.contains i)then(match rL j s {s with wo:=[]}with
  |some l=>(match qB (lK j) l with
   |some p0=>(dP (fun p=>match pH j (jJ a) s (kW (lK j) p)with
     |some s1=>rJ tb a {s1 with wo:=[]} fun o s'=>(match o with
      |.normal=>(match rL j s s' with|some l=>(match qB (lK j) l with|some q=>some (Sum.inl q)|none=>none)|none=>none)
      |o=>(match Dw s o s' e with|some x=>some (Sum.inr x)|none=>none))
     |none=>none) p0).bind fun x=>EY (jJ a) s k e x
   |none=>none)
  |none=>none)else none
 |.exit id,s,k=>k (.exit id) s
 |.ret,s,k=>k .ret s
 |.dM,_,_=>none
def dj(P:Program):Nat->TypeId->Ty
 |0,_=>.o 9
 |n+1,t=>match P.underlying t with|some (.int k)=>.i k|some .bool=>.b|some .string=>.s|some (.float k)=>.f k|some (.slice e)=>.sl (dj P n e)|some (.map k v)=>.mp (dj P n k) (dj P n v)|some (.struct fs)=>.st (L_ (fs.toList.map fun f=>dj P n f.type))|some (.array m e)=>.ar m (dj P n e)|some (.pointer _)=>.o 1|some (.func ..)=>.o 2|_=>.o 4
where L_:List Ty->Ty
 |[]=>.un
 |[t]=>t
 |t::r=>.pr t (L_ r)
def DN:Nat:=12
def KE(P:Program)(t:TypeId):Ty:=match P.underlying t with|some (.slice e)=>dj P DN e|some (.array _ e)=>dj P DN e|_=>.o 9
def Jb(P:Program):Op->Ty×List Nat
 |.alloc e=>(dj P DN e,[])
 |.box t _=>(dj P DN t,[])
 |.build t parts=>(dj P DN t,parts.toList.map (·.1))
 |.buildSlice t _ parts=>(KE P t,parts.toList.map (·.1))
 |.fieldAddr _ _ f=>(.o 9,[f])
 |.field _ _ f=>(.o 9,[f])
 |.makeSlice t _ _=>(KE P t,[])
 |.makeMap t _=>(dj P DN t,[])
 |.call c=>(match c.callee,c.argTypes.toList with|.builtin _,t::_=>KE P t|_,_=>.o 9,[])
 |_=>(.o 9,[])
def J2(P:Program)(dQ:xe)(nt:Nat)(all:Array Oper)(o:Oper):OP:=⟨eB P dQ nt all o,(Jb P o.op).1,(Jb P o.op).2⟩
structure An where
 j:Option J:=none
 e:Ex:=[]
 deriving Inhabited
def lG(P:Program)(dQ:xe)(nt:Nat)(an:List (Nat×An)):Code->Nat->C2×Nat
 |.skip,n=>(.skip,n)
 |.region _ ops draw,n=>
  (if draw then(if sX (GL ops.toList []) ops.toList 0&&sJ (GL ops.toList []) (ops.toList.map (eB P dQ nt ops)) 0&&decide (ops.toList.length<=1000)
   then .Hv (ops.toList.map (J2 P dQ nt ops)) (some (oA (GL ops.toList []) (ops.toList.map (eB P dQ nt ops)) 0)) ((bM an n).bind (·.j))else .dM)
   else .Hv (ops.toList.map (J2 P dQ nt ops)) none ((bM an n).bind (·.j)),n+1)
 |.seq a b,n=>
  let x:=lG P dQ nt an a (n+1);let y:=lG P dQ nt an b x.2
  (.seq x.1 y.1 (match bM an n with|some w=>w.e|none=>[]),y.2)
 |.cond c a b,n=>let x:=lG P dQ nt an a n;let y:=lG P dQ nt an b x.2;(.cond c x.1 y.1,y.2)
 |.block id a,n=>let x:=lG P dQ nt an a n;(.block id x.1,x.2)
 |.loop a,n=>
  let x:=lG P dQ nt an a (n+1)
  (match bM an n with|some ⟨some j,e⟩=>.loop j e x.1|_=>.dM,x.2)
 |.scope a,n=>lG P dQ nt an a n
 |.label _,n=>(.skip,n)
 |.exit id,n=>(.exit id,n)
 |.ret,n=>(.ret,n)
 |_,n=>(.dM,n)
structure F2 where
 np:Nat
 gO:List RV
 body:C2
def vB(P:Program)(dQ:xe)(f np:Nat)(an:List (Nat×An)):Option F2:=
 match P.funcs[f]?with
 |none=>none
 |some g=>
  match g.body with
  |none=>none
  |some code=>
   if(g.name== "runtime.NumGoroutine")=false/\np<=g.ntmps/\g.ntmps<1000000000 then
    match uU P g.results.toList with|some gO=>some ⟨np,gO,(lG P dQ g.ntmps an code 0).1⟩|none=>none
   else none
def xx:Sh->List V->Option (V×List V)
 |.ni,l=>some (.ni,l)
 |.pr (.pt t) c,.x u v::l=>bif decide (u=t)&&gT t then(match xx c l with|some (w,l)=>some (.co (.pt u v) w,l)|none=>none)else none
 |_,_=>none
def oz:List (Bool×Sh)->Nat->List V->S2->Option (List (Nat×V)×S2)
 |[],_,[],s=>some ([],s)
 |(false,.x t)::r,i,.x u v::l,s=>bif decide (u=t)&&gT t then(match oz r (i+1) l s with|some (e,s)=>some ((i,.x u v)::e,s)|none=>none)else none
 |(false,.pt t)::r,i,.x u v::l,s=>bif decide (u=t)&&gT t then(match oz r (i+1) l s with|some (e,s)=>some ((i,.pt u v)::e,s)|none=>none)else none
 |(false,.nl k)::r,i,l,s=>(match oz r (i+1) l s with|some (e,s)=>some ((i,.nl k)::e,s)|none=>none)
 |(false,.fn f c)::r,i,l,s=>(match xx c l with|some (w,l)=>(match oz r (i+1) l s with|some (e,s)=>some ((i,.fn true f w)::e,s)|none=>none)|none=>none)
 |(true,c)::r,i,l,s=>(match lX c false l s with
  |some (w,l,s)=>(match oz r (i+1) l s with|some (e,s)=>some ((i,w)::e,{s with gh:=.co w s.gh})|none=>none)
  |none=>none)
 |_,_,_,_=>none
def KD(ps:List (Bool×Sh))(l:List V):Option S2:=
 match oz ps 0 l ⟨[],[],0,[],.ni⟩with
 |some (e,s)=>some {s with cG:=e}
 |none=>none
def Hs(s:S2):RV->Option V
 |.tmp t=>D9 s.cG s.heap (.tmp t)
 |.cell t g n=>match D9 s.cG s.heap (.tmp t)with|some p=>(match tq s.heap p with|some (w,_)=>bif Bf s.heap g n w then some w else none|none=>none)|none=>none
def Ht(h:H2):Sh->V->Option (List V×List Nat)
 |.x t,v=>match gb h v with|some (w,l)=>(match mV t w with|some y=>some ([.x t y],l)|none=>none)|none=>none
 |.os t,.sb id _ _ u r=>(match fO h id with|some (.ar _ _ _)=>(match ew (.sl u) (.sl t) r with|some s=>some ([.x (.sl t) s],[id])|none=>none)|_=>none)
 |c,v=>cL h c false v
def MS(h:H2):Sh->V->Option (List V×List Nat)
 |.gn,_=>some ([],[])
 |c,v=>bif ft h v then cL h c false v else none
def uX(h:H2):List Sh->List V->Option (List V×List Nat)
 |[],[]=>some ([],[])
 |c::r,v::vs=>match Ht h c v,uX h r vs with|some (l,i),some (m,j)=>some (l++m,i++j)|_,_=>none
 |_,_=>none
def uW(h:H2):List Sh->List V->Option (List V×List Nat)
 |[],[]=>some ([],[])
 |c::r,v::vs=>match MS h c v,uW h r vs with|some (l,i),some (m,j)=>some (l++m,i++j)|_,_=>none
 |_,_=>none
def H8{α β:Type}(f:α->Option β):List α->Option (List β)
 |[]=>some []
 |a::r=>match f a,H8 f r with|some x,some y=>some (x::y)|_,_=>none
def DE(gO:List RV)(rs os:List Sh)(s:S2):Option (List V):=
 match H8 (Hs s) gO with
 |some vs=>match uX s.heap rs vs,uW s.heap os (uK s.gh)with|some (l,i),some (m,j)=>bif s_ (i++j)then some (l++m)else none|_,_=>none
 |none=>none
def DF(gO:List RV)(s:S2):(r o:List Sh)->(w:Wy)->Option (qr.Bt r o w)
 |r,o,[]=>match DE gO r o s with|some l=>qB (fD r++fD o) l|none=>none
 |r,o,(r',o')::w=>match DE gO r o s with|some l=>(match qB (fD r++fD o) l with|some z=>some (.inl z)|none=>none)|none=>(match DF gO s r' o' w with|some z=>some (.inr z)|none=>none)
def In(gO:List RV)(s:S2):(w:Wy)->Option (qr w)
 |[]=>none
 |(r,o)::w=>DF gO s r o w
def LX(tb:zF)(F:Option F2)(ps:List (Bool×Sh))(al:Wy)(p:mq (fD (ps.map (·.2)))):Option (qr al):=
 match F with
 |some F=>
  match KD ps (kW _ p)with
  |some s=>rJ tb F.body s fun o s=>match o with|.exit _=>none|_=>In F.gO s al
  |none=>none
 |none=>none
theorem mI{α β:Type}{f:α->List β}{n:Nat}(h:∀a,(f a).length=n)(l:List α):(l.flatMap f).length=l.length*n:=by induction l with|nil=>simp|cons a l ih=>simp[bd,h,ih,bv];omega
theorem bq:∀(t:Ty)(v:El t),(aN t v).length=bC t:=by intro t;induction t with|pr a c iha ihc=>intro v;simp[aN,bC,iha,ihc]|st t ih=>intro v;simp[aN,bC,ih]|ar n t ih=>intro v;rw[aN,mI ih,v.2];rfl|_=>intro v;rfl
theorem tL{α β:Type}[Inhabited α]{f:α->List β}{n:Nat}(h:∀a,(f a).length=n):∀(l:List α)(k:Nat),k<l.length->((l.flatMap f).drop (k*n)).take n=f (gt l k):=by
 intro l;induction l with
 |nil=>intro k hk;simp at hk
 |cons a l ih=>
  intro k hk;cases k with
  |zero=>simp[gt,h]
  |succ k=>
   have e:(k+1)*n=(f a).length+k*n:=by rw[h,bv];omega
   rw[bd,e,<-cj,db (ak _),gI,aY,ih k (by simpa using hk)];rfl
theorem F5{α β:Type}{f:α->List β}{n:Nat}(h:∀a,(f a).length=n):∀(l:List α)(k:Nat)(x:α),k<l.length->(l.set k x).flatMap f=aV (l.flatMap f) (k*n) (f x):=by
 intro l;induction l with
 |nil=>intro k x hk;simp at hk
 |cons a l ih=>
  intro k x hk;cases k with
  |zero=>
   simp only[List.set_cons_zero,bd,aV,Nat.zero_mul,List.take_zero,aY,Nat.zero_add,h];have:(f a++l.flatMap f).drop n=l.flatMap f:=by rw[<-h a,db (ak _),gI,aY]
   rw[this]
  |succ k=>
   have e:(k+1)*n=(f a).length+k*n:=by rw[h,bv];omega
   simp only[List.set_cons_succ,bd,aV,e,List.take_length_add_append,cg];rw[<-cj,db (ak _),gI,aY,ih k x (by simpa using hk)];simp[aV]
theorem bV{t u:Ty}{v:El t}{y:El u}(h:ew t u v=some y):∃e:t=u,y=e▸v:=by
 unfold ew at h;split at h
 .rename_i e;exact⟨e,(aa h).symm⟩
 .simp at h
theorem ra{t u:Ty}{v:El t}{y:El u}(h:ew t u v=some y):aN u y=aN t v/\t=u:=by obtain⟨rfl,rfl⟩:=bV h;exact⟨rfl,rfl⟩
theorem mG:∀(t:Ty)(v:El t)(i:Nat)(w:V),uz t v i=some w->∃u y,w=.x u y/\xn t i=some u/\kS t i+bC u<=bC t/\((aN t v).drop (kS t i)).take (bC u)=aN u y:=by
 intro t;induction t with
 |pr a c iha ihc=>intro v i w h;cases i with|zero=>obtain rfl:=aa h;refine⟨a,v.1,rfl,rfl,by simp[kS,bC],?_⟩;simp[kS,aN,bq]|succ i=>obtain⟨u,y,rfl,h1,h2,h3⟩:=ihc v.2 i w h;refine⟨u,y,rfl,h1,by simp only[kS,bC];omega,?_⟩;simp only[kS,aN];rw[<-cj,<-bq a v.1,db (ak _),gI,aY,h3]
 |_=>intro v i w h;cases i with|zero=>obtain rfl:=aa h;exact⟨_,v,rfl,rfl,by simp[kS],by simp[kS,cO,bq]⟩|succ i=>simp[uz]at h
theorem Ks:∀(t:Ty)(i:Nat)(u:Ty),xn t i=some u->kS t i+bC u<=bC t:=by
 intro t;induction t with
 |pr a c iha ihc=>intro i u h;cases i with|zero=>obtain rfl:=aa h;simp[kS,bC]|succ i=>have:=ihc i u h;simp only[kS,bC];omega
 |_=>intro i u h;cases i with|zero=>obtain rfl:=aa h;simp[kS]|succ i=>simp[xn]at h
theorem oM{α:Type}{a b p:List α}{off:Nat}:aV (a++b) (a.length+off) p=a++aV b off p:=by simp only[aV,List.take_length_add_append,cg,aO];rw[<-cj,db (ak _),gI,aY]
theorem oL{α:Type}{a b p:List α}{off:Nat}(h:off+p.length<=a.length):aV (a++b) off p=aV a off p++b:=by simp only[aV,aO];rw[List.take_append_of_le_length (by omega),db h]
theorem jx{α:Type}{b p:List α}(h:p.length=b.length):aV b 0 p=p:=by simp[aV,h]
theorem pC{α:Type}{b p:List α}{off:Nat}(h:off+p.length<=b.length):(aV b off p).length=b.length:=by simp only[aV,aZ,List.length_take,List.length_drop];omega
theorem pB{α β:Type}{f:α->β}{b p:List α}{off:Nat}:(aV b off p).map f=aV (b.map f) off (p.map f):=by simp[aV]
theorem md{α:Type}{b c p:List α}{o1 o2 n:Nat}(hc:(b.drop o1).take n=c)(h1:o1+n<=b.length)(h2:o2+p.length<=n):aV b o1 (aV c o2 p)=aV b (o1+o2) p:=by
 have hcl:c.length=n:=by rw[<-hc];simp;omega
 have e:b=b.take o1++(c++b.drop (o1+n)):=by rw[<-hc,<-cj,ic,ic]
 have hl:(b.take o1).length=o1:=by simp;omega
 have hs:(aV c o2 p).length=n:=by rw[pC (by omega),hcl]
 have r2:aV b (o1+o2) p=b.take o1++(aV c o2 p++b.drop (o1+n)):=by
  conv=>lhs;rw[e]
  have:=oM (a:=b.take o1) (b:=c++b.drop (o1+n)) (p:=p) (off:=o2);rw[hl]at this;rw[this,oL (by omega)]
 rw[r2];show b.take o1++aV c o2 p++b.drop (o1+(aV c o2 p).length)=_;rw[hs,aO]
theorem DO:∀(t:Ty)(l r:List Value)(x:El t),pP t l=some (x,r)->l.all ck=true->∃p,l=p++r/\(aN t x)=p.map D.lit:=by
 intro t;induction t with
 |pr a c iha ihc=>
  intro l r x h hp;simp only[pP]at h;split at h
  .rename_i y l1 h1;split at h
   .rename_i z l2 h2;obtain⟨rfl,rfl⟩:=ad (aa h);obtain⟨p,rfl,e1⟩:=iha _ _ _ h1 hp;obtain⟨q,rfl,e2⟩:=ihc _ _ _ h2 (by rw[List.all_append,ae]at hp;exact hp.2);exact⟨p++q,by simp,by simp[aN,e1,e2]⟩
   .simp at h
  .simp at h
 |st t ih=>intro l r x h hp;exact ih l r x h hp
 |ar n t ih=>
  intro l r x h hp;simp only[pP]at h
  have key:∀(m:Nat)(l r:List Value)(x:Arr m (El t)),It (pP t) m l=some (x,r)->l.all ck=true->∃p,l=p++r/\x.1.flatMap (aN t)=p.map D.lit:=by
   intro m;induction m with
   |zero=>intro l r x h hp;obtain⟨rfl,rfl⟩:=ad (aa h);exact⟨[],rfl,rfl⟩
   |succ m ihn=>
    intro l r x h hp;simp only[It]at h;split at h
    .rename_i y l1 h1;split at h
     .rename_i v l2 h2;obtain⟨rfl,rfl⟩:=ad (aa h);obtain⟨p,rfl,e1⟩:=ih _ _ _ h1 hp;obtain⟨q,rfl,e2⟩:=ihn _ _ _ h2 (by rw[List.all_append,ae]at hp;exact hp.2);exact⟨p++q,by simp,by simp[bd,e1,e2]⟩
     .simp at h
    .simp at h
  exact key n l r x h hp
 |i k=>
  intro l r x h hp;simp only[pP]at h;unfold L5 at h;split at h
  .split at h
   .rename_i e;subst e;obtain⟨rfl,rfl⟩:=ad (aa h);exact⟨[_],rfl,rfl⟩
   .simp at h
  .simp at h
 |b=>
  intro l r x h hp;simp only[pP]at h;unfold L6 at h;split at h
  .obtain ⟨rfl,rfl⟩:=ad (aa h);exact⟨[_],rfl,rfl⟩
  .simp at h
 |s=>
  intro l r x h hp;simp only[pP]at h;unfold L3 at h;split at h
  .obtain ⟨rfl,rfl⟩:=ad (aa h);exact⟨[_],rfl,rfl⟩
  .simp at h
 |f k=>
  intro l r x h hp;simp only[pP]at h;unfold Jd at h;split at h
  .split at h
   .rename_i e;subst e;obtain⟨rfl,rfl⟩:=ad (aa h);exact⟨[_],rfl,rfl⟩
   .simp at h
  .simp at h
 |sl t ih=>
  intro l r x h hp;simp only[pP]at h;unfold L4 at h;split at h
  .obtain ⟨rfl,rfl⟩:=ad (aa h);exact⟨[_],rfl,rfl⟩
  .simp at h
 |_=>intro l r x h hp;simp[pP]at h
def uf(h:H2)(id ver:Nat):Bool:=match fO h id with|some (.ar _ _ v)|some (.im _ _ v)=>v==ver|_=>false
def Ko(id:Nat)(c:C):Prop:=∀i∈dl c,i=id
def dE(h:H2):V->List C->Prop
 |.x t v,cs=>gT t=true/\cs=(aN t v).map .d
 |.kb c,cs=>cs=[.d (.lit (.bool c))]
 |.nl k,cs=>cs=[yy k]
 |.so id,cs=>∃c,cs=[c]/\(∀c',uQ id (fO h id)=some c'->c=c')/\Ko id c
 |.sr id,cs=>∃c,cs=[c]/\(∀c',zJ id (fO h id)=some c'->c=c')/\Ko id c
 |.sb id ver lo t r,cs=>∃c,cs=[c]/\(uf h id ver=true->c=rV id lo t r)/\Ko id c
 |.op id t p,cs=>cs=[.op id (jM t p)]
 |.ep id n t p,cs=>cs=[.ep id n (jM t p)]
 |.pt t v,cs=>gT t=true/\cs=[.d (.pt (aN t v))]
 |.fn true f l,cs=>∃ds,mo l=some ds/\cs=[.d (.fn f ds)]
 |.fn false f l,cs=>∃xs,dE h l xs/\cs=[.kR f xs]
 |.om id,cs=>cs=[.om id]
 |.rc l,cs=>dE h l cs
 |.fl l,cs=>l.all ck=true/\cs=dk l
 |.ni,cs=>cs=[]
 |.co a r,cs=>∃x y,cs=x++y/\dE h a x/\dE h r y
 |.tp _,_|.no,_|.gn,_=>False
def nR(h:H2)(v:V)(x:TV):Prop:=∃cs,dE h v cs/\(oH v=true->x=.agg cs)/\(oH v=false->∃c,cs=[c]/\x=.c c)
def vU(h:H2):V->List TV->Prop
 |.ni,xs=>xs=[]
 |.co a r,xs=>∃x ys,xs=x::ys/\nR h a x/\vU h r ys
 |_,_=>False
def dV(h:H2):V->TV->Prop
 |.tp l,x=>∃xs,x=.eU xs/\vU h l xs
 |.no,x=>x=.eU []
 |.gn,_=>False
 |v,x=>nR h v x
def Nl(t u:Ty)(s:Sl (El t))(lo:Nat)(r:Sl (El u)):Prop:=bC t=bC u/\match s,r with|.nil,.nil=>True|.mk l,.mk m=>lo+m.length<=l.length/\((l.map (aN t)).drop lo).take m.length=m.map (aN u)|_,_=>False
def dC(n:Nat)(h:H2):V->Prop
 |.so id|.sr id|.om id=>id<n
 |.sb id ver lo t r=>id<n/\∀u s v,(fO h id=some (.ar u s v)\/fO h id=some (.im u s v))->ver<=v/\(v=ver->Nl u t s lo r)
 |.op id t p=>id<n/\Df t p
 |.ep id m t p=>id<n/\Df t p/\(∀u s v,(fO h id=some (.ar u s v)\/fO h id=some (.im u s v))->m<s.l.length)/\∀u s v,fO h id=some (.rw u s v)->m<s.l.length
 |.fn _ _ l|.rc l|.tp l=>dC n h l
 |.co a r=>dC n h a/\dC n h r
 |_=>True
def qf(h:H2):O->Option Ob->Prop
 |.ar t s _,b=>gT t=true/\0<bC t/\(∀l,s=.mk l->b=some (.aH (bC t) (l.map (aN t))))
 |.im t s _,b=>gT t=true/\0<bC t/\(∀l,s=.mk l->b=some (.lB (bC t) (l.map (aN t))))
 |.bx t c,b=>∃cs,b=some (.box cs)/\dE h c cs/\df c false t=true
 |.ib t v,b=>gT t=true/\b=some (.kA (aN t v))
 |.mp k v m,b=>gT v=true/\(∃ks,uj k=some ks)/\b=rY (iF k) (iF v) (fun x=>(aN k x).map fun|.lit y=>y|_=>.nilFunc) (aN v) m
 |.rw t s ln,b=>gT t=true/\0<bC t/\(∀l,(s:Sl (Sl (El t)))=.mk l->b=some (.nst (bC t) (du t l ln)))
def xm(n:Nat)(h:H2):O->Prop
 |.bx _ c=>dC n h c
 |.rw _ s (some (m,id))=>m<s.l.length/\id<n/\∀u r v,(fO h id=some (.ar u r v)\/fO h id=some (.im u r v))->r.dZ=(gt s.l m).dZ/\r.l.length=(gt s.l m).l.length
 |_=>True
structure HR(n:Nat)(h1:bl)(h2:H2):Prop where
 ob:∀id o,fO h2 id=some o->id<n/\qf h2 o (au h1 id)/\xm n h2 o
abbrev GZ(t:Ty)(s:Sl (El t)):(t:Ty)×Sl (El t):=⟨t,s⟩
abbrev ND(t:Ty)(s:El t):(t:Ty)×El t:=⟨t,s⟩
def IV(t u:Ty)(s:Sl (El t))(s':Sl (El u))(v v':Nat):Prop:=v<=v'/\t=u/\s.dZ=s'.dZ/\s.l.length=s'.l.length/\(v=v'->GZ t s=GZ u s')
def nI:O->O->Prop
 |.ar t s v,.ar u s' v'|.ar t s v,.im u s' v'=>IV t u s s' v v'
 |.im t s v,.im u s' v'=>v=v'/\GZ t s=GZ u s'
 |.bx t _,.bx u _=>t=u
 |.bx _ _,.ib _ _=>True
 |.ib t v,.ib u w=>ND t v=ND u w
 |.mp _ _ _,.mp _ _ _=>True
 |.rw t s _,.rw u s' _=>t=u/\s.dZ=s'.dZ/\s.l.length=s'.l.length
 |_,_=>False
def Ie:O->Bool
 |.bx _ _|.ib _ _=>true
 |_=>false
structure gm(n:Nat)(h h':H2):Prop where
 ob:∀id o',id<n->fO h' id=some o'->(∃o,fO h id=some o/\nI o o')\/Ie o'=true
theorem IV.trans{t u w:Ty}{s:Sl (El t)}{s':Sl (El u)}{s2:Sl (El w)}{a b c:Nat}(h1:IV t u s s' a b)(h2:IV u w s' s2 b c):IV t w s s2 a c:=by obtain⟨a1,rfl,a3,a4,a5⟩:=h1;obtain⟨b1,rfl,b3,b4,b5⟩:=h2;refine⟨Nat.le_trans a1 b1,rfl,a3.trans b3,a4.trans b4,fun e=>?_⟩;have e1:a=b:=Nat.le_antisymm a1 (e▸b1);exact(a5 e1).trans (b5 (e1▸e))
theorem IV.LM{t u:Ty}{s:Sl (El t)}{s':Sl (El u)}{a b:Nat}(h:a=b)(e:GZ t s=GZ u s'):IV t u s s' a b:=by subst h;obtain⟨rfl,e⟩:=gp e;cases e;exact⟨ak _,rfl,rfl,rfl,fun _=>rfl⟩
theorem nI.refl(o:O):nI o o:=by cases o<;>simp[nI,IV]
theorem nI.trans{a b c:O}(h1:nI a b)(h2:nI b c):nI a c:=by
 cases a<;>cases b<;>simp only[nI]at h1<;>first|exact h1.elim|skip
 all_goals(cases c<;>simp only[nI]at h2|-<;>first|exact h2.elim|skip)
 .exact h1.trans h2
 .exact h1.trans h2
 .exact h1.trans (IV.LM h2.1 h2.2)
 .exact ⟨h1.1.trans h2.1,h1.2.trans h2.2⟩
 .exact h1.trans h2
 .exact h1.trans h2
 .exact ⟨h1.1.trans h2.1,h1.2.1.trans h2.2.1,h1.2.2.trans h2.2.2⟩
theorem gm.refl(n:Nat)(h:H2):gm n h h:=⟨fun _ o _ h=>.inl ⟨o,h,nI.refl o⟩⟩
theorem gm.trans{n n':Nat}{a b c:H2}(hn:n<=n')(h1:gm n a b)(h2:gm n' b c):gm n a c:=
 ⟨fun id o' hi ho=>by
  rcases h2.ob id o' (by omega) ho with⟨o1,h3,h4⟩|q
  .rcases h1.ob id o1 hi h3 with⟨o2,h5,h6⟩|q
   .exact .inl ⟨o2,h5,h6.trans h4⟩
   .exact .inr (by cases o1<;>simp[Ie]at q<;>cases o'<;>simp[nI]at h4<;>rfl)
  .exact .inr q⟩
theorem vY{sz id:Nat}{α:Type}{e:α->List D}{s:Sl α}:Ko id (jm sz e id s):=by intro i hi;cases s with|nil=>simp[jm,dl]at hi|mk l=>simpa[jm,dl]using hi
theorem EG{id lo:Nat}{t:Ty}{s:Sl (El t)}:Ko id (rV id lo t s):=by intro i hi;cases s with|nil=>simp[rV,dl]at hi|mk l=>simpa[rV,dl]using hi
section
variable{n n':Nat}{h h':H2}
theorem z7{t:Ty}{s s':Sl (El t)}{id:Nat}(h1:s.dZ=s'.dZ)(h2:s.l.length=s'.l.length):jm (bC t) (aN t) id s=jm (bC t) (aN t) id s':=by cases s<;>cases s'<;>simp_all[Sl.dZ,jm]
theorem Ez(hs:gm n h h'){id:Nat}(hi:id<n){c:C}(hc:uQ id (fO h' id)=some c):uQ id (fO h id)=some c:=by
 cases ho:fO h' id with
 |none=>rw[ho]at hc;simp[uQ]at hc
 |some o'=>
  rw[ho]at hc;obtain⟨o,h1,h2⟩:=(hs.ob id o' hi ho).resolve_right fun e=>by cases o'<;>simp[Ie]at e<;>simp[uQ]at hc
  rw[h1];cases o'<;>simp only[uQ]at hc<;>first|cases hc;done|skip
  all_goals(cases o<;>simp only[nI]at h2<;>first|exact h2.elim|skip)
  .obtain ⟨_,rfl,h3,h4,_⟩:=h2;rw[<-hc];simp only[uQ];rw[z7 h3 h4]
  .obtain ⟨_,rfl,h3,h4,_⟩:=h2;rw[<-hc];simp only[uQ];rw[z7 h3 h4]
  .obtain ⟨_,h3⟩:=h2;obtain⟨rfl,h3⟩:=gp h3;cases h3;rw[<-hc];rfl
  all_goals simp at hc
theorem Ew(hs:gm n h h'){id:Nat}(hi:id<n){c:C}(hc:zJ id (fO h' id)=some c):zJ id (fO h id)=some c:=by
 cases ho:fO h' id with
 |none=>rw[ho]at hc;simp[zJ]at hc
 |some o'=>
  rw[ho]at hc;obtain⟨o,h1,h2⟩:=(hs.ob id o' hi ho).resolve_right fun e=>by cases o'<;>simp[Ie]at e<;>simp[zJ]at hc
  rw[h1];cases o'<;>simp only[zJ]at hc<;>first|cases hc;done|skip
  all_goals(cases o<;>simp only[nI]at h2<;>first|exact h2.elim|skip)
  .obtain ⟨rfl,h3,h4⟩:=h2;rw[<-hc];simp only[zJ];exact congrArg some (z7 (t:=.sl _) h3 h4)
  all_goals simp at hc
theorem BJ(hs:gm n h h'){id:Nat}(hi:id<n){u:Ty}{s:Sl (Sl (El u))}{ln:Option (Nat×Nat)}(ho:fO h' id=some (.rw u s ln)):∃s0 ln0,fO h id=some (.rw u s0 ln0)/\s0.dZ=s.dZ/\s0.l.length=s.l.length:=by
 obtain⟨o,h1,h2⟩:=(hs.ob id _ hi ho).resolve_right fun e=>by simp[Ie]at e
 cases o<;>simp only[nI]at h2<;>first|exact h2.elim|skip
 obtain⟨rfl,h3,h4⟩:=h2;exact⟨_,_,h1,h3,h4⟩
theorem EB(hs:gm n h h'){id:Nat}(hi:id<n){u:Ty}{s:Sl (El u)}{v:Nat}(ho:fO h' id=some (.ar u s v)\/fO h' id=some (.im u s v)):
  ∃s0 v0,(fO h id=some (.ar u s0 v0)\/fO h id=some (.im u s0 v0))/\s0.dZ=s.dZ/\s0.l.length=s.l.length:=by
 rcases ho with ho|ho
 all_goals
  obtain⟨o,h1,h2⟩:=(hs.ob id _ hi ho).resolve_right fun e=>by simp[Ie]at e
  cases o<;>simp only[nI]at h2<;>first|exact h2.elim|skip
 .obtain ⟨_,rfl,h3,h4,_⟩:=h2;exact⟨_,_,.inl h1,h3,h4⟩
 .obtain ⟨_,rfl,h3,h4,_⟩:=h2;exact⟨_,_,.inl h1,h3,h4⟩
 .obtain ⟨rfl,h3⟩:=h2;obtain⟨rfl,h3⟩:=gp h3;cases h3;exact⟨_,_,.inr h1,rfl,rfl⟩
theorem oN(hs:gm n h h'){id:Nat}(hi:id<n){u:Ty}{s:Sl (El u)}{v:Nat}(ho:fO h' id=some (.ar u s v)\/fO h' id=some (.im u s v)):
  ∃s0 v0,(fO h id=some (.ar u s0 v0)\/fO h id=some (.im u s0 v0))/\v0<=v/\s0.l.length=s.l.length/\(v0=v->s0=s):=by
 rcases ho with ho|ho
 all_goals
  obtain⟨o,h1,h2⟩:=(hs.ob id _ hi ho).resolve_right fun e=>by simp[Ie]at e
  cases o<;>simp only[nI]at h2<;>first|exact h2.elim|skip
 .obtain ⟨h3,rfl,_,h4,h5⟩:=h2;exact⟨_,_,.inl h1,h3,h4,fun e=>by have:=h5 e;simpa using this⟩
 .obtain ⟨h3,rfl,_,h4,h5⟩:=h2;exact⟨_,_,.inl h1,h3,h4,fun e=>by have:=h5 e;simpa using this⟩
 .obtain ⟨rfl,h3⟩:=h2;obtain⟨rfl,h3⟩:=gp h3;cases h3;exact⟨_,_,.inr h1,ak _,rfl,fun _=>rfl⟩
theorem iK{id ver:Nat}(ha:uf h id ver=true):∃u s,fO h id=some (.ar u s ver)\/fO h id=some (.im u s ver):=by
 unfold uf at ha;split at ha
 .rename_i u s v ho;obtain rfl:v=ver:=by simpa using ha
  exact⟨u,s,.inl ho⟩
 .rename_i u s v ho;obtain rfl:v=ver:=by simpa using ha
  exact⟨u,s,.inr ho⟩
 .simp at ha
theorem eL(hn:n<=n')(hs:gm n h h'):∀{v:V},dC n h v->dC n' h' v:=by
 intro v;induction v with
 |so id=>intro hv;simp only[dC]at hv|-;omega
 |sr id=>intro hv;simp only[dC]at hv|-;omega
 |om id=>intro hv;simp only[dC]at hv|-;omega
 |sb id ver lo t r=>
  rintro⟨h1,h2⟩;refine⟨by omega,fun u s v ho=>?_⟩;obtain⟨s0,v0,h3,h4,h5,h6⟩:=oN hs h1 ho;obtain⟨h7,h8⟩:=h2 u s0 v0 h3;refine⟨by omega,fun e=>?_⟩;have e2:v0=ver:=by omega
  have:=h6 (by omega);subst this;exact h8 e2
 |op id t p=>rintro⟨h1,h2⟩;exact⟨by omega,h2⟩
 |ep id m t p=>
  rintro⟨h1,h2,h3,h6⟩;refine⟨by omega,h2,fun u s v ho=>?_,fun u s v ho=>?_⟩
  .obtain ⟨s0,v0,h4,_,h5,_⟩:=oN hs h1 ho;have:=h3 u s0 v0 h4;omega
  .obtain ⟨s0,v0,h4,_,h5⟩:=BJ hs h1 ho;have:=h6 u s0 v0 h4;omega
 |fn z f l ih=>intro hv;exact ih hv
 |rc l ih=>intro hv;exact ih hv
 |tp l ih=>intro hv;exact ih hv
 |co a r iha ihr=>rintro⟨h1,h2⟩;exact⟨iha h1,ihr h2⟩
 |_=>intro _;trivial
theorem iJ(hs:gm n h h'):∀{v:V}{cs:List C},dC n h v->dE h v cs->dE h' v cs:=by
 intro v;induction v with
 |so id=>rintro cs hi ⟨c,rfl,hc,hid⟩;exact⟨c,rfl,fun c' hc'=>hc c' (Ez hs hi hc'),hid⟩
 |sr id=>rintro cs hi ⟨c,rfl,hc,hid⟩;exact⟨c,rfl,fun c' hc'=>hc c' (Ew hs hi hc'),hid⟩
 |sb id ver lo t r=>
  rintro cs ⟨hi,h2⟩ ⟨c,rfl,hc,hid⟩;refine⟨c,rfl,fun ha=>hc ?_,hid⟩;obtain⟨u,s,ho⟩:=iK ha;obtain⟨s0,v0,h3,h4,_,_⟩:=oN hs hi ho;obtain⟨h7,_⟩:=h2 u s0 v0 h3;have:v0=ver:=by omega
  subst this;unfold uf;rcases h3 with h3|h3<;>rw[h3]<;>simp
 |fn z f l ih=>intro cs hv hc;cases z with|true=>exact hc|false=>obtain⟨xs,h1,h2⟩:=hc;exact⟨xs,ih hv h1,h2⟩
 |rc l ih=>intro cs hv hc;exact ih hv hc
 |co a r iha ihr=>rintro cs ⟨h1,h2⟩ ⟨x,y,rfl,h3,h4⟩;exact⟨x,y,rfl,iha h1 h3,ihr h2 h4⟩
 |_=>intro cs _ hc;exact hc
theorem qA(hs:gm n h h'){v:V}{x:TV}(hv:dC n h v)(hx:nR h v x):nR h' v x:=by obtain⟨cs,h1,h2⟩:=hx;exact⟨cs,iJ hs hv h1,h2⟩
theorem CE(hs:gm n h h'):∀{v:V}{xs:List TV},dC n h v->vU h v xs->vU h' v xs:=by intro v;induction v with|co a r iha ihr=>rintro xs ⟨h1,h2⟩ ⟨x,ys,rfl,h3,h4⟩;exact⟨x,ys,rfl,qA hs h1 h3,ihr h2 h4⟩|ni=>intro xs _ h;exact h|_=>intro xs _ h;exact h.elim
theorem pX(hs:gm n h h'){v:V}{x:TV}(hv:dC n h v)(hx:dV h v x):dV h' v x:=by cases v with|tp l=>obtain⟨xs,h1,h2⟩:=hx;exact⟨xs,h1,CE hs hv h2⟩|no=>exact hx|gn=>exact hx|_=>exact qA hs hv hx
theorem lr(hs:gm n h h'){o:O}{b:Option Ob}(ho:xm n h o)(hb:qf h o b):qf h' o b:=by cases o with|bx t c=>obtain⟨cs,h1,h2,h3⟩:=hb;exact⟨cs,h1,iJ hs ho h2,h3⟩|_=>exact hb
theorem ku(hn:n<=n')(hs:gm n h h'){o:O}(ho:xm n h o):xm n' h' o:=by
 cases o with
 |bx t c=>exact eL hn hs ho
 |rw t s ln=>cases ln with|none=>trivial|some q=>obtain⟨m,id⟩:=q;obtain⟨h1,h2,h3⟩:=ho;refine⟨h1,Nat.lt_of_lt_of_le h2 hn,fun u r v hu=>?_⟩;obtain⟨s0,v0,h4,h5,h6⟩:=EB hs h2 hu;obtain⟨h7,h8⟩:=h3 u s0 v0 h4;exact⟨h5▸h7,h6▸h8⟩
 |_=>trivial
end
theorem fr{h:H2}:∀{v:V}{cs:List C},dE h v cs->cs.length=sD v:=by
 intro v;induction v with
 |x t v=>rintro cs ⟨_,rfl⟩;simp[sD,bq]
 |so id=>rintro cs ⟨c,rfl,_⟩;rfl
 |sr id=>rintro cs ⟨c,rfl,_⟩;rfl
 |sb id ver lo t r=>rintro cs ⟨c,rfl,_⟩;rfl
 |pt t v=>rintro cs ⟨_,rfl⟩;rfl
 |fn z f l ih=>intro cs hc;cases z with|true=>obtain⟨ds,_,rfl⟩:=hc;rfl|false=>obtain⟨ds,_,rfl⟩:=hc;rfl
 |rc l ih=>intro cs hc;exact ih hc
 |fl l=>rintro cs ⟨_,rfl⟩;simp[dk,sD]
 |ni=>rintro cs rfl;rfl
 |co a r iha ihr=>rintro cs ⟨x,y,rfl,h1,h2⟩;simp[sD,iha h1,ihr h2]
 |tp l=>intro cs hc;exact hc.elim
 |no=>intro cs hc;exact hc.elim
 |gn=>intro cs hc;exact hc.elim
 |_=>rintro cs rfl;rfl
theorem eQ:∀(v:V)(ln:Bool)(t:Ty),df v ln t=true->sD v=bC t:=by
 intro v;induction v with
 |rc l ih=>
  intro ln t hf;cases ln with
  |true=>cases t<;>simp[df]at hf
  |false=>cases t with|st t=>exact ih true t hf|_=>simp[df]at hf
 |co a r iha ihr=>
  intro ln t hf;cases ln with
  |false=>simp[df]at hf
  |true=>
   cases t with
   |pr t u=>simp only[df,ae]at hf;simp[sD,bC,iha _ _ hf.1,ihr _ _ hf.2]
   |_=>cases r with|ni=>have hf':df a false _=true:=hf;simp[sD,iha _ _ hf']|_=>simp[df]at hf
 |x u v=>intro ln t hf;cases ln with|false=>simp only[df,decide_eq_true_eq]at hf;subst hf;rfl|true=>cases t<;>simp[df]at hf
 |nl k=>intro ln t hf;cases ln<;>cases t<;>first|rfl|(simp[df]at hf;done)|skip
 |_=>intro ln t hf;cases ln<;>cases t<;>first|rfl|(simp[df]at hf;done)
section
variable{h:H2}
theorem lH{v:V}{u:Ty}{y:El u}{cs:List C}(hc:ff u v=some y)(hv:dE h v cs):cs=(aN u y).map .d:=by
 cases v with
 |x t v=>obtain⟨rfl,rfl⟩:=bV hc;exact hv.2
 |kb c=>obtain⟨rfl,rfl⟩:=bV (t:=.b) hc;exact hv
 |nl k=>
  cases k with
  |zero=>
   cases u<;>simp only[ff]at hc<;>first|cases hc;done|skip
   obtain rfl:=aa hc;exact hv
  |succ k=>simp[ff]at hc
 |fl l=>
  obtain⟨h1,rfl⟩:=hv;simp only[ff]at hc;cases ha:iF u
  .rw [ha]at hc;simp at hc
  rw[ha,cond_true]at hc;split at hc
  .rename_i x hx;obtain rfl:=aa hc;obtain⟨p,rfl,e⟩:=DO u _ _ _ hx h1;rw[e];simp[dk]
  .simp at hc
 |_=>simp[ff]at hc
theorem fT:∀(v:V)(ln:Bool)(u:Ty)(y:El u)(cs:List C),ij v ln u=some y->dE h v cs->cs=(aN u y).map .d:=by
 intro v;induction v with
 |rc l ih=>
  intro ln u y cs hc hv;cases ln with
  |true=>cases u<;>simp[ij]at hc
  |false=>cases u with|st u=>exact ih true u y cs hc hv|_=>simp[ij,ff]at hc
 |co a r iha ihr=>
  intro ln u y cs hc hv;obtain⟨x1,x2,rfl,h1,h2⟩:=hv;cases ln with
  |false=>cases u<;>simp[ij,ff]at hc
  |true=>
   cases u with
   |pr t u=>
    simp only[ij]at hc;split at hc
    .rename_i p q hp hq;obtain rfl:=aa hc;rw[iha _ _ _ _ hp h1,ihr _ _ _ _ hq h2];simp[aN]
    .simp at hc
   |_=>cases r with|ni=>have hc':ij a false _=some y:=hc;obtain rfl:x2=[]:=h2;rw[aW];exact iha _ _ _ _ hc' h1|_=>simp[ij]at hc
 |_=>
  intro ln u y cs hc hv;cases ln with
  |true=>cases u<;>simp[ij]at hc
  |false=>first|exact lH hc hv|(simp[ij]at hc)
theorem zr{v:V}{u:Ty}{y:El u}(hc:ff u v=some y):oH v=iF u:=by
 cases v with
 |x t v=>obtain⟨rfl,_⟩:=bV hc;rfl
 |kb c=>obtain⟨rfl,_⟩:=bV (t:=.b) hc;rfl
 |nl k=>
  cases k with
  |zero=>cases u<;>simp only[ff]at hc<;>first|rfl|cases hc
  |succ k=>simp[ff]at hc
 |fl l=>
  simp only[ff]at hc;cases ha:iF u
  .rw [ha]at hc;simp at hc
  .rfl
 |_=>simp[ff]at hc
theorem q9{v:V}{u:Ty}{y:El u}(hc:mV u v=some y):oH v=iF u:=by
 cases v with
 |rc l=>cases u with|st u=>rfl|_=>simp[mV,ij,ff]at hc
 |co a r=>cases u<;>simp[mV,ij,ff]at hc
 |ni=>cases u<;>simp[mV,ij]at hc
 |_=>exact zr hc
theorem u7:∀(l:V)(t:Ty)(i:Nat)(w:V)(cs:List C),df l true t=true->dE h l cs->nJ l i=some w->
  ∃u cw,xn t i=some u/\df w false u=true/\dE h w cw/\kS t i+bC u<=cs.length/\(cs.drop (kS t i)).take (bC u)=cw:=by
 intro l;induction l with
 |co a r iha ihr=>
  intro t i w cs hf hv hw;obtain⟨x,y,rfl,h1,h2⟩:=hv;have one:∀t,df a false t=true->r=.ni->xn t 0=some t->kS t 0=0->i=0->∃u cw,xn t i=some u/\df w false u=true/\dE h w cw/\kS t i+bC u<=(x++y).length/\((x++y).drop (kS t i)).take (bC u)=cw:=by intro t hf hr h3 h4 hi;subst hi;obtain rfl:=aa hw;have hs:=eQ _ _ _ hf;have hl:=fr h1;refine⟨t,x,h3,hf,h1,by rw[h4];simp;omega,?_⟩;rw[h4,bW,<-hs,<-hl,List.take_left]
  cases t with
  |pr t u=>simp only[df,ae]at hf;have hs:=eQ _ _ _ hf.1;have hl:=fr h1;cases i with|zero=>obtain rfl:=aa hw;refine⟨t,x,rfl,hf.1,h1,by simp[kS];omega,?_⟩;simp only[kS,bW];rw[<-hs,<-hl,List.take_left]|succ i=>obtain⟨u',cw,q1,q2,q3,q4,q5⟩:=ihr u i w y hf.2 h2 hw;refine⟨u',cw,q1,q2,q3,by simp only[kS,aZ];omega,?_⟩;simp only[kS];rw[<-cj,<-hs,<-hl,List.drop_left,q5]
  |_=>
   cases r with
   |ni=>have hf':df a false _=true:=hf;cases i with|zero=>exact one _ hf' rfl rfl rfl rfl|succ i=>simp[nJ]at hw
   |_=>simp[df]at hf
 |_=>intro t i w cs hf hv hw;simp[nJ]at hw
theorem uY:∀(l:V)(t:Ty)(i:Nat)(w:V)(cs cw:List C)(u:Ty),df l true t=true->dE h l cs->xn t i=some u->dE h w cw->cw.length=bC u->(∃w0,nJ l i=some w0)->dE h (EU l i w) (aV cs (kS t i) cw):=by
 intro l;induction l with
 |co a r iha ihr=>
  intro t i w cs cw u hf hv hu hw hlen hn;obtain⟨x,y,rfl,h1,h2⟩:=hv;cases t with
  |pr t u'=>simp only[df,ae]at hf;have hs:=eQ _ _ _ hf.1;have hl:=fr h1;cases i with|zero=>obtain rfl:=aa hu;refine⟨cw,y,?_,hw,h2⟩;simp only[kS];rw[oL (by omega),jx (by omega)]|succ i=>have:=ihr u' i w y cw u hf.2 h2 hu hw hlen hn;refine⟨x,_,?_,h1,this⟩;simp only[kS];rw[<-hs,<-hl,oM]
  |_=>
   cases r with
   |ni=>cases i with|zero=>obtain rfl:=aa hu;have hf':df a false _=true:=hf;have hs:=eQ _ _ _ hf';have hl:=fr h1;obtain rfl:y=[]:=h2;refine⟨cw,[],?_,hw,rfl⟩;simp only[kS,aW];rw[jx (by omega)]|succ i=>obtain⟨w0,hn⟩:=hn;simp[nJ]at hn
   |_=>simp[df]at hf
 |_=>intro t i w cs cw u hf hv hu hw hlen hn;obtain⟨w0,hn⟩:=hn;simp[nJ]at hn
theorem vV:∀(t:Ty)(v:El t),gT t=true->dE h (CH t v) ((aN t v).map .d):=by intro t;induction t with|pr a c iha ihc=>intro v hd;simp only[gT,ae]at hd;exact⟨(aN a v.1).map .d,(aN c v.2).map .d,by simp[aN],⟨hd.1,rfl⟩,ihc v.2 hd.2⟩|_=>intro v hd;exact⟨_,[],(aW _).symm,⟨hd,rfl⟩,rfl⟩
theorem Hb:∀(t:Ty)(v:El t),df (CH t v) true t=true:=by intro t;induction t with|pr a c iha ihc=>intro v;simp[CH,df,ihc]|_=>intro v;simp[CH,df]
theorem Ha:∀(t:Ty)(v:El t)(i:Nat)(w:V),uz t v i=some w->nJ (CH t v) i=some w:=by
 intro t;induction t with
 |pr a c iha ihc=>intro v i w hw;cases i with|zero=>exact hw|succ i=>exact ihc v.2 i w hw
 |_=>intro v i w hw;cases i with|zero=>exact hw|succ i=>simp[uz]at hw
theorem tU:∀(t:Ty)(i:Nat)(u:Ty),gT t=true->xn t i=some u->gT u=true:=by
 intro t;induction t with
 |pr a c iha ihc=>intro i u hd hu;simp only[gT,ae]at hd;cases i with|zero=>obtain rfl:=aa hu;exact hd.1|succ i=>exact ihc i u hd.2 hu
 |_=>intro i u hd hu;cases i with|zero=>obtain rfl:=aa hu;exact hd|succ i=>simp[xn]at hu
theorem qI:∀(p:lN)(t u:Ty),mU t p=some u->Df t p->jM t p+bC u<=bC t:=by
 intro p;induction p with
 |nil=>
  intro t u hu _;have e2:mU t []=some t:=by cases t<;>rfl
  have e:jM t []=0:=by cases t<;>rfl
  obtain rfl:t=u:=by rw[e2]at hu;exact aa hu
  omega
 |cons q p ih=>
  intro t u hu hp;cases q with
  |fd i=>cases t with|st t=>obtain⟨a,ha,hp⟩:=hp;simp only[mU,ha]at hu;have:=ih a u hu hp;have:=Ks t i a ha;simp only[jM,ha,bC];omega|_=>exact hp.elim
  |ix k=>cases t with|ar n t=>obtain⟨hk,hp⟩:=hp;have:=ih t u hu hp;have h2:(k+1)*bC t<=n*bC t:=aF _ hk;rw[bv]at h2;simp only[jM,bC];omega|_=>exact hp.elim
theorem qW:∀(p:lN)(c:V)(t:Ty)(w:V)(cs:List C),df c false t=true->dE h c cs->Df t p->lC c p=some w->
  ∃u cw,mU t p=some u/\df w false u=true/\dE h w cw/\jM t p+bC u<=cs.length/\(cs.drop (jM t p)).take (bC u)=cw:=by
 intro p;induction p with
 |nil=>
  intro c t w cs hf hv _ hw;obtain rfl:c=w:=by simpa[lC]using hw
  have hs:=eQ _ _ _ hf;have hl:=fr hv;refine⟨t,cs,by cases t<;>rfl,hf,hv,?_,?_⟩
  .cases t<;>simp[jM]<;>omega
  .have e:jM t []=0:=by cases t<;>rfl
   rw[e,bW,cO (by omega)]
 |cons q p ih=>
  intro c t w cs hf hv hp hw
  have sub:∀(o n:Nat)(c2:V)(u:Ty)(c3:List C),df c2 false u=true->dE h c2 c3->(cs.drop o).take (bC u)=c3->o+bC u<=cs.length->Df u p->lC c2 p=some w->mU t (q::p)=mU u p->jM t (q::p)=o+jM u p->
    ∃u cw,mU t (q::p)=some u/\df w false u=true/\dE h w cw/\jM t (q::p)+bC u<=cs.length/\(cs.drop (jM t (q::p))).take (bC u)=cw:=by
   intro o n c2 u c3 hf2 hv2 h3 h4 h5 h6 h7 h8;obtain⟨u',cw,q1,q2,q3,q4,q5⟩:=ih c2 u w c3 hf2 hv2 h5 h6;have hl:=fr hv2;rw[eQ _ _ _ hf2]at hl;refine⟨u',cw,h7.trans q1,q2,q3,by rw[h8];omega,?_⟩;rw[h8,<-q5,<-h3,<-cj];rw[List.drop_take,List.take_take];congr 1;omega
  cases q with
  |fd i=>
   cases t with
   |st t=>
    obtain⟨u,hu,hp⟩:=hp;have e7:mU (.st t) (.fd i::p)=mU u p:=by simp only[mU,hu]
    have e8:jM (.st t) (.fd i::p)=kS t i+jM u p:=by simp only[jM,hu]
    cases c with
    |x t' v=>
     simp only[df,decide_eq_true_eq]at hf;subst hf;obtain⟨hd,rfl⟩:=hv;simp only[lC]at hw;split at hw
     .rename_i y hy;obtain⟨u',y',rfl,h1,h2,h3⟩:=mG _ _ _ _ hy;obtain rfl:u=u':=by rw[hu]at h1;exact aa h1
      refine sub (kS t i) 0 (.x u y') u ((aN u y').map .d) (by simp[df]) ⟨tU t _ _ hd hu,rfl⟩ ?_ ?_ hp hw e7 e8
      .rw [<-h3,eX,ez];rfl
      .simp [bq,bC];exact h2
     .simp at hw
    |rc l=>
     simp only[lC]at hw;split at hw
     .rename_i y hy;obtain⟨u',cw,q1,q2,q3,q4,q5⟩:=u7 l t i y cs hf hv hy;obtain rfl:u=u':=by rw[hu]at q1;exact aa q1
      exact sub (kS t i) 0 y u cw q2 q3 q5 q4 hp hw e7 e8
     .simp at hw
    |_=>simp[lC]at hw
   |_=>exact hp.elim
  |ix k=>
   cases t with
   |ar n t=>
    obtain⟨hk,hp⟩:=hp;cases c with
    |x t' v=>
     simp only[df,decide_eq_true_eq]at hf;subst hf;obtain⟨hd,rfl⟩:=hv;simp only[lC]at hw;have hk':k<v.1.length:=by rw[v.2];exact hk
     have hg:=tL (bq t) v.1 k hk';refine sub (k*bC t) 0 (.x t (gt v.1 k)) t ((aN t (gt v.1 k)).map .d) (by simp[df]) ⟨hd,rfl⟩ ?_ ?_ hp hw rfl rfl
     .rw [<-hg,eX,ez];rfl
     .simp only[aK,bq,bC];have:(k+1)*bC t<=n*bC t:=aF _ hk;rw[bv]at this;omega
    |_=>simp[lC]at hw
   |_=>exact hp.elim
theorem CQ:∀(t:Ty)(v:El t)(i:Nat)(w:V)(v':El t),CS t v i w=some v'->∃u z,xn t i=some u/\ff u w=some z/\aN t v'=aV (aN t v) (kS t i) (aN u z):=by
 intro t;induction t with
 |pr a c iha ihc=>
  intro v i w v' hs;cases i with
  |zero=>
   simp only[CS]at hs;split at hs
   .rename_i y hy;obtain rfl:=aa hs;refine⟨a,y,rfl,hy,?_⟩;simp only[aN,kS];rw[oL (by simp[bq]),jx (by simp[bq])]
   .simp at hs
  |succ i=>
   simp only[CS]at hs;split at hs
   .rename_i y hy;obtain rfl:=aa hs;obtain⟨u,z,h1,h2,h3⟩:=ihc _ _ _ _ hy;refine⟨u,z,h1,h2,?_⟩;simp only[aN,kS,h3];have:=oM (a:=aN a v.1) (b:=aN c v.2) (off:=kS c i) (p:=aN u z);rw[bq]at this;rw[this]
   .simp at hs
 |_=>intro v i w v' hs;cases i with|zero=>have hs':ff _ w=some v':=hs;exact⟨_,v',rfl,hs',by simp only[kS];rw[jx (by simp[bq])]⟩|succ i=>simp[CS]at hs
theorem qC:∀(p:lN)(c:V)(t:Ty)(w c':V)(cs cw:List C)(u:Ty),df c false t=true->dE h c cs->Df t p->kG c p w=some c'->mU t p=some u->dE h w cw->cw.length=bC u->
  dE h c' (aV cs (jM t p) cw):=by
 intro p;induction p with
 |nil=>
  intro c t w c' cs cw u hf hv _ hs hu hw hlen;obtain rfl:w=c':=by simpa[kG]using hs
  have e:jM t []=0:=by cases t<;>rfl
  have e2:mU t []=some t:=by cases t<;>rfl
  obtain rfl:t=u:=by rw[e2]at hu;exact aa hu
  have:=fr hv;rw[eQ _ _ _ hf]at this;rw[e,jx (by omega)];exact hw
 |cons q p ih=>
  intro c t w c' cs cw u hf hv hp hs hu hw hlen;cases q with
  |fd i=>
   cases t with
   |st t=>
    obtain⟨a,ha,hp⟩:=hp;have hu':mU a p=some u:=by simpa only[mU,ha]using hu
    have e8:jM (.st t) (.fd i::p)=kS t i+jM a p:=by simp only[jM,ha]
    cases c with
    |x t' v=>
     simp only[df,decide_eq_true_eq]at hf;subst hf;obtain⟨hd,rfl⟩:=hv;simp only[kG]at hs;split at hs
     .rename_i y hy;split at hs
      .rename_i y1 hy1;obtain⟨a',z,rfl,h1,h2,h3⟩:=mG _ _ _ _ hy;obtain rfl:a=a':=by rw[ha]at h1;exact aa h1
       have hz:dE h (.x a z) ((aN a z).map .d):=⟨tU t _ _ hd ha,rfl⟩
       have h4:=ih (.x a z) a w y1 ((aN a z).map .d) cw u (by simp[df]) hz hp hy1 hu' hw hlen;have hle:jM a p+cw.length<=bC a:=by have:=qI p a u hu' hp;omega
       have h5:((aN (.st t) v).map C.d|>.drop (kS t i)).take (bC a)=(aN a z).map .d:=by rw[<-h3,eX,ez];rfl
       have h6:aV ((aN (.st t) v).map C.d) (kS t i+jM a p) cw=aV ((aN (.st t) v).map C.d) (kS t i) (aV ((aN a z).map .d) (jM a p) cw):=(md h5 (by simp[bq,bC];exact h2) hle).symm;rw[e8,h6];split at hs
       .rename_i v' hv';obtain rfl:=aa hs;obtain⟨a2,z2,k1,k2,k3⟩:=CQ _ _ _ _ _ hv';obtain rfl:a=a2:=by rw[ha]at k1;exact aa k1
        refine⟨hd,?_⟩;have:=lH k2 h4;rw[this];show _=(aN t v').map C.d;rw[k3,pB];rfl
       .obtain rfl:=aa hs;refine uY (CH t v) t i y1 _ _ a (Hb t v) (vV t v hd) ha h4 ?_ ⟨_,Ha t v i _ hy⟩;rw[pC (by simp[bq];exact hle)];simp[bq]
      .simp at hs
     .simp at hs
    |rc l=>
     simp only[kG]at hs;split at hs
     .rename_i y hy;split at hs
      .rename_i y1 hy1;obtain rfl:=aa hs;obtain⟨a',cw2,q1,q2,q3,q4,q5⟩:=u7 l t i y cs hf hv hy;obtain rfl:a=a':=by rw[ha]at q1;exact aa q1
       have h4:=ih y a w y1 cw2 cw u q2 q3 hp hy1 hu' hw hlen;have hl:=fr q3;rw[eQ _ _ _ q2]at hl;have hle:jM a p+cw.length<=bC a:=by have:=qI p a u hu' hp;omega
       rw[e8,<-md q5 q4 hle];exact uY l t i y1 cs _ a hf hv ha h4 (by rw[pC (by omega),hl]) ⟨_,hy⟩
      .simp at hs
     .simp at hs
    |_=>simp[kG]at hs
   |_=>exact hp.elim
  |ix k=>
   cases t with
   |ar n t=>
    obtain⟨hk,hp⟩:=hp;have hu':mU t p=some u:=hu;cases c with
    |x t' v=>
     simp only[df,decide_eq_true_eq]at hf;subst hf;obtain⟨hd,rfl⟩:=hv;simp only[kG]at hs;split at hs
     .rename_i y1 hy1;split at hs
      .rename_i z hz;obtain rfl:=aa hs;have hk':k<v.1.length:=by rw[v.2];exact hk
       have hg:=tL (bq t) v.1 k hk';have h4:=ih (.x t (gt v.1 k)) t w y1 ((aN t (gt v.1 k)).map .d) cw u (by simp[df]) ⟨hd,rfl⟩ hp hy1 hu' hw hlen;have h7:=lH hz h4;have hle:jM t p+cw.length<=bC t:=by have:=qI p t u hu' hp;omega
       have h5:((aN (.ar n t) v).map C.d|>.drop (k*bC t)).take (bC t)=(aN t (gt v.1 k)).map .d:=by rw[<-hg,eX,ez];rfl
       have h8:k*bC t+bC t<=((aN (.ar n t) v).map C.d).length:=by simp only[aK,bq,bC];have:(k+1)*bC t<=n*bC t:=aF _ hk;rw[bv]at this;omega
       refine⟨hd,?_⟩;show aV _ (k*bC t+jM t p) cw=_;rw[<-md h5 h8 hle,h7,<-pB];show _=((v.1.set k z).flatMap (aN t)).map C.d;rw[F5 (bq t) v.1 k z hk'];rfl
      .simp at hs
     .simp at hs
    |_=>simp[kG]at hs
   |_=>exact hp.elim
theorem rX{n:Nat}:∀(l:V)(i:Nat)(w:V),dC n h l->nJ l i=some w->dC n h w:=by
 intro l;induction l with
 |co a r iha ihr=>intro i w hk hw;cases i with|zero=>obtain rfl:=aa hw;exact hk.1|succ i=>exact ihr i w hk.2 hw
 |_=>intro i w hk hw;simp[nJ]at hw
theorem BQ{n:Nat}:∀(l:V)(i:Nat)(w:V),dC n h l->dC n h w->dC n h (EU l i w):=by
 intro l;induction l with
 |co a r iha ihr=>intro i w hk hw;cases i with|zero=>exact⟨hw,hk.2⟩|succ i=>exact⟨hk.1,ihr i w hk.2 hw⟩
 |_=>intro i w hk hw;exact hk
theorem Ch{n:Nat}{t:Ty}{v:El t}{i:Nat}{w:V}(hw:uz t v i=some w):dC n h w:=by obtain⟨u,y,rfl,_⟩:=mG _ _ _ _ hw;trivial
theorem zT{n:Nat}:∀(t:Ty)(v:El t),dC n h (CH t v):=by intro t;induction t with|pr a c iha ihc=>intro v;exact⟨trivial,ihc v.2⟩|_=>intro v;exact⟨trivial,trivial⟩
theorem wE{n:Nat}:∀(p:lN)(c w:V),dC n h c->lC c p=some w->dC n h w:=by
 intro p;induction p with
 |nil=>intro c w hk hw;obtain rfl:c=w:=by simpa[lC]using hw
       exact hk
 |cons q p ih=>
  intro c w hk hw;cases q with
  |fd i=>
   cases c with
   |x t v=>
    cases t with
    |st t=>
     simp only[lC]at hw;split at hw
     .rename_i y hy;exact ih y w (Ch hy) hw
     .simp at hw
    |_=>simp[lC]at hw
   |rc l=>
    simp only[lC]at hw;split at hw
    .rename_i y hy;exact ih y w (rX l _ _ hk hy) hw
    .simp at hw
   |_=>simp[lC]at hw
  |ix k=>
   cases c with
   |x t v=>cases t with|ar m t=>exact ih (.x t (gt v.1 k)) w trivial hw|_=>simp[lC]at hw
   |_=>simp[lC]at hw
theorem BI{n:Nat}:∀(p:lN)(c w c':V),dC n h c->dC n h w->kG c p w=some c'->dC n h c':=by
 intro p;induction p with
 |nil=>intro c w c' _ hw hs;obtain rfl:w=c':=by simpa[kG]using hs
       exact hw
 |cons q p ih=>
  intro c w c' hk hw hs;cases q with
  |fd i=>
   cases c with
   |x t v=>
    cases t with
    |st t=>
     simp only[kG]at hs;split at hs
     .rename_i y hy;split at hs
      .rename_i y1 hy1;split at hs
       .obtain rfl:=aa hs;trivial
       .obtain rfl:=aa hs;exact BQ _ _ _ (zT t v) (ih y w y1 (Ch hy) hw hy1)
      .simp at hs
     .simp at hs
    |_=>simp[kG]at hs
   |rc l=>
    simp only[kG]at hs;split at hs
    .rename_i y hy;split at hs
     .rename_i y1 hy1;obtain rfl:=aa hs;exact BQ l _ _ hk (ih y w y1 (rX l _ _ hk hy) hw hy1)
     .simp at hs
    .simp at hs
   |_=>simp[kG]at hs
  |ix k=>
   cases c with
   |x t v=>
    cases t with
    |ar m t=>
     simp only[kG]at hs;split at hs
     .split at hs
      .obtain rfl:=aa hs;trivial
      .simp at hs
     .simp at hs
    |_=>simp[kG]at hs
   |_=>simp[kG]at hs
end
section
variable{h:H2}{n:Nat}{h1:bl}
theorem cP{v:V}{c:C}(ha:oH v=false)(hc:dE h v [c]):nR h v (.c c):=⟨[c],hc,fun e=>(by rw[ha]at e;cases e),fun _=>⟨c,rfl,rfl⟩⟩
theorem sA{v:V}{cs:List C}(ha:oH v=true)(hc:dE h v cs):nR h v (.agg cs):=⟨cs,hc,fun _=>rfl,fun e=>(by rw[ha]at e;cases e)⟩
theorem fV{v:V}{x:TV}(hx:nR h v x)(ha:oH v=false):∃c,x=.c c/\dE h v [c]:=by obtain⟨cs,h1,_,h2⟩:=hx;obtain⟨c,rfl,rfl⟩:=h2 ha;exact⟨c,rfl,h1⟩
theorem mw{v:V}{x:TV}(hx:nR h v x):∃cs,dE h v cs/\cellsOf x=some cs:=by obtain⟨cs,h1,h2,h3⟩:=hx;refine⟨cs,h1,?_⟩;cases ha:oH v with|true=>rw[h2 ha];rfl|false=>obtain⟨c,rfl,rfl⟩:=h3 ha;rfl
theorem gK{k:IntKind}{a:Int}{x:TV}(hx:dV h (.x (.i k) a) x):x=tI k a:=by obtain⟨c,rfl,_,hc⟩:=fV (v:=.x (.i k) a) hx rfl;obtain rfl:=(bK hc).1;rfl
theorem BE{a:Bool}{x:TV}(hx:dV h (.x .b a) x):x=tB a:=by obtain⟨c,rfl,_,hc⟩:=fV (v:=.x .b a) hx rfl;obtain rfl:=(bK hc).1;rfl
theorem rk{a:ByteArray}{x:TV}(hx:dV h (.x .s a) x):x=.c (.d (dS a)):=by obtain⟨c,rfl,_,hc⟩:=fV (v:=.x .s a) hx rfl;obtain rfl:=(bK hc).1;rfl
theorem sw{t:Ty}{s:Sl (El t)}{x:TV}(hx:dV h (.x (.sl t) s) x):x=.c (.d (pF (bC t) (aN t) s)):=by obtain⟨c,rfl,_,hc⟩:=fV (v:=.x (.sl t) s) hx rfl;obtain rfl:=(bK hc).1;rfl
theorem qz{a:Bool}{x:TV}(hx:dV h (.kb a) x):x=tB a:=by obtain⟨c,rfl,hc⟩:=fV (v:=.kb a) hx rfl;obtain rfl:=(bK hc).1;rfl
theorem qy{k:Nat}{x:TV}(hx:dV h (.nl k) x):x=.c (yy k):=by obtain⟨c,rfl,hc⟩:=fV (v:=.nl k) hx rfl;obtain rfl:=(bK hc).1;rfl
theorem sx{t:Ty}{a:El t}{x:TV}(hx:dV h (.pt t a) x):gT t=true/\x=.c (.d (.pt (aN t a))):=by obtain⟨c,rfl,hd,hc⟩:=fV (v:=.pt t a) hx rfl;obtain rfl:=(bK hc).1;exact⟨hd,rfl⟩
theorem qx{id:Nat}{t:Ty}{p:lN}{x:TV}(hx:dV h (.op id t p) x):x=.c (.op id (jM t p)):=by obtain⟨c,rfl,hc⟩:=fV (v:=.op id t p) hx rfl;obtain rfl:=(bK hc).1;rfl
theorem nQ{id m:Nat}{t:Ty}{p:lN}{x:TV}(hx:dV h (.ep id m t p) x):x=.c (.ep id m (jM t p)):=by obtain⟨c,rfl,hc⟩:=fV (v:=.ep id m t p) hx rfl;obtain rfl:=(bK hc).1;rfl
theorem sy{id:Nat}{x:TV}(hx:dV h (.om id) x):x=.c (.om id):=by obtain⟨c,rfl,hc⟩:=fV (v:=.om id) hx rfl;obtain rfl:=(bK hc).1;rfl
theorem nP{id:Nat}{c:C}{x:TV}(hx:dV h (.so id) x)(hc:uQ id (fO h id)=some c):x=.c c:=by obtain⟨c',rfl,c2,h2,h3⟩:=fV (v:=.so id) hx rfl;obtain rfl:=(bK h2).1;rw[h3.1 c hc]
theorem Ep{id:Nat}{c:C}{x:TV}(hx:dV h (.sr id) x)(hc:zJ id (fO h id)=some c):x=.c c:=by obtain⟨c',rfl,c2,h2,h3⟩:=fV (v:=.sr id) hx rfl;obtain rfl:=(bK h2).1;rw[h3.1 c hc]
theorem nU{id:Nat}{t:Ty}{s:Sl (Sl (El t))}{ln:Option (Nat×Nat)}(ho:fO h id=some (.rw t s ln)):zJ id (fO h id)=some (jm 1 (aN (.sl t)) id s):=by rw[ho];rfl
theorem mb{id ver lo:Nat}{t:Ty}{r:Sl (El t)}{x:TV}(hx:dV h (.sb id ver lo t r) x)(ha:ft h (.sb id ver lo t r)=true):x=.c (rV id lo t r):=by obtain⟨c',rfl,c2,h2,h3⟩:=fV (v:=.sb id ver lo t r) hx rfl;obtain rfl:=(bK h2).1;rw[h3.1 (Bool.and_eq_true_iff.1 ha).2]
theorem zR{z:Bool}{f:Nat}{l:V}{x:TV}(hx:dV h (.fn z f l) x):(z=true/\∃ds,mo l=some ds/\x=.c (.d (.fn f ds)))\/(z=false/\∃cs,dE h l cs/\x=.c (.kR f cs)):=by obtain⟨c',rfl,hc⟩:=fV (v:=.fn z f l) hx rfl;cases z with|true=>obtain⟨ds,h2,h3⟩:=hc;exact .inl ⟨rfl,ds,h2,by rw[(bK h3).1]⟩|false=>obtain⟨ds,h2,h3⟩:=hc;exact .inr ⟨rfl,ds,h2,by rw[(bK h3).1]⟩
theorem Jy{l:V}{x:TV}(hx:dV h (.tp l) x):∃xs,x=.eU xs/\vU h l xs:=hx
def HE:V->Prop
 |.tp _|.no|.gn=>False
 |_=>True
theorem kP{v:V}{x:TV}(hv:HE v)(hx:dV h v x):nR h v x:=by cases v<;>first|exact hx|exact hv.elim
theorem bI{v:V}{x:TV}(hx:nR h v x):dV h v x:=by cases v<;>first|exact hx|(obtain⟨cs,hc,_⟩:=hx;exact hc.elim)
theorem Jf{v:V}{u:Ty}{y:El u}(hc:mV u v=some y):HE v:=by cases v<;>first|trivial|(simp[mV,ij,ff]at hc)
theorem o4{v:V}{u:Ty}{y:El u}{x:TV}(hx:dV h v x)(hc:mV u v=some y):(iF u=true->x=.agg ((aN u y).map .d))/\(iF u=false->∃d,aN u y=[d]/\x=.c (.d d)):=by
 obtain⟨cs,h2,h3,h4⟩:=kP (Jf hc) hx;have h5:=fT v false u y cs hc h2;have ha:=q9 hc;constructor
 .intro hu;rw[h3 (ha.trans hu),h5]
 .intro hu;obtain⟨c,rfl,rfl⟩:=h4 (ha.trans hu);cases he:aN u y with
  |nil=>rw[he]at h5;simp at h5
  |cons d ds=>
   rw[he]at h5;simp only[List.map_cons,List.cons.injEq]at h5;obtain⟨rfl,h6⟩:=h5;have:ds=[]:=by simpa using h6.symm
   subst this;exact⟨d,rfl,rfl⟩
theorem Je{v:V}{x:TV}{a:Bool}(hx:dV h v x)(hc:mV .b v=some a):x=tB a:=by obtain⟨d,h1,rfl⟩:=(o4 hx hc).2 rfl;obtain rfl:=(bK h1).1;rfl
def jj(h:H2):List V->List TV->Prop
 |[],[]=>True
 |v::vs,x::xs=>dV h v x/\jj h vs xs
 |_,_=>False
theorem ir{xs:List TV}(hx:jj h [] xs):xs=[]:=by cases xs<;>first|rfl|exact hx.elim
theorem ei{v:V}{vs:List V}{xs:List TV}(hx:jj h (v::vs) xs):∃x ys,xs=x::ys/\dV h v x/\jj h vs ys:=by cases xs with|nil=>exact hx.elim|cons x ys=>exact⟨x,ys,rfl,hx.1,hx.2⟩
theorem fk{v:V}{xs:List TV}(hx:jj h [v] xs):∃x,xs=[x]/\dV h v x:=by obtain⟨x,ys,rfl,h1,h2⟩:=ei hx;obtain rfl:=ir h2;exact⟨x,rfl,h1⟩
theorem fA{v w:V}{xs:List TV}(hx:jj h [v,w] xs):∃x y,xs=[x,y]/\dV h v x/\dV h w y:=by obtain⟨x,ys,rfl,h1,h2⟩:=ei hx;obtain⟨y,rfl,h3⟩:=fk h2;exact⟨x,y,rfl,h1,h3⟩
theorem Eo{v w z:V}{xs:List TV}(hx:jj h [v,w,z] xs):∃x y u,xs=[x,y,u]/\dV h v x/\dV h w y/\dV h z u:=by obtain⟨x,ys,rfl,h1,h2⟩:=ei hx;obtain⟨y,u,rfl,h3⟩:=fA h2;exact⟨x,y,u,rfl,h1,h3⟩
theorem En:∀{vs:List V}{xs:List TV},jj h vs xs->(∀v∈vs,HE v/\oH v=false)->∃cs,dE h (dv vs) cs/\xs=cs.map TV.c:=by intro vs;induction vs with|nil=>intro xs hx _;obtain rfl:=ir hx;exact⟨[],rfl,rfl⟩|cons v vs ih=>intro xs hx hv;obtain⟨x,ys,rfl,h1,h2⟩:=ei hx;obtain⟨hp,ha⟩:=hv v (by simp);obtain⟨c,rfl,h3⟩:=fV (kP hp h1) ha;obtain⟨cs,h4,rfl⟩:=ih h2 fun w hw=>hv w (by simp[hw]);exact⟨c::cs,⟨[c],cs,rfl,h3,h4⟩,rfl⟩
theorem pE{id:Nat}{q:(t:Ty)×Sl (El t)×List Nat}(hs:o9 h (.so id)=some q):∃ver,(fO h id=some (.ar q.1 q.2.1 ver)\/fO h id=some (.im q.1 q.2.1 ver))/\q.2.2=[id]:=by
 simp only[o9]at hs;split at hs
 .rename_i t s v ho;obtain rfl:=aa hs;exact⟨v,.inl ho,rfl⟩
 .rename_i t s v ho;obtain rfl:=aa hs;exact⟨v,.inr ho,rfl⟩
 .simp at hs
theorem jl{id ver:Nat}{t:Ty}{s:Sl (El t)}(ho:fO h id=some (.ar t s ver)\/fO h id=some (.im t s ver)):uQ id (fO h id)=some (jm (bC t) (aN t) id s):=by rcases ho with ho|ho<;>rw[ho]<;>rfl
theorem Kj{id lo nx:Nat}{t:Ty}{r:Sl (El t)}{c:Call}{H:bl}:bN c (.len false) [some (.c (rV id lo t r))] H nx=some (tI .i64 r.l.length,[],[],nx):=by cases r with|nil=>rfl|mk l=>simp[bN,pn,rV,Sl.l,lv]
theorem Kh{v:V}{x:TV}{q:(t:Ty)×Sl (El t)×List Nat}{c:Call}{H:bl}{nx:Nat}(hx:dV h v x)(ha:ft h v=true)(hs:o9 h v=some q):
  bN c (.len false) [some x] H nx=some (tI .i64 q.2.1.l.length,[],[],nx):=by
 cases v with
 |x t s=>cases t with|sl t=>obtain rfl:=aa hs;rw[sw hx];exact Ki|_=>simp[o9]at hs
 |so id=>obtain⟨ver,ho,_⟩:=pE hs;rw[nP hx (jl ho)];exact I9
 |sb id ver lo t r=>obtain rfl:=aa hs;rw[mb hx ha];exact Kj
 |_=>simp[o9]at hs
theorem FL{id lo nx:Nat}{t:Ty}{r:Sl (El t)}{c:Call}{H:bl}{neg:Bool}:bN c (.mK 0 neg) [some (.c (rV id lo t r))] H nx=some (tB (if neg then !r.dZ else r.dZ),[],[],nx):=by cases r<;>rfl
theorem J9{v:V}{x:TV}{q:(t:Ty)×Sl (El t)×List Nat}{c:Call}{H:bl}{nx:Nat}{neg:Bool}(hx:dV h v x)(ha:ft h v=true)(hs:o9 h v=some q):
  bN c (.mK 0 neg) [some x] H nx=some (tB (if neg then !q.2.1.dZ else q.2.1.dZ),[],[],nx):=by
 cases v with
 |x t s=>cases t with|sl t=>obtain rfl:=aa hs;rw[sw hx];exact J_|_=>simp[o9]at hs
 |so id=>obtain⟨ver,ho,_⟩:=pE hs;rw[nP hx (jl ho)];exact LN
 |sb id ver lo t r=>obtain rfl:=aa hs;rw[mb hx ha];exact FL
 |_=>simp[o9]at hs
theorem kD{g:Bool}{m:Nat}{w:V}(hc:Bf h g m w=true):oH w=g/\sD w=m/\(g=false->m=1)/\ft h w=true:=by
 simp only[Bf,ae,beq_iff_eq,Bool.or_eq_true]at hc;obtain⟨⟨⟨h1,h2⟩,h3⟩,h4⟩:=hc;refine⟨h1,h2,fun e=>?_,h4⟩;rcases h3 with h3|h3
 .rw [e]at h3;cases h3
 .exact h3
theorem lw{g:Bool}{m off:Nat}{cs cw:List C}{w:V}(hc:Bf h g m w=true)(hw:dE h w cw)(hle:off+m<=cs.length)(he:(cs.drop off).take m=cw):∃x,yN g m (cs.drop off)=some x/\dV h w x:=by
 obtain⟨ha,hs,hm,_⟩:=kD hc;cases g with
 |true=>refine⟨.agg cw,?_,bI (sA ha hw)⟩;simp only[yN,if_true];rw[if_pos (by simp;omega),he]
 |false=>obtain rfl:=hm rfl;cases hd:cs.drop off with|nil=>have:=congrArg List.length hd;simp at this;omega|cons c r=>rw[hd]at he;subst he;exact⟨.c c,rfl,bI (cP ha hw)⟩
theorem wx{g:Bool}{m:Nat}{ds:List D}:I_ g m ds=yN g m (ds.map .d):=by
 unfold I_ yN;cases g
 .cases ds<;>simp
 .simp
theorem qN{p w:V}{l:List Nat}{g:Bool}{m nx:Nat}{c:Call}{x:TV}(hr:HR n h1 h)(hl:tq h p=some (w,l))(hc:Bf h g m w=true)(hx:dV h p x)(hok:dC n h p):
  ∃y,bN c (.load g m) [some x] h1 nx=some (y,[],l,nx)/\dV h w y/\dC n h w:=by
 cases p with
 |pt t v=>obtain⟨rfl,rfl⟩:=ad (aa hl);obtain⟨hd,rfl⟩:=sx hx;obtain⟨_,hs,_,_⟩:=kD hc;have hs':bC t=m:=hs;obtain⟨y,h2,h3⟩:=lw (cs:=(aN t v).map .d) (off:=0) hc (show dE h (.x t v) ((aN t v).map .d)from⟨hd,rfl⟩) (by simp[bq];omega) (by rw[bW,cO (by simp[bq];omega)]);refine⟨y,?_,h3,trivial⟩;rw[bW,<-wx]at h2;simp only[bN,e_,h2]
 |op id t p=>
  obtain rfl:=qx hx;simp only[tq]at hl;split at hl
  .rename_i u cc ho;obtain⟨_,hb,hko⟩:=hr.ob id _ ho;obtain⟨cs,h2,h3,h4⟩:=hb;by_cases hu:u=t
   .subst hu;simp only[decide_true,cond_true]at hl;split at hl
    .rename_i w' hw;obtain⟨rfl,rfl⟩:=ad (aa hl);obtain⟨a,cw,q1,q2,q3,q4,q5⟩:=qW p cc u w' cs h4 h3 hok.2 hw;obtain⟨_,hs,_,_⟩:=kD hc;rw[eQ _ _ _ q2]at hs;subst hs;obtain⟨y,h5,h6⟩:=lw hc q3 q4 q5;refine⟨y,?_,h6,wE p cc w' hko hw⟩;simp only[bN,e_,h2,h5]
    .simp at hl
   .simp [hu]at hl
  .rename_i u v ho;obtain⟨_,hb,hko⟩:=hr.ob id _ ho;obtain⟨hd,h2⟩:=hb;by_cases hu:u=t
   .subst hu;simp only[decide_true,cond_true]at hl;split at hl
    .rename_i w' hw;obtain⟨rfl,rfl⟩:=ad (aa hl);obtain⟨a,cw,q1,q2,q3,q4,q5⟩:=qW (h:=h) p (.x u v) u w' ((aN u v).map .d) (by simp[df]) ⟨hd,rfl⟩ hok.2 hw;obtain⟨_,hs,_,_⟩:=kD hc;rw[eQ _ _ _ q2]at hs;subst hs;obtain⟨y,h5,h6⟩:=lw hc q3 q4 q5;refine⟨y,?_,h6,wE p (.x u v) w' trivial hw⟩;rw[<-ez,<-wx]at h5;simp only[bN,e_,h2,h5]
    .simp at hl
   .simp [hu]at hl
  .simp at hl
 |ep id k t p=>
  obtain rfl:=nQ hx;obtain⟨_,hp,hk,_⟩:=hok
  have main:∀(u:Ty)(s:Sl (El u))(ver:Nat),(fO h id=some (.ar u s ver)\/fO h id=some (.im u s ver))->(bif decide (u=t)then(match lC (.x u (gt s.l k)) p with|some w=>some (w,[id])|none=>none)else none)=some (w,l)->
    ∃y,bN c (.load g m) [some (.c (.ep id k (jM t p)))] h1 nx=some (y,[],l,nx)/\dV h w y/\dC n h w:=by
   intro u s ver ho hl;have hlt:=hk u s ver ho;by_cases hu:u=t
   .subst hu;simp only[decide_true,cond_true]at hl;split at hl
    .rename_i w' hw;obtain⟨rfl,rfl⟩:=ad (aa hl);cases s with
     |nil=>simp[Sl.l]at hlt
     |mk ls=>
     have hrow:(ls.map (aN u))[k]?=some (aN u (gt ls k)):=wB hlt;have hd:gT u=true:=by rcases ho with ho|ho<;>exact(hr.ob id _ ho).2.1.1
     obtain⟨a,cw,q1,q2,q3,q4,q5⟩:=qW (h:=h) p (.x u (gt ls k)) u w' ((aN u (gt ls k)).map .d) (by simp[df]) ⟨hd,rfl⟩ hp hw;obtain⟨_,hs,_,_⟩:=kD hc;rw[eQ _ _ _ q2]at hs;subst hs;obtain⟨y,h5,h6⟩:=lw hc q3 q4 q5;refine⟨y,?_,h6,wE p (.x u (gt ls k)) w' trivial hw⟩;rw[<-ez,<-wx]at h5;rcases ho with ho|ho
     .have h2:=(hr.ob id _ ho).2.1.2.2 ls rfl;simp only[bN,e_,h2,hrow,h5]
     .have h2:=(hr.ob id _ ho).2.1.2.2 ls rfl;simp only[bN,e_,h2,hrow,h5]
    .simp at hl
   .simp [hu]at hl
  simp only[tq]at hl;split at hl
  .rename_i u s ver ho;exact main u s ver (.inl ho) hl
  .rename_i u s ver ho;exact main u s ver (.inr ho) hl
  .simp at hl
 |_=>simp[tq]at hl
end
end Go.Ev
